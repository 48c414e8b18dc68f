/- The document's key: New. -/
import Derived.Test.YtcchhfkmhbjdmaaKw
set_option linter.unusedVariables false
set_option linter.unusedSimpArgs false
set_option pp.deepTerms true
set_option pp.maxSteps 100000
namespace Go.Proofs.Ytcchhfkmhbjdmaa
open Go.RowKit
theorem results_cell_tmp_row {P : Program} {fn : Func} {p u : Tmp} {ty : TypeId} (h : fn.results = #[.cell p ty, .tmp u]) (tmps : Array Value) (w : World) (g : Nat) (t : TypeId) (cs : Array Value) (fr : Nat × Nat) (d : TypeDesc) (x : Value)
    (hp : tmps.getD p undef = .pointer (some ⟨g, 0, none⟩)) (hx : tmps.getD u undef = x) (hg : w.heap[g]? = some (.cells cs t fr))
    (hu : P.underlying ty = some d) (hd : (match d with | .struct _ | .array _ _ => true | _ => false) = true) (hi : (P.info? ty).map (·.size) = some cs.size) :
    (results fn tmps).run P w = .ok (.tuple #[.agg cs, x]) w := by
  rw [results_cell_tmp h, hp, hx]
  simp [asAddr, Result.andThen, run_loadVar_row w g t ty cs fr d hg hu hd hi]
set_option maxRecDepth 20000 in
set_option maxHeartbeats 4000000 in
theorem refnew_yes (key : List UInt8) (hk : key.length = 32) (w : World) :
    Calls Try.prog 19 #[.string (str key)] w fun e w' => ∃ g cap X capb, e = .returned (.tuple #[.agg #[.slice (some ⟨g, 0, none⟩) 240 cap, .slice (some ⟨X, 0, none⟩) 256 capb], .int .i64 0]) ∧ BRow w' g cap (words key 52) ∧ Tab w' X ∧ 256 ≤ capb ∧ Fr (fun _ => False) w w' := by
  have hsz : (str key).size = 32 := by rw [str_size]; exact hk
  have HK := Lib.hid hk
  clear hk
  go_enter Try.func19, Try.ntmps19
  go_wp2_with fail
  obtain ⟨R, hR⟩ : ∃ R, R = w.heap.size := ⟨_, rfl⟩
  have hr1 : (w.alloc (.cells #[.slice none 0 0, .slice none 0 0] 29)).heap[R]? = some (.cells #[.slice none 0 0, .slice none 0 0] 29 (0, 0)) := by rw [hR]; exact heap_alloc_new w _
  have hf1 : Fr (fun _ => False) w (w.alloc (.cells #[.slice none 0 0, .slice none 0 0] 29)) := (Fr.refl _ _).alloc _
  generalize w.alloc (.cells #[.slice none 0 0, .slice none 0 0] 29) = w1 at hr1 hf1 ⊢
  rw [← hR]
  have HRd := Lib.hid hR
  have HR1 := Lib.hid hr1
  have HF1 := Lib.hid hf1
  have hRl : R < w1.heap.size := lt_of_heap hr1
  clear hR hr1 hf1
  refine (refboxes_calls w1).mono ?_
  rintro e w2 ⟨X, capb, rfl, hT, hX, hcb, h2⟩
  have HT := Lib.hid hT
  have HR2 := Lib.hid (h2.heap HR1.out id)
  have HF2 := Lib.hid (HF1.out.trans h2 (fun i hi => hi.elim))
  have hX2 : X < w2.heap.size := World.block_lt_of_cell? w2 _ (hT 0)
  clear hT h2
  go_wp2_with fail
  refine (refwords_calls key HK.out X capb hcb w2 HT.out hX2).mono ?_
  rintro e w3 ⟨g, cap, rfl, hB, hg, h3⟩
  have HB := Lib.hid hB
  have HT3 := Lib.hid (HT.out.fr h3 id)
  have HR3 := Lib.hid (h3.heap HR2.out id)
  have HF3 := Lib.hid (HF2.out.trans h3 (fun i hi => hi.elim))
  have hRX : R ≠ X := by omega
  have hRg : R ≠ g := by have := lt_of_heap HR2.out; omega
  have c0 : w3.cell? ⟨R, 0, none⟩ = some (.slice none 0 0) := (cell_of_row w3 R 0 _ _ _ HR3.out).trans rfl
  have c1 : w3.cell? ⟨R, 1, none⟩ = some (.slice none 0 0) := (cell_of_row w3 R 1 _ _ _ HR3.out).trans rfl
  have HSR := Lib.hid (setRow_heap (w := w3) (cs := #[.slice (some ⟨g, 0, none⟩) 240 cap, .slice (some ⟨X, 0, none⟩) 256 capb]) HR3.out)
  have hfs : Fr (fun i => i = R) w3 (w3.setRow R #[.slice (some ⟨g, 0, none⟩) 240 cap, .slice (some ⟨X, 0, none⟩) 256 capb]) := (Fr.refl _ _).setRow _ _ (.inl rfl)
  have HB' := Lib.hid (HB.out.fr hfs (show ¬ g = R by omega))
  have HT' := Lib.hid (HT3.out.fr hfs (show ¬ X = R by omega))
  have HF' := Lib.hid (HF3.out.setRow R #[.slice (some ⟨g, 0, none⟩) 240 cap, .slice (some ⟨X, 0, none⟩) 256 capb] (.inr (by have := HRd.out; omega)))
  clear hB h3 hfs c0 c1
  go_wp2_with (with_reducible refine wpList_store_whole (op := ⟨none, .store 29 _ _, _, _, _, _⟩) rfl 29 _ _ rfl R 29 #[.slice none 0 0, .slice none 0 0] #[.slice (some ⟨g, 0, none⟩) 240 cap, .slice (some ⟨X, 0, none⟩) 256 capb] rfl rfl HR3.out rfl (by kernel_rfl) (by simp [Value.oneCell']) ?_)
  refine bodyPost_ret (results_cell_tmp_row rfl _ _ R 29 #[.slice (some ⟨g, 0, none⟩) 240 cap, .slice (some ⟨X, 0, none⟩) 256 capb] (0, 0) _ (.int .i64 0) rfl rfl HSR.out Try.underlying29 rfl (by kernel_rfl)) rfl ?_
  exact ⟨g, cap, X, capb, rfl, HB'.out, HT'.out, hcb, HF'.out⟩
set_option maxRecDepth 20000 in
set_option maxHeartbeats 4000000 in
theorem refnew_no (s : ByteArray) (hs : s.size ≠ 32) (w : World) :
    Calls Try.prog 19 #[.string s] w fun e w' => e = .returned (.tuple #[.agg #[.slice none 0 0, .slice none 0 0], .int .i64 2]) ∧ Fr (fun _ => False) w w' := by
  have hq : ((s.size : Int) != 32) = true := by simp; omega
  go_enter Try.func19, Try.ntmps19
  go_wp2_with fail
  refine bodyPost_ret (results_cell_tmp_row rfl _ _ w.heap.size 29 #[.slice none 0 0, .slice none 0 0] (0, 0) _ (.int .i64 2) rfl rfl (heap_alloc_new w _) Try.underlying29 rfl (by kernel_rfl)) rfl ?_
  exact ⟨rfl, (Fr.refl _ _).alloc _⟩
end Go.Proofs.Ytcchhfkmhbjdmaa
