/- Blobs: Parse and Open, walked. -/
import Derived.Test.YtcchhfkmhbjdmaaGreatQb6
import Derived.Test.YtcchhfkmhbjdmaaGreatQb3
set_option linter.unusedVariables false
set_option linter.unusedSimpArgs false
set_option pp.deepTerms true
set_option pp.maxSteps 100000
namespace Go.Proofs.YtcchhfkmhbjdmaaGreat
open Go.RowKit
theorem results_two {P : Program} {fn : Func} {p u : Tmp} {ty : TypeId} (h : fn.results = #[.cell p ty, .tmp u]) (tmps : Array Value) (w : World) (g : Nat) (t : TypeId) (cs : Array Value) (fr : Nat × Nat) (d : TypeDesc) (x : Value)
    (hp : tmps.getD p undef = .pointer (some ⟨g, 0, none⟩)) (hx : tmps.getD u undef = x) (hg : w.heap[g]? = some (.cells cs t fr))
    (hu : P.underlying ty = some d) (hd : (match d with | .struct _ | .array _ _ => true | _ => false) = true) (hi : (P.info? ty).map (·.size) = some cs.size) :
    (results fn tmps).run P w = .ok (.tuple #[.agg cs, x]) w := by
  rw [results_cell_tmp h, hp, hx]
  simp [asAddr, Result.andThen, run_loadVar_row w g t ty cs fr d hg hu hd hi]
/-- What Parse answers. -/
def parseH (b : List UInt8) : Hd := if goodB b = true then hdB b (nB b) else ⟨[], 0, []⟩
def parseC (b : List UInt8) : Int := if goodB b = true then 0 else 2
def hdC (h : Hd) : Value := .agg #[.string (str h.id), .int .i64 h.ver, .string (str h.nonce)]
set_option maxRecDepth 20000 in
set_option maxHeartbeats 4000000 in
theorem bparse_calls (b : List UInt8) (hb : b.length ≤ 100000000) (w : World) : Calls Tryz.prog 8 #[.string (str b)] w fun e w' => e = .returned (.tuple #[hdC (parseH b), .int .i64 (parseC b)]) ∧ Fr (fun _ => False) w w' := by
  obtain ⟨S, hS⟩ : ∃ s, s = str b := ⟨_, rfl⟩
  obtain ⟨wa, hwa⟩ : ∃ x, x = w.alloc (.cells #[.string ⟨#[]⟩, .int .i64 0, .string ⟨#[]⟩] 23) := ⟨_, rfl⟩
  obtain ⟨H, hH⟩ : ∃ x, x = w.heap.size := ⟨_, rfl⟩
  have hsa : wa.heap.size = H + 1 := by rw [hwa, hH]; simp
  have hga : wa.heap[H]? = some (.cells #[.string ⟨#[]⟩, .int .i64 0, .string ⟨#[]⟩] 23 (0, 0)) := by rw [hwa, hH]; exact heap_alloc_new w _
  have hfa : Fr (fun _ => False) w wa := by rw [hwa]; exact (Fr.refl _ _).alloc _
  have HSp := Lib.hid (show Calls Tryz.prog 20 #[.string S] wa (SplitP b wa) from by rw [hS]; exact split_calls b hb wa)
  have HGa := Lib.hid hga
  have HFa := Lib.hid hfa
  have hle : w.heap.size ≤ H := by omega
  rw [← hS]
  have HH := hH.symm
  have HW := hwa.symm
  clear hS hwa hH hga hfa hb
  go_enter Tryz.func8, Tryz.ntmps8
  go_wp2_with fail
  refine HSp.out.mono ?_
  rintro e w1 ⟨h, head, rest, rfl, hgood, f1⟩
  have HG := Lib.hid hgood
  have hb1 := f1.heap HGa.out id
  obtain ⟨I, hI⟩ : ∃ s, s = str h.id := ⟨_, rfl⟩
  obtain ⟨v, hv⟩ : ∃ s, s = h.ver := ⟨_, rfl⟩
  obtain ⟨N, hN⟩ : ∃ s, s = str h.nonce := ⟨_, rfl⟩
  obtain ⟨A, hA⟩ : ∃ s, s = str head := ⟨_, rfl⟩
  obtain ⟨B, hB⟩ : ∃ s, s = str rest := ⟨_, rfl⟩
  rw [← hI, ← hv, ← hN, ← hA, ← hB]
  have hF1 := HFa.out.trans f1 (fun i hi => hi.elim)
  obtain ⟨w2, hw2⟩ : ∃ w2, w2 = w1.alloc (.cells #[.string I, .int .i64 v, .string N] 23) := ⟨_, rfl⟩
  have hf2 : Fr (fun _ => False) w1 w2 := by rw [hw2]; exact (Fr.refl _ _).alloc _
  have hb2 := hf2.heap hb1 id
  have hn2 : w2.heap[w1.heap.size]? = some (.cells #[.string I, .int .i64 v, .string N] 23 (0, 0)) := by rw [hw2]; exact heap_alloc_new w1 _
  have k0 : w2.cell? ⟨w1.heap.size, 0, none⟩ = some (.string I) := (cell_of_row w2 _ 0 _ _ _ hn2).trans rfl
  have k1 : w2.cell? ⟨w1.heap.size, 1, none⟩ = some (.int .i64 v) := (cell_of_row w2 _ 1 _ _ _ hn2).trans rfl
  have k2 : w2.cell? ⟨w1.heap.size, 2, none⟩ = some (.string N) := (cell_of_row w2 _ 2 _ _ _ hn2).trans rfl
  have m0 : w2.cell? ⟨H, 0, none⟩ = some (.string ⟨#[]⟩) := (cell_of_row w2 _ 0 _ _ _ hb2).trans rfl
  have m1 : w2.cell? ⟨H, 1, none⟩ = some (.int .i64 0) := (cell_of_row w2 _ 1 _ _ _ hb2).trans rfl
  have m2 : w2.cell? ⟨H, 2, none⟩ = some (.string ⟨#[]⟩) := (cell_of_row w2 _ 2 _ _ _ hb2).trans rfl
  have z0 : ∀ j, w2.frozen? ⟨H, j, none⟩ = false := fun j => frozen_of_row w2 _ _ _ _ hb2
  have hlt : H < w1.heap.size := lt_of_heap hb1
  have HHc := Lib.hid (And.intro hI (And.intro hv hN))
  cases hg : goodB b with
  | false =>
    have hf3 : Fr (fun i => i = H) w2 (((w2.setCell ⟨H, 0, none⟩ (.string ⟨#[]⟩)).setCell ⟨H, 1, none⟩ (.int .i64 0)).setCell ⟨H, 2, none⟩ (.string ⟨#[]⟩)) := (((Fr.refl (fun i => i = H) w2).setCell ⟨H, 0, none⟩ _ (.inl rfl)).setCell ⟨H, 1, none⟩ _ (.inl rfl)).setCell ⟨H, 2, none⟩ _ (.inl rfl)
    have h3 := heap_setCell_same _ H 2 _ _ (.string ⟨#[]⟩) (heap_setCell_same _ H 1 _ _ (.int .i64 0) (heap_setCell_same w2 H 0 _ _ (.string ⟨#[]⟩) hb2))
    have HF3 := Lib.hid ((hF1.trans hf2 (fun i hi => hi.elim)).trans hf3 (fun i hi => .inr (by omega)))
    have H3 := Lib.hid h3
    have HGd := Lib.hid hg
    have HW2 := hw2.symm
    have y0 := z0 0
    have y1 := z0 1
    have y2 := z0 2
    clear hgood hb1 hF1 hf2 hb2 hn2 hI hv hN hA hB hw2 f1 hf3 h3 z0 hg
    go_wp2_with fail
    refine bodyPost_ret (results_two rfl _ _ H 23 _ (0, 0) _ (.int .i64 2) rfl rfl H3.out Tryz.underlying23 rfl (by kernel_rfl)) rfl ?_
    exact ⟨by unfold parseH parseC; rw [if_neg (by rw [HGd.out]; decide), if_neg (by rw [HGd.out]; decide)]; rfl, HF3.out⟩
  | true =>
    have hf3 : Fr (fun i => i = H) w2 (((w2.setCell ⟨H, 0, none⟩ (.string I)).setCell ⟨H, 1, none⟩ (.int .i64 v)).setCell ⟨H, 2, none⟩ (.string N)) := (((Fr.refl (fun i => i = H) w2).setCell ⟨H, 0, none⟩ _ (.inl rfl)).setCell ⟨H, 1, none⟩ _ (.inl rfl)).setCell ⟨H, 2, none⟩ _ (.inl rfl)
    have h3 := heap_setCell_same _ H 2 _ _ (.string N) (heap_setCell_same _ H 1 _ _ (.int .i64 v) (heap_setCell_same w2 H 0 _ _ (.string I) hb2))
    have HF3 := Lib.hid ((hF1.trans hf2 (fun i hi => hi.elim)).trans hf3 (fun i hi => .inr (by omega)))
    have H3 := Lib.hid h3
    have HGd := Lib.hid hg
    have HW2 := hw2.symm
    have y0 := z0 0
    have y1 := z0 1
    have y2 := z0 2
    clear hgood hb1 hF1 hf2 hb2 hn2 hI hv hN hA hB hw2 f1 hf3 h3 z0 hg
    go_wp2_with fail
    refine bodyPost_ret (results_two rfl _ _ H 23 _ (0, 0) _ (.int .i64 0) rfl rfl H3.out Tryz.underlying23 rfl (by kernel_rfl)) rfl ?_
    refine ⟨?_, HF3.out⟩
    unfold parseH parseC
    rw [if_pos HGd.out, if_pos HGd.out, ← (HG.out HGd.out).1]
    unfold hdC
    rw [← HHc.out.1, ← HHc.out.2.1, ← HHc.out.2.2]
    rfl
end Go.Proofs.YtcchhfkmhbjdmaaGreat
