/- Values: the document's Parse, Print, Same; of: walked. -/
import Derived.Test.YthmpmpepokeedaaNj
set_option linter.unusedVariables false
set_option linter.unusedSimpArgs false
set_option pp.deepTerms true
set_option pp.maxSteps 100000
namespace Go.Proofs.Ythmpmpepokeedaa
open Go.RowKit
def RpC (l : List UInt8) (w w' : World) (c : Int) (cs : List Value) : Prop := match decA 8 l with
  | some (a, []) => c = 0 ∧ VR w' (fun i => w.heap.size ≤ i) (toV a) cs
  | _ => c = 2 ∧ cs = zeroV
/-- What the document's Parse answers. -/
def RpE (l : List UInt8) (w : World) (e : Ending) (w' : World) : Prop := ∃ (cs : List Value) (c : Int), e = .returned (.tuple #[.agg cs.toArray, .int .i64 c]) ∧ cs.length = 5 ∧ (∀ v ∈ cs, v.oneCell' = true) ∧ RpC l w w' c cs ∧ Fr (fun _ => False) w w'
theorem zeroV_one : ∀ v ∈ zeroV, v.oneCell' = true := by
  intro v hv
  simp only [zeroV, List.mem_cons, List.not_mem_nil, or_false] at hv
  rcases hv with rfl | rfl | rfl | rfl | rfl <;> rfl
set_option maxRecDepth 20000 in
set_option maxHeartbeats 8000000 in
theorem refparse_calls (l : List UInt8) (hl : l.length ≤ 4611686018427387904) (w : World) : Calls Try.prog 21 #[.string (str l)] w (RpE l w) := by
  obtain ⟨w1, hw1⟩ : ∃ w1, w1 = w.alloc (.cells #[.int .i64 0, .int .i64 0, .string ⟨#[]⟩, .bool false, .slice none 0 0] 36) := ⟨_, rfl⟩
  obtain ⟨Rb, hRb⟩ : ∃ g, g = w.heap.size := ⟨_, rfl⟩
  have hR1 : w1.heap[Rb]? = some (.cells #[.int .i64 0, .int .i64 0, .string ⟨#[]⟩, .bool false, .slice none 0 0] 36 (0, 0)) := by rw [hw1, hRb]; exact heap_alloc_new w _
  have HR1 := Lib.hid hR1
  have HF1 := Lib.hid (show Fr (fun _ => False) w w1 by rw [hw1]; exact (Fr.refl _ _).alloc _)
  have HW1 := Lib.hid hw1
  have HRb := Lib.hid hRb
  have HC := Lib.hid (show Calls Try.prog 56 #[.string (str l), .int .i64 0, .int .i64 0] w1 (RpP 8 l 0 w1) from rparse_calls 8 0 rfl l 0 (Nat.zero_le _) hl w1)
  obtain ⟨S, hS⟩ : ∃ x, x = str l := ⟨_, rfl⟩
  have hSs : S.size = l.length := by rw [hS, str_size]
  have HSs := Lib.hid hSs
  rw [← hS] at HC ⊢
  clear hw1 hRb hR1 hS hSs
  go_enter Try.func21, Try.ntmps21
  go_wp2_with fail
  rw [← HW1.out, ← HRb.out]
  refine HC.out.mono ?_
  rintro e w5 ⟨cs1, pp, rfl, hcase, f5⟩
  rw [List.drop_zero] at hcase
  have h5 : cs1.length = 5 := by
    cases hd : decA 8 l with
    | none => rw [hd] at hcase; rw [hcase.2]; rfl
    | some x => rw [hd] at hcase; exact hcase.2.2.2.five
  have h1 : ∀ v ∈ cs1, v.oneCell' = true := by
    cases hd : decA 8 l with
    | none => rw [hd] at hcase; rw [hcase.2]; exact zeroV_one
    | some x => rw [hd] at hcase; exact hcase.2.2.2.one
  have HF5 := Lib.hid (HF1.out.trans f5 (fun i hi => hi.elim))
  have HRb6 := Lib.hid (show (w5.alloc (.cells cs1.toArray 36)).heap[Rb]? = some (.cells #[.int .i64 0, .int .i64 0, .string ⟨#[]⟩, .bool false, .slice none 0 0] 36 (0, 0)) from (f5.alloc _).heap HR1.out id)
  have HF6 := Lib.hid (HF5.out.alloc (.cells cs1.toArray 36))
  have HLi := Lib.hid (show (Try.prog.info? 36).map (·.size) = some cs1.length by rw [h5]; exact info36)
  have HLi2 := Lib.hid (show (Try.prog.info? 36).map (·.size) = some cs1.toArray.size by rw [show cs1.toArray.size = 5 by simpa using h5]; exact info36)
  have HZ5 := Lib.hid (show (#[.int .i64 0, .int .i64 0, .string ⟨#[]⟩, .bool false, .slice none 0 0] : Array Value).size = cs1.toArray.size by simpa using h5.symm)
  have HOA := Lib.hid (show ∀ v ∈ cs1.toArray.toList, v.oneCell' = true by simpa using h1)
  have H1 := Lib.hid (And.intro h5 h1)
  have HX6 := Lib.hid (show (w5.alloc (.cells cs1.toArray 36)).rangeAt w5.heap.size 0 cs1 from rangeAt_all (heap_alloc_new w5 _))
  clear f5 h5 h1 HC
  cases hd : decA 8 l with
  | none =>
    rw [hd] at hcase
    have hpp := hcase.1
    clear hcase
    subst hpp
    have HRes := Lib.hid (show RpC l w ((w5.alloc (.cells cs1.toArray 36)).setRow Rb #[.int .i64 0, .int .i64 0, .string ⟨#[]⟩, .bool false, .slice none 0 0]) 2 zeroV by unfold RpC; rw [hd]; exact ⟨rfl, rfl⟩)
    have t1 : ((-1 : Int) == (S.size : Int)) = false := beq_eq_false_iff_ne.2 (by omega)
    have t2 : ((-1 : Int) != (S.size : Int)) = true := bne_iff_ne.2 (by omega)
    clear hd
    go_wp2_with (first | (with_reducible refine wpList_store_fresh (op := ⟨none, .store 36 _ _, _, _, _, _⟩) rfl 36 _ _ rfl w5 #[.int .i64 0, .int .i64 0, .string ⟨#[]⟩, .bool false, .slice none 0 0] cs1.toArray rfl rfl rfl HZ5.out HLi2.out HOA.out ?_) | (with_reducible refine wpList_store_whole (op := ⟨none, .store 36 _ _, _, _, _, _⟩) rfl 36 _ _ rfl Rb 36 #[.int .i64 0, .int .i64 0, .string ⟨#[]⟩, .bool false, .slice none 0 0] #[.int .i64 0, .int .i64 0, .string ⟨#[]⟩, .bool false, .slice none 0 0] rfl rfl HRb6.out rfl (by kernel_rfl) (by simp [Value.oneCell']) ?_))
    refine bodyPost_ret (results_cell_tmp_row rfl _ _ Rb 36 #[.int .i64 0, .int .i64 0, .string ⟨#[]⟩, .bool false, .slice none 0 0] (0, 0) _ (.int .i64 2) rfl rfl (setRow_heap _ Rb #[.int .i64 0, .int .i64 0, .string ⟨#[]⟩, .bool false, .slice none 0 0] _ 36 _ HRb6.out) Try.underlying36 rfl (by kernel_rfl)) rfl ?_
    exact ⟨zeroV, 2, rfl, rfl, zeroV_one, HRes.out, HF6.out.setRow _ _ (.inr (by rw [HRb.out]; exact Nat.le_refl _))⟩
  | some x =>
    obtain ⟨a, rest⟩ := x
    rw [hd] at hcase
    obtain ⟨rfl, hrl, hxx, hr1⟩ := hcase
    clear hxx
    obtain ⟨q, hq⟩ : ∃ q, q = l.length - rest.length := ⟨_, rfl⟩
    rw [← hq]
    cases rest with
    | cons c t =>
      have HRes := Lib.hid (show RpC l w ((w5.alloc (.cells cs1.toArray 36)).setRow Rb #[.int .i64 0, .int .i64 0, .string ⟨#[]⟩, .bool false, .slice none 0 0]) 2 zeroV by unfold RpC; rw [hd]; exact ⟨rfl, rfl⟩)
      have hne : q ≠ S.size := by rw [HSs.out, hq]; simp at hrl ⊢; omega
      have t1 : ((q : Int) == (S.size : Int)) = false := beq_eq_false_iff_ne.2 (by omega)
      have t2 : ((q : Int) != (S.size : Int)) = true := bne_iff_ne.2 (by omega)
      have t3 : (q == S.size) = false := beq_eq_false_iff_ne.2 hne
      clear hd hq hr1 hrl hne
      go_wp2_with (first | (with_reducible refine wpList_store_fresh (op := ⟨none, .store 36 _ _, _, _, _, _⟩) rfl 36 _ _ rfl w5 #[.int .i64 0, .int .i64 0, .string ⟨#[]⟩, .bool false, .slice none 0 0] cs1.toArray rfl rfl rfl HZ5.out HLi2.out HOA.out ?_) | (with_reducible refine wpList_store_whole (op := ⟨none, .store 36 _ _, _, _, _, _⟩) rfl 36 _ _ rfl Rb 36 #[.int .i64 0, .int .i64 0, .string ⟨#[]⟩, .bool false, .slice none 0 0] #[.int .i64 0, .int .i64 0, .string ⟨#[]⟩, .bool false, .slice none 0 0] rfl rfl HRb6.out rfl (by kernel_rfl) (by simp [Value.oneCell']) ?_))
      refine bodyPost_ret (results_cell_tmp_row rfl _ _ Rb 36 #[.int .i64 0, .int .i64 0, .string ⟨#[]⟩, .bool false, .slice none 0 0] (0, 0) _ (.int .i64 2) rfl rfl (setRow_heap _ Rb #[.int .i64 0, .int .i64 0, .string ⟨#[]⟩, .bool false, .slice none 0 0] _ 36 _ HRb6.out) Try.underlying36 rfl (by kernel_rfl)) rfl ?_
      exact ⟨zeroV, 2, rfl, rfl, zeroV_one, HRes.out, HF6.out.setRow _ _ (.inr (by rw [HRb.out]; exact Nat.le_refl _))⟩
    | nil =>
      have hqe : q = S.size := by rw [HSs.out, hq]; simp
      have t1 : ((q : Int) == (S.size : Int)) = true := by rw [hqe]; simp
      have t2 : ((q : Int) != (S.size : Int)) = false := by rw [hqe]; simp
      have t3 : (q == S.size) = true := by rw [hqe]; simp
      have HRes := Lib.hid (show RpC l w ((w5.alloc (.cells cs1.toArray 36)).setRow Rb cs1.toArray) 0 cs1 by
        unfold RpC
        rw [hd]
        refine ⟨rfl, ?_⟩
        exact (hr1.fr (((Fr.refl (fun k => k = Rb) w5).alloc (.cells cs1.toArray 36)).setRow Rb cs1.toArray (.inl rfl)) (fun i hi e => by
          have h1 := lt_of_heap HR1.out
          omega)).mono (fun i hi => by have := HF1.out.size; omega))
      clear hd hq hr1 hrl hqe
      go_wp2_with (first | (with_reducible refine wpList_store_fresh (op := ⟨none, .store 36 _ _, _, _, _, _⟩) rfl 36 _ _ rfl w5 #[.int .i64 0, .int .i64 0, .string ⟨#[]⟩, .bool false, .slice none 0 0] cs1.toArray rfl rfl rfl HZ5.out HLi2.out HOA.out ?_) | (with_reducible refine wpList_load_mid (op := ⟨some 16, _, _, _, _, _⟩) rfl 36 _ rfl w5.heap.size 0 rfl cs1 _ HX6.out Try.underlying36 rfl HLi.out ?_) | (with_reducible refine wpList_store_whole (op := ⟨none, .store 36 _ _, _, _, _, _⟩) rfl 36 _ _ rfl Rb 36 #[.int .i64 0, .int .i64 0, .string ⟨#[]⟩, .bool false, .slice none 0 0] cs1.toArray rfl rfl HRb6.out HZ5.out HLi2.out HOA.out ?_))
      refine bodyPost_ret (results_cell_tmp_row rfl _ _ Rb 36 cs1.toArray (0, 0) _ (.int .i64 0) rfl rfl (setRow_heap _ Rb #[.int .i64 0, .int .i64 0, .string ⟨#[]⟩, .bool false, .slice none 0 0] _ 36 _ HRb6.out) Try.underlying36 rfl HLi2.out) rfl ?_
      exact ⟨cs1, 0, rfl, H1.out.1, H1.out.2, HRes.out, HF6.out.setRow _ _ (.inr (by rw [HRb.out]; exact Nat.le_refl _))⟩
set_option maxRecDepth 20000 in
set_option maxHeartbeats 4000000 in
theorem refprint_calls (t : VT) (cs : List Value) (D : Nat → Prop) (w : World) (hv : VR w D t cs) (hf : fewK 11 t = true) (hlen : lenK 8 (ofV t) ≤ 140737488355328) :
    Calls Try.prog 19 #[.agg cs.toArray] w fun e w' => e = .returned (.tuple #[.string (str (encA 8 (ofV t)).1), .int .i64 ((encA 8 (ofV t)).2 : Int)]) ∧ Fr (fun _ => False) w w' := by
  have h5 := hv.five
  obtain ⟨c0, c1, c2, c3, c4, rfl⟩ : ∃ c0 c1 c2 c3 c4, cs = [c0, c1, c2, c3, c4] := by
    match cs, h5 with
    | [c0, c1, c2, c3, c4], _ => exact ⟨_, _, _, _, _, rfl⟩
  obtain ⟨R, hR⟩ : ∃ R, R = encA 8 (ofV t) := ⟨_, rfl⟩
  have HC := Lib.hid (show ∀ w', Fr (fun _ => False) w w' → Calls Try.prog 54 #[.agg #[c0, c1, c2, c3, c4], .int .i64 0] w' fun e w'' => e = .returned (.tuple #[.string (str R.1), .int .i64 (R.2 : Int)]) ∧ Fr (fun _ => False) w' w'' from fun w' hf' => by rw [hR]; exact told_calls 8 0 rfl t _ D w' (hv.frF hf') hf hlen)
  have HLi := Lib.hid (show (Try.prog.info? 36).map (·.size) = some ([c0, c1, c2, c3, c4] : List Value).length from info36)
  have HX := Lib.hid (show (w.alloc (.cells #[c0, c1, c2, c3, c4] 36)).rangeAt w.heap.size 0 [c0, c1, c2, c3, c4] from rangeAt_all (heap_alloc_new w _))
  show Calls Try.prog 19 #[.agg #[c0, c1, c2, c3, c4]] w _
  rw [← hR]
  clear hR
  clear hv hf hlen h5
  go_enter Try.func19, Try.ntmps19
  go_wp2_with (first | (with_reducible refine wpList_load_mid (op := ⟨some 4, _, _, _, _, _⟩) rfl 36 _ rfl w.heap.size 0 rfl [c0, c1, c2, c3, c4] _ HX.out Try.underlying36 rfl HLi.out ?_))
  refine (HC.out _ ((Fr.refl _ _).alloc _)).mono ?_
  rintro e w2 ⟨rfl, f2⟩
  have HF2 := Lib.hid (((Fr.refl (fun _ => False) w).alloc (.cells #[c0, c1, c2, c3, c4] 36)).trans f2 (fun i hi => hi.elim))
  clear f2 HC
  go_wp2_with fail
  go_ret2
  exact ⟨rfl, HF2.out⟩
end Go.Proofs.Ythmpmpepokeedaa
