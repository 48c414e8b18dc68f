/- Blobs: the document's Parse, walked. -/
import Derived.Test.YtcchhfkmhbjdmaaGreatQc1
import Derived.Test.YtcchhfkmhbjdmaaGreatQb7
set_option linter.unusedVariables false
set_option linter.unusedSimpArgs false
set_option pp.deepTerms true
set_option pp.maxSteps 100000
namespace Go.Proofs.YtcchhfkmhbjdmaaGreat
open Go.RowKit
theorem bidx (b : List UInt8) (k : Nat) (hk : k < b.length) (S : ByteArray) (hS : S = str b) (w : World) : (Instr.index 9 (.string S) (.int .i64 (k : Int))).run Tryz.prog w = .ok (.int .u8 ((b.getD k 0).toNat : Int)) w := by
  rw [run_index_string (P := Tryz.prog) w 9 S .i64 (k : Int) Tryz.underlying9]
  subst hS
  have h1 : (k : Int) < (b.length : Int) := by omega
  have h2 : (b.getD k 0) = b[k]'hk := by simp [List.getD_eq_getElem?_getD, List.getElem?_eq_getElem hk]
  rw [h2]
  simp [str, go_sem, hk]
  rfl
theorem bx_mid (l : List UInt8) (i j : Nat) : (str l).extract i j = str ((l.drop i).take (j - i)) := by
  apply ByteArray.ext
  simp [str]
theorem good_iff (b : List UInt8) : goodB b = (decide (3 ≤ b.length) && preB b && decide (nB b + 32 ≤ b.length) && decide (b.length ≤ nB b + 1056) && okH (hdB b (nB b))) := by
  unfold goodB preB
  generalize decide (b.take 2 = [75, 49]) = a
  generalize decide (3 ≤ b.length) = c
  generalize okH (hdB b (nB b)) = d
  generalize decide (nB b + 32 ≤ b.length) = e
  generalize decide (b.length ≤ nB b + 1056) = f
  cases a <;> cases c <;> cases d <;> cases e <;> cases f <;> rfl
theorem pre_len {b : List UInt8} (h : preB b = true) : 2 ≤ b.length := by
  unfold preB at h
  have := congrArg List.length (of_decide_eq_true h)
  rw [List.length_take] at this
  simp at this
  omega
set_option maxRecDepth 20000 in
set_option maxHeartbeats 4000000 in
theorem refparse_no (b : List UInt8) (hb : b.length ≤ 100000) (hno : (decide (3 ≤ b.length) && preB b && decide (nB b + 32 ≤ b.length) && decide (b.length ≤ nB b + 1056)) = false) (w : World) :
    Calls Tryz.prog 9 #[.string (str b)] w fun e w' => e = .returned (.tuple #[hdC ⟨[], 0, []⟩, .int .i64 2]) ∧ Fr (fun _ => False) w w' := by
  obtain ⟨S, hS⟩ : ∃ s, s = str b := ⟨_, rfl⟩
  obtain ⟨m, hm⟩ : ∃ m, m = S.size := ⟨_, rfl⟩
  have hml : m = b.length := by rw [hm, hS, str_size]
  have hm' : S.size = m := hm.symm
  obtain ⟨X, hX⟩ : ∃ x, S.extract 0 2 = x := ⟨_, rfl⟩
  have hXq : (X.toList == [75, 49]) = preB b := by
    rw [← hX, hS, bx_take, str_toList]
    unfold preB
    rw [Bool.eq_iff_iff, beq_iff_eq, decide_eq_true_eq]
  obtain ⟨c, hc⟩ : ∃ c, c = b.getD 2 0 := ⟨_, rfl⟩
  have hnc : nB b = c.toNat := by rw [hc]; rfl
  have hcb := c.toNat_lt
  have hcase : m < 3 ∨ (3 ≤ m ∧ (X.toList == [75, 49]) = false) ∨ (3 ≤ m ∧ (X.toList == [75, 49]) = true ∧ m < c.toNat + 32) ∨ (3 ≤ m ∧ (X.toList == [75, 49]) = true ∧ c.toNat + 32 ≤ m ∧ c.toNat + 1056 < m) := by
    rw [hXq]
    rw [hnc, ← hml] at hno
    by_cases h3 : 3 ≤ m
    · cases hp : preB b with
      | false => exact .inr (.inl ⟨h3, rfl⟩)
      | true =>
        by_cases h4 : c.toNat + 32 ≤ m
        · by_cases h5 : m ≤ c.toNat + 1056
          · rw [decide_eq_true h3, hp, decide_eq_true h4, decide_eq_true h5] at hno; cases hno
          · exact .inr (.inr (.inr ⟨h3, rfl, h4, by omega⟩))
        · exact .inr (.inr (.inl ⟨h3, rfl, by omega⟩))
    · exact .inl (by omega)
  obtain ⟨H, hH⟩ : ∃ x, x = w.heap.size := ⟨_, rfl⟩
  obtain ⟨wa, hwa⟩ : ∃ x, x = w.alloc (.cells #[.string ⟨#[]⟩, .int .i64 0, .string ⟨#[]⟩] 32) := ⟨_, rfl⟩
  have hga : wa.heap[H]? = some (.cells #[.string ⟨#[]⟩, .int .i64 0, .string ⟨#[]⟩] 32 (0, 0)) := by rw [hwa, hH]; exact heap_alloc_new w _
  have hfa : Fr (fun _ => False) w wa := by rw [hwa]; exact (Fr.refl _ _).alloc _
  have hle : w.heap.size ≤ H := by omega
  have m0 : wa.cell? ⟨H, 0, none⟩ = some (.string ⟨#[]⟩) := (cell_of_row wa _ 0 _ _ _ hga).trans rfl
  have m1 : wa.cell? ⟨H, 1, none⟩ = some (.int .i64 0) := (cell_of_row wa _ 1 _ _ _ hga).trans rfl
  have m2 : wa.cell? ⟨H, 2, none⟩ = some (.string ⟨#[]⟩) := (cell_of_row wa _ 2 _ _ _ hga).trans rfl
  have y0 : wa.frozen? ⟨H, 0, none⟩ = false := frozen_of_row wa _ _ _ _ hga
  have y1 : wa.frozen? ⟨H, 1, none⟩ = false := frozen_of_row wa _ _ _ _ hga
  have y2 : wa.frozen? ⟨H, 2, none⟩ = false := frozen_of_row wa _ _ _ _ hga
  have hf3 : Fr (fun i => i = H) wa (((wa.setCell ⟨H, 0, none⟩ (.string ⟨#[]⟩)).setCell ⟨H, 1, none⟩ (.int .i64 0)).setCell ⟨H, 2, none⟩ (.string ⟨#[]⟩)) := (((Fr.refl (fun i => i = H) wa).setCell ⟨H, 0, none⟩ _ (.inl rfl)).setCell ⟨H, 1, none⟩ _ (.inl rfl)).setCell ⟨H, 2, none⟩ _ (.inl rfl)
  have h3 := heap_setCell_same _ H 2 _ _ (.string ⟨#[]⟩) (heap_setCell_same _ H 1 _ _ (.int .i64 0) (heap_setCell_same wa H 0 _ _ (.string ⟨#[]⟩) hga))
  have HF3 := Lib.hid (hfa.trans hf3 (fun i hi => .inr (by omega)))
  have H3 := Lib.hid h3
  have HIdx := Lib.hid (show 3 ≤ m → ∀ w, (Instr.index 9 (.string S) (.int .i64 2)).run Tryz.prog w = .ok (.int .u8 (c.toNat : Int)) w from fun h w => by rw [hc]; exact bidx b 2 (by omega) S hS w)
  rw [← hS]
  have HH := hH.symm
  have HW := hwa.symm
  have hw0 : IntKind.i64.wrap (c.toNat : Int) = (c.toNat : Int) := IntWalk.i64_in _ (by omega)
  have e1 : IntKind.i64.wrap (3 + (c.toNat : Int)) = 3 + (c.toNat : Int) := IntWalk.i64_in _ (by omega)
  have e2 : IntKind.i64.wrap (3 + (c.toNat : Int) + 13) = 3 + (c.toNat : Int) + 13 := IntWalk.i64_in _ (by omega)
  have e3 : IntKind.i64.wrap (3 + (c.toNat : Int) + 13 + 16) = 3 + (c.toNat : Int) + 13 + 16 := IntWalk.i64_in _ (by omega)
  have e4 : IntKind.i64.wrap (3 + (c.toNat : Int) + 13 + 16 + 1024) = 3 + (c.toNat : Int) + 13 + 16 + 1024 := IntWalk.i64_in _ (by omega)
  clear hS hm hml hXq hc hnc hno hwa hH hga hfa hf3 h3 hle hb
  rcases hcase with h | ⟨h, q⟩ | ⟨h, q, h4⟩ | ⟨h, q, h4, h5⟩
  · have d1 : decide ((m : Int) < 3) = true := decide_eq_true (by omega)
    have d2 : decide (m < 3) = true := decide_eq_true (by omega)
    clear hw0 e1 e2 e3 e4
    go_enter Tryz.func9, Tryz.ntmps9
    go_wp2_with fail
    refine bodyPost_ret (results_two rfl _ _ H 32 _ (0, 0) _ (.int .i64 2) rfl rfl H3.out Tryz.underlying32 rfl (by kernel_rfl)) rfl ?_
    exact ⟨rfl, HF3.out⟩
  · have d1 : decide ((m : Int) < 3) = false := decide_eq_false (by omega)
    have d2 : decide (m < 3) = false := decide_eq_false (by omega)
    have g1 : (2 : Int) ≤ (m : Int) := by omega
    clear hw0 e1 e2 e3 e4
    go_enter Tryz.func9, Tryz.ntmps9
    go_wp2_with fail
    refine bodyPost_ret (results_two rfl _ _ H 32 _ (0, 0) _ (.int .i64 2) rfl rfl H3.out Tryz.underlying32 rfl (by kernel_rfl)) rfl ?_
    exact ⟨rfl, HF3.out⟩
  · have d1 : decide ((m : Int) < 3) = false := decide_eq_false (by omega)
    have d2 : decide (m < 3) = false := decide_eq_false (by omega)
    have g1 : (2 : Int) ≤ (m : Int) := by omega
    have hi := HIdx.out h
    have d3 : decide ((m : Int) < 3 + (c.toNat : Int) + 13 + 16) = true := decide_eq_true (by omega)
    go_enter Tryz.func9, Tryz.ntmps9
    go_wp2_with fail
    refine bodyPost_ret (results_two rfl _ _ H 32 _ (0, 0) _ (.int .i64 2) rfl rfl H3.out Tryz.underlying32 rfl (by kernel_rfl)) rfl ?_
    exact ⟨rfl, HF3.out⟩
  · have d1 : decide ((m : Int) < 3) = false := decide_eq_false (by omega)
    have d2 : decide (m < 3) = false := decide_eq_false (by omega)
    have g1 : (2 : Int) ≤ (m : Int) := by omega
    have hi := HIdx.out h
    have d3 : decide ((m : Int) < 3 + (c.toNat : Int) + 13 + 16) = false := decide_eq_false (by omega)
    have d4 : decide (3 + (c.toNat : Int) + 13 + 16 + 1024 < (m : Int)) = true := decide_eq_true (by omega)
    go_enter Tryz.func9, Tryz.ntmps9
    go_wp2_with fail
    refine bodyPost_ret (results_two rfl _ _ H 32 _ (0, 0) _ (.int .i64 2) rfl rfl H3.out Tryz.underlying32 rfl (by kernel_rfl)) rfl ?_
    exact ⟨rfl, HF3.out⟩
set_option maxRecDepth 20000 in
set_option maxHeartbeats 4000000 in
theorem refparse_go (b : List UInt8) (hb : b.length ≤ 100000) (h3 : 3 ≤ b.length) (hp : preB b = true) (h32 : nB b + 32 ≤ b.length) (h1056 : b.length ≤ nB b + 1056) (w : World) :
    Calls Tryz.prog 9 #[.string (str b)] w fun e w' => e = .returned (.tuple #[hdC (parseH b), .int .i64 (parseC b)]) ∧ Fr (fun _ => False) w w' := by
  have hg : goodB b = okH (hdB b (nB b)) := by
    rw [good_iff, decide_eq_true h3, hp, decide_eq_true h32, decide_eq_true h1056]; rfl
  obtain ⟨S, hS⟩ : ∃ s, s = str b := ⟨_, rfl⟩
  obtain ⟨m, hm⟩ : ∃ m, m = S.size := ⟨_, rfl⟩
  have hml : m = b.length := by rw [hm, hS, str_size]
  have hm' : S.size = m := hm.symm
  obtain ⟨X, hX⟩ : ∃ x, S.extract 0 2 = x := ⟨_, rfl⟩
  have hXq : (X.toList == [75, 49]) = true := by
    rw [← hp, ← hX, hS, bx_take, str_toList]
    unfold preB
    rw [Bool.eq_iff_iff, beq_iff_eq, decide_eq_true_eq]
  obtain ⟨c, hc⟩ : ∃ c, c = b.getD 2 0 := ⟨_, rfl⟩
  have hnc : nB b = c.toNat := by rw [hc]; rfl
  have hcb := c.toNat_lt
  obtain ⟨n, hn⟩ : ∃ n, n = c.toNat + 3 := ⟨_, rfl⟩
  obtain ⟨q1, hq1⟩ : ∃ n, n = c.toNat + 4 := ⟨_, rfl⟩
  obtain ⟨q2, hq2⟩ : ∃ n, n = c.toNat + 16 := ⟨_, rfl⟩
  obtain ⟨y, hy⟩ : ∃ y, y = b.getD n 0 := ⟨_, rfl⟩
  have hyb := y.toNat_lt
  obtain ⟨I, hI⟩ : ∃ x, S.extract 3 n = x := ⟨_, rfl⟩
  obtain ⟨N, hN⟩ : ∃ x, S.extract q1 q2 = x := ⟨_, rfl⟩
  have hIs : I = str (hdB b (nB b)).id := by
    rw [← hI, hS, bx_mid]; unfold hdB; rw [show n - 3 = nB b by omega]
  have hNs : N = str (hdB b (nB b)).nonce := by
    rw [← hN, hS, bx_mid]; unfold hdB; rw [show q2 - q1 = 12 by omega, show q1 = nB b + 4 by omega]
  have hys : (y.toNat : Int) = (hdB b (nB b)).ver := by
    rw [hy]; unfold hdB; rw [show n = nB b + 3 by omega]
  have hil : (hdB b (nB b)).id.length ≤ 100000 := by unfold hdB; simp only [List.length_take]; omega
  have hnx : ∀ w, (Instr.index 9 (.string S) (.int .i64 (n : Int))).run Tryz.prog w = .ok (.int .u8 (y.toNat : Int)) w := fun w => by rw [hy]; exact bidx b n (by omega) S hS w
  have hi2 : ∀ w, (Instr.index 9 (.string S) (.int .i64 2)).run Tryz.prog w = .ok (.int .u8 (c.toNat : Int)) w := fun w => by rw [hc]; exact bidx b 2 (by omega) S hS w
  obtain ⟨q, hq⟩ : ∃ q, q = okH (hdB b (nB b)) := ⟨_, rfl⟩
  have HRt := Lib.hid (show ∀ w, Calls Tryz.prog 17 #[.agg #[.string I, .int .i64 (y.toNat : Int), .string N]] w fun e w' => e = .returned (.bool q) ∧ Fr (fun _ => False) w w' from fun w => by
    rw [hIs, hNs, hys, hq]; exact refhead_right _ hil w)
  have HG := Lib.hid (And.intro hg (And.intro hq (And.intro hIs (And.intro hNs hys))))
  obtain ⟨H, hH⟩ : ∃ x, x = w.heap.size := ⟨_, rfl⟩
  obtain ⟨wa, hwa⟩ : ∃ x, x = w.alloc (.cells #[.string ⟨#[]⟩, .int .i64 0, .string ⟨#[]⟩] 32) := ⟨_, rfl⟩
  have hga : wa.heap[H]? = some (.cells #[.string ⟨#[]⟩, .int .i64 0, .string ⟨#[]⟩] 32 (0, 0)) := by rw [hwa, hH]; exact heap_alloc_new w _
  have hfa : Fr (fun _ => False) w wa := by rw [hwa]; exact (Fr.refl _ _).alloc _
  have hsa : wa.heap.size = H + 1 := by rw [hwa, hH]; simp
  have HGa := Lib.hid hga
  have HFa := Lib.hid hfa
  have hle : w.heap.size ≤ H := by omega
  rw [← hS]
  have HH := hH.symm
  have HW := hwa.symm
  have hw0 : IntKind.i64.wrap (c.toNat : Int) = (c.toNat : Int) := IntWalk.i64_in _ (by omega)
  have hwy : IntKind.i64.wrap (y.toNat : Int) = (y.toNat : Int) := IntWalk.i64_in _ (by omega)
  have e1 : IntKind.i64.wrap (3 + (c.toNat : Int)) = (n : Int) := by rw [IntWalk.i64_in _ (by omega)]; omega
  have e2 : IntKind.i64.wrap ((n : Int) + 13) = (q2 : Int) := by rw [IntWalk.i64_in _ (by omega)]; omega
  have e5 : IntKind.i64.wrap ((n : Int) + 1) = (q1 : Int) := by rw [IntWalk.i64_in _ (by omega)]; omega
  have e3 : IntKind.i64.wrap ((q2 : Int) + 16) = (q2 : Int) + 16 := IntWalk.i64_in _ (by omega)
  have e4 : IntKind.i64.wrap ((q2 : Int) + 16 + 1024) = (q2 : Int) + 16 + 1024 := IntWalk.i64_in _ (by omega)
  have d1 : decide ((m : Int) < 3) = false := decide_eq_false (by omega)
  have d2 : decide (m < 3) = false := decide_eq_false (by omega)
  have d3 : decide ((m : Int) < (q2 : Int) + 16) = false := decide_eq_false (by omega)
  have d4 : decide ((q2 : Int) + 16 + 1024 < (m : Int)) = false := decide_eq_false (by omega)
  have g1 : (2 : Int) ≤ (m : Int) := by omega
  have g2 : (3 : Int) ≤ (n : Int) := by omega
  have g3 : (n : Int) ≤ (m : Int) := by omega
  have g4 : (q1 : Int) ≤ (q2 : Int) := by omega
  have g5 : (q2 : Int) ≤ (m : Int) := by omega
  have g6 : (0 : Int) ≤ (q1 : Int) := by omega
  clear hS hm hml hc hnc hwa hH hga hfa hb h3 hp h32 h1056 hg hn hq1 hq2 hy hIs hNs hys hil hq
  go_enter Tryz.func9, Tryz.ntmps9
  go_wp2_with fail
  go_region
  obtain ⟨w2, hw2⟩ : ∃ w2, w2 = (wa.alloc (.cells #[.string I, .int .i64 (y.toNat : Int), .string N] 32)).drew := ⟨_, rfl⟩
  have hfb : Fr (fun _ => False) wa w2 := by rw [hw2]; exact ((Fr.refl _ _).alloc _).drew
  have hn2 : w2.heap[H + 1]? = some (.cells #[.string I, .int .i64 (y.toNat : Int), .string N] 32 (0, 0)) := by
    have h := heap_alloc_new wa (.cells #[.string I, .int .i64 (y.toNat : Int), .string N] 32)
    rw [hsa] at h
    rw [hw2]; exact h
  have hb2 := hfb.heap HGa.out id
  have HF2 := Lib.hid (HFa.out.trans hfb (fun i hi => hi.elim))
  have HN2 := Lib.hid hn2
  have HB2 := Lib.hid hb2
  rw [← hw2]
  have k0 : w2.cell? ⟨H + 1, 0, none⟩ = some (.string I) := (cell_of_row w2 _ 0 _ _ _ hn2).trans rfl
  have k1 : w2.cell? ⟨H + 1, 1, none⟩ = some (.int .i64 (y.toNat : Int)) := (cell_of_row w2 _ 1 _ _ _ hn2).trans rfl
  have k2 : w2.cell? ⟨H + 1, 2, none⟩ = some (.string N) := (cell_of_row w2 _ 2 _ _ _ hn2).trans rfl
  clear hw2 hfb hn2 hb2 HW HH
  go_wp2_with fail
  refine (HRt.out w2).mono ?_
  rintro e w3 ⟨rfl, f3⟩
  have HF4 := Lib.hid (HF2.out.trans f3 (fun i hi => hi.elim))
  have hn3 := f3.heap HN2.out id
  have hb3 := f3.heap HB2.out id
  have l0 : w3.cell? ⟨H + 1, 0, none⟩ = some (.string I) := (cell_of_row w3 _ 0 _ _ _ hn3).trans rfl
  have l1 : w3.cell? ⟨H + 1, 1, none⟩ = some (.int .i64 (y.toNat : Int)) := (cell_of_row w3 _ 1 _ _ _ hn3).trans rfl
  have l2 : w3.cell? ⟨H + 1, 2, none⟩ = some (.string N) := (cell_of_row w3 _ 2 _ _ _ hn3).trans rfl
  have m0 : w3.cell? ⟨H, 0, none⟩ = some (.string ⟨#[]⟩) := (cell_of_row w3 _ 0 _ _ _ hb3).trans rfl
  have m1 : w3.cell? ⟨H, 1, none⟩ = some (.int .i64 0) := (cell_of_row w3 _ 1 _ _ _ hb3).trans rfl
  have m2 : w3.cell? ⟨H, 2, none⟩ = some (.string ⟨#[]⟩) := (cell_of_row w3 _ 2 _ _ _ hb3).trans rfl
  have y0 : w3.frozen? ⟨H, 0, none⟩ = false := frozen_of_row w3 _ _ _ _ hb3
  have y1 : w3.frozen? ⟨H, 1, none⟩ = false := frozen_of_row w3 _ _ _ _ hb3
  have y2 : w3.frozen? ⟨H, 2, none⟩ = false := frozen_of_row w3 _ _ _ _ hb3
  clear k0 k1 k2 f3
  cases q with
  | false =>
    have hf3 : Fr (fun i => i = H) w3 (((w3.setCell ⟨H, 0, none⟩ (.string ⟨#[]⟩)).setCell ⟨H, 1, none⟩ (.int .i64 0)).setCell ⟨H, 2, none⟩ (.string ⟨#[]⟩)) := (((Fr.refl (fun i => i = H) w3).setCell ⟨H, 0, none⟩ _ (.inl rfl)).setCell ⟨H, 1, none⟩ _ (.inl rfl)).setCell ⟨H, 2, none⟩ _ (.inl rfl)
    have h3 := heap_setCell_same _ H 2 _ _ (.string ⟨#[]⟩) (heap_setCell_same _ H 1 _ _ (.int .i64 0) (heap_setCell_same w3 H 0 _ _ (.string ⟨#[]⟩) hb3))
    have HF3 := Lib.hid (HF4.out.trans hf3 (fun i hi => .inr (by omega)))
    have H3 := Lib.hid h3
    clear hf3 h3 hb3 hn3
    go_wp2_with fail
    refine bodyPost_ret (results_two rfl _ _ H 32 _ (0, 0) _ (.int .i64 2) rfl rfl H3.out Tryz.underlying32 rfl (by kernel_rfl)) rfl ?_
    have hgf : ¬ goodB b = true := by rw [HG.out.1, ← HG.out.2.1]; decide
    exact ⟨by unfold parseH parseC; rw [if_neg hgf, if_neg hgf]; rfl, HF3.out⟩
  | true =>
    have hf3 : Fr (fun i => i = H) w3 (((w3.setCell ⟨H, 0, none⟩ (.string I)).setCell ⟨H, 1, none⟩ (.int .i64 (y.toNat : Int))).setCell ⟨H, 2, none⟩ (.string N)) := (((Fr.refl (fun i => i = H) w3).setCell ⟨H, 0, none⟩ _ (.inl rfl)).setCell ⟨H, 1, none⟩ _ (.inl rfl)).setCell ⟨H, 2, none⟩ _ (.inl rfl)
    have h3 := heap_setCell_same _ H 2 _ _ (.string N) (heap_setCell_same _ H 1 _ _ (.int .i64 (y.toNat : Int)) (heap_setCell_same w3 H 0 _ _ (.string I) hb3))
    have HF3 := Lib.hid (HF4.out.trans hf3 (fun i hi => .inr (by omega)))
    have H3 := Lib.hid h3
    clear hf3 h3 hb3 hn3
    go_wp2_with fail
    refine bodyPost_ret (results_two rfl _ _ H 32 _ (0, 0) _ (.int .i64 0) rfl rfl H3.out Tryz.underlying32 rfl (by kernel_rfl)) rfl ?_
    have hgt : goodB b = true := by rw [HG.out.1, ← HG.out.2.1]
    refine ⟨?_, HF3.out⟩
    unfold parseH parseC
    rw [if_pos hgt, if_pos hgt]
    unfold hdC
    rw [← HG.out.2.2.1, ← HG.out.2.2.2.1, ← HG.out.2.2.2.2]
    rfl
theorem refparse_calls (b : List UInt8) (hb : b.length ≤ 100000) (w : World) : Calls Tryz.prog 9 #[.string (str b)] w fun e w' => e = .returned (.tuple #[hdC (parseH b), .int .i64 (parseC b)]) ∧ Fr (fun _ => False) w w' := by
  by_cases hgo : 3 ≤ b.length ∧ preB b = true ∧ nB b + 32 ≤ b.length ∧ b.length ≤ nB b + 1056
  · exact refparse_go b hb hgo.1 hgo.2.1 hgo.2.2.1 hgo.2.2.2 w
  · have hno : (decide (3 ≤ b.length) && preB b && decide (nB b + 32 ≤ b.length) && decide (b.length ≤ nB b + 1056)) = false := by
      rw [Bool.eq_false_iff]
      intro h
      simp only [Bool.and_eq_true, decide_eq_true_eq] at h
      exact hgo ⟨h.1.1.1, h.1.1.2, h.1.2, h.2⟩
    have hg : ¬ goodB b = true := by rw [good_iff, hno]; simp
    have h := refparse_no b hb hno w
    unfold parseH parseC
    rw [if_neg hg, if_neg hg]
    exact h
end Go.Proofs.YtcchhfkmhbjdmaaGreat
