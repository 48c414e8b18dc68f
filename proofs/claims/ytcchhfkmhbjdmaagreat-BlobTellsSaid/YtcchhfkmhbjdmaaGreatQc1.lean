/- Blobs: the document's right and bytes, walked. -/
import Derived.Test.YtcchhfkmhbjdmaaGreatQb1
import Derived.Test.YtcchhfkmhbjdmaaGreatMc
set_option linter.unusedVariables false
set_option linter.unusedSimpArgs false
set_option pp.deepTerms true
set_option pp.maxSteps 100000
namespace Go.Proofs.YtcchhfkmhbjdmaaGreat
open Go.RowKit
set_option maxRecDepth 20000 in
set_option maxHeartbeats 4000000 in
theorem refhead_right (h : Hd) (hi : h.id.length ≤ 100000) (w : World) :
    Calls Tryz.prog 17 #[.agg #[.string (str h.id), .int .i64 h.ver, .string (str h.nonce)]] w fun e w' => e = .returned (.bool (okH h)) ∧ Fr (fun _ => False) w w' := by
  obtain ⟨I, hI⟩ : ∃ s, s = str h.id := ⟨_, rfl⟩
  obtain ⟨N, hN⟩ : ∃ s, s = str h.nonce := ⟨_, rfl⟩
  obtain ⟨v, hv⟩ : ∃ v, v = h.ver := ⟨_, rfl⟩
  obtain ⟨q, hq⟩ : ∃ q, q = okH h := ⟨_, rfl⟩
  obtain ⟨r, hr⟩ : ∃ r, r = decide (0 < runesL h.id) := ⟨_, rfl⟩
  have hIs : I.size = h.id.length := by rw [hI, str_size]
  have hNs : N.size = h.nonce.length := by rw [hN, str_size]
  obtain ⟨m, hm⟩ : ∃ m, m = runesL h.id := ⟨_, rfl⟩
  have HRt := Lib.hid (show ∀ w, Calls Tryz.prog 35 #[.string I] w fun e w' => e = .returned (.int .i64 (m : Int)) ∧ Fr (fun _ => False) w w' from fun w => by
    rw [hI, hm]; exact refrunes_calls h.id hi w)
  have hrm : decide ((0 : Int) < (m : Int)) = r := by rw [hr, hm]; exact decide_eq_decide.2 (by omega)
  have hrm2 : decide (0 < m) = r := by rw [hr, hm]
  have hqq : q = (r && decide (1 ≤ v) && decide (v ≤ 8) && decide ((N.size : Int) = 12)) := by
    rw [hq, hr, hv, hNs]
    unfold okH
    congr 1
    exact decide_eq_decide.2 (by omega)
  have hcase : (r = false ∧ q = false) ∨ (r = true ∧ decide (1 ≤ v) = false ∧ q = false) ∨ (r = true ∧ decide (1 ≤ v) = true ∧ decide (v ≤ 8) = false ∧ q = false) ∨
      (r = true ∧ decide (1 ≤ v) = true ∧ decide (v ≤ 8) = true ∧ ((N.size : Int) == 12) = false ∧ q = false) ∨ (r = true ∧ decide (1 ≤ v) = true ∧ decide (v ≤ 8) = true ∧ ((N.size : Int) == 12) = true ∧ q = true) := by
    rw [show ((N.size : Int) == 12) = decide ((N.size : Int) = 12) from rfl]
    revert hqq
    generalize decide (1 ≤ v) = a
    generalize decide (v ≤ 8) = b
    generalize decide ((N.size : Int) = 12) = c
    intro hqq
    rw [hqq]
    cases r <;> cases a <;> cases b <;> cases c <;> simp
  rw [← hI, ← hN, ← hv, ← hq]
  obtain ⟨BX, hBX⟩ : ∃ b, b = w.heap.size := ⟨_, rfl⟩
  have hb0 := heap_alloc_new w (.cells #[.string I, .int .i64 v, .string N] 32)
  have HB0 := Lib.hid hb0
  clear hi hI hN hv hq hr hm hIs hNs hqq hBX hb0
  rcases hcase with ⟨rfl, rfl⟩ | ⟨rfl, d1, rfl⟩ | ⟨rfl, d1, d2, rfl⟩ | ⟨rfl, d1, d2, d3, rfl⟩ | ⟨rfl, d1, d2, d3, rfl⟩
  all_goals
    go_enter Tryz.func17, Tryz.ntmps17
    go_wp2_with fail
    refine (HRt.out _).mono ?_
    rintro e w1 ⟨rfl, f1⟩
    have hb1 := f1.heap HB0.out id
    have hlt := lt_of_heap hb1
    have HF1 := Lib.hid (((Fr.refl (fun _ => False) w).alloc (.cells #[.string I, .int .i64 v, .string N] 32)).trans f1 (fun i hi => hi.elim))
    have k0 : w1.cell? ⟨w.heap.size, 0, none⟩ = some (.string I) := (cell_of_row w1 _ 0 _ _ _ hb1).trans rfl
    have k1 : w1.cell? ⟨w.heap.size, 1, none⟩ = some (.int .i64 v) := (cell_of_row w1 _ 1 _ _ _ hb1).trans rfl
    have k2 : w1.cell? ⟨w.heap.size, 2, none⟩ = some (.string N) := (cell_of_row w1 _ 2 _ _ _ hb1).trans rfl
    clear f1 hb1
    go_wp2_with fail
    go_ret
    exact ⟨rfl, HF1.out⟩
set_option maxRecDepth 20000 in
set_option maxHeartbeats 4000000 in
theorem refhead_bytes (h : Hd) (hi : h.id.length ≤ 140737488355328) (hn : h.nonce.length ≤ 140737488355328) (w : World) :
    Calls Tryz.prog 19 #[.agg #[.string (str h.id), .int .i64 h.ver, .string (str h.nonce)]] w fun e w' => e = .returned (.string (str (headL h))) ∧ Fr (fun _ => False) w w' := by
  obtain ⟨I, hI⟩ : ∃ s, s = str h.id := ⟨_, rfl⟩
  obtain ⟨N, hN⟩ : ∃ s, s = str h.nonce := ⟨_, rfl⟩
  obtain ⟨v, hv⟩ : ∃ v, v = h.ver := ⟨_, rfl⟩
  obtain ⟨c1, hc1⟩ : ∃ c, c = UInt8.ofNat h.id.length := ⟨_, rfl⟩
  obtain ⟨c2, hc2⟩ : ∃ c, c = verB h.ver := ⟨_, rfl⟩
  have hIs : I.size = h.id.length := by rw [hI, str_size]
  have hNs : N.size = h.nonce.length := by rw [hN, str_size]
  have hw1 : (I.size : Int) % 256 = (c1.toNat : Int) := by rw [hIs, hc1]; simp
  have hw2 : v % 256 = (c2.toNat : Int) := by rw [hv, hc2]; exact verB_int _
  have hw3 : IntKind.u8.wrap (I.size : Int) = (c1.toNat : Int) := by rw [IntKind.wrap_u8', hw1]
  have hw4 : IntKind.u8.wrap v = (c2.toNat : Int) := by rw [IntKind.wrap_u8', hw2]
  obtain ⟨T1, hT1⟩ : ∃ s, (⟨#[75, 49]⟩ : ByteArray) ++ str [c1] = s := ⟨_, rfl⟩
  obtain ⟨T2, hT2⟩ : ∃ s, T1 ++ I = s := ⟨_, rfl⟩
  obtain ⟨T3, hT3⟩ : ∃ s, T2 ++ str [c2] = s := ⟨_, rfl⟩
  obtain ⟨T4, hT4⟩ : ∃ s, T3 ++ N = s := ⟨_, rfl⟩
  have hres : str (headL h) = T4 := by
    rw [← hT4, ← hT3, ← hT2, ← hT1, hI, hN, show (⟨#[75, 49]⟩ : ByteArray) = str [75, 49] from rfl, jstr_append, jstr_append, jstr_append, jstr_append, hc1, hc2]
    simp [headL]
  have hk0 : (⟨#[75, 49]⟩ : ByteArray).size = 2 := rfl
  have hk1 : (str [c1]).size = 1 := by rw [str_size]; rfl
  have hk2 : (str [c2]).size = 1 := by rw [str_size]; rfl
  have hs1 : T1.size = 3 := by rw [← hT1, ByteArray.size_append, hk0, hk1]
  have hs2 : T2.size = 3 + I.size := by rw [← hT2, ByteArray.size_append, hs1]
  have hs3 : T3.size = 4 + I.size := by rw [← hT3, ByteArray.size_append, hs2, hk2]; omega
  have z1 : (⟨#[75, 49]⟩ : ByteArray).size + (str [c1]).size ≤ 9223372036854775807 := by rw [hk0, hk1]; omega
  have z2 : T1.size + I.size ≤ 9223372036854775807 := by rw [hs1]; omega
  have z3 : T2.size + (str [c2]).size ≤ 9223372036854775807 := by rw [hs2, hk2]; omega
  have z4 : T3.size + N.size ≤ 9223372036854775807 := by rw [hs3]; omega
  have y1 : ¬ 9223372036854775807 < (⟨#[75, 49]⟩ : ByteArray).size + (str [c1]).size := by omega
  have y2 : ¬ 9223372036854775807 < T1.size + I.size := by omega
  have y3 : ¬ 9223372036854775807 < T2.size + (str [c2]).size := by omega
  have y4 : ¬ 9223372036854775807 < T3.size + N.size := by omega
  rw [← hI, ← hN, ← hv, hres]
  obtain ⟨BX, hBX⟩ : ∃ b, b = w.heap.size := ⟨_, rfl⟩
  have hb0 := heap_alloc_new w (.cells #[.string I, .int .i64 v, .string N] 32)
  have bb1 := c1.toNat_lt
  have bb2 := c2.toNat_lt
  obtain ⟨w1, hw1'⟩ : ∃ w1, w1 = w.alloc (.cells #[.string I, .int .i64 v, .string N] 32) := ⟨_, rfl⟩
  rw [← hw1', ← hBX] at hb0
  have hf1 : Fr (fun _ => False) w w1 := by rw [hw1']; exact (Fr.refl _ _).alloc _
  have hlt := lt_of_heap hb0
  have k0 : w1.cell? ⟨BX, 0, none⟩ = some (.string I) := (cell_of_row w1 _ 0 _ _ _ hb0).trans rfl
  have hv1 := conv_one w1 c1
  obtain ⟨w2, hw2'⟩ : ∃ w2, w2 = w1.alloc (.cells #[.int .u8 (c1.toNat : Int)] 5) := ⟨_, rfl⟩
  have hf2 : Fr (fun _ => False) w1 w2 := by rw [hw2']; exact (Fr.refl _ _).alloc _
  have hb2 := hf2.heap hb0 id
  have k3 : w2.cell? ⟨BX, 0, none⟩ = some (.string I) := (cell_of_row w2 _ 0 _ _ _ hb2).trans rfl
  have k4 : w2.cell? ⟨BX, 1, none⟩ = some (.int .i64 v) := (cell_of_row w2 _ 1 _ _ _ hb2).trans rfl
  have hv2 := conv_one w2 c2
  obtain ⟨w3, hw3'⟩ : ∃ w3, w3 = w2.alloc (.cells #[.int .u8 (c2.toNat : Int)] 5) := ⟨_, rfl⟩
  have hf3 : Fr (fun _ => False) w2 w3 := by rw [hw3']; exact (Fr.refl _ _).alloc _
  have hb3 := hf3.heap hb2 id
  have k5 : w3.cell? ⟨BX, 2, none⟩ = some (.string N) := (cell_of_row w3 _ 2 _ _ _ hb3).trans rfl
  have HFin := Lib.hid ((hf1.trans hf2 (fun i hi => hi.elim)).trans hf3 (fun i hi => hi.elim))
  rw [← hw2'] at hv1
  rw [← hw3'] at hv2
  have HX := hBX.symm
  have H1 := hw1'.symm
  have H2 := hw2'.symm
  have H3 := hw3'.symm
  clear hi hn hI hN hv hc1 hc2 hIs hNs hres hk0 hk1 hk2 hs1 hs2 hs3 hb0 hb2 hb3 hf1 hf2 hf3 hw1' hw2' hw3' hBX
  go_enter Tryz.func19, Tryz.ntmps19
  go_wp2_with fail
  go_ret
  exact ⟨rfl, HFin.out⟩
end Go.Proofs.YtcchhfkmhbjdmaaGreat
