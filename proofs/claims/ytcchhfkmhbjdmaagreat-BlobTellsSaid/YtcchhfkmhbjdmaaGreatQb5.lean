/- Blobs: a prefix cut off, so many bytes taken: walked. -/
import Derived.Test.YtcchhfkmhbjdmaaGreatQb4
set_option linter.unusedVariables false
set_option linter.unusedSimpArgs false
set_option pp.deepTerms true
set_option pp.maxSteps 100000
namespace Go.Proofs.YtcchhfkmhbjdmaaGreat
open Go.RowKit
theorem bx_take (l : List UInt8) (n : Nat) : (str l).extract 0 n = str (l.take n) := by
  apply ByteArray.ext
  simp [str]
theorem bx_drop (l : List UInt8) (n : Nat) : (str l).extract n l.length = str (l.drop n) := by
  apply ByteArray.ext
  simp [str]
  exact List.take_of_length_le (by simp)
theorem brun_head (c : UInt8) (r : List UInt8) (S : ByteArray) (hS : S = str (c :: r)) (w : World) : (Instr.index 9 (.string S) (.int .i64 0)).run Tryz.prog w = .ok (.int .u8 (c.toNat : Int)) w := by
  rw [run_index_string (P := Tryz.prog) w 9 S .i64 0 Tryz.underlying9]
  subst hS
  simp [str, go_sem]
  rfl
set_option maxRecDepth 20000 in
set_option maxHeartbeats 1000000 in
theorem hasprefix_calls (b : List UInt8) (hb : b.length ≤ 140737488355328) (w : World) : Calls Tryz.prog 86 #[.string (str b), .string ⟨#[75, 49]⟩] w fun e w' => e = .returned (.bool (preB b)) ∧ w' = w := by
  obtain ⟨S, hS⟩ : ∃ s, s = str b := ⟨_, rfl⟩
  obtain ⟨n, hn⟩ : ∃ n, n = S.size := ⟨_, rfl⟩
  obtain ⟨X, hX⟩ : ∃ x, S.extract 0 2 = x := ⟨_, rfl⟩
  obtain ⟨q, hq⟩ : ∃ q, q = preB b := ⟨_, rfl⟩
  have hnl : n = b.length := by rw [hn, hS, str_size]
  have hXq : (X.toList == [75, 49]) = q := by
    rw [← hX, hS, hq, bx_take, str_toList]
    unfold preB
    rw [Bool.eq_iff_iff, beq_iff_eq, decide_eq_true_eq]
  have hn' : S.size = n := hn.symm
  by_cases h2 : 2 ≤ n
  · have d1 : decide ((2 : Int) ≤ (n : Int)) = true := decide_eq_true (by omega)
    have d2 : decide (2 ≤ n) = true := decide_eq_true h2
    have h3 : (2 : Int) ≤ (n : Int) := by omega
    rw [← hS, ← hq]
    clear hS hn hq hb hnl
    go_enter Tryz.func86, Tryz.ntmps86
    go_wp2_with fail
    go_ret
    exact ⟨rfl, rfl⟩
  · have hq0 : q = false := by
      rw [hq]; unfold preB
      refine decide_eq_false (fun h => ?_)
      have := congrArg List.length h
      rw [List.length_take] at this
      simp at this
      omega
    have d1 : decide ((2 : Int) ≤ (n : Int)) = false := decide_eq_false (by omega)
    have d2 : decide (2 ≤ n) = false := decide_eq_false h2
    rw [← hS, ← hq, hq0]
    clear hS hn hq hb hnl hXq
    go_enter Tryz.func86, Tryz.ntmps86
    go_wp2_with fail
    go_ret
    exact ⟨rfl, rfl⟩
set_option maxRecDepth 20000 in
set_option maxHeartbeats 1000000 in
theorem cutlite_calls (b : List UInt8) (hb : b.length ≤ 140737488355328) (w : World) : Calls Tryz.prog 65 #[.string (str b), .string ⟨#[75, 49]⟩] w fun e w' => e = .returned (.tuple #[.string (str (rest0 b)), .bool (preB b)]) ∧ w' = w := by
  obtain ⟨S, hS⟩ : ∃ s, s = str b := ⟨_, rfl⟩
  obtain ⟨n, hn⟩ : ∃ n, n = S.size := ⟨_, rfl⟩
  obtain ⟨R, hR⟩ : ∃ x, x = str (rest0 b) := ⟨_, rfl⟩
  obtain ⟨q, hq⟩ : ∃ q, q = preB b := ⟨_, rfl⟩
  have hnl : n = b.length := by rw [hn, hS, str_size]
  have hn' : S.size = n := hn.symm
  have HC := Lib.hid (show ∀ w, Calls Tryz.prog 86 #[.string S, .string ⟨#[75, 49]⟩] w fun e w' => e = .returned (.bool q) ∧ w' = w from fun w => by rw [hS, hq]; exact hasprefix_calls b hb w)
  cases q with
  | true =>
    have h2 : 2 ≤ n := by
      have h := hq.symm
      unfold preB at h
      have := congrArg List.length (of_decide_eq_true h)
      rw [List.length_take] at this
      simp at this
      omega
    have hx : S.extract 2 n = R := by
      rw [hR, hnl, hS, bx_drop]
      unfold rest0
      rw [← hq, if_pos rfl]
    have h3 : (2 : Int) ≤ (n : Int) := by omega
    have h4 : decide ((2 : Int) ≤ (n : Int)) = true := decide_eq_true h3
    rw [← hS, ← hR, ← hq]
    clear hS hn hR hq hb hnl
    go_enter Tryz.func65, Tryz.ntmps65
    go_wp2_with fail
    refine (HC.out _).mono ?_
    rintro e w1 ⟨rfl, rfl⟩
    go_wp2_with fail
    go_ret2
    exact ⟨rfl, rfl⟩
  | false =>
    have hx : S = R := by
      rw [hR, hS]
      unfold rest0
      rw [← hq, if_neg (by decide)]
    rw [← hS, ← hR, ← hq, ← hx]
    clear hS hn hR hq hb hnl hx hn'
    go_enter Tryz.func65, Tryz.ntmps65
    go_wp2_with fail
    refine (HC.out _).mono ?_
    rintro e w1 ⟨rfl, rfl⟩
    go_wp2_with fail
    go_ret2
    exact ⟨rfl, rfl⟩
set_option maxRecDepth 20000 in
set_option maxHeartbeats 1000000 in
theorem cut_calls (b : List UInt8) (hb : b.length ≤ 140737488355328) (w : World) : Calls Tryz.prog 39 #[.string (str b), .string ⟨#[75, 49]⟩] w fun e w' => e = .returned (.tuple #[.string (str (rest0 b)), .bool (preB b)]) ∧ w' = w := by
  have HC := Lib.hid (cutlite_calls b hb)
  generalize str b = S at HC ⊢
  generalize str (rest0 b) = R at HC ⊢
  generalize preB b = q at HC ⊢
  clear hb
  go_enter Tryz.func39, Tryz.ntmps39
  go_wp2_with fail
  refine (HC.out _).mono ?_
  rintro e w1 ⟨rfl, rfl⟩
  go_wp2_with fail
  go_ret2
  exact ⟨rfl, rfl⟩
set_option maxRecDepth 20000 in
set_option maxHeartbeats 1000000 in
theorem btake_calls (R O n : Nat) (hne : O ≠ R) (hn : n ≤ 1000) (rest : List UInt8) (ok : Bool) (hlen : rest.length ≤ 140737488355328) (w : World) (hR : w.heap[R]? = some (.cells #[.string (str rest)] 9 (0, 0))) (hO : w.heap[O]? = some (.cells #[.bool ok] 4 (0, 0))) :
    Calls Tryz.prog 40 #[.int .i64 (n : Int), .pointer (some ⟨R, 0, none⟩), .pointer (some ⟨O, 0, none⟩)] w fun e w' => ∃ t r ok', e = .returned (.string (str t)) ∧ Tk n rest ok t r ok' ∧ w'.heap[R]? = some (.cells #[.string (str r)] 9 (0, 0)) ∧ w'.heap[O]? = some (.cells #[.bool ok'] 4 (0, 0)) ∧ Fr (fun k => k = R ∨ k = O) w w' := by
  obtain ⟨S, hS⟩ : ∃ s, s = str rest := ⟨_, rfl⟩
  obtain ⟨m, hm⟩ : ∃ m, m = S.size := ⟨_, rfl⟩
  have hml : m = rest.length := by rw [hm, hS, str_size]
  have hm' : S.size = m := hm.symm
  rw [← hS] at hR
  have cR : w.cell? ⟨R, 0, none⟩ = some (.string S) := (cell_of_row w R 0 _ _ _ hR).trans rfl
  have cO : w.cell? ⟨O, 0, none⟩ = some (.bool ok) := (cell_of_row w O 0 _ _ _ hO).trans rfl
  have fR : w.frozen? ⟨R, 0, none⟩ = false := frozen_of_row w _ _ _ _ hR
  have fO : w.frozen? ⟨O, 0, none⟩ = false := frozen_of_row w _ _ _ _ hO
  by_cases hnm : n ≤ m
  · obtain ⟨T, hT⟩ : ∃ t, S.extract 0 n = t := ⟨_, rfl⟩
    obtain ⟨Q, hQ⟩ : ∃ t, S.extract n m = t := ⟨_, rfl⟩
    have hTs : str (rest.take n) = T := by rw [← hT, hS, bx_take]
    have hQs : str (rest.drop n) = Q := by rw [← hQ, hml, hS, bx_drop]
    have HFr := Lib.hid (show Fr (fun k => k = R ∨ k = O) w (w.setCell ⟨R, 0, none⟩ (.string Q)) from (Fr.refl _ _).setCell _ _ (.inl (.inl rfl)))
    have HR2 := Lib.hid (show (w.setCell ⟨R, 0, none⟩ (.string Q)).heap[R]? = some (.cells #[.string Q] 9 (0, 0)) from heap_setCell_same _ R 0 _ _ _ hR)
    have HO2 := Lib.hid (show (w.setCell ⟨R, 0, none⟩ (.string Q)).heap[O]? = some (.cells #[.bool ok] 4 (0, 0)) from ((Fr.refl (fun k => k = R) w).setCell ⟨R, 0, none⟩ (.string Q) (.inl rfl)).heap hO hne)
    have HTk := Lib.hid (show Tk n rest ok (rest.take n) (rest.drop n) ok from .inl ⟨by omega, rfl, rfl, rfl⟩)
    have HTs := Lib.hid hTs
    have HQs := Lib.hid hQs
    have d1 : decide ((m : Int) < (n : Int)) = false := decide_eq_false (by omega)
    have d2 : decide (m < n) = false := decide_eq_false (by omega)
    have h3 : (n : Int) ≤ (m : Int) := by omega
    have h4 : (0 : Int) ≤ (n : Int) := by omega
    clear hS hm hml hTs hQs hR hO hlen
    go_enter Tryz.func40, Tryz.ntmps40
    go_wp2_with fail
    go_ret
    exact ⟨_, _, _, by rw [HTs.out]; rfl, HTk.out, by rw [HQs.out]; exact HR2.out, HO2.out, HFr.out⟩
  · have HFr := Lib.hid (show Fr (fun k => k = R ∨ k = O) w (w.setCell ⟨O, 0, none⟩ (.bool false)) from (Fr.refl _ _).setCell _ _ (.inl (.inr rfl)))
    have HO2 := Lib.hid (show (w.setCell ⟨O, 0, none⟩ (.bool false)).heap[O]? = some (.cells #[.bool false] 4 (0, 0)) from heap_setCell_same _ O 0 _ _ _ hO)
    have HR2 := Lib.hid (show (w.setCell ⟨O, 0, none⟩ (.bool false)).heap[R]? = some (.cells #[.string (str rest)] 9 (0, 0)) from by
      rw [← hS]
      exact ((Fr.refl (fun k => k = O) w).setCell ⟨O, 0, none⟩ (.bool false) (.inl rfl)).heap hR (fun e => hne e.symm))
    have HTk := Lib.hid (show Tk n rest ok [] rest false from .inr ⟨by omega, rfl, rfl, rfl⟩)
    have d1 : decide ((m : Int) < (n : Int)) = true := decide_eq_true (by omega)
    have d2 : decide (m < n) = true := decide_eq_true (by omega)
    clear hS hm hml hR hO hlen
    go_enter Tryz.func40, Tryz.ntmps40
    go_wp2_with fail
    go_ret
    exact ⟨[], rest, false, rfl, HTk.out, HR2.out, HO2.out, HFr.out⟩
end Go.Proofs.YtcchhfkmhbjdmaaGreat
