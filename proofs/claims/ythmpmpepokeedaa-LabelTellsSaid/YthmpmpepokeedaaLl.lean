/- Labels: take (Parse's closure), walked. -/
import Derived.Test.YthmpmpepokeedaaLk
set_option linter.unusedVariables false
set_option linter.unusedSimpArgs false
set_option pp.deepTerms true
set_option pp.maxSteps 100000
namespace Go.Proofs.Ythmpmpepokeedaa
open Go.RowKit
theorem lx_take (l : List UInt8) (n : Nat) : (str l).extract 1 n = str ((l.drop 1).take (n - 1)) := by
  apply ByteArray.ext
  simp [str]
theorem lx_drop (l : List UInt8) (n : Nat) : (str l).extract n l.length = str (l.drop n) := by
  apply ByteArray.ext
  simp [str]
  exact List.take_of_length_le (by simp)
theorem run_head (c : UInt8) (r : List UInt8) (S : ByteArray) (hS : S = str (c :: r)) (w : World) : (Instr.index 9 (.string S) (.int .i64 0)).run Try.prog w = .ok (.int .u8 (c.toNat : Int)) w := by
  rw [run_index_string (P := Try.prog) w 9 S .i64 0 Try.underlying9]
  subst hS
  simp [str, go_sem]
  rfl
set_option maxRecDepth 20000 in
set_option maxHeartbeats 1000000 in
theorem take_none (R O : Nat) (rest : List UInt8) (ok : Bool) (hlen : rest.length ≤ 100000) (h : tk rest = none) (w : World) (hR : w.heap[R]? = some (.cells #[.string (str rest)] 9 (0, 0))) (hO : w.heap[O]? = some (.cells #[.bool ok] 4 (0, 0))) (hne : R ≠ O) :
    Calls Try.prog 68 #[.pointer (some ⟨R, 0, none⟩), .pointer (some ⟨O, 0, none⟩)] w fun e w' => e = .returned (.string ⟨#[]⟩) ∧ w'.heap[R]? = some (.cells #[.string ⟨#[]⟩] 9 (0, 0)) ∧ w'.heap[O]? = some (.cells #[.bool false] 4 (0, 0)) ∧ Fr (fun k => k = R ∨ k = O) w w' := by
  obtain ⟨S, hS⟩ : ∃ s, s = str rest := ⟨_, rfl⟩
  have hsz : S.size = rest.length := by rw [hS, str_size]
  rw [← hS] at hR
  have cR : w.cell? ⟨R, 0, none⟩ = some (.string S) := (cell_of_row w R 0 _ _ _ hR).trans rfl
  have cO : w.cell? ⟨O, 0, none⟩ = some (.bool ok) := (cell_of_row w O 0 _ _ _ hO).trans rfl
  have fR : w.frozen? ⟨R, 0, none⟩ = false := frozen_of_row w _ _ _ _ hR
  have fO : w.frozen? ⟨O, 0, none⟩ = false := frozen_of_row w _ _ _ _ hO
  have HFr := Lib.hid (show Fr (fun k => k = R ∨ k = O) w ((w.setCell ⟨O, 0, none⟩ (.bool false)).setCell ⟨R, 0, none⟩ (.string ⟨#[]⟩)) from ((Fr.refl _ _).setCell _ _ (.inl (.inr rfl))).setCell _ _ (.inl (.inl rfl)))
  have hR1 : (w.setCell ⟨O, 0, none⟩ (.bool false)).heap[R]? = some (.cells #[.string S] 9 (0, 0)) := ((Fr.refl (fun k => k = O) w).setCell ⟨O, 0, none⟩ (.bool false) (.inl rfl)).heap hR hne
  have HR2 := Lib.hid (show ((w.setCell ⟨O, 0, none⟩ (.bool false)).setCell ⟨R, 0, none⟩ (.string ⟨#[]⟩)).heap[R]? = some (.cells #[.string ⟨#[]⟩] 9 (0, 0)) from heap_setCell_same _ R 0 _ _ _ hR1)
  have HO2 := Lib.hid (show ((w.setCell ⟨O, 0, none⟩ (.bool false)).setCell ⟨R, 0, none⟩ (.string ⟨#[]⟩)).heap[O]? = some (.cells #[.bool false] 4 (0, 0)) from ((Fr.refl (fun k => k = R) (w.setCell ⟨O, 0, none⟩ (.bool false))).setCell ⟨R, 0, none⟩ (.string ⟨#[]⟩) (.inl rfl)).heap (heap_setCell_same w O 0 _ _ _ hO) (fun e => hne e.symm))
  have cR1 : (w.setCell ⟨O, 0, none⟩ (.bool false)).cell? ⟨R, 0, none⟩ = some (.string S) := (cell_of_row _ R 0 _ _ _ hR1).trans rfl
  have fR1 : (w.setCell ⟨O, 0, none⟩ (.bool false)).frozen? ⟨R, 0, none⟩ = false := frozen_of_row _ _ _ _ _ hR1
  cases rest with
  | nil =>
    have t1 : S.toList.isEmpty = true := by rw [hS, str_toList]; rfl
    have t2 : (S.toList == []) = true := by rw [hS, str_toList]; rfl
    have t3 : S.toList = [] := by rw [hS, str_toList]
    have t4 : S.size = 0 := hsz
    have t5 : decide ((S.size : Int) < 1) = true := decide_eq_true (by omega)
    have t6 : decide (S.size < 1) = true := decide_eq_true (by omega)
    clear hS hsz hR hO hne h hR1 hlen
    go_enter Try.func68, Try.ntmps68
    go_wp2_with fail
    go_ret
    exact ⟨rfl, HR2.out, HO2.out, HFr.out⟩
  | cons c r =>
    have hlt : r.length < c.toNat := by
      simp only [tk] at h
      by_cases hh : r.length < c.toNat
      · exact hh
      · rw [if_neg hh] at h; cases h
    have hx := run_head c r S hS
    have t1 : S.toList.isEmpty = false := by rw [hS, str_toList]; rfl
    have t2 : (S.toList == []) = false := by rw [hS, str_toList]; rfl
    have hc := c.toNat_lt
    have hsz' : S.size = r.length + 1 := by rw [hsz]; simp
    have hw : IntKind.i64.wrap (1 + (c.toNat : Int)) = 1 + (c.toNat : Int) := IntWalk.i64_in _ (by omega)
    have hw0 : IntKind.i64.wrap (c.toNat : Int) = (c.toNat : Int) := IntWalk.i64_in _ (by omega)
    have t5 : decide ((S.size : Int) < 1 + (c.toNat : Int)) = true := decide_eq_true (by omega)
    have t6 : (S.size : Int) < 1 + (c.toNat : Int) := by omega
    clear hS hsz hR hO hne h hR1 hlt hsz' hlen
    go_enter Try.func68, Try.ntmps68
    go_wp2_with fail
    go_ret
    exact ⟨rfl, HR2.out, HO2.out, HFr.out⟩
set_option maxRecDepth 20000 in
set_option maxHeartbeats 1000000 in
theorem take_some (R O : Nat) (rest k r : List UInt8) (hlen : rest.length ≤ 100000) (h : tk rest = some (k, r)) (w : World) (hR : w.heap[R]? = some (.cells #[.string (str rest)] 9 (0, 0))) :
    Calls Try.prog 68 #[.pointer (some ⟨R, 0, none⟩), .pointer (some ⟨O, 0, none⟩)] w fun e w' => e = .returned (.string (str k)) ∧ w'.heap[R]? = some (.cells #[.string (str r)] 9 (0, 0)) ∧ Fr (fun k => k = R) w w' := by
  obtain ⟨S, hS⟩ : ∃ s, s = str rest := ⟨_, rfl⟩
  obtain ⟨K, hK⟩ : ∃ s, s = str k := ⟨_, rfl⟩
  obtain ⟨Q, hQ⟩ : ∃ s, s = str r := ⟨_, rfl⟩
  have hsz : S.size = rest.length := by rw [hS, str_size]
  rw [← hS] at hR
  rw [← hK, ← hQ]
  have cR : w.cell? ⟨R, 0, none⟩ = some (.string S) := (cell_of_row w R 0 _ _ _ hR).trans rfl
  have fR : w.frozen? ⟨R, 0, none⟩ = false := frozen_of_row w _ _ _ _ hR
  have HFr := Lib.hid (show Fr (fun k => k = R) w (w.setCell ⟨R, 0, none⟩ (.string Q)) from (Fr.refl _ _).setCell _ _ (.inl rfl))
  have HR2 := Lib.hid (show (w.setCell ⟨R, 0, none⟩ (.string Q)).heap[R]? = some (.cells #[.string Q] 9 (0, 0)) from heap_setCell_same _ R 0 _ _ _ hR)
  cases rest with
  | nil => cases h
  | cons c s =>
    have hge : ¬ s.length < c.toNat := by
      intro hh
      simp only [tk] at h
      rw [if_pos hh] at h; cases h
    have he : k = s.take c.toNat ∧ r = s.drop c.toNat := by
      simp only [tk] at h
      rw [if_neg hge] at h
      obtain ⟨h1, h2⟩ := Prod.mk.inj (Option.some.inj h)
      exact ⟨h1.symm, h2.symm⟩
    have hx := run_head c s S hS
    have t1 : S.toList.isEmpty = false := by rw [hS, str_toList]; rfl
    have t2 : (S.toList == []) = false := by rw [hS, str_toList]; rfl
    have hc := c.toNat_lt
    have hsz' : S.size = s.length + 1 := by rw [hsz]; simp
    obtain ⟨n, hn⟩ : ∃ n, n = 1 + c.toNat := ⟨_, rfl⟩
    have hw : IntKind.i64.wrap (1 + (c.toNat : Int)) = (n : Int) := by rw [IntWalk.i64_in _ (by omega)]; omega
    have hw1 : 1 + (c.toNat : Int) = (n : Int) := by omega
    have hw0 : IntKind.i64.wrap (c.toNat : Int) = (c.toNat : Int) := IntWalk.i64_in _ (by omega)
    have t5 : decide ((S.size : Int) < (n : Int)) = false := decide_eq_false (by omega)
    have t6 : decide (S.size < n) = false := decide_eq_false (by omega)
    have hn1 : 1 ≤ n := by omega
    have hn2 : n ≤ S.size := by omega
    have hn3 : (1 : Int) ≤ (n : Int) := by omega
    have hn4 : (n : Int) ≤ (S.size : Int) := by omega
    have hn5 : 0 < n := by omega
    have e1 : S.extract 1 n = K := by rw [hS, lx_take, hK, he.1, hn]; simp
    have e2 : S.extract n S.size = Q := by rw [hsz, hS, lx_drop, hQ, he.2, hn, Nat.add_comm, List.drop_succ_cons]
    clear hS hK hQ hsz hR h hge he hn hsz' hlen
    go_enter Try.func68, Try.ntmps68
    go_wp2_with fail
    go_ret
    exact ⟨rfl, HR2.out, HFr.out⟩
end Go.Proofs.Ythmpmpepokeedaa
