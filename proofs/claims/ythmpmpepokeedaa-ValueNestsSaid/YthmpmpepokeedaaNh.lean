/- Values: parse and Parse walked. -/
import Derived.Test.YthmpmpepokeedaaNg
import Derived.StillTailTactics
import Derived.OwnWalk
import Derived.BigQuiet
set_option linter.unusedVariables false
set_option linter.unusedSimpArgs false
set_option pp.deepTerms true
set_option pp.maxSteps 100000
namespace Go.Proofs.Ythmpmpepokeedaa
open Go.RowKit
theorem accB_two (a b : UInt8) (r : List UInt8) : accB 0 ((a :: b :: r).take 2) = (num2 (a :: b :: r) : Int) := by
  have ha := a.toNat_lt
  have hb := b.toNat_lt
  simp only [List.take_succ_cons, List.take_zero, accB, List.foldl_cons, List.foldl_nil, num2]
  rw [show IntKind.i64.wrap (0 * 256 + (a.toNat : Int)) = (a.toNat : Int) from by rw [Int.zero_mul, Int.zero_add]; exact wrapI_id ⟨by omega, by omega⟩, wrapI_id ⟨by omega, by omega⟩]
  omega
theorem accB_one (a : UInt8) (r : List UInt8) : accB 0 ((a :: r).take 1) = (a.toNat : Int) := by
  have ha := a.toNat_lt
  simp only [List.take_succ_cons, List.take_zero, accB, List.foldl_cons, List.foldl_nil]
  rw [wrapI_id (by unfold inI; omega)]
  omega
theorem decN_snoc (dec : List UInt8 → Option (AV × List UInt8)) : ∀ (u : Nat) (s : List UInt8), decN dec (u + 1) s = match decN dec u s with
    | none => none
    | some (l, r) => match dec r with
      | none => none
      | some (a, r') => some (l ++ [a], r')
  | 0, s => by
    simp only [decN]
    cases dec s with
    | none => rfl
    | some x => rfl
  | u + 1, s => by
    rw [decN]
    conv => rhs; rw [decN]
    cases dec s with
    | none => rfl
    | some x =>
      dsimp only
      rw [decN_snoc dec u x.2]
      cases decN dec u x.2 with
      | none => rfl
      | some y =>
        dsimp only
        cases dec y.2 with
        | none => rfl
        | some z => rfl
theorem decN_stop (dec : List UInt8 → Option (AV × List UInt8)) (u : Nat) (s : List UInt8) (h : decN dec u s = none) : ∀ k, decN dec (u + k) s = none
  | 0 => h
  | k + 1 => by rw [← Nat.add_assoc, decN_snoc, decN_stop dec u s h k]
theorem ARow.fr {w w' : World} {B : Nat} {v : Value} {l : List AV} {xs : List Value} {F : Nat → Prop} (h : ARow w B v l xs) (hf : Fr F w w') (hF : ∀ k, B ≤ k → ¬ F k) : ARow w' B v l xs := by
  have hown : ∀ k, v.ownBlock = some k → B ≤ k := fun k hk => by
    obtain ⟨g, n, c, rfl⟩ := h.ne
    cases hk
    exact h.ge
  exact ⟨hf.own h.own (fun k hk => hF k (hown k hk)), h.ne, fun i a ha => by
    obtain ⟨x, hx, hr⟩ := h.at_ i a ha
    exact ⟨x, hx, hr.fr hf (fun k hk => hF k hk.1)⟩⟩
/-- What parse answers. -/
def PaP (j : Nat) (l : List UInt8) (w : World) (e : Ending) (w' : World) : Prop := ∃ (v : Value) (r : ByteArray) (ok : Bool), e = .returned (.tuple #[v, .string r, .bool ok]) ∧ v.oneCell' = true ∧ (match decA j l with
  | some (a, rest) => ok = true ∧ r = str rest ∧ AR w' (fun i => w.heap.size ≤ i) a v
  | none => ok = false) ∧ Fr (fun _ => False) w w'
theorem PaP.no {j : Nat} {l : List UInt8} {w w' : World} {v : Value} {r : ByteArray} (h : decA j l = none) (hv : v.oneCell' = true) (hf : Fr (fun _ => False) w w') : PaP j l w (.returned (.tuple #[v, .string r, .bool false])) w' :=
  ⟨v, r, false, rfl, hv, by rw [h], hf⟩
theorem PaP.yes {j : Nat} {l rest : List UInt8} {w w' : World} {v : Value} {a : AV} (h : decA j l = some (a, rest)) (hr : AR w' (fun i => w.heap.size ≤ i) a v) (hf : Fr (fun _ => False) w w') : PaP j l w (.returned (.tuple #[v, .string (str rest), .bool true])) w' :=
  ⟨v, _, true, rfl, hr.one, by rw [h]; exact ⟨rfl, rfl, hr⟩, hf⟩
/-- Of what head one it is. -/
theorem decA_int (j : Nat) (s : List UInt8) : decA j (105 :: s) = if s.length < 8 then none else some (.int (accB 0 (s.take 8)), s.drop 8) := by cases j <;> rfl
theorem decA_text (j : Nat) (s : List UInt8) : decA j (115 :: s) = if s.length < 2 ∨ (s.drop 2).length < num2 s then none else some (.text ((s.drop 2).take (num2 s)), (s.drop 2).drop (num2 s)) := by cases j <;> rfl
theorem decA_yes (j : Nat) (s : List UInt8) : decA j (121 :: s) = some (.yes true, s) := by cases j <;> rfl
theorem decA_noo (j : Nat) (s : List UInt8) : decA j (110 :: s) = some (.yes false, s) := by cases j <;> rfl
theorem decA_row0 (s : List UInt8) : decA 0 (108 :: s) = none := rfl
theorem decA_row (j : Nat) (s : List UInt8) : decA (j + 1) (108 :: s) = match s with
  | [] => none
  | c :: r => (decN (decA j) c.toNat r).map fun x => (.row x.1, x.2) := rfl
theorem decA_else (j : Nat) (h : UInt8) (s : List UInt8) (h1 : h ≠ 105) (h2 : h ≠ 115) (h3 : h ≠ 121) (h4 : h ≠ 110) (h5 : h ≠ 108) : decA j (h :: s) = none := by
  cases j <;> simp only [decA, if_neg h1, if_neg h2, if_neg h3, if_neg h4, if_neg h5]
theorem head_at (h : UInt8) (s : List UInt8) (S : ByteArray) (hS : S = str (h :: s)) (w : World) : (Instr.index 9 (.string S) (.int .i64 0)).run Try.prog w = .ok (.int .u8 (h.toNat : Int)) w := by
  rw [run_index_string (P := Try.prog) w 9 S .i64 0 Try.underlying9]
  subst hS
  simp [str, go_sem]
  rfl
set_option maxRecDepth 20000 in
set_option maxHeartbeats 4000000 in
theorem parse_leaf (j d : Nat) (h : UInt8) (s : List UInt8) (hl : s.length ≤ 4611686018427387904) (hne : h ≠ 108) (w : World) :
    Calls Try.prog 55 #[.string (str (h :: s)), .int .i64 (d : Int)] w (PaP j (h :: s) w) := by
  obtain ⟨S, hS⟩ : ∃ x, x = str (h :: s) := ⟨_, rfl⟩
  rw [← hS]
  have hx := head_at h s S hS
  have hSs : S.size = s.length + 1 := by rw [hS, str_size]; rfl
  have hs1 : 1 ≤ S.size := by omega
  have hs1' : (1 : Int) ≤ (S.size : Int) := by omega
  have t0 : (S.toList == []) = false := by rw [hS, str_toList]; rfl
  have t0' : S.toList.isEmpty = false := by rw [hS, str_toList]; rfl
  have hsb : S.size ≤ 9223372036854775807 := by omega
  obtain ⟨Q, hQ⟩ : ∃ x, x = str s := ⟨_, rfl⟩
  have hx1 : S.extract 1 S.size = Q := by rw [hS, ex_drop, hQ]; rfl
  obtain ⟨w1, hw1⟩ : ∃ w1, w1 = w.alloc (.cells #[.string S] 9) := ⟨_, rfl⟩
  obtain ⟨R, hRd⟩ : ∃ g, g = w.heap.size := ⟨_, rfl⟩
  have hb1 : w1.heap[R]? = some (.cells #[.string S] 9 (0, 0)) := by rw [hw1, hRd]; exact heap_alloc_new w _
  have cR : w1.drew.cell? ⟨R, 0, none⟩ = some (.string S) := (cell_of_row w1 R 0 _ _ _ hb1).trans rfl
  have cR1 : w1.cell? ⟨R, 0, none⟩ = some (.string S) := (cell_of_row w1 R 0 _ _ _ hb1).trans rfl
  have fR : w1.drew.frozen? ⟨R, 0, none⟩ = false := frozen_of_row w1.drew _ _ _ _ hb1
  have HW1 := Lib.hid (And.intro hw1 hRd)
  have HF1 := Lib.hid (show Fr (fun _ => False) w w1 by rw [hw1]; exact (Fr.refl _ _).alloc _)
  have HB1 := Lib.hid hb1
  have HQ := Lib.hid hQ
  have HSL := Lib.hid hSs
  clear hS hSs hQ hw1 hRd hb1
  have hR2 : (w1.drew.setCell ⟨R, 0, none⟩ (.string Q)).heap[R]? = some (.cells #[.string Q] 9 (0, 0)) := heap_setCell_same w1.drew R 0 _ _ _ HB1.out
  have HF2 := Lib.hid (show Fr (fun _ => False) w (w1.drew.setCell ⟨R, 0, none⟩ (.string Q)) from (HF1.out.drew).setCell _ _ (.inr (by rw [HW1.out.2]; exact Nat.le_refl _)))
  have HR2 := Lib.hid hR2
  by_cases hk : h = 105
  · have k105 : ((h.toNat : Int) == 105) = true := by subst hk; rfl
    have k105' : (h.toNat == 105) = true := by subst hk; rfl
    have k115 : ((h.toNat : Int) == 115) = false := beq_eq_false_iff_ne.2 (by subst hk; decide)
    have k115' : (h.toNat == 115) = false := beq_eq_false_iff_ne.2 (by subst hk; decide)
    have k121 : ((h.toNat : Int) == 121) = false := beq_eq_false_iff_ne.2 (by subst hk; decide)
    have k121' : (h.toNat == 121) = false := beq_eq_false_iff_ne.2 (by subst hk; decide)
    have k110 : ((h.toNat : Int) == 110) = false := beq_eq_false_iff_ne.2 (by subst hk; decide)
    have k110' : (h.toNat == 110) = false := beq_eq_false_iff_ne.2 (by subst hk; decide)
    have k108 : ((h.toNat : Int) == 108) = false := beq_eq_false_iff_ne.2 (by subst hk; decide)
    have k108' : (h.toNat == 108) = false := beq_eq_false_iff_ne.2 (by subst hk; decide)
    by_cases h8 : s.length < 8
    · have HN := Lib.hid (show Calls Try.prog 74 #[.int .i64 8, .pointer (some ⟨R, 0, none⟩)] (w1.drew.setCell ⟨R, 0, none⟩ (.string Q)) fun e w' => e = .returned (.tuple #[.int .i64 0, .bool false]) ∧ Fr (fun _ => False) (w1.drew.setCell ⟨R, 0, none⟩ (.string Q)) w' from number_no R 8 s (w1.drew.setCell ⟨R, 0, none⟩ (.string Q)) (by rw [← HQ.out]; exact HR2.out) h8 (by decide))
      have HD := Lib.hid (show decA j (h :: s) = none by rw [hk, decA_int, if_pos h8])
      clear hk h8 hR2 hne
      go_enter Try.func55, Try.ntmps55
      go_wp2_with fail
      rw [← HW1.out.2, ← HW1.out.1]
      go_wp2_with fail
      refine wp_region_still_tail 5 (by kernel_rfl) (by kernel_rfl) ?_
      simp only [List.take_succ_cons, List.take_zero, List.drop_succ_cons, List.drop_zero]
      change wpStill _ _ w1.drew (fun a' => wpList _ _ _ _ a' w1.drew) _ _
      repeat still_step
      refine wpStill_nil ?_
      go_wp2_with fail
      refine HN.out.mono ?_
      rintro e w3 ⟨rfl, f3⟩
      have cR3 : w3.cell? ⟨R, 0, none⟩ = some (.string Q) := (cell_of_row w3 R 0 _ _ _ (f3.heap HR2.out id)).trans rfl
      have cR4 : w3.drew.cell? ⟨R, 0, none⟩ = some (.string Q) := cR3
      have HF3 := Lib.hid (HF2.out.trans f3 (fun i hi => hi.elim))
      clear f3
      go_wp2_with fail
      go_quiet (fail)
      go_wp2_with fail
      go_ret3
      exact PaP.no HD.out rfl (by first | exact HF3.out | exact HF3.out.drewN _)
    · have HN := Lib.hid (show Calls Try.prog 74 #[.int .i64 8, .pointer (some ⟨R, 0, none⟩)] (w1.drew.setCell ⟨R, 0, none⟩ (.string Q)) fun e w' => e = .returned (.tuple #[.int .i64 (accB 0 (s.take 8)), .bool true]) ∧ w'.heap[R]? = some (.cells #[.string (str (s.drop 8))] 9 (0, 0)) ∧ Fr (fun k => k = R) (w1.drew.setCell ⟨R, 0, none⟩ (.string Q)) w' from number_yes R 8 s (w1.drew.setCell ⟨R, 0, none⟩ (.string Q)) (by rw [← HQ.out]; exact HR2.out) (by omega) (by decide) (by omega))
      have HD := Lib.hid (show decA j (h :: s) = some (.int (accB 0 (s.take 8)), s.drop 8) by rw [hk, decA_int, if_neg h8])
      clear hk h8 hR2 hne
      go_enter Try.func55, Try.ntmps55
      go_wp2_with fail
      rw [← HW1.out.2, ← HW1.out.1]
      go_wp2_with fail
      refine wp_region_still_tail 5 (by kernel_rfl) (by kernel_rfl) ?_
      simp only [List.take_succ_cons, List.take_zero, List.drop_succ_cons, List.drop_zero]
      change wpStill _ _ w1.drew (fun a' => wpList _ _ _ _ a' w1.drew) _ _
      repeat still_step
      refine wpStill_nil ?_
      go_wp2_with fail
      refine HN.out.mono ?_
      rintro e w3 ⟨rfl, r3, f3⟩
      obtain ⟨Q3, hQ3⟩ : ∃ x, x = str (s.drop 8) := ⟨_, rfl⟩
      rw [← hQ3] at r3
      have HQ3 := Lib.hid hQ3
      have cR3 : w3.cell? ⟨R, 0, none⟩ = some (.string Q3) := (cell_of_row w3 R 0 _ _ _ r3).trans rfl
      have cR4 : w3.drew.cell? ⟨R, 0, none⟩ = some (.string Q3) := cR3
      have HF3 := Lib.hid (show Fr (fun _ => False) w w3 from HF2.out.trans f3 (fun i hi => .inr (by rw [hi, HW1.out.2]; exact Nat.le_refl _)))
      clear f3 r3 hQ3
      go_wp2_with fail
      go_quiet (fail)
      go_wp2_with fail
      go_ret3
      rw [HQ3.out]
      exact PaP.yes HD.out (.int _) (by first | exact HF3.out | exact HF3.out.drewN _)
  have n105 := hk
  clear hk
  by_cases hk : h = 115
  · have k105 : ((h.toNat : Int) == 105) = false := beq_eq_false_iff_ne.2 (by subst hk; decide)
    have k105' : (h.toNat == 105) = false := beq_eq_false_iff_ne.2 (by subst hk; decide)
    have k115 : ((h.toNat : Int) == 115) = true := by subst hk; rfl
    have k115' : (h.toNat == 115) = true := by subst hk; rfl
    have k121 : ((h.toNat : Int) == 121) = false := beq_eq_false_iff_ne.2 (by subst hk; decide)
    have k121' : (h.toNat == 121) = false := beq_eq_false_iff_ne.2 (by subst hk; decide)
    have k110 : ((h.toNat : Int) == 110) = false := beq_eq_false_iff_ne.2 (by subst hk; decide)
    have k110' : (h.toNat == 110) = false := beq_eq_false_iff_ne.2 (by subst hk; decide)
    have k108 : ((h.toNat : Int) == 108) = false := beq_eq_false_iff_ne.2 (by subst hk; decide)
    have k108' : (h.toNat == 108) = false := beq_eq_false_iff_ne.2 (by subst hk; decide)
    by_cases h2 : s.length < 2
    · have HN := Lib.hid (show Calls Try.prog 74 #[.int .i64 2, .pointer (some ⟨R, 0, none⟩)] (w1.drew.setCell ⟨R, 0, none⟩ (.string Q)) fun e w' => e = .returned (.tuple #[.int .i64 0, .bool false]) ∧ Fr (fun _ => False) (w1.drew.setCell ⟨R, 0, none⟩ (.string Q)) w' from number_no R 2 s (w1.drew.setCell ⟨R, 0, none⟩ (.string Q)) (by rw [← HQ.out]; exact HR2.out) h2 (by decide))
      have HD := Lib.hid (show decA j (h :: s) = none by rw [hk, decA_text, if_pos (.inl h2)])
      clear hk h2 hR2 hne n105
      go_enter Try.func55, Try.ntmps55
      go_wp2_with fail
      rw [← HW1.out.2, ← HW1.out.1]
      go_wp2_with fail
      refine wp_region_still_tail 5 (by kernel_rfl) (by kernel_rfl) ?_
      simp only [List.take_succ_cons, List.take_zero, List.drop_succ_cons, List.drop_zero]
      change wpStill _ _ w1.drew (fun a' => wpList _ _ _ _ a' w1.drew) _ _
      repeat still_step
      refine wpStill_nil ?_
      go_wp2_with fail
      refine HN.out.mono ?_
      rintro e w3 ⟨rfl, f3⟩
      have HF3 := Lib.hid (HF2.out.trans f3 (fun i hi => hi.elim))
      clear f3
      go_wp2_with fail
      go_ret3
      exact PaP.no HD.out rfl HF3.out
    · have HN := Lib.hid (show Calls Try.prog 74 #[.int .i64 2, .pointer (some ⟨R, 0, none⟩)] (w1.drew.setCell ⟨R, 0, none⟩ (.string Q)) fun e w' => e = .returned (.tuple #[.int .i64 (accB 0 (s.take 2)), .bool true]) ∧ w'.heap[R]? = some (.cells #[.string (str (s.drop 2))] 9 (0, 0)) ∧ Fr (fun k => k = R) (w1.drew.setCell ⟨R, 0, none⟩ (.string Q)) w' from number_yes R 2 s (w1.drew.setCell ⟨R, 0, none⟩ (.string Q)) (by rw [← HQ.out]; exact HR2.out) (by omega) (by decide) (by omega))
      obtain ⟨n, hn⟩ : ∃ n, n = num2 s := ⟨_, rfl⟩
      have hacc : accB 0 (s.take 2) = (n : Int) := by
        rw [hn]
        match s, h2 with
        | [], h2 => exact absurd (by decide) h2
        | [_], h2 => exact absurd (by simp) h2
        | a :: b :: r, _ => exact accB_two a b r
      rw [hacc] at HN
      have hnb : n ≤ 65535 := by
        rw [hn]
        match s, h2 with
        | [], _ => exact Nat.zero_le _
        | [_], _ => exact Nat.zero_le _
        | a :: b :: r, _ =>
          have ha := a.toNat_lt
          have hb := b.toNat_lt
          simp only [num2]; omega
      obtain ⟨r2, hr2⟩ : ∃ r, r = s.drop 2 := ⟨_, rfl⟩
      rw [← hr2] at HN
      have hr2l : r2.length ≤ 4611686018427387904 := by rw [hr2, List.length_drop]; omega
      obtain ⟨Q3, hQ3⟩ : ∃ x, x = str r2 := ⟨_, rfl⟩
      have hQ3s : Q3.size = r2.length := by rw [hQ3, str_size]
      rw [← hQ3] at HN
      by_cases hlt : r2.length < n
      · have HD := Lib.hid (show decA j (h :: s) = none by rw [hk, decA_text, if_pos (.inr (by rw [← hr2, ← hn]; exact hlt))])
        have t1 : decide ((Q3.size : Int) < (n : Int)) = true := decide_eq_true (by omega)
        have t1' : decide (Q3.size < n) = true := decide_eq_true (by omega)
        clear hk h2 hR2 hne hacc hn hr2 hQ3 hlt hQ3s n105
        go_enter Try.func55, Try.ntmps55
        go_wp2_with fail
        rw [← HW1.out.2, ← HW1.out.1]
        go_wp2_with fail
        refine wp_region_still_tail 5 (by kernel_rfl) (by kernel_rfl) ?_
        simp only [List.take_succ_cons, List.take_zero, List.drop_succ_cons, List.drop_zero]
        change wpStill _ _ w1.drew (fun a' => wpList _ _ _ _ a' w1.drew) _ _
        repeat still_step
        refine wpStill_nil ?_
        go_wp2_with fail
        refine HN.out.mono ?_
        rintro e w3 ⟨rfl, r3, f3⟩
        have cR3 : w3.cell? ⟨R, 0, none⟩ = some (.string Q3) := (cell_of_row w3 R 0 _ _ _ r3).trans rfl
        have HF3 := Lib.hid (show Fr (fun _ => False) w w3 from HF2.out.trans f3 (fun i hi => .inr (by rw [hi, HW1.out.2]; exact Nat.le_refl _)))
        clear f3 r3
        go_wp2_with fail
        go_ret3
        exact PaP.no HD.out rfl HF3.out
      · have HD := Lib.hid (show decA j (h :: s) = some (.text (r2.take n), r2.drop n) by rw [hk, decA_text, if_neg (by rw [not_or]; exact ⟨h2, by rw [← hr2, ← hn]; exact hlt⟩), ← hr2, ← hn])
        have t1 : decide ((Q3.size : Int) < (n : Int)) = false := decide_eq_false (by omega)
        have t1' : decide (Q3.size < n) = false := decide_eq_false (by omega)
        have b1 : n ≤ Q3.size := by omega
        have b1' : (n : Int) ≤ (Q3.size : Int) := by omega
        obtain ⟨X, hX⟩ : ∃ x, x = str (r2.take n) := ⟨_, rfl⟩
        obtain ⟨Y, hY⟩ : ∃ x, x = str (r2.drop n) := ⟨_, rfl⟩
        have e1 : Q3.extract 0 n = X := by rw [hQ3, ex_take, hX]
        have e2 : Q3.extract n Q3.size = Y := by rw [hQ3, ex_drop, hY]
        have HXY := Lib.hid (And.intro hX hY)
        have hr2m : (r2.take n).length ≤ 9223372036854775807 := by rw [List.length_take]; omega
        have HRM := Lib.hid hr2m
        have hQ3b : Q3.size ≤ 9223372036854775807 := by omega
        clear hk h2 hR2 hne hacc hn hr2 hQ3 hlt hQ3s n105 hX hY hr2m
        go_enter Try.func55, Try.ntmps55
        go_wp2_with fail
        rw [← HW1.out.2, ← HW1.out.1]
        go_wp2_with fail
        refine wp_region_still_tail 5 (by kernel_rfl) (by kernel_rfl) ?_
        simp only [List.take_succ_cons, List.take_zero, List.drop_succ_cons, List.drop_zero]
        change wpStill _ _ w1.drew (fun a' => wpList _ _ _ _ a' w1.drew) _ _
        repeat still_step
        refine wpStill_nil ?_
        go_wp2_with fail
        refine HN.out.mono ?_
        rintro e w3 ⟨rfl, r3, f3⟩
        have cR3 : w3.cell? ⟨R, 0, none⟩ = some (.string Q3) := (cell_of_row w3 R 0 _ _ _ r3).trans rfl
        have cR4 : w3.drew.cell? ⟨R, 0, none⟩ = some (.string Q3) := cR3
        have HF3 := Lib.hid (show Fr (fun _ => False) w w3 from HF2.out.trans f3 (fun i hi => .inr (by rw [hi, HW1.out.2]; exact Nat.le_refl _)))
        clear f3 r3
        go_wp2_with fail
        go_quiet (fail)
        go_wp2_with fail
        go_ret3
        rw [HXY.out.1, HXY.out.2]
        exact PaP.yes HD.out (.text _ HRM.out) (by first | exact HF3.out | exact HF3.out.drewN _)
  have n115 := hk
  clear hk
  by_cases hk : h = 121
  · have k105 : ((h.toNat : Int) == 105) = false := beq_eq_false_iff_ne.2 (by subst hk; decide)
    have k105' : (h.toNat == 105) = false := beq_eq_false_iff_ne.2 (by subst hk; decide)
    have k115 : ((h.toNat : Int) == 115) = false := beq_eq_false_iff_ne.2 (by subst hk; decide)
    have k115' : (h.toNat == 115) = false := beq_eq_false_iff_ne.2 (by subst hk; decide)
    have k121 : ((h.toNat : Int) == 121) = true := by subst hk; rfl
    have k121' : (h.toNat == 121) = true := by subst hk; rfl
    have k110 : ((h.toNat : Int) == 110) = false := beq_eq_false_iff_ne.2 (by subst hk; decide)
    have k110' : (h.toNat == 110) = false := beq_eq_false_iff_ne.2 (by subst hk; decide)
    have k108 : ((h.toNat : Int) == 108) = false := beq_eq_false_iff_ne.2 (by subst hk; decide)
    have k108' : (h.toNat == 108) = false := beq_eq_false_iff_ne.2 (by subst hk; decide)
    have HD := Lib.hid (show decA j (h :: s) = some (.yes true, s) by rw [hk, decA_yes])
    have cR5 : (w1.drew.setCell ⟨R, 0, none⟩ (.string Q)).cell? ⟨R, 0, none⟩ = some (.string Q) := (cell_of_row _ R 0 _ _ _ hR2).trans rfl
    have cR6 : (w1.drew.setCell ⟨R, 0, none⟩ (.string Q)).drew.cell? ⟨R, 0, none⟩ = some (.string Q) := cR5
    clear hk hR2 hne
    go_enter Try.func55, Try.ntmps55
    go_wp2_with fail
    rw [← HW1.out.2, ← HW1.out.1]
    go_wp2_with fail
    refine wp_region_still_tail 5 (by kernel_rfl) (by kernel_rfl) ?_
    simp only [List.take_succ_cons, List.take_zero, List.drop_succ_cons, List.drop_zero]
    change wpStill _ _ w1.drew (fun a' => wpList _ _ _ _ a' w1.drew) _ _
    repeat still_step
    refine wpStill_nil ?_
    go_wp2_with fail
    go_quiet (fail)
    go_wp2_with fail
    go_ret3
    obtain rfl := HQ.out
    exact PaP.yes HD.out (.yes _) (by first | exact HF2.out | exact HF2.out.drewN _)
  have n121 := hk
  clear hk
  by_cases hk : h = 110
  · have k105 : ((h.toNat : Int) == 105) = false := beq_eq_false_iff_ne.2 (by subst hk; decide)
    have k105' : (h.toNat == 105) = false := beq_eq_false_iff_ne.2 (by subst hk; decide)
    have k115 : ((h.toNat : Int) == 115) = false := beq_eq_false_iff_ne.2 (by subst hk; decide)
    have k115' : (h.toNat == 115) = false := beq_eq_false_iff_ne.2 (by subst hk; decide)
    have k121 : ((h.toNat : Int) == 121) = false := beq_eq_false_iff_ne.2 (by subst hk; decide)
    have k121' : (h.toNat == 121) = false := beq_eq_false_iff_ne.2 (by subst hk; decide)
    have k110 : ((h.toNat : Int) == 110) = true := by subst hk; rfl
    have k110' : (h.toNat == 110) = true := by subst hk; rfl
    have k108 : ((h.toNat : Int) == 108) = false := beq_eq_false_iff_ne.2 (by subst hk; decide)
    have k108' : (h.toNat == 108) = false := beq_eq_false_iff_ne.2 (by subst hk; decide)
    have HD := Lib.hid (show decA j (h :: s) = some (.yes false, s) by rw [hk, decA_noo])
    have cR5 : (w1.drew.setCell ⟨R, 0, none⟩ (.string Q)).cell? ⟨R, 0, none⟩ = some (.string Q) := (cell_of_row _ R 0 _ _ _ hR2).trans rfl
    have cR6 : (w1.drew.setCell ⟨R, 0, none⟩ (.string Q)).drew.cell? ⟨R, 0, none⟩ = some (.string Q) := cR5
    clear hk hR2 hne
    go_enter Try.func55, Try.ntmps55
    go_wp2_with fail
    rw [← HW1.out.2, ← HW1.out.1]
    go_wp2_with fail
    refine wp_region_still_tail 5 (by kernel_rfl) (by kernel_rfl) ?_
    simp only [List.take_succ_cons, List.take_zero, List.drop_succ_cons, List.drop_zero]
    change wpStill _ _ w1.drew (fun a' => wpList _ _ _ _ a' w1.drew) _ _
    repeat still_step
    refine wpStill_nil ?_
    go_wp2_with fail
    go_quiet (fail)
    go_wp2_with fail
    go_ret3
    obtain rfl := HQ.out
    exact PaP.yes HD.out (.yes _) (by first | exact HF2.out | exact HF2.out.drewN _)
  have n110 := hk
  have n108 := hne
  clear hk
  have k105 : ((h.toNat : Int) == 105) = false := beq_eq_false_iff_ne.2 (fun e => n105 (by apply UInt8.toNat_inj.1; rw [show h.toNat = 105 by omega]; rfl))
  have k105' : (h.toNat == 105) = false := beq_eq_false_iff_ne.2 (fun e => n105 (by apply UInt8.toNat_inj.1; rw [show h.toNat = 105 by omega]; rfl))
  have k115 : ((h.toNat : Int) == 115) = false := beq_eq_false_iff_ne.2 (fun e => n115 (by apply UInt8.toNat_inj.1; rw [show h.toNat = 115 by omega]; rfl))
  have k115' : (h.toNat == 115) = false := beq_eq_false_iff_ne.2 (fun e => n115 (by apply UInt8.toNat_inj.1; rw [show h.toNat = 115 by omega]; rfl))
  have k121 : ((h.toNat : Int) == 121) = false := beq_eq_false_iff_ne.2 (fun e => n121 (by apply UInt8.toNat_inj.1; rw [show h.toNat = 121 by omega]; rfl))
  have k121' : (h.toNat == 121) = false := beq_eq_false_iff_ne.2 (fun e => n121 (by apply UInt8.toNat_inj.1; rw [show h.toNat = 121 by omega]; rfl))
  have k110 : ((h.toNat : Int) == 110) = false := beq_eq_false_iff_ne.2 (fun e => n110 (by apply UInt8.toNat_inj.1; rw [show h.toNat = 110 by omega]; rfl))
  have k110' : (h.toNat == 110) = false := beq_eq_false_iff_ne.2 (fun e => n110 (by apply UInt8.toNat_inj.1; rw [show h.toNat = 110 by omega]; rfl))
  have k108 : ((h.toNat : Int) == 108) = false := beq_eq_false_iff_ne.2 (fun e => n108 (by apply UInt8.toNat_inj.1; rw [show h.toNat = 108 by omega]; rfl))
  have k108' : (h.toNat == 108) = false := beq_eq_false_iff_ne.2 (fun e => n108 (by apply UInt8.toNat_inj.1; rw [show h.toNat = 108 by omega]; rfl))
  have HD := Lib.hid (decA_else j h s n105 n115 n121 n110 n108)
  clear hR2 hne n105 n115 n121 n110 n108
  go_enter Try.func55, Try.ntmps55
  go_wp2_with fail
  rw [← HW1.out.2, ← HW1.out.1]
  go_wp2_with fail
  refine wp_region_still_tail 5 (by kernel_rfl) (by kernel_rfl) ?_
  simp only [List.take_succ_cons, List.take_zero, List.drop_succ_cons, List.drop_zero]
  change wpStill _ _ w1.drew (fun a' => wpList _ _ _ _ a' w1.drew) _ _
  repeat still_step
  refine wpStill_nil ?_
  go_wp2_with fail
  go_ret3
  exact PaP.no HD.out rfl HF2.out
theorem decN_len (j : Nat) : ∀ (u : Nat) (s : List UInt8) (l : List AV) (r : List UInt8), decN (decA j) u s = some (l, r) → r.length ≤ s.length ∧ l.length = u
  | 0, s, l, r, h => by
    simp only [decN, Option.some.injEq, Prod.mk.injEq] at h
    obtain ⟨rfl, rfl⟩ := h
    exact ⟨Nat.le_refl _, rfl⟩
  | u + 1, s, l, r, h => by
    rw [decN_snoc] at h
    cases h1 : decN (decA j) u s with
    | none => rw [h1] at h; cases h
    | some x =>
      rw [h1] at h
      dsimp only at h
      obtain ⟨i1, i2⟩ := decN_len j u s x.1 x.2 h1
      cases h2 : decA j x.2 with
      | none => rw [h2] at h; cases h
      | some y =>
        rw [h2] at h
        simp only [Option.some.injEq, Prod.mk.injEq] at h
        obtain ⟨rfl, rfl⟩ := h
        have := dec_len j x.2 y.1 y.2 h2
        exact ⟨by omega, by rw [List.length_append, i2]; rfl⟩
set_option maxRecDepth 20000 in
set_option maxHeartbeats 4000000 in
theorem parse_nil (j d : Nat) (w : World) : Calls Try.prog 55 #[.string (str []), .int .i64 (d : Int)] w (PaP j [] w) := by
  have HD := Lib.hid (show decA j [] = none by cases j <;> rfl)
  show Calls Try.prog 55 #[.string ⟨#[]⟩, .int .i64 (d : Int)] w (PaP j [] w)
  go_enter Try.func55, Try.ntmps55
  go_wp2_with fail
  go_ret3
  exact PaP.no HD.out rfl ((Fr.refl _ _).alloc _)
set_option maxRecDepth 20000 in
set_option maxHeartbeats 4000000 in
theorem parse_none (j d : Nat) (hj : d + j = 8) (w : World) : Calls Try.prog 55 #[.string (str [108]), .int .i64 (d : Int)] w (PaP j [108] w) := by
  obtain ⟨h, hk⟩ : ∃ h : UInt8, h = 108 := ⟨_, rfl⟩
  obtain ⟨s, hs0⟩ : ∃ s : List UInt8, s = [] := ⟨_, rfl⟩
  have hl : s.length ≤ 4611686018427387904 := by rw [hs0]; decide
  have HD := Lib.hid (show decA j (h :: s) = none by rw [hk, hs0]; cases j <;> rfl)
  rw [show ([108] : List UInt8) = h :: s by rw [hk, hs0]]
  obtain ⟨S, hS⟩ : ∃ x, x = str (h :: s) := ⟨_, rfl⟩
  rw [← hS]
  have hx := head_at h s S hS
  have hSs : S.size = s.length + 1 := by rw [hS, str_size]; rfl
  have hs1 : 1 ≤ S.size := by omega
  have hs1' : (1 : Int) ≤ (S.size : Int) := by omega
  have t0 : (S.toList == []) = false := by rw [hS, str_toList]; rfl
  have t0' : S.toList.isEmpty = false := by rw [hS, str_toList]; rfl
  have hsb : S.size ≤ 9223372036854775807 := by omega
  obtain ⟨Q, hQ⟩ : ∃ x, x = str s := ⟨_, rfl⟩
  have hx1 : S.extract 1 S.size = Q := by rw [hS, ex_drop, hQ]; rfl
  obtain ⟨w1, hw1⟩ : ∃ w1, w1 = w.alloc (.cells #[.string S] 9) := ⟨_, rfl⟩
  obtain ⟨R, hRd⟩ : ∃ g, g = w.heap.size := ⟨_, rfl⟩
  have hb1 : w1.heap[R]? = some (.cells #[.string S] 9 (0, 0)) := by rw [hw1, hRd]; exact heap_alloc_new w _
  have cR : w1.drew.cell? ⟨R, 0, none⟩ = some (.string S) := (cell_of_row w1 R 0 _ _ _ hb1).trans rfl
  have cR1 : w1.cell? ⟨R, 0, none⟩ = some (.string S) := (cell_of_row w1 R 0 _ _ _ hb1).trans rfl
  have fR : w1.drew.frozen? ⟨R, 0, none⟩ = false := frozen_of_row w1.drew _ _ _ _ hb1
  have HW1 := Lib.hid (And.intro hw1 hRd)
  have HF1 := Lib.hid (show Fr (fun _ => False) w w1 by rw [hw1]; exact (Fr.refl _ _).alloc _)
  have HB1 := Lib.hid hb1
  have HQ := Lib.hid hQ
  have HSL := Lib.hid hSs
  clear hS hSs hQ hw1 hRd hb1
  have hR2 : (w1.drew.setCell ⟨R, 0, none⟩ (.string Q)).heap[R]? = some (.cells #[.string Q] 9 (0, 0)) := heap_setCell_same w1.drew R 0 _ _ _ HB1.out
  have HF2 := Lib.hid (show Fr (fun _ => False) w (w1.drew.setCell ⟨R, 0, none⟩ (.string Q)) from (HF1.out.drew).setCell _ _ (.inr (by rw [HW1.out.2]; exact Nat.le_refl _)))
  have HR2 := Lib.hid hR2
  have k105 : ((h.toNat : Int) == 105) = false := beq_eq_false_iff_ne.2 (by subst hk; decide)
  have k105' : (h.toNat == 105) = false := beq_eq_false_iff_ne.2 (by subst hk; decide)
  have k115 : ((h.toNat : Int) == 115) = false := beq_eq_false_iff_ne.2 (by subst hk; decide)
  have k115' : (h.toNat == 115) = false := beq_eq_false_iff_ne.2 (by subst hk; decide)
  have k121 : ((h.toNat : Int) == 121) = false := beq_eq_false_iff_ne.2 (by subst hk; decide)
  have k121' : (h.toNat == 121) = false := beq_eq_false_iff_ne.2 (by subst hk; decide)
  have k110 : ((h.toNat : Int) == 110) = false := beq_eq_false_iff_ne.2 (by subst hk; decide)
  have k110' : (h.toNat == 110) = false := beq_eq_false_iff_ne.2 (by subst hk; decide)
  have k108 : ((h.toNat : Int) == 108) = true := by subst hk; rfl
  have k108' : (h.toNat == 108) = true := by subst hk; rfl
  have HN := Lib.hid (show Calls Try.prog 74 #[.int .i64 1, .pointer (some ⟨R, 0, none⟩)] (w1.drew.setCell ⟨R, 0, none⟩ (.string Q)) fun e w' => e = .returned (.tuple #[.int .i64 0, .bool false]) ∧ Fr (fun _ => False) (w1.drew.setCell ⟨R, 0, none⟩ (.string Q)) w' from number_no R 1 s (w1.drew.setCell ⟨R, 0, none⟩ (.string Q)) (by rw [← HQ.out]; exact HR2.out) (by rw [hs0]; decide) (by decide))
  clear hk hR2 hs0
  go_enter Try.func55, Try.ntmps55
  go_wp2_with fail
  rw [← HW1.out.2, ← HW1.out.1]
  go_wp2_with fail
  refine wp_region_still_tail 5 (by kernel_rfl) (by kernel_rfl) ?_
  simp only [List.take_succ_cons, List.take_zero, List.drop_succ_cons, List.drop_zero]
  change wpStill _ _ w1.drew (fun a' => wpList _ _ _ _ a' w1.drew) _ _
  repeat still_step
  refine wpStill_nil ?_
  go_wp2_with fail
  refine HN.out.mono ?_
  rintro e w3 ⟨rfl, f3⟩
  have HF3 := Lib.hid (HF2.out.trans f3 (fun i hi => hi.elim))
  clear f3
  go_wp2_with fail
  go_ret3
  exact PaP.no HD.out rfl HF3.out
set_option maxRecDepth 20000 in
set_option maxHeartbeats 8000000 in
theorem parse_calls (j : Nat) : ∀ (d : Nat) (hj : d + j = 8) (l : List UInt8) (hl : l.length ≤ 4611686018427387904) (w : World), Calls Try.prog 55 #[.string (str l), .int .i64 (d : Int)] w (PaP j l w) := by
  induction j with
  | zero =>
    intro d hj l hl w
    obtain rfl : d = 8 := by omega
    match l, hl with
    | [], _ => exact parse_nil 0 8 w
    | h :: s, hl =>
      by_cases hk : h = 108
      rotate_left
      · exact parse_leaf 0 8 h s (by simp at hl; omega) hk w
      match s, hl with
      | [], _ => subst hk; exact parse_none 0 8 rfl w
      | c :: r, hl =>
        obtain ⟨s, hs0⟩ : ∃ s, s = c :: r := ⟨_, rfl⟩
        rw [← hs0] at hl ⊢
        have hl : s.length ≤ 4611686018427387904 := by simp at hl; omega
        have HD := Lib.hid (show decA 0 (h :: s) = none by rw [hk]; rfl)
        obtain ⟨S, hS⟩ : ∃ x, x = str (h :: s) := ⟨_, rfl⟩
        rw [← hS]
        have hx := head_at h s S hS
        have hSs : S.size = s.length + 1 := by rw [hS, str_size]; rfl
        have hs1 : 1 ≤ S.size := by omega
        have hs1' : (1 : Int) ≤ (S.size : Int) := by omega
        have t0 : (S.toList == []) = false := by rw [hS, str_toList]; rfl
        have t0' : S.toList.isEmpty = false := by rw [hS, str_toList]; rfl
        have hsb : S.size ≤ 9223372036854775807 := by omega
        obtain ⟨Q, hQ⟩ : ∃ x, x = str s := ⟨_, rfl⟩
        have hx1 : S.extract 1 S.size = Q := by rw [hS, ex_drop, hQ]; rfl
        obtain ⟨w1, hw1⟩ : ∃ w1, w1 = w.alloc (.cells #[.string S] 9) := ⟨_, rfl⟩
        obtain ⟨R, hRd⟩ : ∃ g, g = w.heap.size := ⟨_, rfl⟩
        have hb1 : w1.heap[R]? = some (.cells #[.string S] 9 (0, 0)) := by rw [hw1, hRd]; exact heap_alloc_new w _
        have cR : w1.drew.cell? ⟨R, 0, none⟩ = some (.string S) := (cell_of_row w1 R 0 _ _ _ hb1).trans rfl
        have cR1 : w1.cell? ⟨R, 0, none⟩ = some (.string S) := (cell_of_row w1 R 0 _ _ _ hb1).trans rfl
        have fR : w1.drew.frozen? ⟨R, 0, none⟩ = false := frozen_of_row w1.drew _ _ _ _ hb1
        have HW1 := Lib.hid (And.intro hw1 hRd)
        have HF1 := Lib.hid (show Fr (fun _ => False) w w1 by rw [hw1]; exact (Fr.refl _ _).alloc _)
        have HB1 := Lib.hid hb1
        have HQ := Lib.hid hQ
        have HSL := Lib.hid hSs
        clear hS hSs hQ hw1 hRd hb1
        have hR2 : (w1.drew.setCell ⟨R, 0, none⟩ (.string Q)).heap[R]? = some (.cells #[.string Q] 9 (0, 0)) := heap_setCell_same w1.drew R 0 _ _ _ HB1.out
        have HF2 := Lib.hid (show Fr (fun _ => False) w (w1.drew.setCell ⟨R, 0, none⟩ (.string Q)) from (HF1.out.drew).setCell _ _ (.inr (by rw [HW1.out.2]; exact Nat.le_refl _)))
        have HR2 := Lib.hid hR2
        have k105 : ((h.toNat : Int) == 105) = false := beq_eq_false_iff_ne.2 (by subst hk; decide)
        have k105' : (h.toNat == 105) = false := beq_eq_false_iff_ne.2 (by subst hk; decide)
        have k115 : ((h.toNat : Int) == 115) = false := beq_eq_false_iff_ne.2 (by subst hk; decide)
        have k115' : (h.toNat == 115) = false := beq_eq_false_iff_ne.2 (by subst hk; decide)
        have k121 : ((h.toNat : Int) == 121) = false := beq_eq_false_iff_ne.2 (by subst hk; decide)
        have k121' : (h.toNat == 121) = false := beq_eq_false_iff_ne.2 (by subst hk; decide)
        have k110 : ((h.toNat : Int) == 110) = false := beq_eq_false_iff_ne.2 (by subst hk; decide)
        have k110' : (h.toNat == 110) = false := beq_eq_false_iff_ne.2 (by subst hk; decide)
        have k108 : ((h.toNat : Int) == 108) = true := by subst hk; rfl
        have k108' : (h.toNat == 108) = true := by subst hk; rfl
        have HN := Lib.hid (show Calls Try.prog 74 #[.int .i64 1, .pointer (some ⟨R, 0, none⟩)] (w1.drew.setCell ⟨R, 0, none⟩ (.string Q)) fun e w' => e = .returned (.tuple #[.int .i64 (accB 0 (s.take 1)), .bool true]) ∧ w'.heap[R]? = some (.cells #[.string (str (s.drop 1))] 9 (0, 0)) ∧ Fr (fun k => k = R) (w1.drew.setCell ⟨R, 0, none⟩ (.string Q)) w' from number_yes R 1 s (w1.drew.setCell ⟨R, 0, none⟩ (.string Q)) (by rw [← HQ.out]; exact HR2.out) (by rw [hs0]; simp) (by decide) (by omega))
        obtain ⟨n, hn⟩ : ∃ n, n = c.toNat := ⟨_, rfl⟩
        rw [show accB 0 (s.take 1) = (n : Int) by rw [hs0, hn]; exact accB_one c r, show s.drop 1 = r by rw [hs0]; rfl] at HN
        clear hk hR2 hs0 hn
        go_enter Try.func55, Try.ntmps55
        go_wp2_with fail
        rw [← HW1.out.2, ← HW1.out.1]
        go_wp2_with fail
        refine wp_region_still_tail 5 (by kernel_rfl) (by kernel_rfl) ?_
        simp only [List.take_succ_cons, List.take_zero, List.drop_succ_cons, List.drop_zero]
        change wpStill _ _ w1.drew (fun a' => wpList _ _ _ _ a' w1.drew) _ _
        repeat still_step
        refine wpStill_nil ?_
        go_wp2_with fail
        refine HN.out.mono ?_
        rintro e w3 ⟨rfl, r3, f3⟩
        have HF3 := Lib.hid (show Fr (fun _ => False) w w3 from HF2.out.trans f3 (fun i hi => .inr (by rw [hi, HW1.out.2]; exact Nat.le_refl _)))
        clear f3 r3
        go_wp2_with fail
        go_ret3
        exact PaP.no HD.out rfl HF3.out
  | succ j ih =>
    intro d hj l hl w
    match l, hl with
    | [], _ => exact parse_nil (j + 1) d w
    | h :: s, hl =>
      by_cases hk : h = 108
      rotate_left
      · exact parse_leaf (j + 1) d h s (by simp at hl; omega) hk w
      match s, hl with
      | [], _ => subst hk; exact parse_none (j + 1) d hj w
      | c :: r, hl =>
        obtain ⟨s, hs0⟩ : ∃ s, s = c :: r := ⟨_, rfl⟩
        rw [← hs0] at hl ⊢
        have hl : s.length ≤ 4611686018427387904 := by simp at hl; omega
        have hrl : r.length ≤ 4611686018427387904 := by rw [hs0] at hl; simp at hl; omega
        have HD0 := Lib.hid (show decA (j + 1) (h :: s) = (decN (decA j) c.toNat r).map (fun x => (.row x.1, x.2)) by rw [hk, hs0]; rfl)
        have d0 : ((d : Int) == 8) = false := beq_eq_false_iff_ne.2 (by omega)
        have d0' : (d == 8) = false := beq_eq_false_iff_ne.2 (by omega)
        have HJ := Lib.hid (show d + 1 + j = 8 by omega)
        have HIH := Lib.hid ih
        have hd7 : d ≤ 7 := by omega
        obtain ⟨i0, hi, hz0, hz1, hz2⟩ := info_parts infoAny
        have HI := Lib.hid (And.intro hi (And.intro hz0 (And.intro hz1 hz2)))
        clear hi hz0 hz1 hz2 ih hj
        obtain ⟨S, hS⟩ : ∃ x, x = str (h :: s) := ⟨_, rfl⟩
        rw [← hS]
        have hx := head_at h s S hS
        have hSs : S.size = s.length + 1 := by rw [hS, str_size]; rfl
        have hs1 : 1 ≤ S.size := by omega
        have hs1' : (1 : Int) ≤ (S.size : Int) := by omega
        have t0 : (S.toList == []) = false := by rw [hS, str_toList]; rfl
        have t0' : S.toList.isEmpty = false := by rw [hS, str_toList]; rfl
        have hsb : S.size ≤ 9223372036854775807 := by omega
        obtain ⟨Q, hQ⟩ : ∃ x, x = str s := ⟨_, rfl⟩
        have hx1 : S.extract 1 S.size = Q := by rw [hS, ex_drop, hQ]; rfl
        obtain ⟨w1, hw1⟩ : ∃ w1, w1 = w.alloc (.cells #[.string S] 9) := ⟨_, rfl⟩
        obtain ⟨R, hRd⟩ : ∃ g, g = w.heap.size := ⟨_, rfl⟩
        have hb1 : w1.heap[R]? = some (.cells #[.string S] 9 (0, 0)) := by rw [hw1, hRd]; exact heap_alloc_new w _
        have cR : w1.drew.cell? ⟨R, 0, none⟩ = some (.string S) := (cell_of_row w1 R 0 _ _ _ hb1).trans rfl
        have cR1 : w1.cell? ⟨R, 0, none⟩ = some (.string S) := (cell_of_row w1 R 0 _ _ _ hb1).trans rfl
        have fR : w1.drew.frozen? ⟨R, 0, none⟩ = false := frozen_of_row w1.drew _ _ _ _ hb1
        have HW1 := Lib.hid (And.intro hw1 hRd)
        have HF1 := Lib.hid (show Fr (fun _ => False) w w1 by rw [hw1]; exact (Fr.refl _ _).alloc _)
        have HB1 := Lib.hid hb1
        have HQ := Lib.hid hQ
        have HSL := Lib.hid hSs
        clear hS hSs hQ hw1 hRd hb1
        have hR2 : (w1.drew.setCell ⟨R, 0, none⟩ (.string Q)).heap[R]? = some (.cells #[.string Q] 9 (0, 0)) := heap_setCell_same w1.drew R 0 _ _ _ HB1.out
        have HF2 := Lib.hid (show Fr (fun _ => False) w (w1.drew.setCell ⟨R, 0, none⟩ (.string Q)) from (HF1.out.drew).setCell _ _ (.inr (by rw [HW1.out.2]; exact Nat.le_refl _)))
        have HR2 := Lib.hid hR2
        have k105 : ((h.toNat : Int) == 105) = false := beq_eq_false_iff_ne.2 (by subst hk; decide)
        have k105' : (h.toNat == 105) = false := beq_eq_false_iff_ne.2 (by subst hk; decide)
        have k115 : ((h.toNat : Int) == 115) = false := beq_eq_false_iff_ne.2 (by subst hk; decide)
        have k115' : (h.toNat == 115) = false := beq_eq_false_iff_ne.2 (by subst hk; decide)
        have k121 : ((h.toNat : Int) == 121) = false := beq_eq_false_iff_ne.2 (by subst hk; decide)
        have k121' : (h.toNat == 121) = false := beq_eq_false_iff_ne.2 (by subst hk; decide)
        have k110 : ((h.toNat : Int) == 110) = false := beq_eq_false_iff_ne.2 (by subst hk; decide)
        have k110' : (h.toNat == 110) = false := beq_eq_false_iff_ne.2 (by subst hk; decide)
        have k108 : ((h.toNat : Int) == 108) = true := by subst hk; rfl
        have k108' : (h.toNat == 108) = true := by subst hk; rfl
        have HN := Lib.hid (show Calls Try.prog 74 #[.int .i64 1, .pointer (some ⟨R, 0, none⟩)] (w1.drew.setCell ⟨R, 0, none⟩ (.string Q)) fun e w' => e = .returned (.tuple #[.int .i64 (accB 0 (s.take 1)), .bool true]) ∧ w'.heap[R]? = some (.cells #[.string (str (s.drop 1))] 9 (0, 0)) ∧ Fr (fun k => k = R) (w1.drew.setCell ⟨R, 0, none⟩ (.string Q)) w' from number_yes R 1 s (w1.drew.setCell ⟨R, 0, none⟩ (.string Q)) (by rw [← HQ.out]; exact HR2.out) (by rw [hs0]; simp) (by decide) (by omega))
        obtain ⟨n, hn⟩ : ∃ n, n = c.toNat := ⟨_, rfl⟩
        rw [show accB 0 (s.take 1) = (n : Int) by rw [hs0, hn]; exact accB_one c r, show s.drop 1 = r by rw [hs0]; rfl] at HN
        have hn256 : n ≤ 255 := by rw [hn]; have := c.toNat_lt; omega
        rw [← hn] at HD0
        have HRL := Lib.hid hrl
        clear hk hR2 hs0 hn hrl
        go_enter Try.func55, Try.ntmps55
        go_wp2_with fail
        rw [← HW1.out.2, ← HW1.out.1]
        go_wp2_with fail
        refine wp_region_still_tail 5 (by kernel_rfl) (by kernel_rfl) ?_
        simp only [List.take_succ_cons, List.take_zero, List.drop_succ_cons, List.drop_zero]
        change wpStill _ _ w1.drew (fun a' => wpList _ _ _ _ a' w1.drew) _ _
        repeat still_step
        refine wpStill_nil ?_
        go_wp2_with fail
        refine HN.out.mono ?_
        rintro e w3 ⟨rfl, r3, f3⟩
        have HR3 := Lib.hid r3
        have HF3 := Lib.hid (show Fr (fun _ => False) w w3 from HF2.out.trans f3 (fun i hi => .inr (by rw [hi, HW1.out.2]; exact Nat.le_refl _)))
        have HOW0 := Lib.hid (ownA0 w3 (R + 1) (by have := lt_of_heap r3; omega))
        clear f3 r3
        go_wp2_with (first | (refine wpList_buildA0 rfl rfl ?_))
        go_loopw [15, 82] (fun v i wr => ∃ (u : Nat) (al : List AV) (xs : List Value) (rest : List UInt8), u ≤ n ∧ i = .int .i64 (u : Int) ∧ wr.heap[R]? = some (.cells #[.string (str rest)] 9 (0, 0)) ∧ ARow wr (R + 1) v al xs ∧ Aside (decN (decA j) u r = some (al, rest)) ∧ Fr (fun _ => False) w wr) (fun _ i _ => n - (intOf i).toNat)
        case atStart => exact ⟨0, [], [], r, Nat.zero_le _, rfl, ((Fr.refl (fun _ => False) w3).alloc _).heap HR3.out id, ⟨HOW0.out, ⟨_, _, _, rfl⟩, fun i a ha => by simp at ha⟩, rfl, HF3.out.alloc _⟩
        case round =>
          obtain ⟨u, al, xs, rest, hu, rfl, hrr, har, hdn, hfr⟩ := hrel
          have HF := Lib.hid hfr
          have HRR := Lib.hid hrr
          have HAR := Lib.hid har
          have HDN := Lib.hid (show decN (decA j) u r = some (al, rest) from hdn)
          have hlen := decN_len j u r al rest hdn
          obtain ⟨gv, nv, cv, rfl⟩ := har.ne
          have HGe := Lib.hid har.ge
          obtain ⟨Q4, hQ4⟩ : ∃ x, x = str rest := ⟨_, rfl⟩
          have cR : wr.cell? ⟨R, 0, none⟩ = some (.string Q4) := by rw [hQ4]; exact (cell_of_row wr R 0 _ _ _ hrr).trans rfl
          have HQ4 := Lib.hid hQ4
          have HLn := Lib.hid (And.intro hlen.2 (show rest.length ≤ 4611686018427387904 from Nat.le_trans hlen.1 HRL.out))
          have HSz := Lib.hid (show R + 1 ≤ wr.heap.size by have := lt_of_heap hrr; omega)
          clear hfr hrr har hdn hlen hQ4
          by_cases hlt : u < n
          · have hi0 : (u : Int) < (n : Int) := by omega
            have HC := Lib.hid (HIH.out (d + 1) HJ.out rest HLn.out.2 wr)
            have hw1 : IntKind.i64.wrap ((d : Int) + 1) = ((d + 1 : Nat) : Int) := by rw [IntWalk.i64_in _ (by omega)]; omega
            obtain ⟨d1, hd1⟩ : ∃ x, x = d + 1 := ⟨_, rfl⟩
            rw [← hd1] at HC hw1
            rw [← HQ4.out] at HC
            clear hd1
            go_wp2_with fail
            refine HC.out.mono ?_
            rintro e w5 ⟨v1, r1, ok1, rfl, hone, hcase, f5⟩
            have HV1 := Lib.hid hone
            have HF5 := Lib.hid f5
            cases hdc : decA j rest with
            | none =>
              rw [hdc] at hcase
              obtain rfl : ok1 = false := hcase
              have HD := Lib.hid (show decA (j + 1) (h :: s) = none by
                have h1 : decN (decA j) (u + 1) r = none := by rw [decN_snoc, HDN.out]; dsimp only; rw [hdc]
                have h2 := decN_stop (decA j) (u + 1) r h1 (n - (u + 1))
                rw [HD0.out, show n = u + 1 + (n - (u + 1)) by omega, h2]; rfl)
              have HF6 := Lib.hid (HF.out.trans f5 (fun i hi => hi.elim))
              clear f5 hdc HC hone
              go_wp2_with fail
              go_ret3
              exact PaP.no HD.out rfl HF6.out
            | some x =>
              obtain ⟨a1, rest1⟩ := x
              rw [hdc] at hcase
              obtain ⟨rfl, rfl, hr1⟩ := hcase
              have HR1 := Lib.hid hr1
              have HDN2 := Lib.hid (show decN (decA j) (u + 1) r = some (al ++ [a1], rest1) by rw [decN_snoc, HDN.out]; dsimp only; rw [hdc])
              have HOW := Lib.hid (((Fr.refl (fun _ => False) w5).alloc (.cells #[v1] 20)).own (f5.own HAR.out.own (fun _ _ => id)) (fun _ _ => id))
              have HBB := Lib.hid (show R + 1 ≤ w5.heap.size from Nat.le_trans HSz.out f5.size)
              obtain ⟨Q5, hQ5⟩ : ∃ x, x = str rest1 := ⟨_, rfl⟩
              have HQ5 := Lib.hid hQ5
              rw [← hQ5]
              have HR5 := Lib.hid (f5.heap HRR.out id)
              clear f5 hdc HC hone hr1 hQ5
              go_wp2_with (first | (refine wpList_buildA1 rfl _ rfl v1 rfl HV1.out ?_) | (with_reducible refine wpList_append_own_at (o := ⟨some 97, _, _, _, _, _⟩) _ rfl _ _ 58 rfl (R + 1) 20 i0 .nilIface 1 16 Try.underlying58 HI.out.1 HI.out.2.1 HI.out.2.2.1 HI.out.2.2.2 rfl (by decide) (.slice (some ⟨gv, 0, none⟩) nv cv) _ _ rfl HOW.out ⟨w5.heap.size, 0, none⟩ 1 1 [v1] rfl rfl ?c1 ?c2 ?c3 ?c4 ?c5 ?_))
              case c1 =>
                intro j u hj
                rw [Addr.add_lit, Nat.zero_add, cell_of_row _ w5.heap.size j _ _ _ (heap_alloc_new w5 _)]
                simpa using hj
              case c2 => intro u hu; simp only [List.mem_cons, List.not_mem_nil, or_false] at hu; subst hu; exact HV1.out
              case c3 => have := HLn.out; unfold maxLen; omega
              case c4 => have := HLn.out; omega
              case c5 => have := HBB.out; simp; omega
              intro v' w6 hown' hgrow hnil hat
              have hpush := HAR.out.push (w2 := w5.alloc (.cells #[v1] 20)) (w3 := w6) (v' := v') (HF5.out.alloc _) (HR1.out.frF ((Fr.refl _ _).alloc _)) HSz.out hown' hgrow (by rw [World.size_alloc]; exact hat)
              have hfg : Fr (fun k => some k = (Value.slice (some ⟨gv, 0, none⟩) nv cv).ownBlock) w5 w6 := ((Fr.refl _ _).alloc _).grown hgrow (fun k hk => .inl hk.symm)
              have hR6 : w6.heap[R]? = some (.cells #[.string (str rest)] 9 (0, 0)) := hfg.heap HR5.out (fun e => by
                have h1 : R = gv := Option.some.inj e
                have := HGe.out
                omega)
              have cR6 : w6.cell? ⟨R, 0, none⟩ = some (.string (str rest)) := (cell_of_row w6 R 0 _ _ _ hR6).trans rfl
              have fR6 : w6.frozen? ⟨R, 0, none⟩ = false := frozen_of_row w6 _ _ _ _ hR6
              have HR7 := Lib.hid (show (w6.setCell ⟨R, 0, none⟩ (.string Q5)).heap[R]? = some (.cells #[.string (str rest1)] 9 (0, 0)) by rw [← HQ5.out]; exact heap_setCell_same w6 R 0 _ _ _ hR6)
              have HP7 := Lib.hid (hpush.fr ((Fr.refl (fun k => k = R) w6).setCell ⟨R, 0, none⟩ (.string Q5) (.inl rfl)) (fun k hk e => by omega))
              have HF7 := Lib.hid (show Fr (fun _ => False) w (w6.setCell ⟨R, 0, none⟩ (.string Q5)) from ((HF.out.trans HF5.out (fun i hi => hi.elim)).trans hfg (fun i hi => .inr (by
                have h1 : i = gv := Option.some.inj hi
                have h2 := HGe.out
                have h3 := HW1.out.2
                omega))).setCell _ _ (.inr (by rw [HW1.out.2]; exact Nat.le_refl _)))
              obtain ⟨gv', nv', cv', rfl⟩ := hpush.ne
              clear hown' hgrow hnil hat hpush hfg hR6
              go_wp2_with fail
              go_roundw
              case rel => exact ⟨u + 1, _, _, rest1, by omega, by go_num, HR7.out, HP7.out, HDN2.out, HF7.out⟩
              case measure => simp [intOf]; omega
          · obtain rfl : u = n := by omega
            have hge : ¬ (u : Int) < (u : Int) := by omega
            have HD := Lib.hid (show decA (j + 1) (h :: s) = some (.row al, rest) by rw [HD0.out, HDN.out]; rfl)
            have cRd : wr.drew.cell? ⟨R, 0, none⟩ = some (.string Q4) := cR
            have HFin := Lib.hid (HAR.out.done)
            clear hlt
            go_wp2_with fail
            go_quiet (fail)
            go_wp2_with fail
            go_ret3
            rw [HQ4.out]
            exact PaP.yes HD.out ((HFin.out.mono (fun b hb => by have := HW1.out.2; omega)).frF ((Fr.refl _ _).drewN _)) (HF.out.drewN _)
def PaRe (l : List UInt8) (w : World) (e : Ending) (w' : World) : Prop := ∃ (v : Value) (c : Int), e = .returned (.tuple #[v, .int .i64 c]) ∧ v.oneCell' = true ∧ (match decA 8 l with
  | some (a, []) => c = 0 ∧ AR w' (fun i => w.heap.size ≤ i) a v
  | _ => c = 2 ∧ v = .nilIface) ∧ Fr (fun _ => False) w w'
set_option maxRecDepth 20000 in
set_option maxHeartbeats 4000000 in
theorem vparse_calls (l : List UInt8) (hl : l.length ≤ 4611686018427387904) (w : World) : Calls Try.prog 20 #[.string (str l)] w (PaRe l w) := by
  have HC := Lib.hid (parse_calls 8 0 rfl l hl w)
  obtain ⟨S, hS⟩ : ∃ x, x = str l := ⟨_, rfl⟩
  rw [← hS] at HC ⊢
  clear hS hl
  go_enter Try.func20, Try.ntmps20
  go_wp2_with fail
  refine HC.out.mono ?_
  rintro e w5 ⟨v1, r1, ok1, rfl, hone, hcase, f5⟩
  have HV1 := Lib.hid hone
  have HF5 := Lib.hid f5
  clear hone f5
  cases hd : decA 8 l with
  | none =>
    rw [hd] at hcase
    obtain rfl : ok1 = false := hcase
    have HD := Lib.hid hd
    clear hd
    go_wp2_with fail
    go_ret2
    exact ⟨_, _, rfl, rfl, by rw [HD.out]; exact ⟨rfl, rfl⟩, HF5.out⟩
  | some x =>
    obtain ⟨a, rest⟩ := x
    rw [hd] at hcase
    obtain ⟨rfl, rfl, hr1⟩ := hcase
    have HD := Lib.hid hd
    have HR1 := Lib.hid hr1
    clear hd hr1
    cases rest with
    | nil =>
      obtain ⟨Q, hQ⟩ : ∃ x, x = str [] := ⟨_, rfl⟩
      have t1 : (Q.toList == []) = true := by rw [hQ, str_toList]; rfl
      have t2 : (Q.toList != []) = false := by rw [hQ, str_toList]; rfl
      have t3 : Q.toList.isEmpty = true := by rw [hQ, str_toList]; rfl
      have t4 : Q.toList = [] := by rw [hQ, str_toList]
      rw [← hQ]
      clear hQ
      go_wp2_with fail
      go_ret2
      exact ⟨_, _, rfl, HV1.out, by rw [HD.out]; exact ⟨rfl, HR1.out⟩, HF5.out⟩
    | cons c t =>
      obtain ⟨Q, hQ⟩ : ∃ x, x = str (c :: t) := ⟨_, rfl⟩
      have t1 : (Q.toList == []) = false := by rw [hQ, str_toList]; rfl
      have t2 : (Q.toList != []) = true := by rw [hQ, str_toList]; rfl
      have t3 : Q.toList.isEmpty = false := by rw [hQ, str_toList]; rfl
      rw [← hQ]
      clear hQ
      go_wp2_with fail
      go_ret2
      exact ⟨_, _, rfl, rfl, by rw [HD.out]; exact ⟨rfl, rfl⟩, HF5.out⟩
end Go.Proofs.Ythmpmpepokeedaa
