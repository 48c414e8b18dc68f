/- The ring's walks: Domain, domain, the document's too. -/
import Derived.Test.YtcchhfkmhbjdmaaPr1
set_option linter.unusedVariables false
set_option linter.unusedSimpArgs false
set_option pp.deepTerms true
set_option pp.maxSteps 100000
namespace Go.Proofs.Ytcchhfkmhbjdmaa
open Go.RowKit
def domName (n : Int) : List UInt8 := 100 :: fourL n
def domainF (root : List UInt8) (n : Int) (draw : List UInt8) : List UInt8 × Int :=
  if n < 1 ∨ 8 < n then ([], 1) else wrapF root (domName n) (derL [100, 111, 109, 97, 105, 110] draw (fourL n))
def domF (root : List UInt8) (n : Int) (wr : List UInt8) : List UInt8 × Int := if n < 1 ∨ 8 < n then ([], 1) else unwrapF root (domName n) wr
theorem domName_str (n : Int) : (⟨#[100]⟩ : ByteArray) ++ str (fourL n) = str (domName n) := jstr_append [100] _
theorem fourL_length (n : Int) : (fourL n).length = 4 := rfl
set_option maxRecDepth 20000 in
set_option maxHeartbeats 1000000 in
theorem domain_no (A : Nat) (n : Int) (hn : badN n) (T : ByteArray) (w : World) : Calls Try.prog 55 #[.pointer (some ⟨A, 0, none⟩), .int .i64 n, .string T] w fun e w' => e = .returned (.tuple #[.string ⟨#[]⟩, .int .i64 1]) ∧ Fr (fun _ => False) w w' := by
  have HD := Lib.hid (fun w => domains_no n hn w)
  clear hn
  go_enter Try.func55, Try.ntmps55
  go_wp2_with fail
  refine (HD.out _).mono ?_
  rintro e w' ⟨rfl, hww⟩
  rw [hww]
  clear hww w'
  go_wp2_with fail
  go_ret2
  exact ⟨rfl, Fr.refl _ _⟩
set_option maxRecDepth 20000 in
set_option maxHeartbeats 1000000 in
theorem domain_good (A : Nat) (root : List UInt8) (n : Int) (hn : ¬ badN n) (third : List UInt8) (ht : third.length ≤ 50000) (w : World) (hA : w.heap[A]? = some (.cells #[.string (str root)] 132 (0, 0))) :
    Calls Try.prog 55 #[.pointer (some ⟨A, 0, none⟩), .int .i64 n, .string (str third)] w fun e w' => e = .returned (.tuple #[.string (str (domainF root n third).1), .int .i64 (domainF root n third).2]) ∧ Fr (fun _ => False) w w' := by
  have hspec : domainF root n third = wrapF root (domName n) (derL [100, 111, 109, 97, 105, 110] third (fourL n)) := if_neg hn
  rw [hspec]
  obtain ⟨U, hU⟩ : ∃ s, s = str root := ⟨_, rfl⟩
  obtain ⟨X, hX⟩ : ∃ s, s = str third := ⟨_, rfl⟩
  obtain ⟨F, hF⟩ : ∃ s, s = str (fourL n) := ⟨_, rfl⟩
  obtain ⟨N, hN⟩ : ∃ s, s = str (domName n) := ⟨_, rfl⟩
  obtain ⟨D, hD⟩ : ∃ s, s = str (derL [100, 111, 109, 97, 105, 110] third (fourL n)) := ⟨_, rfl⟩
  obtain ⟨R, hR⟩ : ∃ s, s = str (wrapF root (domName n) (derL [100, 111, 109, 97, 105, 110] third (fourL n))).1 := ⟨_, rfl⟩
  obtain ⟨c, hc⟩ : ∃ c, c = (wrapF root (domName n) (derL [100, 111, 109, 97, 105, 110] third (fourL n))).2 := ⟨_, rfl⟩
  have cA : w.cell? ⟨A, 0, none⟩ = some (.string U) := by rw [hU]; exact (cell_of_row w A 0 _ _ _ hA).trans rfl
  have HCA := Lib.hid cA
  have ap : (⟨#[100]⟩ : ByteArray) ++ F = N := by rw [hF, hN]; exact domName_str n
  have hsf : F.size = 4 := by rw [hF, str_size]; rfl
  have b0 : ¬ 9223372036854775807 < (⟨#[100]⟩ : ByteArray).size + F.size := by show ¬ _ < 1 + F.size; omega
  have b0' : (⟨#[100]⟩ : ByteArray).size + F.size ≤ 9223372036854775807 := by show 1 + F.size ≤ _; omega
  have b0'' : 1 + F.size ≤ 9223372036854775807 := by omega
  have HDom := Lib.hid (fun w => domains_yes n hn w)
  have HFour := Lib.hid (show ∀ w, Calls Try.prog 95 #[.int .i64 n] w fun e w' => e = .returned (.string F) ∧ Fr (fun _ => False) w w' from fun w => by rw [hF]; exact rgfour_calls n hn w)
  have HDer := Lib.hid (show ∀ w, Calls Try.prog 96 #[.string ⟨#[100, 111, 109, 97, 105, 110]⟩, .string X, .string F] w fun e w' => e = .returned (.string D) ∧ Fr (fun _ => False) w w' from fun w => by rw [hX, hF, hD]; exact derived_calls [100, 111, 109, 97, 105, 110] third (fourL n) (by simp) (by omega) (by rw [fourL_length]; omega) w)
  have HFin := Lib.hid (show ∀ w, Calls Try.prog 48 #[.string U, .string N, .string D] w fun e w' => e = .returned (.tuple #[.string R, .int .i64 c]) ∧ Fr (fun _ => False) w w' from fun w => by rw [hU, hN, hD, hR, hc]; exact wrap_all _ _ _ w)
  rw [← hX, ← hR, ← hc]
  clear hspec hX hU hF hN hR hc hA ht hn hD
  go_enter Try.func55, Try.ntmps55
  go_wp2_with fail
  refine (HDom.out _).mono ?_
  rintro e w' ⟨rfl, hww⟩
  rw [hww]
  clear hww w'
  clear cA
  go_wp2_with fail
  refine wp_region_till (fun W' => Fr (fun _ => False) w.drew W') 11 (by kernel_rfl) ?_
  have HCd : Hid (w.drew.cell? ⟨A, 0, none⟩ = some (.string U)) := Lib.hid (by have := HCA.out; go_simp)
  have HS0 := Lib.hid (Fr.refl (fun _ => False) w.drew)
  refine wpAnyT_take (i := 0) (n := 16) (v := .pointer (some ⟨A, 0, none⟩)) rfl (by kernel_rfl) (fun _ _ _ h => h) HS0.out (yieldsIf_plain rfl (fun W' hW => by clear hW; go_simp)) ?_
  simp only [List.getElem_toArray, List.getElem_cons_succ, List.getElem_cons_zero, Act.put, List.setIfInBounds_toArray, List.set_cons_zero, List.set_cons_succ]
  refine wpAnyT_take (i := 1) (n := 16) (v := .pointer (some ⟨A, 0, none⟩)) rfl (by kernel_rfl) (fun _ _ _ h => h) HS0.out (yieldsIf_plain rfl (fun W' hW => by clear hW; go_simp)) ?_
  simp only [List.getElem_toArray, List.getElem_cons_succ, List.getElem_cons_zero, Act.put, List.setIfInBounds_toArray, List.set_cons_zero, List.set_cons_succ]
  refine wpAnyT_take (i := 2) (n := 16) (v := .pointer (some ⟨A, 0, none⟩)) rfl (by kernel_rfl) (fun _ _ _ h => h) HS0.out (yieldsIf_plain rfl (fun W' hW => by clear hW; go_simp)) ?_
  simp only [List.getElem_toArray, List.getElem_cons_succ, List.getElem_cons_zero, Act.put, List.setIfInBounds_toArray, List.set_cons_zero, List.set_cons_succ]
  refine wpAnyT_take (i := 3) (n := 16) (v := .string U) rfl (by kernel_rfl) (fun _ _ _ h => h) HS0.out (yieldsIf_plain rfl (fun W' hW => by have cA := hW.cell HCd.out id; clear hW; go_simp)) ?_
  simp only [List.getElem_toArray, List.getElem_cons_succ, List.getElem_cons_zero, Act.put, List.setIfInBounds_toArray, List.set_cons_zero, List.set_cons_succ]
  refine wpAnyT_take (i := 4) (n := 16) (v := .int .i64 n) rfl (by kernel_rfl) (fun _ _ _ h => h) HS0.out (yieldsIf_plain rfl (fun W' hW => by clear hW; go_simp)) ?_
  simp only [List.getElem_toArray, List.getElem_cons_succ, List.getElem_cons_zero, Act.put, List.setIfInBounds_toArray, List.set_cons_zero, List.set_cons_succ]
  refine wpAnyT_take (i := 7) (n := 16) (v := .string X) rfl (by kernel_rfl) (fun _ _ _ h => h) HS0.out (yieldsIf_plain rfl (fun W' hW => by clear hW; go_simp)) ?_
  simp only [List.getElem_toArray, List.getElem_cons_succ, List.getElem_cons_zero, Act.put, List.setIfInBounds_toArray, List.set_cons_zero, List.set_cons_succ]
  refine wpAnyT_take (i := 8) (n := 16) (v := .int .i64 n) rfl (by kernel_rfl) (fun _ _ _ h => h) HS0.out (yieldsIf_plain rfl (fun W' hW => by clear hW; go_simp)) ?_
  simp only [List.getElem_toArray, List.getElem_cons_succ, List.getElem_cons_zero, Act.put, List.setIfInBounds_toArray, List.set_cons_zero, List.set_cons_succ]
  refine wpAnyT_one (i := 5) rfl (by kernel_rfl) (wpOp_plain rfl rfl (fun K hK => ?_))
  simp only [List.getElem_toArray, List.getElem_cons_succ, List.getElem_cons_zero, Act.put, List.setIfInBounds_toArray, List.set_cons_zero, List.set_cons_succ]
  have HKK := Lib.hid hK
  clear hK
  go_wp2_with fail
  refine (HFour.out _).mono ?_
  rintro e w1 ⟨rfl, f1⟩
  have HS1 := Lib.hid (HS0.out.trans f1 (fun i hi => hi.elim))
  clear f1
  go_wp2_with fail
  refine HKK.out _ _ ⟨fun _ => HS1.out, ?_⟩
  clear HKK K
  try simp only [List.getElem_toArray, List.getElem_cons_succ, List.getElem_cons_zero, Act.put, List.setIfInBounds_toArray, List.set_cons_zero, List.set_cons_succ]
  refine wpAnyT_take (i := 6) (n := 16) (v := .string N) rfl (by kernel_rfl) (fun _ _ _ h => h) HS1.out (yieldsIf_plain rfl (fun W' hW => by clear hW; go_simp)) ?_
  simp only [List.getElem_toArray, List.getElem_cons_succ, List.getElem_cons_zero, Act.put, List.setIfInBounds_toArray, List.set_cons_zero, List.set_cons_succ]
  refine wpAnyT_one (i := 9) rfl (by kernel_rfl) (wpOp_plain rfl rfl (fun K hK => ?_))
  simp only [List.getElem_toArray, List.getElem_cons_succ, List.getElem_cons_zero, Act.put, List.setIfInBounds_toArray, List.set_cons_zero, List.set_cons_succ]
  have HKK := Lib.hid hK
  clear hK
  go_wp2_with fail
  refine (HFour.out _).mono ?_
  rintro e w2 ⟨rfl, f2⟩
  have HS2 := Lib.hid (HS1.out.trans f2 (fun i hi => hi.elim))
  clear f2
  go_wp2_with fail
  refine HKK.out _ _ ⟨fun _ => HS2.out, ?_⟩
  clear HKK K
  try simp only [List.getElem_toArray, List.getElem_cons_succ, List.getElem_cons_zero, Act.put, List.setIfInBounds_toArray, List.set_cons_zero, List.set_cons_succ]
  refine wpAnyT_one (i := 10) rfl (by kernel_rfl) (wpOp_plain rfl rfl (fun K hK => ?_))
  simp only [List.getElem_toArray, List.getElem_cons_succ, List.getElem_cons_zero, Act.put, List.setIfInBounds_toArray, List.set_cons_zero, List.set_cons_succ]
  have HKK := Lib.hid hK
  clear hK
  go_wp2_with fail
  refine (HDer.out _).mono ?_
  rintro e w3 ⟨rfl, f3⟩
  have HS3 := Lib.hid (HS2.out.trans f3 (fun i hi => hi.elim))
  clear f3
  go_wp2_with fail
  refine HKK.out _ _ ⟨fun _ => HS3.out, ?_⟩
  clear HKK K
  try simp only [List.getElem_toArray, List.getElem_cons_succ, List.getElem_cons_zero, Act.put, List.setIfInBounds_toArray, List.set_cons_zero, List.set_cons_succ]
  refine wpAnyT_one (i := 11) rfl (by kernel_rfl) (wpOp_plain rfl rfl (fun K hK => ?_))
  simp only [List.getElem_toArray, List.getElem_cons_succ, List.getElem_cons_zero, Act.put, List.setIfInBounds_toArray, List.set_cons_zero, List.set_cons_succ]
  have HKK := Lib.hid hK
  clear hK
  go_wp2_with fail
  refine (HFin.out _).mono ?_
  rintro e w4 ⟨rfl, f4⟩
  have HS4 := Lib.hid (HS3.out.trans f4 (fun i hi => hi.elim))
  clear f4
  go_wp2_with fail
  refine HKK.out _ _ ⟨fun _ => HS4.out, ?_⟩
  clear HKK K
  try simp only [List.getElem_toArray, List.getElem_cons_succ, List.getElem_cons_zero, Act.put, List.setIfInBounds_toArray, List.set_cons_zero, List.set_cons_succ]
  refine wpAnyT_done (by first | rfl | kernel_rfl) _ _ _ ?_
  refine wpAny_take (i := 12) (v := .string R) rfl (by kernel_rfl) (by kernel_rfl) (by kernel_rfl) (fun _ _ _ h => h) (.inl ⟨rfl, fun W' => by go_simp⟩) ?_
  simp only [List.getElem_toArray, List.getElem_cons_succ, List.getElem_cons_zero, Act.put, List.setIfInBounds_toArray, List.set_cons_zero, List.set_cons_succ]
  refine wpAny_take (i := 13) (v := .int .i64 c) rfl (by kernel_rfl) (by kernel_rfl) (by kernel_rfl) (fun _ _ _ h => h) (.inl ⟨rfl, fun W' => by go_simp⟩) ?_
  simp only [List.getElem_toArray, List.getElem_cons_succ, List.getElem_cons_zero, Act.put, List.setIfInBounds_toArray, List.set_cons_zero, List.set_cons_succ]
  refine wpAny_take (i := 14) (v := .string R) rfl (by kernel_rfl) (by kernel_rfl) (by kernel_rfl) (fun _ _ _ h => h) (.inl ⟨rfl, fun W' => by go_simp⟩) ?_
  simp only [List.getElem_toArray, List.getElem_cons_succ, List.getElem_cons_zero, Act.put, List.setIfInBounds_toArray, List.set_cons_zero, List.set_cons_succ]
  refine wpAny_take (i := 15) (v := .int .i64 c) rfl (by kernel_rfl) (by kernel_rfl) (by kernel_rfl) (fun _ _ _ h => h) (.inl ⟨rfl, fun W' => by go_simp⟩) ?_
  simp only [List.getElem_toArray, List.getElem_cons_succ, List.getElem_cons_zero, Act.put, List.setIfInBounds_toArray, List.set_cons_zero, List.set_cons_succ]
  refine wpAny_done (by kernel_rfl) ?_ _
  have HF := Lib.hid (((Fr.refl (fun _ => False) w).drew).trans HS4.out (fun i hi => hi.elim))
  go_wp2_with fail
  go_ret2
  exact ⟨rfl, HF.out⟩
theorem domain_all (A : Nat) (root : List UInt8) (n : Int) (third : List UInt8) (ht : third.length ≤ 50000) (w : World) (hA : w.heap[A]? = some (.cells #[.string (str root)] 132 (0, 0))) :
    Calls Try.prog 55 #[.pointer (some ⟨A, 0, none⟩), .int .i64 n, .string (str third)] w fun e w' => e = .returned (.tuple #[.string (str (domainF root n third).1), .int .i64 (domainF root n third).2]) ∧ Fr (fun _ => False) w w' := by
  by_cases hn : badN n
  · have hspec : domainF root n third = ([], 1) := if_pos hn
    rw [hspec]
    exact domain_no A n hn (str third) w
  · exact domain_good A root n hn third ht w hA
set_option maxRecDepth 20000 in
set_option maxHeartbeats 1000000 in
theorem dom_no (A : Nat) (n : Int) (hn : badN n) (T : ByteArray) (w : World) : Calls Try.prog 123 #[.pointer (some ⟨A, 0, none⟩), .int .i64 n, .string T] w fun e w' => e = .returned (.tuple #[.string ⟨#[]⟩, .int .i64 1]) ∧ Fr (fun _ => False) w w' := by
  have HD := Lib.hid (fun w => domains_no n hn w)
  clear hn
  go_enter Try.func123, Try.ntmps123
  go_wp2_with fail
  refine (HD.out _).mono ?_
  rintro e w' ⟨rfl, hww⟩
  rw [hww]
  clear hww w'
  go_wp2_with fail
  go_ret2
  exact ⟨rfl, Fr.refl _ _⟩
set_option maxRecDepth 20000 in
set_option maxHeartbeats 1000000 in
theorem dom_good (A : Nat) (root : List UInt8) (n : Int) (hn : ¬ badN n) (third : List UInt8) (ht : third.length ≤ 50000) (w : World) (hA : w.heap[A]? = some (.cells #[.string (str root)] 132 (0, 0))) :
    Calls Try.prog 123 #[.pointer (some ⟨A, 0, none⟩), .int .i64 n, .string (str third)] w fun e w' => e = .returned (.tuple #[.string (str (domF root n third).1), .int .i64 (domF root n third).2]) ∧ Fr (fun _ => False) w w' := by
  have hspec : domF root n third = unwrapF root (domName n) third := if_neg hn
  rw [hspec]
  obtain ⟨U, hU⟩ : ∃ s, s = str root := ⟨_, rfl⟩
  obtain ⟨X, hX⟩ : ∃ s, s = str third := ⟨_, rfl⟩
  obtain ⟨F, hF⟩ : ∃ s, s = str (fourL n) := ⟨_, rfl⟩
  obtain ⟨N, hN⟩ : ∃ s, s = str (domName n) := ⟨_, rfl⟩
  obtain ⟨R, hR⟩ : ∃ s, s = str (unwrapF root (domName n) third).1 := ⟨_, rfl⟩
  obtain ⟨c, hc⟩ : ∃ c, c = (unwrapF root (domName n) third).2 := ⟨_, rfl⟩
  have cA : w.cell? ⟨A, 0, none⟩ = some (.string U) := by rw [hU]; exact (cell_of_row w A 0 _ _ _ hA).trans rfl
  have HCA := Lib.hid cA
  have ap : (⟨#[100]⟩ : ByteArray) ++ F = N := by rw [hF, hN]; exact domName_str n
  have hsf : F.size = 4 := by rw [hF, str_size]; rfl
  have b0 : ¬ 9223372036854775807 < (⟨#[100]⟩ : ByteArray).size + F.size := by show ¬ _ < 1 + F.size; omega
  have b0' : (⟨#[100]⟩ : ByteArray).size + F.size ≤ 9223372036854775807 := by show 1 + F.size ≤ _; omega
  have b0'' : 1 + F.size ≤ 9223372036854775807 := by omega
  have HDom := Lib.hid (fun w => domains_yes n hn w)
  have HFour := Lib.hid (show ∀ w, Calls Try.prog 95 #[.int .i64 n] w fun e w' => e = .returned (.string F) ∧ Fr (fun _ => False) w w' from fun w => by rw [hF]; exact rgfour_calls n hn w)
  have HFin := Lib.hid (show ∀ w, Calls Try.prog 50 #[.string U, .string N, .string X] w fun e w' => e = .returned (.tuple #[.string R, .int .i64 c]) ∧ Fr (fun _ => False) w w' from fun w => by rw [hU, hN, hX, hR, hc]; exact unwrap_all _ _ _ w)
  rw [← hX, ← hR, ← hc]
  clear hspec hX hU hF hN hR hc hA ht hn
  go_enter Try.func123, Try.ntmps123
  go_wp2_with fail
  refine (HDom.out _).mono ?_
  rintro e w' ⟨rfl, hww⟩
  rw [hww]
  clear hww w'
  clear cA
  go_wp2_with fail
  refine wp_region_till (fun W' => Fr (fun _ => False) w.drew W') 8 (by kernel_rfl) ?_
  have HCd : Hid (w.drew.cell? ⟨A, 0, none⟩ = some (.string U)) := Lib.hid (by have := HCA.out; go_simp)
  have HS0 := Lib.hid (Fr.refl (fun _ => False) w.drew)
  refine wpAnyT_take (i := 0) (n := 16) (v := .pointer (some ⟨A, 0, none⟩)) rfl (by kernel_rfl) (fun _ _ _ h => h) HS0.out (yieldsIf_plain rfl (fun W' hW => by clear hW; go_simp)) ?_
  simp only [List.getElem_toArray, List.getElem_cons_succ, List.getElem_cons_zero, Act.put, List.setIfInBounds_toArray, List.set_cons_zero, List.set_cons_succ]
  refine wpAnyT_take (i := 1) (n := 16) (v := .pointer (some ⟨A, 0, none⟩)) rfl (by kernel_rfl) (fun _ _ _ h => h) HS0.out (yieldsIf_plain rfl (fun W' hW => by clear hW; go_simp)) ?_
  simp only [List.getElem_toArray, List.getElem_cons_succ, List.getElem_cons_zero, Act.put, List.setIfInBounds_toArray, List.set_cons_zero, List.set_cons_succ]
  refine wpAnyT_take (i := 2) (n := 16) (v := .pointer (some ⟨A, 0, none⟩)) rfl (by kernel_rfl) (fun _ _ _ h => h) HS0.out (yieldsIf_plain rfl (fun W' hW => by clear hW; go_simp)) ?_
  simp only [List.getElem_toArray, List.getElem_cons_succ, List.getElem_cons_zero, Act.put, List.setIfInBounds_toArray, List.set_cons_zero, List.set_cons_succ]
  refine wpAnyT_take (i := 3) (n := 16) (v := .string U) rfl (by kernel_rfl) (fun _ _ _ h => h) HS0.out (yieldsIf_plain rfl (fun W' hW => by have cA := hW.cell HCd.out id; clear hW; go_simp)) ?_
  simp only [List.getElem_toArray, List.getElem_cons_succ, List.getElem_cons_zero, Act.put, List.setIfInBounds_toArray, List.set_cons_zero, List.set_cons_succ]
  refine wpAnyT_take (i := 4) (n := 16) (v := .int .i64 n) rfl (by kernel_rfl) (fun _ _ _ h => h) HS0.out (yieldsIf_plain rfl (fun W' hW => by clear hW; go_simp)) ?_
  simp only [List.getElem_toArray, List.getElem_cons_succ, List.getElem_cons_zero, Act.put, List.setIfInBounds_toArray, List.set_cons_zero, List.set_cons_succ]
  refine wpAnyT_take (i := 7) (n := 16) (v := .string X) rfl (by kernel_rfl) (fun _ _ _ h => h) HS0.out (yieldsIf_plain rfl (fun W' hW => by clear hW; go_simp)) ?_
  simp only [List.getElem_toArray, List.getElem_cons_succ, List.getElem_cons_zero, Act.put, List.setIfInBounds_toArray, List.set_cons_zero, List.set_cons_succ]
  refine wpAnyT_one (i := 5) rfl (by kernel_rfl) (wpOp_plain rfl rfl (fun K hK => ?_))
  simp only [List.getElem_toArray, List.getElem_cons_succ, List.getElem_cons_zero, Act.put, List.setIfInBounds_toArray, List.set_cons_zero, List.set_cons_succ]
  have HKK := Lib.hid hK
  clear hK
  go_wp2_with fail
  refine (HFour.out _).mono ?_
  rintro e w1 ⟨rfl, f1⟩
  have HS1 := Lib.hid (HS0.out.trans f1 (fun i hi => hi.elim))
  clear f1
  go_wp2_with fail
  refine HKK.out _ _ ⟨fun _ => HS1.out, ?_⟩
  clear HKK K
  try simp only [List.getElem_toArray, List.getElem_cons_succ, List.getElem_cons_zero, Act.put, List.setIfInBounds_toArray, List.set_cons_zero, List.set_cons_succ]
  refine wpAnyT_take (i := 6) (n := 16) (v := .string N) rfl (by kernel_rfl) (fun _ _ _ h => h) HS1.out (yieldsIf_plain rfl (fun W' hW => by clear hW; go_simp)) ?_
  simp only [List.getElem_toArray, List.getElem_cons_succ, List.getElem_cons_zero, Act.put, List.setIfInBounds_toArray, List.set_cons_zero, List.set_cons_succ]
  refine wpAnyT_one (i := 8) rfl (by kernel_rfl) (wpOp_plain rfl rfl (fun K hK => ?_))
  simp only [List.getElem_toArray, List.getElem_cons_succ, List.getElem_cons_zero, Act.put, List.setIfInBounds_toArray, List.set_cons_zero, List.set_cons_succ]
  have HKK := Lib.hid hK
  clear hK
  go_wp2_with fail
  refine (HFin.out _).mono ?_
  rintro e w4 ⟨rfl, f4⟩
  have HS4 := Lib.hid (HS1.out.trans f4 (fun i hi => hi.elim))
  clear f4
  go_wp2_with fail
  refine HKK.out _ _ ⟨fun _ => HS4.out, ?_⟩
  clear HKK K
  try simp only [List.getElem_toArray, List.getElem_cons_succ, List.getElem_cons_zero, Act.put, List.setIfInBounds_toArray, List.set_cons_zero, List.set_cons_succ]
  refine wpAnyT_done (by first | rfl | kernel_rfl) _ _ _ ?_
  refine wpAny_take (i := 9) (v := .string R) rfl (by kernel_rfl) (by kernel_rfl) (by kernel_rfl) (fun _ _ _ h => h) (.inl ⟨rfl, fun W' => by go_simp⟩) ?_
  simp only [List.getElem_toArray, List.getElem_cons_succ, List.getElem_cons_zero, Act.put, List.setIfInBounds_toArray, List.set_cons_zero, List.set_cons_succ]
  refine wpAny_take (i := 10) (v := .int .i64 c) rfl (by kernel_rfl) (by kernel_rfl) (by kernel_rfl) (fun _ _ _ h => h) (.inl ⟨rfl, fun W' => by go_simp⟩) ?_
  simp only [List.getElem_toArray, List.getElem_cons_succ, List.getElem_cons_zero, Act.put, List.setIfInBounds_toArray, List.set_cons_zero, List.set_cons_succ]
  refine wpAny_take (i := 11) (v := .string R) rfl (by kernel_rfl) (by kernel_rfl) (by kernel_rfl) (fun _ _ _ h => h) (.inl ⟨rfl, fun W' => by go_simp⟩) ?_
  simp only [List.getElem_toArray, List.getElem_cons_succ, List.getElem_cons_zero, Act.put, List.setIfInBounds_toArray, List.set_cons_zero, List.set_cons_succ]
  refine wpAny_take (i := 12) (v := .int .i64 c) rfl (by kernel_rfl) (by kernel_rfl) (by kernel_rfl) (fun _ _ _ h => h) (.inl ⟨rfl, fun W' => by go_simp⟩) ?_
  simp only [List.getElem_toArray, List.getElem_cons_succ, List.getElem_cons_zero, Act.put, List.setIfInBounds_toArray, List.set_cons_zero, List.set_cons_succ]
  refine wpAny_done (by kernel_rfl) ?_ _
  have HF := Lib.hid (((Fr.refl (fun _ => False) w).drew).trans HS4.out (fun i hi => hi.elim))
  go_wp2_with fail
  go_ret2
  exact ⟨rfl, HF.out⟩
theorem dom_all (A : Nat) (root : List UInt8) (n : Int) (third : List UInt8) (ht : third.length ≤ 50000) (w : World) (hA : w.heap[A]? = some (.cells #[.string (str root)] 132 (0, 0))) :
    Calls Try.prog 123 #[.pointer (some ⟨A, 0, none⟩), .int .i64 n, .string (str third)] w fun e w' => e = .returned (.tuple #[.string (str (domF root n third).1), .int .i64 (domF root n third).2]) ∧ Fr (fun _ => False) w w' := by
  by_cases hn : badN n
  · have hspec : domF root n third = ([], 1) := if_pos hn
    rw [hspec]
    exact dom_no A n hn (str third) w
  · exact dom_good A root n hn third ht w hA
set_option maxRecDepth 20000 in
set_option maxHeartbeats 1000000 in
theorem refdomain_no (U X : ByteArray) (n : Int) (hn : badN n) (w : World) : Calls Try.prog 56 #[.string U, .int .i64 n, .string X] w fun e w' => e = .returned (.tuple #[.string ⟨#[]⟩, .int .i64 1]) ∧ Fr (fun _ => False) w w' := by
  by_cases h : n < 1
  · have d1 : decide (n < (1 : Int)) = true := decide_eq_true (by omega)
    clear hn h
    go_enter Try.func56, Try.ntmps56
    go_wp2_with fail
    go_ret2
    exact ⟨rfl, Fr.refl _ _⟩
  · have d1 : decide (n < (1 : Int)) = false := decide_eq_false (by omega)
    have d2 : decide ((8 : Int) < n) = true := decide_eq_true (by unfold badN at hn; omega)
    clear hn h
    go_enter Try.func56, Try.ntmps56
    go_wp2_with fail
    go_ret2
    exact ⟨rfl, Fr.refl _ _⟩
set_option maxRecDepth 20000 in
set_option maxHeartbeats 1000000 in
theorem refdomain_good (root : List UInt8) (n : Int) (hn : ¬ badN n) (third : List UInt8) (ht : third.length ≤ 50000) (w : World) :
    Calls Try.prog 56 #[.string (str root), .int .i64 n, .string (str third)] w fun e w' => e = .returned (.tuple #[.string (str (domainF root n third).1), .int .i64 (domainF root n third).2]) ∧ Fr (fun _ => False) w w' := by
  have hspec : domainF root n third = wrapF root (domName n) (derL [100, 111, 109, 97, 105, 110] third (fourL n)) := if_neg hn
  rw [hspec]
  obtain ⟨U, hU⟩ : ∃ s, s = str root := ⟨_, rfl⟩
  obtain ⟨X, hX⟩ : ∃ s, s = str third := ⟨_, rfl⟩
  obtain ⟨F, hF⟩ : ∃ s, s = str (fourL n) := ⟨_, rfl⟩
  obtain ⟨N, hN⟩ : ∃ s, s = str (domName n) := ⟨_, rfl⟩
  obtain ⟨D, hD⟩ : ∃ s, s = str (derL [100, 111, 109, 97, 105, 110] third (fourL n)) := ⟨_, rfl⟩
  obtain ⟨R, hR⟩ : ∃ s, s = str (wrapF root (domName n) (derL [100, 111, 109, 97, 105, 110] third (fourL n))).1 := ⟨_, rfl⟩
  obtain ⟨c, hc⟩ : ∃ c, c = (wrapF root (domName n) (derL [100, 111, 109, 97, 105, 110] third (fourL n))).2 := ⟨_, rfl⟩
  have ap : (⟨#[100]⟩ : ByteArray) ++ F = N := by rw [hF, hN]; exact domName_str n
  have hsf : F.size = 4 := by rw [hF, str_size]; rfl
  have b0 : ¬ 9223372036854775807 < (⟨#[100]⟩ : ByteArray).size + F.size := by show ¬ _ < 1 + F.size; omega
  have b0' : (⟨#[100]⟩ : ByteArray).size + F.size ≤ 9223372036854775807 := by show 1 + F.size ≤ _; omega
  have b0'' : 1 + F.size ≤ 9223372036854775807 := by omega
  have d1 : decide (n < (1 : Int)) = false := decide_eq_false (by unfold badN at hn; omega)
  have d2 : decide ((8 : Int) < n) = false := decide_eq_false (by unfold badN at hn; omega)
  have HFour := Lib.hid (show ∀ w, Calls Try.prog 97 #[.int .i64 n] w fun e w' => e = .returned (.string F) ∧ Fr (fun _ => False) w w' from fun w => by rw [hF]; exact rgreffour_calls n hn w)
  have HDer := Lib.hid (show ∀ w, Calls Try.prog 64 #[.string ⟨#[100, 111, 109, 97, 105, 110]⟩, .string X, .string F] w fun e w' => e = .returned (.string D) ∧ Fr (fun _ => False) w w' from fun w => by rw [hX, hF, hD]; exact refderived_calls [100, 111, 109, 97, 105, 110] third (fourL n) (by simp) (by omega) (by rw [fourL_length]; omega) w)
  have HFin := Lib.hid (show ∀ w, Calls Try.prog 49 #[.string U, .string N, .string D] w fun e w' => e = .returned (.tuple #[.string R, .int .i64 c]) ∧ Fr (fun _ => False) w w' from fun w => by rw [hU, hN, hD, hR, hc]; exact refwrap_all _ _ _ w)
  rw [← hU, ← hX, ← hR, ← hc]
  clear hspec hX hU hF hN hR hc ht hn hD
  go_enter Try.func56, Try.ntmps56
  go_wp2_with fail
  refine (HFour.out w).mono ?_
  rintro e w1 ⟨rfl, f1⟩
  have G1 := Lib.hid (f1)
  clear f1
  go_wp2_with fail
  refine (HFour.out w1).mono ?_
  rintro e w2 ⟨rfl, f2⟩
  have G2 := Lib.hid (G1.out.trans f2 (fun i hi => hi.elim))
  clear f2
  go_wp2_with fail
  refine (HDer.out w2).mono ?_
  rintro e w3 ⟨rfl, f3⟩
  have G3 := Lib.hid (G2.out.trans f3 (fun i hi => hi.elim))
  clear f3
  go_wp2_with fail
  refine (HFin.out w3).mono ?_
  rintro e w4 ⟨rfl, f4⟩
  have G4 := Lib.hid (G3.out.trans f4 (fun i hi => hi.elim))
  clear f4
  go_wp2_with fail
  go_ret2
  exact ⟨rfl, G4.out⟩
theorem refdomain_all (root : List UInt8) (n : Int) (third : List UInt8) (ht : third.length ≤ 50000) (w : World) :
    Calls Try.prog 56 #[.string (str root), .int .i64 n, .string (str third)] w fun e w' => e = .returned (.tuple #[.string (str (domainF root n third).1), .int .i64 (domainF root n third).2]) ∧ Fr (fun _ => False) w w' := by
  by_cases hn : badN n
  · have hspec : domainF root n third = ([], 1) := if_pos hn
    rw [hspec]
    exact refdomain_no _ _ n hn w
  · exact refdomain_good root n hn third ht w
end Go.Proofs.Ytcchhfkmhbjdmaa
