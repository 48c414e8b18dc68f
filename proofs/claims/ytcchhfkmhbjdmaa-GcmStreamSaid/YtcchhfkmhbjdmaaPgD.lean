/- Sealed texts: awake. -/
import Derived.Test.YtcchhfkmhbjdmaaPgB
import Derived.Test.YtcchhfkmhbjdmaaPgC
set_option linter.unusedVariables false
set_option linter.unusedSimpArgs false
set_option pp.deepTerms true
set_option pp.maxSteps 100000
namespace Go.Proofs.Ytcchhfkmhbjdmaa
open Go.RowKit
set_option maxRecDepth 20000 in
set_option maxHeartbeats 1000000 in
theorem gcm_awake (w : World) : Calls Try.prog 40 #[] w fun e w' => e = .returned (.bool true) ∧ Fr (fun _ => False) w w' := by
  obtain ⟨Z32, hZ32⟩ : ∃ s, s = str z32 := ⟨_, rfl⟩
  obtain ⟨Z12, hZ12⟩ : ∃ s, s = str z12 := ⟨_, rfl⟩
  obtain ⟨Z16, hZ16⟩ : ∃ s, s = str z16 := ⟨_, rfl⟩
  obtain ⟨A0, hA0⟩ : ∃ s, s = str ka0 := ⟨_, rfl⟩
  obtain ⟨A1, hA1⟩ : ∃ s, s = str ka1 := ⟨_, rfl⟩
  have H32 := Lib.hid (show ∀ w, Calls Try.prog 46 #[.int .i64 32] w fun e w' => e = .returned (.string Z32) ∧ Fr (fun _ => False) w w' from fun w => by rw [hZ32]; exact noughts_calls 32 (by omega) w)
  have H12 := Lib.hid (show ∀ w, Calls Try.prog 46 #[.int .i64 12] w fun e w' => e = .returned (.string Z12) ∧ Fr (fun _ => False) w w' from fun w => by rw [hZ12]; exact noughts_calls 12 (by omega) w)
  have H16 := Lib.hid (show ∀ w, Calls Try.prog 46 #[.int .i64 16] w fun e w' => e = .returned (.string Z16) ∧ Fr (fun _ => False) w w' from fun w => by rw [hZ16]; exact noughts_calls 16 (by omega) w)
  have HS0 := Lib.hid (show ∀ w, Calls Try.prog 41 #[.string Z32, .string Z12, .string ⟨#[]⟩, .string ⟨#[]⟩] w fun e w' => e = .returned (.tuple #[.string A0, .int .i64 0]) ∧ Fr (fun _ => False) w w' from fun w => by
    have h := seal_yes z32 z12 [] [] rfl rfl (by decide) (by decide) w
    rw [ka_seal0] at h
    rw [hZ32, hZ12, hA0]; exact h)
  have HS1 := Lib.hid (show ∀ w, Calls Try.prog 41 #[.string Z32, .string Z12, .string ⟨#[]⟩, .string Z16] w fun e w' => e = .returned (.tuple #[.string A1, .int .i64 0]) ∧ Fr (fun _ => False) w w' from fun w => by
    have h := seal_yes z32 z12 [] z16 rfl rfl (by decide) (by decide) w
    rw [ka_seal1] at h
    rw [hZ32, hZ12, hZ16, hA1]; exact h)
  have HO1 := Lib.hid (show ∀ w, Calls Try.prog 43 #[.string Z32, .string Z12, .string ⟨#[]⟩, .string A1] w fun e w' => e = .returned (.tuple #[.string Z16, .int .i64 0]) ∧ Fr (fun _ => False) w w' from fun w => by
    have h := open_calls z32 z12 [] ka1 rfl rfl (by decide) (by decide) (by decide) w
    rw [show opensL z32 z12 [] ka1 = true from ka_open1, show openL z32 z12 ka1 = z16 from ka_text] at h
    rw [hZ32, hZ12, hA1, hZ16]; exact h)
  have HO2 := Lib.hid (show ∀ w, Calls Try.prog 43 #[.string Z32, .string Z12, .string ⟨#[120]⟩, .string A1] w fun e w' => e = .returned (.tuple #[.string ⟨#[]⟩, .int .i64 8]) ∧ Fr (fun _ => False) w w' from fun w => by
    have h := open_calls z32 z12 [120] ka1 rfl rfl (by decide) (by decide) (by decide) w
    rw [show opensL z32 z12 [120] ka1 = false from ka_open2] at h
    rw [hZ32, hZ12, hA1]; exact h)
  have HO3 := Lib.hid (fun w => open_no ⟨#[]⟩ ⟨#[]⟩ ⟨#[]⟩ ⟨#[]⟩ (by decide) (by decide) (.inl (by decide)) w)
  have r0 : (A0.toList == [83, 15, 138, 251, 199, 69, 54, 185, 169, 99, 180, 241, 196, 203, 115, 139]) = true := by rw [hA0, str_toList]; decide
  have r1 : (A1.toList == [206, 167, 64, 61, 77, 96, 107, 110, 7, 78, 197, 211, 186, 243, 157, 24, 208, 209, 200, 167, 153, 153, 107, 240, 38, 91, 152, 181, 212, 138, 185, 25]) = true := by rw [hA1, str_toList]; decide
  clear hZ32 hZ12 hZ16 hA0 hA1
  go_enter Try.func40, Try.ntmps40
  go_wp2_with fail
  refine (H32.out w).mono ?_
  rintro e w1 ⟨rfl, f1⟩
  have HF1 := Lib.hid f1
  clear f1
  go_wp2_with fail
  refine (H12.out w1).mono ?_
  rintro e w2 ⟨rfl, f2⟩
  have HF2 := Lib.hid (HF1.out.trans f2 (fun i hi => hi.elim))
  clear f2
  go_wp2_with fail
  refine (HS0.out w2).mono ?_
  rintro e w3 ⟨rfl, f3⟩
  have HF3 := Lib.hid (HF2.out.trans f3 (fun i hi => hi.elim))
  clear f3
  go_wp2_with fail
  refine (H32.out w3).mono ?_
  rintro e w4 ⟨rfl, f4⟩
  have HF4 := Lib.hid (HF3.out.trans f4 (fun i hi => hi.elim))
  clear f4
  go_wp2_with fail
  refine (H12.out w4).mono ?_
  rintro e w5 ⟨rfl, f5⟩
  have HF5 := Lib.hid (HF4.out.trans f5 (fun i hi => hi.elim))
  clear f5
  go_wp2_with fail
  refine (H16.out w5).mono ?_
  rintro e w6 ⟨rfl, f6⟩
  have HF6 := Lib.hid (HF5.out.trans f6 (fun i hi => hi.elim))
  clear f6
  go_wp2_with fail
  refine (HS1.out w6).mono ?_
  rintro e w7 ⟨rfl, f7⟩
  have HF7 := Lib.hid (HF6.out.trans f7 (fun i hi => hi.elim))
  clear f7
  go_wp2_with fail
  refine (H32.out w7).mono ?_
  rintro e w8 ⟨rfl, f8⟩
  have HF8 := Lib.hid (HF7.out.trans f8 (fun i hi => hi.elim))
  clear f8
  go_wp2_with fail
  refine (H12.out w8).mono ?_
  rintro e w9 ⟨rfl, f9⟩
  have HF9 := Lib.hid (HF8.out.trans f9 (fun i hi => hi.elim))
  clear f9
  go_wp2_with fail
  refine (HO1.out w9).mono ?_
  rintro e w10 ⟨rfl, f10⟩
  have HF10 := Lib.hid (HF9.out.trans f10 (fun i hi => hi.elim))
  clear f10
  go_wp2_with fail
  refine (H32.out w10).mono ?_
  rintro e w11 ⟨rfl, f11⟩
  have HF11 := Lib.hid (HF10.out.trans f11 (fun i hi => hi.elim))
  clear f11
  go_wp2_with fail
  refine (H12.out w11).mono ?_
  rintro e w12 ⟨rfl, f12⟩
  have HF12 := Lib.hid (HF11.out.trans f12 (fun i hi => hi.elim))
  clear f12
  go_wp2_with fail
  refine (HO2.out w12).mono ?_
  rintro e w13 ⟨rfl, f13⟩
  have HF13 := Lib.hid (HF12.out.trans f13 (fun i hi => hi.elim))
  clear f13
  go_wp2_with fail
  refine (HO3.out w13).mono ?_
  rintro e w14 ⟨rfl, f14⟩
  have HF14 := Lib.hid (HF13.out.trans f14 (fun i hi => hi.elim))
  clear f14
  go_wp2_with fail
  refine (H16.out w14).mono ?_
  rintro e w15 ⟨rfl, f15⟩
  have HF15 := Lib.hid (HF14.out.trans f15 (fun i hi => hi.elim))
  clear f15
  go_wp2_with fail
  go_ret
  exact ⟨rfl, HF15.out⟩
end Go.Proofs.Ytcchhfkmhbjdmaa
