/- The ring: known answers; awake. -/
import Derived.Test.YtcchhfkmhbjdmaaPr4
set_option linter.unusedVariables false
set_option linter.unusedSimpArgs false
set_option pp.deepTerms true
set_option pp.maxSteps 100000
namespace Go.Proofs.Ytcchhfkmhbjdmaa
open Go.RowKit
def rgK : List UInt8 := [97, 153, 89, 105, 54, 19, 147, 185, 166, 181, 184, 229, 80, 101, 222, 214, 196, 212, 34, 28, 104, 111, 224, 197, 43, 26, 122, 156, 167, 252, 171, 152]
def rgO : List UInt8 := [73, 78, 120, 88, 28, 84, 183, 80, 248, 201, 112, 77, 164, 178, 229, 1, 201, 253, 180, 42, 241, 224, 48, 13, 63, 199, 220, 28, 165, 36, 181, 81]
def rgB : List UInt8 := [238, 243, 232, 175, 129, 182, 207, 125, 75, 150, 227, 196, 164, 132, 224, 92, 192, 99, 119, 194, 136, 204, 54, 204, 107, 149, 178, 48, 120, 35, 121, 55]
def rgN1 : List UInt8 := [98, 105, 100, 1]
def rgN2 : List UInt8 := [98, 105, 100, 2]
def rgW : List UInt8 := [89, 4, 137, 2, 29, 247, 36, 192, 167, 138, 37, 136]
def rgWo : List UInt8 := [147, 190, 197, 117, 105, 236, 245, 131, 131, 168, 5, 54]
def rgH : List UInt8 := [80, 36, 14, 66, 102, 189, 127, 109, 207, 111, 18, 118, 45, 210, 206, 118]
def rgC1 : List UInt8 := [161, 200, 129, 10, 76, 75, 236, 207, 180, 32, 227, 51, 142, 238, 92, 145]
def rgC2 : List UInt8 := [14, 17, 137, 17, 84, 67, 72, 122, 241, 193, 185, 204, 42, 165, 227, 108]
def rgC3 : List UInt8 := [22, 152, 18, 47, 1, 138, 84, 194, 57, 5, 160, 41, 207, 56, 104, 69]
def rgBd : List UInt8 := [224, 226, 97, 190, 213, 245, 135, 7, 186, 87, 90, 8, 142, 33, 3, 48, 214, 251, 101, 237, 137, 70, 98, 14, 82, 144, 18, 25, 183, 27, 17, 114]
def rgA1 : List UInt8 := [98, 105, 100, 1, 0, 0, 0, 0, 0, 0, 0, 0, 0, 0, 0, 0, 224, 226, 97, 190, 213, 245, 135, 7, 186, 87, 90, 8, 142, 33, 3, 48, 214, 251, 101, 237, 137, 70, 98, 14, 82, 144, 18, 25, 183, 27, 17, 114, 0, 0, 0, 0, 0, 0, 0, 32, 0, 0, 0, 0, 0, 0, 1, 0]
def rgA2 : List UInt8 := [98, 105, 100, 2, 0, 0, 0, 0, 0, 0, 0, 0, 0, 0, 0, 0, 224, 226, 97, 190, 213, 245, 135, 7, 186, 87, 90, 8, 142, 33, 3, 48, 214, 251, 101, 237, 137, 70, 98, 14, 82, 144, 18, 25, 183, 27, 17, 114, 0, 0, 0, 0, 0, 0, 0, 32, 0, 0, 0, 0, 0, 0, 1, 0]
def dnL : List UInt8 := [100, 111, 109, 97, 105, 110]
set_option maxRecDepth 100000
theorem rg_k : derL [100, 111, 109, 97, 105, 110] [100, 114, 97, 119] (fourL 1) = rgK := by decide +kernel
theorem rg_o : derL [100, 111, 109, 97, 105, 110] [111, 116, 104, 101, 114] (fourL 2) = rgO := by decide +kernel
theorem rg_b : derL [98, 97, 99, 107, 105, 110, 103] [109, 111, 114, 101] [105, 100, 1] = rgB := by decide +kernel
theorem rg_w : wnL rgK rgN1 rgB = rgW := by decide +kernel
theorem rg_wo : wnL rgO rgN1 rgB = rgWo := by decide +kernel
theorem rg_h : press (words rgK 52) (List.replicate 16 0) = rgH := by decide +kernel
theorem rg_1 : ctr (words rgK 52) rgW 1 = rgC1 := by decide +kernel
theorem rg_2 : ctr (words rgK 52) rgW 2 = rgC2 := by decide +kernel
theorem rg_3 : ctr (words rgK 52) rgW 3 = rgC3 := by decide +kernel
def rghk : W2 := loadL rgH
theorem rg_hk : hkey rgK = rghk := by unfold hkey; rw [rg_h]; rfl
theorem rg_bd : bodyL (words rgK 52) rgW rgB = rgBd := by
  rw [← bodyN_all _ _ _ 2 (by decide)]
  show ([] ++ turnL (chunk rgB 0) (ctr (words rgK 52) rgW 2)) ++ turnL (chunk rgB 1) (ctr (words rgK 52) rgW 3) = _
  rw [rg_2, rg_3]; decide +kernel
theorem rg_a1 : allL rgN1 rgBd = rgA1 := by decide +kernel
theorem rg_a2 : allL rgN2 rgBd = rgA2 := by decide +kernel
theorem rg_ne : turnL (textL (ghF rghk rgA2 4)) rgC1 ≠ turnL (textL (ghF rghk rgA1 4)) rgC1 := by decide +kernel
theorem rg_no : unwraps rgK rgN2 (wrapL rgK rgN1 rgB) = false := by
  unfold unwraps
  rw [(wrap_parts rgK rgN1 rgB).1, (wrap_parts rgK rgN1 rgB).2, opens_seal, rg_w, rg_bd]
  have h : tagL rgK rgW rgN2 rgBd ≠ tagL rgK rgW rgN1 rgBd := by
    unfold tagL
    rw [rg_1, rg_hk, rg_a1, rg_a2]
    exact rg_ne
  rw [decide_eq_false h]; rfl
theorem rg_unlike : wrapL rgO rgN1 rgB ≠ wrapL rgK rgN1 rgB := by
  intro h
  have h2 := congrArg (List.take 12) h
  rw [(wrap_parts rgO rgN1 rgB).1, (wrap_parts rgK rgN1 rgB).1, rg_w, rg_wo] at h2
  exact absurd h2 (by decide)
theorem wrapF_yes (U N K : List UInt8) (hu : U.length = 32) (hk : K.length = 32) (hn : N.length ≤ 64) : wrapF U N K = (wrapL U N K, 0) := by
  unfold wrapF; rw [if_neg (by omega), if_neg (by omega)]
theorem unwrapF_wrap (U N K : List UInt8) (hu : U.length = 32) (hk : K.length = 32) (hn : N.length ≤ 64) : unwrapF U N (wrapL U N K) = (K, 0) := by
  unfold unwrapF; rw [if_neg (by rw [wrapL_length]; omega), if_neg (by omega), unwraps_wrap, unkey_wrap]; rfl
def rgR : List UInt8 := k0
theorem rgR_len : k0.length = 32 := rfl
def rgDw : List UInt8 := wrapL k0 (domName 1) rgK
def rgOw : List UInt8 := wrapL k0 (domName 2) rgO
def rgBw : List UInt8 := wrapL rgK rgN1 rgB
def rgRw : List UInt8 := wrapL rgO rgN1 rgB
theorem rg_dom1 : domainF k0 1 [100, 114, 97, 119] = (rgDw, 0) := by
  unfold domainF; rw [if_neg (by decide), rg_k, wrapF_yes _ _ _ rfl rfl (by decide)]; rfl
theorem rg_dom2 : domainF k0 2 [111, 116, 104, 101, 114] = (rgOw, 0) := by
  unfold domainF; rw [if_neg (by decide), rg_o, wrapF_yes _ _ _ rfl rfl (by decide)]; rfl
theorem rg_un1 : domF k0 1 rgDw = (rgK, 0) := by
  unfold domF; rw [if_neg (by decide)]; exact unwrapF_wrap _ _ _ rfl rfl (by decide)
theorem rg_un2 : domF k0 2 rgOw = (rgO, 0) := by
  unfold domF; rw [if_neg (by decide)]; exact unwrapF_wrap _ _ _ rfl rfl (by decide)
theorem rg_back : withF k0 1 rgDw [105, 100] 1 (backDo [109, 111, 114, 101]) = (rgBw, 0) := by
  unfold withF; rw [if_neg (by decide), if_neg (by decide), rg_un1, if_pos rfl]
  show wrapF rgK rgN1 (derL [98, 97, 99, 107, 105, 110, 103] [109, 111, 114, 101] [105, 100, 1]) = _
  rw [rg_b, wrapF_yes _ _ _ rfl rfl (by decide)]; rfl
theorem rg_key : withF k0 1 rgDw [105, 100] 1 (keyDo rgBw) = (rgB, 0) := by
  unfold withF; rw [if_neg (by decide), if_neg (by decide), rg_un1, if_pos rfl]
  show unwrapF rgK rgN1 (wrapL rgK rgN1 rgB) = _
  exact unwrapF_wrap _ _ _ rfl rfl (by decide)
theorem rg_bad : withF k0 1 rgDw [105, 100] 2 (keyDo rgBw) = ([], 8) := by
  unfold withF; rw [if_neg (by decide), if_neg (by decide), rg_un1, if_pos rfl]
  show unwrapF rgK rgN2 (wrapL rgK rgN1 rgB) = _
  unfold unwrapF
  rw [if_neg (by rw [wrapL_length]; decide), if_neg (by decide), rg_no]; rfl
theorem rg_rew : rewrapF k0 1 rgDw 2 rgOw [105, 100] 1 rgBw = (rgRw, 0) := by
  unfold rewrapF; rw [rg_key, if_pos rfl]
  unfold withF; rw [if_neg (by decide), if_neg (by decide), rg_un2, if_pos rfl]
  show wrapF rgO rgN1 rgB = _
  rw [wrapF_yes _ _ _ rfl rfl (by decide)]; rfl
theorem rg_key2 : withF k0 2 rgOw [105, 100] 1 (keyDo rgRw) = (rgB, 0) := by
  unfold withF; rw [if_neg (by decide), if_neg (by decide), rg_un2, if_pos rfl]
  show unwrapF rgO rgN1 (wrapL rgO rgN1 rgB) = _
  exact unwrapF_wrap _ _ _ rfl rfl (by decide)
set_option maxRecDepth 20000 in
set_option maxHeartbeats 4000000 in
theorem ring_awake (w : World) : Calls Try.prog 52 #[] w fun e w' => e = .returned (.bool true) ∧ Fr (fun _ => False) w w' := by
  obtain ⟨K0, hK0⟩ : ∃ s, s = str k0 := ⟨_, rfl⟩
  obtain ⟨D, hD⟩ : ∃ s, s = str rgDw := ⟨_, rfl⟩
  obtain ⟨O, hO⟩ : ∃ s, s = str rgOw := ⟨_, rfl⟩
  obtain ⟨BB, hBB⟩ : ∃ s, s = str rgBw := ⟨_, rfl⟩
  obtain ⟨KK, hKK⟩ : ∃ s, s = str rgB := ⟨_, rfl⟩
  obtain ⟨RW, hRW⟩ : ∃ s, s = str rgRw := ⟨_, rfl⟩
  obtain ⟨DX, hDX⟩ : ∃ s, s = str (derL [100, 97, 116, 97] [120] []) := ⟨_, rfl⟩
  have hsd : D.size = 60 := by rw [hD, str_size, rgDw, wrapL_length]; rfl
  have hsb : BB.size = 60 := by rw [hBB, str_size, rgBw, wrapL_length]; rfl
  have hsk : KK.size = 32 := by rw [hKK, str_size]; rfl
  have hsx : DX.size = 32 := by rw [hDX, str_size, derL_length]
  have hne : (RW.toList == BB.toList) = false := by
    rw [hRW, hBB, str_toList, str_toList]
    exact beq_eq_false_iff_ne.2 rg_unlike
  have hne2 : (RW.toList != BB.toList) = true := by rw [bne, hne]; rfl
  have HC0 := Lib.hid (show ∀ w, Calls Try.prog 68 #[.int .u8 0, .int .i64 32] w fun e w' => e = .returned (.string K0) ∧ Fr (fun _ => False) w w' from fun w => by rw [hK0]; exact counted_calls 0 32 (by omega) w)
  have HNew := Lib.hid (show ∀ w, Calls Try.prog 54 #[.string K0] w fun e w' => ∃ R, e = .returned (.tuple #[.pointer (some ⟨R, 0, none⟩), .int .i64 0]) ∧ w'.heap[R]? = some (.cells #[.string K0] 132 (0, 0)) ∧ Fr (fun _ => False) w w' from fun w => by rw [hK0]; exact rgnew_yes k0 rfl w)
  have HNo := Lib.hid (fun w => rgnew_no ⟨#[]⟩ (by decide) w)
  have HData := Lib.hid (show ∀ w, Calls Try.prog 63 #[.string ⟨#[120]⟩] w fun e w' => e = .returned (.string DX) ∧ Fr (fun _ => False) w w' from fun w => by rw [hDX]; exact data_calls [120] (by simp) w)
  have HD1 := Lib.hid (show ∀ R w', w'.heap[R]? = some (.cells #[.string K0] 132 (0, 0)) → Calls Try.prog 55 #[.pointer (some ⟨R, 0, none⟩), .int .i64 1, .string ⟨#[100, 114, 97, 119]⟩] w' fun e w'' => e = .returned (.tuple #[.string D, .int .i64 0]) ∧ Fr (fun _ => False) w' w'' from fun R w' hR => by
    rw [hK0] at hR
    have h := domain_all R k0 1 [100, 114, 97, 119] (by decide) w' hR
    rw [rg_dom1] at h
    rw [hD]; exact h)
  have HD2 := Lib.hid (show ∀ R w', w'.heap[R]? = some (.cells #[.string K0] 132 (0, 0)) → Calls Try.prog 55 #[.pointer (some ⟨R, 0, none⟩), .int .i64 2, .string ⟨#[111, 116, 104, 101, 114]⟩] w' fun e w'' => e = .returned (.tuple #[.string O, .int .i64 0]) ∧ Fr (fun _ => False) w' w'' from fun R w' hR => by
    rw [hK0] at hR
    have h := domain_all R k0 2 [111, 116, 104, 101, 114] (by decide) w' hR
    rw [rg_dom2] at h
    rw [hO]; exact h)
  have HB := Lib.hid (show ∀ R w', w'.heap[R]? = some (.cells #[.string K0] 132 (0, 0)) → Calls Try.prog 57 #[.pointer (some ⟨R, 0, none⟩), .int .i64 1, .string D, .string ⟨#[105, 100]⟩, .int .i64 1, .string ⟨#[109, 111, 114, 101]⟩] w' fun e w'' => e = .returned (.tuple #[.string BB, .int .i64 0]) ∧ Fr (fun _ => False) w' w'' from fun R w' hR => by
    rw [hK0] at hR
    have h := backing_all R k0 1 1 rgDw [105, 100] [109, 111, 114, 101] (by rw [rgDw, wrapL_length]; decide) (by decide) w' hR
    rw [rg_back] at h
    rw [hD, hBB]; exact h)
  have HK1 := Lib.hid (show ∀ R w', w'.heap[R]? = some (.cells #[.string K0] 132 (0, 0)) → Calls Try.prog 59 #[.pointer (some ⟨R, 0, none⟩), .int .i64 1, .string D, .string ⟨#[105, 100]⟩, .int .i64 1, .string BB] w' fun e w'' => e = .returned (.tuple #[.string KK, .int .i64 0]) ∧ Fr (fun _ => False) w' w'' from fun R w' hR => by
    rw [hK0] at hR
    have h := key_all R k0 1 1 rgDw [105, 100] rgBw (by rw [rgDw, wrapL_length]; decide) (by rw [rgBw, wrapL_length]; decide) w' hR
    rw [rg_key] at h
    rw [hD, hBB, hKK]; exact h)
  have HK2 := Lib.hid (show ∀ R w', w'.heap[R]? = some (.cells #[.string K0] 132 (0, 0)) → Calls Try.prog 59 #[.pointer (some ⟨R, 0, none⟩), .int .i64 1, .string D, .string ⟨#[105, 100]⟩, .int .i64 2, .string BB] w' fun e w'' => e = .returned (.tuple #[.string ⟨#[]⟩, .int .i64 8]) ∧ Fr (fun _ => False) w' w'' from fun R w' hR => by
    rw [hK0] at hR
    have h := key_all R k0 1 2 rgDw [105, 100] rgBw (by rw [rgDw, wrapL_length]; decide) (by rw [rgBw, wrapL_length]; decide) w' hR
    rw [rg_bad] at h
    rw [hD, hBB]; exact h)
  have HRw := Lib.hid (show ∀ R w', w'.heap[R]? = some (.cells #[.string K0] 132 (0, 0)) → Calls Try.prog 61 #[.pointer (some ⟨R, 0, none⟩), .int .i64 1, .string D, .int .i64 2, .string O, .string ⟨#[105, 100]⟩, .int .i64 1, .string BB] w' fun e w'' => e = .returned (.tuple #[.string RW, .int .i64 0]) ∧ Fr (fun _ => False) w' w'' from fun R w' hR => by
    rw [hK0] at hR
    have h := rewrap_all R k0 1 2 1 rgDw rgOw [105, 100] rgBw (by rw [rgDw, wrapL_length]; decide) (by rw [rgOw, wrapL_length]; decide) (by rw [rgBw, wrapL_length]; decide) w' hR
    rw [rg_rew] at h
    rw [hD, hO, hBB, hRW]; exact h)
  have HK3 := Lib.hid (show ∀ R w', w'.heap[R]? = some (.cells #[.string K0] 132 (0, 0)) → Calls Try.prog 59 #[.pointer (some ⟨R, 0, none⟩), .int .i64 2, .string O, .string ⟨#[105, 100]⟩, .int .i64 1, .string RW] w' fun e w'' => e = .returned (.tuple #[.string KK, .int .i64 0]) ∧ Fr (fun _ => False) w' w'' from fun R w' hR => by
    rw [hK0] at hR
    have h := key_all R k0 2 1 rgOw [105, 100] rgRw (by rw [rgOw, wrapL_length]; decide) (by rw [rgRw, wrapL_length]; decide) w' hR
    rw [rg_key2] at h
    rw [hO, hRW, hKK]; exact h)
  clear hK0 hD hO hBB hKK hRW hDX
  go_enter Try.func52, Try.ntmps52
  go_wp2_with fail
  refine (HC0.out w).mono ?_
  rintro e w1 ⟨rfl, f1⟩
  have G1 := Lib.hid f1
  clear f1
  go_wp2_with fail
  refine (HNew.out w1).mono ?_
  rintro e w2 ⟨R, rfl, hR, f2⟩
  have HR2 := Lib.hid hR
  have G2 := Lib.hid (G1.out.trans f2 (fun i hi => hi.elim))
  clear f2 hR
  go_wp2_with fail
  refine (HNo.out w2).mono ?_
  rintro e w3 ⟨rfl, f3⟩
  have HR3 := Lib.hid (f3.heap HR2.out id)
  have G3 := Lib.hid (G2.out.trans f3 (fun i hi => hi.elim))
  clear f3
  go_wp2_with fail
  refine (HD1.out R w3 HR3.out).mono ?_
  rintro e w4 ⟨rfl, f4⟩
  have HR4 := Lib.hid (f4.heap HR3.out id)
  have G4 := Lib.hid (G3.out.trans f4 (fun i hi => hi.elim))
  clear f4
  go_wp2_with fail
  refine (HD2.out R w4 HR4.out).mono ?_
  rintro e w5 ⟨rfl, f5⟩
  have HR5 := Lib.hid (f5.heap HR4.out id)
  have G5 := Lib.hid (G4.out.trans f5 (fun i hi => hi.elim))
  clear f5
  go_wp2_with fail
  refine (HB.out R w5 HR5.out).mono ?_
  rintro e w6 ⟨rfl, f6⟩
  have HR6 := Lib.hid (f6.heap HR5.out id)
  have G6 := Lib.hid (G5.out.trans f6 (fun i hi => hi.elim))
  clear f6
  go_wp2_with fail
  refine (HK1.out R w6 HR6.out).mono ?_
  rintro e w7 ⟨rfl, f7⟩
  have HR7 := Lib.hid (f7.heap HR6.out id)
  have G7 := Lib.hid (G6.out.trans f7 (fun i hi => hi.elim))
  clear f7
  go_wp2_with fail
  refine (HK2.out R w7 HR7.out).mono ?_
  rintro e w8 ⟨rfl, f8⟩
  have HR8 := Lib.hid (f8.heap HR7.out id)
  have G8 := Lib.hid (G7.out.trans f8 (fun i hi => hi.elim))
  clear f8
  go_wp2_with fail
  refine (HRw.out R w8 HR8.out).mono ?_
  rintro e w9 ⟨rfl, f9⟩
  have HR9 := Lib.hid (f9.heap HR8.out id)
  have G9 := Lib.hid (G8.out.trans f9 (fun i hi => hi.elim))
  clear f9
  go_wp2_with fail
  refine (HK3.out R w9 HR9.out).mono ?_
  rintro e w10 ⟨rfl, f10⟩
  have HR10 := Lib.hid (f10.heap HR9.out id)
  have G10 := Lib.hid (G9.out.trans f10 (fun i hi => hi.elim))
  clear f10
  go_wp2_with fail
  refine (HData.out w10).mono ?_
  rintro e w11 ⟨rfl, f11⟩
  have HR11 := Lib.hid (f11.heap HR10.out id)
  have G11 := Lib.hid (G10.out.trans f11 (fun i hi => hi.elim))
  clear f11
  go_wp2_with fail
  go_ret
  exact ⟨rfl, G11.out⟩
end Go.Proofs.Ytcchhfkmhbjdmaa
