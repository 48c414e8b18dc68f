/- GcmStream: the law's walk. -/
import Derived.Test.YtcchhfkmhbjdmaaPgD
set_option linter.unusedVariables false
set_option linter.unusedSimpArgs false
set_option pp.deepTerms true
set_option pp.maxSteps 100000
namespace Go.Proofs.Ytcchhfkmhbjdmaa
open Go.RowKit
theorem full_take (f : Nat → UInt8) (n c : Nat) : (full f n).take c = full f (min c n) := by
  unfold full
  rw [← List.map_take, List.take_range]
theorem seal_take (key nonce beside t : List UInt8) (c : Nat) (hc : c ≤ t.length) : (sealL key nonce beside t).take c = full (fun i => t.getD i 0 ^^^ ks (words key 52) nonce i) c := by
  unfold sealL
  rw [List.take_append_of_le_length (by rw [bodyL_length]; exact hc)]
  unfold bodyL
  rw [full_take, show min c t.length = c by omega]
theorem seal_short (key nonce b1 b2 t : List UInt8) (c : Nat) (hc : c ≤ t.length) : (sealL key nonce b2 (t.take c)).take c = (sealL key nonce b1 t).take c := by
  rw [seal_take _ _ _ _ _ hc, seal_take _ _ _ _ _ (by rw [List.length_take]; omega)]
  refine full_cg fun i hi => ?_
  rw [List.getD_eq_getElem?_getD, List.getElem?_take, if_pos hi, ← List.getD_eq_getElem?_getD]
theorem seal_byte (key nonce beside t : List UInt8) (i : Nat) (hi : i < t.length) : (sealL key nonce beside t).getD i 0 = t.getD i 0 ^^^ ks (words key 52) nonce i := by
  unfold sealL
  rw [List.getD_eq_getElem?_getD, List.getElem?_append_left (by rw [bodyL_length]; exact hi), ← List.getD_eq_getElem?_getD]
  exact full_getD _ _ _ hi
theorem xor_cancel (a b k : UInt8) : (a ^^^ k) ^^^ (b ^^^ k) = a ^^^ b := by
  rw [UInt8.xor_comm b k, ← UInt8.xor_assoc, UInt8.xor_assoc a k k, UInt8.xor_self, UInt8.xor_zero]
theorem sealL_length (key nonce beside t : List UInt8) : (sealL key nonce beside t).length = t.length + 16 := by
  unfold sealL; rw [List.length_append, bodyL_length, tagL_length]
set_option maxRecDepth 20000 in
set_option maxHeartbeats 2000000 in
theorem stream_walk (K N A B : ByteArray) (cut : Int) (w : World) : Calls Try.prog 12 #[.string K, .string N, .string A, .string B, .int .i64 cut] w fun e w' => e = .returned (.bool true) ∧ Fr (fun _ => False) w w' := by
  have HAW := Lib.hid (gcm_awake w)
  by_cases g0 : K.size = 32
  rotate_left
  · have d0 : ((K.size : Int) != 32) = true := by simp; omega
    clear g0
    go_enter Try.func12, Try.ntmps12
    go_wp2_with fail
    refine HAW.out.mono ?_
    rintro e w1 ⟨rfl, f1⟩
    have HF1 := Lib.hid f1
    clear f1
    go_wp2_with fail
    go_ret
    exact ⟨rfl, HF1.out⟩
  by_cases g1 : N.size = 12
  rotate_left
  · have d0 : ((K.size : Int) != 32) = false := by rw [g0]; rfl
    have d1 : ((N.size : Int) != 12) = true := by simp; omega
    clear g0 g1
    go_enter Try.func12, Try.ntmps12
    go_wp2_with fail
    refine HAW.out.mono ?_
    rintro e w1 ⟨rfl, f1⟩
    have HF1 := Lib.hid f1
    clear f1
    go_wp2_with fail
    go_ret
    exact ⟨rfl, HF1.out⟩
  by_cases g2 : A.size ≤ 500
  rotate_left
  · have d0 : ((K.size : Int) != 32) = false := by rw [g0]; rfl
    have d1 : ((N.size : Int) != 12) = false := by rw [g1]; rfl
    have d2 : decide ((500 : Int) < (A.size : Int)) = true := decide_eq_true (by omega)
    clear g0 g1 g2
    go_enter Try.func12, Try.ntmps12
    go_wp2_with fail
    refine HAW.out.mono ?_
    rintro e w1 ⟨rfl, f1⟩
    have HF1 := Lib.hid f1
    clear f1
    go_wp2_with fail
    go_ret
    exact ⟨rfl, HF1.out⟩
  by_cases g3 : B.size = A.size
  rotate_left
  · have d0 : ((K.size : Int) != 32) = false := by rw [g0]; rfl
    have d1 : ((N.size : Int) != 12) = false := by rw [g1]; rfl
    have d2 : decide ((500 : Int) < (A.size : Int)) = false := decide_eq_false (by omega)
    have d3 : ((B.size : Int) != (A.size : Int)) = true := by simp; omega
    clear g0 g1 g2 g3
    go_enter Try.func12, Try.ntmps12
    go_wp2_with fail
    refine HAW.out.mono ?_
    rintro e w1 ⟨rfl, f1⟩
    have HF1 := Lib.hid f1
    clear f1
    go_wp2_with fail
    go_ret
    exact ⟨rfl, HF1.out⟩
  by_cases g4 : 0 ≤ cut
  rotate_left
  · have d0 : ((K.size : Int) != 32) = false := by rw [g0]; rfl
    have d1 : ((N.size : Int) != 12) = false := by rw [g1]; rfl
    have d2 : decide ((500 : Int) < (A.size : Int)) = false := decide_eq_false (by omega)
    have d3 : ((B.size : Int) != (A.size : Int)) = false := by rw [g3]; simp
    have d4 : decide (cut < 0) = true := decide_eq_true (by omega)
    clear g0 g1 g2 g3 g4
    go_enter Try.func12, Try.ntmps12
    go_wp2_with fail
    refine HAW.out.mono ?_
    rintro e w1 ⟨rfl, f1⟩
    have HF1 := Lib.hid f1
    clear f1
    go_wp2_with fail
    go_ret
    exact ⟨rfl, HF1.out⟩
  by_cases g5 : cut ≤ (A.size : Int)
  rotate_left
  · have d0 : ((K.size : Int) != 32) = false := by rw [g0]; rfl
    have d1 : ((N.size : Int) != 12) = false := by rw [g1]; rfl
    have d2 : decide ((500 : Int) < (A.size : Int)) = false := decide_eq_false (by omega)
    have d3 : ((B.size : Int) != (A.size : Int)) = false := by rw [g3]; simp
    have d4 : decide (cut < 0) = false := decide_eq_false (by omega)
    have d5 : decide ((A.size : Int) < cut) = true := decide_eq_true (by omega)
    clear g0 g1 g2 g3 g4 g5
    go_enter Try.func12, Try.ntmps12
    go_wp2_with fail
    refine HAW.out.mono ?_
    rintro e w1 ⟨rfl, f1⟩
    have HF1 := Lib.hid f1
    clear f1
    go_wp2_with fail
    go_ret
    exact ⟨rfl, HF1.out⟩
  have d0 : ((K.size : Int) != 32) = false := by rw [g0]; rfl
  have d1 : ((N.size : Int) != 12) = false := by rw [g1]; rfl
  have d2 : decide ((500 : Int) < (A.size : Int)) = false := decide_eq_false (by omega)
  have d3 : ((B.size : Int) != (A.size : Int)) = false := by rw [g3]; simp
  have d4 : decide (cut < 0) = false := decide_eq_false (by omega)
  have d5 : decide ((A.size : Int) < cut) = false := decide_eq_false (by omega)
  obtain ⟨key, hkey'⟩ : ∃ l, K = str l := ⟨K.data.toList, by apply ByteArray.ext; simp [str]⟩
  obtain ⟨nonce, hnon⟩ : ∃ l, N = str l := ⟨N.data.toList, by apply ByteArray.ext; simp [str]⟩
  obtain ⟨a, ha⟩ : ∃ l, A = str l := ⟨A.data.toList, by apply ByteArray.ext; simp [str]⟩
  obtain ⟨b, hb⟩ : ∃ l, B = str l := ⟨B.data.toList, by apply ByteArray.ext; simp [str]⟩
  obtain ⟨c, hc⟩ : ∃ c : Nat, cut = (c : Int) := ⟨cut.toNat, by omega⟩
  obtain ⟨n, hn⟩ : ∃ n : Nat, n = A.size := ⟨_, rfl⟩
  have hsA : A.size = n := hn.symm
  have hsB : B.size = n := by omega
  have hkl : key.length = 32 := by rw [← str_size, ← hkey']; exact g0
  have hnl : nonce.length = 12 := by rw [← str_size, ← hnon]; exact g1
  have hal : a.length = n := by rw [← str_size, ← ha]; exact hsA
  have hbl : b.length = n := by rw [← str_size, ← hb]; exact hsB
  have hn5 : n ≤ 500 := by omega
  have hcn : c ≤ n := by omega
  have hcn' : (c : Int) ≤ (n : Int) := by omega
  obtain ⟨S, hS⟩ : ∃ s, s = str (sealL key nonce [] a) := ⟨_, rfl⟩
  obtain ⟨T, hT⟩ : ∃ s, s = str (sealL key nonce [120] (a.take c)) := ⟨_, rfl⟩
  obtain ⟨U, hU⟩ : ∃ s, s = str (sealL key nonce [] b) := ⟨_, rfl⟩
  obtain ⟨AC, hAC⟩ : ∃ s, s = str (a.take c) := ⟨_, rfl⟩
  obtain ⟨SC, hSC⟩ : ∃ s, s = str ((sealL key nonce [] a).take c) := ⟨_, rfl⟩
  have hsS : S.size = n + 16 := by rw [hS, str_size, sealL_length, hal]
  have hsT : T.size = c + 16 := by rw [hT, str_size, sealL_length, List.length_take]; omega
  have hsU : U.size = n + 16 := by rw [hU, str_size, sealL_length, hbl]
  obtain ⟨ss, hss⟩ : ∃ m, m = n + 16 := ⟨_, rfl⟩
  obtain ⟨tt, htt⟩ : ∃ m, m = c + 16 := ⟨_, rfl⟩
  rw [← hss] at hsS hsU
  rw [← htt] at hsT
  have hcs : c ≤ ss := by omega
  have hcs' : (c : Int) ≤ (ss : Int) := by omega
  have hct : c ≤ tt := by omega
  have hct' : (c : Int) ≤ (tt : Int) := by omega
  have hns : n ≤ ss := by omega
  clear hss htt
  have hx0 : A.extract 0 c = AC := by rw [ha, jstr_take, hAC]
  have hx1 : S.extract 0 c = SC := by rw [hS, jstr_take, hSC]
  have hx2 : T.extract 0 c = SC := by rw [hT, jstr_take, hSC, seal_short _ _ [] _ _ _ (by omega)]
  have HS1 := Lib.hid (show ∀ w, Calls Try.prog 41 #[.string K, .string N, .string ⟨#[]⟩, .string A] w fun e w' => e = .returned (.tuple #[.string S, .int .i64 0]) ∧ Fr (fun _ => False) w w' from fun w => by
    rw [hkey', hnon, ha, hS]; exact seal_yes key nonce [] a hkl hnl (by decide) (by omega) w)
  have HT1 := Lib.hid (show ∀ w, Calls Try.prog 41 #[.string K, .string N, .string ⟨#[120]⟩, .string AC] w fun e w' => e = .returned (.tuple #[.string T, .int .i64 0]) ∧ Fr (fun _ => False) w w' from fun w => by
    rw [hkey', hnon, hAC, hT]; exact seal_yes key nonce [120] (a.take c) hkl hnl (by decide) (by rw [List.length_take]; omega) w)
  have HU1 := Lib.hid (show ∀ w, Calls Try.prog 41 #[.string K, .string N, .string ⟨#[]⟩, .string B] w fun e w' => e = .returned (.tuple #[.string U, .int .i64 0]) ∧ Fr (fun _ => False) w w' from fun w => by
    rw [hkey', hnon, hb, hU]; exact seal_yes key nonce [] b hkl hnl (by decide) (by omega) w)
  have HA := Lib.hid ha
  have HB := Lib.hid hb
  have HSd := Lib.hid hS
  have HUd := Lib.hid hU
  have HL := Lib.hid (And.intro hal hbl)
  subst hc
  rw [hsA] at d2 d3 d5
  rw [hsB] at d3
  clear hkey' hnon ha hb hkl hnl hal hbl hS hT hU hAC hSC g0 g1 g2 g3 g4 g5 hn
  go_enter Try.func12, Try.ntmps12
  go_wp2_with fail
  refine HAW.out.mono ?_
  rintro e w1 ⟨rfl, f1⟩
  have HF1 := Lib.hid f1
  clear f1
  go_wp2_with fail
  refine (HS1.out w1).mono ?_
  rintro e w2 ⟨rfl, f2⟩
  have HF2 := Lib.hid (HF1.out.trans f2 (fun i hi => hi.elim))
  clear f2
  go_wp2_with fail
  refine (HT1.out w2).mono ?_
  rintro e w3 ⟨rfl, f3⟩
  have HF3 := Lib.hid (HF2.out.trans f3 (fun i hi => hi.elim))
  clear f3
  go_wp2_with fail
  refine (HU1.out w3).mono ?_
  rintro e w4 ⟨rfl, f4⟩
  have HF4 := Lib.hid (HF3.out.trans f4 (fun i hi => hi.elim))
  clear f4
  go_wp2_with fail
  refine wp_region_still_tail 18 (by kernel_rfl) (by kernel_rfl) ?_
  simp only [List.take_succ_cons, List.take_zero, List.drop_succ_cons, List.drop_zero]
  change wpStill _ _ w4.drew (fun a' => wpList _ _ _ _ a' w4.drew) _ _
  repeat still_step
  refine wpStill_nil ?_
  go_wp2
  have HFb := Lib.hid HF4.out.drew
  go_loopw [17] (fun v wq => ∃ i : Nat, i ≤ n ∧ v = .int .i64 i ∧ Fr (fun _ => False) w wq) (fun v _ => n - (intOf v).toNat)
  case atStart => exact ⟨0, Nat.zero_le _, rfl, HFb.out⟩
  case round =>
    obtain ⟨i, hi, rfl, hf⟩ := hrel
    have HFq := Lib.hid hf
    clear hf
    by_cases hlt : i < n
    · have hx : (i : Int) < (n : Int) := by omega
      have hy : (i : Int) < (ss : Int) := by omega
      have hy3 : i < ss := by omega
      obtain ⟨k, hk⟩ : ∃ k, k = ks (words key 52) nonce i := ⟨_, rfl⟩
      obtain ⟨x, hxd⟩ : ∃ x, x = a.getD i 0 := ⟨_, rfl⟩
      obtain ⟨y, hyd⟩ : ∃ x, x = b.getD i 0 := ⟨_, rfl⟩
      obtain ⟨s, hsd⟩ : ∃ x, x = (sealL key nonce [] a).getD i 0 := ⟨_, rfl⟩
      obtain ⟨u, hud⟩ : ∃ x, x = (sealL key nonce [] b).getD i 0 := ⟨_, rfl⟩
      obtain ⟨z, hz⟩ : ∃ z, z = x ^^^ y := ⟨_, rfl⟩
      have hz2 : z = s ^^^ u := by
        rw [hsd, hud, seal_byte _ _ _ _ _ (by rw [HL.out.1]; exact hlt), seal_byte _ _ _ _ _ (by rw [HL.out.2]; exact hlt), xor_cancel, hz, hxd, hyd]
      have e1 := xor_u8 x y
      rw [← hz] at e1
      have e2 := xor_u8 s u
      rw [← hz2] at e2
      have hAs : ∀ h, A[i]'h = x := by
        intro h
        have hk := HA.out
        subst hk
        rw [str_at32, hxd]
      have hBs : ∀ h, B[i]'h = y := by
        intro h
        have hk := HB.out
        subst hk
        rw [str_at32, hyd]
      have hSs : ∀ h, S[i]'h = s := by
        intro h
        have hk := HSd.out
        subst hk
        rw [str_at32, hsd]
      have hUs : ∀ h, U[i]'h = u := by
        intro h
        have hk := HUd.out
        subst hk
        rw [str_at32, hud]
      have bx := x.toNat_lt
      have by' := y.toNat_lt
      have bz := z.toNat_lt
      have bs := s.toNat_lt
      have bu := u.toNat_lt
      clear hxd hyd hz hz2 hsd hud hk
      go_wp2
      refine wp_region_still_tail 14 (by kernel_rfl) (by kernel_rfl) ?_
      simp only [List.take_succ_cons, List.take_zero, List.drop_succ_cons, List.drop_zero]
      change wpStill _ _ wr.drew (fun a' => wpList _ _ _ _ a' wr.drew) _ _
      repeat still_step
      refine wpStill_nil ?_
      go_wp2
      go_roundw
      case rel => exact ⟨i + 1, by omega, by go_num, HFq.out.drew⟩
      case measure => simp [intOf]; omega
    · have hin : i = n := by omega
      clear hin
      go_wp2_with fail
      go_ret
      exact ⟨rfl, HFq.out⟩
end Go.Proofs.Ytcchhfkmhbjdmaa
