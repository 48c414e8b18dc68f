/- The document's Derive. -/
import Derived.Test.YtcchhfkmhbjdmaaJt
set_option linter.unusedVariables false
set_option linter.unusedSimpArgs false
set_option pp.deepTerms true
set_option pp.maxSteps 100000
namespace Go.Proofs.Ytcchhfkmhbjdmaa
open Go.RowKit
set_option maxRecDepth 20000 in
set_option maxHeartbeats 400000 in
theorem ref_derive_no (a b c : ByteArray) (n : Int) (hn : n < 0 ∨ 8160 < n) (w : World) :
    Calls Try.prog 37 #[.string a, .string b, .string c, .int .i64 n] w fun e w' => e = .returned (.tuple #[.string ⟨#[]⟩, .int .i64 1]) ∧ w = w' := by
  have HN := Lib.hid hn
  clear hn
  by_cases h0 : n < 0
  · have d1 : decide (n < 0) = true := decide_eq_true h0
    clear h0
    go_enter Try.func37, Try.ntmps37
    go_wp2_with fail
    go_ret2
    exact ⟨rfl, rfl⟩
  · have d1 : decide (n < 0) = false := decide_eq_false h0
    have d2 : decide (8160 < n) = true := decide_eq_true (by have := HN.out; omega)
    clear h0
    go_enter Try.func37, Try.ntmps37
    go_wp2_with fail
    go_ret2
    exact ⟨rfl, rfl⟩
set_option maxRecDepth 20000 in
set_option maxHeartbeats 400000 in
theorem ref_derive (salt secret info : List UInt8) (n : Nat) (hn : n ≤ 8160) (h1 : salt.length ≤ 70000) (h2 : secret.length ≤ 70000) (h3 : info.length ≤ 70000) (w : World) :
    Calls Try.prog 37 #[.string (str salt), .string (str secret), .string (str info), .int .i64 (n : Int)] w fun e w' => e = .returned (.tuple #[.string (str (derive salt secret info n)), .int .i64 0]) ∧ Fr (fun _ => False) w w' := by
  obtain ⟨A, hA⟩ : ∃ s, s = str salt := ⟨_, rfl⟩
  obtain ⟨B, hB⟩ : ∃ s, s = str secret := ⟨_, rfl⟩
  obtain ⟨C, hC⟩ : ∃ s, s = str info := ⟨_, rfl⟩
  obtain ⟨p, hp⟩ : ∃ p, p = tag salt secret := ⟨_, rfl⟩
  obtain ⟨PS, hPS⟩ : ∃ s, s = str p := ⟨_, rfl⟩
  have HTag := Lib.hid (show ∀ w : World, Calls Try.prog 35 #[.string A, .string B] w fun e w' => e = .returned (.string PS) ∧ Fr (fun _ => False) w w' from fun w => by
    rw [hA, hB, hPS, hp]; exact ref_tag salt secret (by omega) (by omega) w)
  have HCl := Lib.hid (show C.size ≤ 70000 by rw [hC, str_size]; omega)
  have HTagK := Lib.hid (show ∀ (k : Nat) (L X Y : ByteArray) (w : World), L = str (drvB p info k) → X = str [UInt8.ofNat (k + 1)] → Y = (L ++ C) ++ X → Calls Try.prog 35 #[.string PS, .string Y] w fun e w' => e = .returned (.string (str (drvB p info (k + 1)))) ∧ Fr (fun _ => False) w w' from fun k L X Y w hL hX hY => by
    have hb := drvB_length p info k
    rw [hPS, hY, hL, hC, hX, jstr_append, jstr_append, drvB, show ([drvB p info k, info, [UInt8.ofNat (k + 1)]] : List (List UInt8)).flatten = (drvB p info k ++ info) ++ [UInt8.ofNat (k + 1)] by simp]
    exact ref_tag p _ (by rw [hp, tag_length]; omega) (by simp; omega) w)
  have HP := Lib.hid hp
  have HN := Lib.hid hn
  have d1 : decide ((n : Int) < 0) = false := decide_eq_false (by omega)
  have d2 : decide ((8160 : Int) < (n : Int)) = false := decide_eq_false (by omega)
  rw [← hA, ← hB, ← hC]
  clear hA hB hC hp hPS h1 h2 h3
  go_enter Try.func37, Try.ntmps37
  go_wp2_with fail
  refine (HTag.out w).mono ?_
  rintro e w1 ⟨rfl, hf1⟩
  have HF1 := Lib.hid hf1
  clear hf1 HTag
  go_wp2_with fail
  go_loopw [11, 12, 13] (fun v11 v12 v13 wr => ∃ k : Nat, k ≤ (n + 31) / 32 ∧ v11 = .string (str (drvO p info k)) ∧ v12 = .string (str (drvB p info k)) ∧ v13 = .int .i64 ((k : Int) + 1) ∧ Fr (fun _ => False) w wr) (fun _ _ v _ => (n + 31) / 32 + 1 - (intOf v).toNat)
  case atStart => exact ⟨0, Nat.zero_le _, rfl, rfl, rfl, HF1.out⟩
  case round =>
    obtain ⟨k, hk, rfl, rfl, rfl, hf⟩ := hrel
    have HF := Lib.hid hf
    clear hf HF1
    obtain ⟨L, hL⟩ : ∃ s, s = str (drvB p info k) := ⟨_, rfl⟩
    obtain ⟨O, hO⟩ : ∃ s, s = str (drvO p info k) := ⟨_, rfl⟩
    obtain ⟨m, hm⟩ : ∃ m, m = 32 * k := ⟨_, rfl⟩
    have hOs : O.size = m := by rw [hO, str_size, drvO_length, hm]
    rw [← hL, ← hO]
    have HL := Lib.hid hL
    have HO := Lib.hid hO
    have HM := Lib.hid hm
    clear hL hO
    have hn' := HN.out
    by_cases hlt : m < n
    · have hd : decide ((m : Int) < (n : Int)) = true := decide_eq_true (by omega)
      have hdm : (m : Int) < (n : Int) := by omega
      obtain ⟨x, hx⟩ : ∃ x, x = UInt8.ofNat (k + 1) := ⟨_, rfl⟩
      have e1 : ((k : Int) + 1) % 256 = (x.toNat : Int) := by rw [hx]; exact u8_num k
      have e2 : IntKind.u8.wrap ((k : Int) + 1) = (x.toNat : Int) := by rw [IntKind.wrap_u8', e1]
      obtain ⟨X, hX⟩ : ∃ s, s = str [x] := ⟨_, rfl⟩
      have hcv := run_convert_str (P := Try.prog) (wr.alloc (.cells #[.int .u8 (x.toNat : Int)] 5)) 27 5 Try.underlying27 Try.underlying5 wr.heap.size 0 1 1 [x] rfl (fun j v hj => by
        rw [Nat.zero_add, cell_of_row _ wr.heap.size j _ _ _ (heap_alloc_new wr _)]; simpa [bcells] using hj) 9 Try.underlying9
      rw [← hX] at hcv
      obtain ⟨Y1, hY1⟩ : ∃ s, s = L ++ C := ⟨_, rfl⟩
      obtain ⟨Y, hY⟩ : ∃ s, s = Y1 ++ X := ⟨_, rfl⟩
      have hap1 : L ++ C = Y1 := hY1.symm
      have hap2 : Y1 ++ X = Y := hY.symm
      have hLs : L.size ≤ 32 := by rw [HL.out, str_size]; exact drvB_length _ _ _
      have hXs : X.size = 1 := by rw [hX, str_size]; rfl
      have hCs := HCl.out
      have hY1s : Y1.size = L.size + C.size := by rw [hY1, ByteArray.size_append]
      have hz1 : ¬ 9223372036854775807 < L.size + C.size := by omega
      have hz2 : L.size + C.size ≤ 9223372036854775807 := by omega
      have hz3 : ¬ 9223372036854775807 < Y1.size + X.size := by omega
      have hz4 : Y1.size + X.size ≤ 9223372036854775807 := by omega
      have hz5 : Y1.size + 1 ≤ 9223372036854775807 := by omega
      have HTk := Lib.hid (HTagK.out k L X Y (wr.alloc (.cells #[.int .u8 (x.toNat : Int)] 5)) HL.out (by rw [hX, hx]) (by rw [hY, hY1]))
      clear hY1 hY hY1s hCs hLs
      obtain ⟨L2, hL2⟩ : ∃ s, s = str (drvB p info (k + 1)) := ⟨_, rfl⟩
      rw [← hL2] at HTk
      have hap : O ++ L2 = str (drvO p info (k + 1)) := by rw [HO.out, hL2, jstr_append]; rfl
      have hsz2 : L2.size = 32 := by rw [hL2, str_size, drvB, tag_length]
      have hsb : ¬ 9223372036854775807 < O.size + L2.size := by omega
      have hsb2 : m + L2.size ≤ 9223372036854775807 := by omega
      have HAP := Lib.hid hap
      have HL2 := Lib.hid hL2
      have bx := x.toNat_lt
      have hk8 : k + 1 ≤ (n + 31) / 32 := by omega
      have hwk : IntKind.i64.wrap ((k : Int) + 1 + 1) = (k : Int) + 1 + 1 := IntWalk.i64_in _ (by omega)
      clear hx hX hL2 hap hlt hm
      go_wp2_with fail
      refine HTk.out.mono ?_
      rintro e w2 ⟨rfl, hf2⟩
      have HF2 := Lib.hid ((HF.out.alloc (.cells #[.int .u8 (x.toNat : Int)] 5)).trans hf2 (fun i hi => hi.elim))
      clear hf2
      go_wp2_with fail
      go_roundw
      case rel => exact ⟨k + 1, hk8, by rw [HAP.out], by rw [HL2.out], by go_num, HF2.out⟩
      case measure => simp [intOf]; omega
    · have hd : decide ((m : Int) < (n : Int)) = false := decide_eq_false (by omega)
      have hdm : ¬ (m : Int) < (n : Int) := by omega
      have hkk : k = (n + 31) / 32 := by omega
      have hx1 : O.extract 0 n = str (derive salt secret info n) := by
        rw [HO.out, jstr_take, hkk]; unfold derive; rw [← HP.out]
      have hnm : n ≤ m := by omega
      have hnm2 : (n : Int) ≤ (m : Int) := by omega
      clear hkk hlt hm
      go_wp2_with fail
      go_ret2
      exact ⟨rfl, HF.out⟩
end Go.Proofs.Ytcchhfkmhbjdmaa
