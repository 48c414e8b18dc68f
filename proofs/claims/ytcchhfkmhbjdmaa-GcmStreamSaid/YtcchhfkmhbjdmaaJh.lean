/- Tags: Derive. -/
import Derived.Test.YtcchhfkmhbjdmaaJg
set_option linter.unusedVariables false
set_option linter.unusedSimpArgs false
set_option pp.deepTerms true
set_option pp.maxSteps 100000
namespace Go.Proofs.Ytcchhfkmhbjdmaa
open Go.RowKit
def drvB (p info : List UInt8) : Nat → List UInt8
  | 0 => []
  | k + 1 => tag p ([drvB p info k, info, [UInt8.ofNat (k + 1)]] : List (List UInt8)).flatten
def drvO (p info : List UInt8) : Nat → List UInt8
  | 0 => []
  | k + 1 => drvO p info k ++ drvB p info (k + 1)
theorem drvB_length (p info : List UInt8) : ∀ k, (drvB p info k).length ≤ 32
  | 0 => Nat.zero_le _
  | k + 1 => Nat.le_of_eq (tag_length _ _)
theorem drvO_length (p info : List UInt8) : ∀ k, (drvO p info k).length = 32 * k
  | 0 => rfl
  | k + 1 => by rw [drvO, List.length_append, drvO_length p info k, drvB, tag_length]; omega
def derive (salt secret info : List UInt8) (n : Nat) : List UInt8 := (drvO (tag salt secret) info ((n + 31) / 32)).take n
theorem derive_length (salt secret info : List UInt8) (n : Nat) : (derive salt secret info n).length = n := by
  unfold derive; rw [List.length_take, drvO_length]; omega
theorem u8_num (k : Nat) : ((k : Int) + 1) % 256 = ((UInt8.ofNat (k + 1)).toNat : Int) := by simp
set_option maxRecDepth 20000 in
set_option maxHeartbeats 400000 in
theorem mac_derive_no (a b c : ByteArray) (n : Int) (hn : n < 0 ∨ 8160 < n) (w : World) :
    Calls Try.prog 36 #[.string a, .string b, .string c, .int .i64 n] w fun e w' => e = .returned (.tuple #[.string ⟨#[]⟩, .int .i64 1]) ∧ w = w' := by
  have HN := Lib.hid hn
  clear hn
  by_cases h0 : n < 0
  · have d1 : decide (n < 0) = true := decide_eq_true h0
    clear h0
    go_enter Try.func36, Try.ntmps36
    go_wp2_with fail
    go_ret2
    exact ⟨rfl, rfl⟩
  · have d1 : decide (n < 0) = false := decide_eq_false h0
    have d2 : decide (8160 < n) = true := decide_eq_true (by have := HN.out; omega)
    clear h0
    go_enter Try.func36, Try.ntmps36
    go_wp2_with fail
    go_ret2
    exact ⟨rfl, rfl⟩
set_option maxRecDepth 20000 in
set_option maxHeartbeats 400000 in
theorem mac_derive (salt secret info : List UInt8) (n : Nat) (hn : n ≤ 8160) (h1 : salt.length ≤ 100000) (h2 : secret.length ≤ 100000) (h3 : info.length ≤ 100000) (w : World) :
    Calls Try.prog 36 #[.string (str salt), .string (str secret), .string (str info), .int .i64 (n : Int)] w fun e w' => e = .returned (.tuple #[.string (str (derive salt secret info n)), .int .i64 0]) ∧ Fr (fun _ => False) w w' := by
  obtain ⟨A, hA⟩ : ∃ s, s = str salt := ⟨_, rfl⟩
  obtain ⟨B, hB⟩ : ∃ s, s = str secret := ⟨_, rfl⟩
  obtain ⟨C, hC⟩ : ∃ s, s = str info := ⟨_, rfl⟩
  obtain ⟨p, hp⟩ : ∃ p, p = tag salt secret := ⟨_, rfl⟩
  obtain ⟨PS, hPS⟩ : ∃ s, s = str p := ⟨_, rfl⟩
  have HTag := Lib.hid (show ∀ w : World, Calls Try.prog 38 #[.string A, .slice (some ⟨w.heap.size, 0, none⟩) 1 1] (w.alloc (.cells #[.string B] 9)) fun e w' => e = .returned (.string PS) ∧ Fr (fun _ => False) (w.alloc (.cells #[.string B] 9)) w' from fun w => by
    have h := mac_tag salt w.heap.size 1 [secret] (w.alloc (.cells (([secret] : List (List UInt8)).map fun s => Value.string (str s)).toArray 9)) (fun j s hj => strs_cell w _ 9 j s hj) (by rw [World.size_alloc]; omega) (by omega) (by simp; omega) (by simp)
    rw [show ([secret] : List (List UInt8)).flatten = secret by simp, ← hp, ← hPS] at h
    rw [hA, hB]; exact h)
  have HTagK := Lib.hid (show ∀ (k : Nat) (L X : ByteArray) (w : World) (g : Nat), g = w.heap.size → L = str (drvB p info k) → X = str [UInt8.ofNat (k + 1)] → Calls Try.prog 38 #[.string PS, .slice (some ⟨g, 0, none⟩) 3 3] (w.alloc (.cells #[.string L, .string C, .string X] 9)) fun e w' => e = .returned (.string (str (drvB p info (k + 1)))) ∧ Fr (fun _ => False) (w.alloc (.cells #[.string L, .string C, .string X] 9)) w' from fun k L X w g hg hL hX => by
    subst hg
    have hb := drvB_length p info k
    have h := mac_tag p w.heap.size 3 [drvB p info k, info, [UInt8.ofNat (k + 1)]] (w.alloc (.cells (([drvB p info k, info, [UInt8.ofNat (k + 1)]] : List (List UInt8)).map fun s => Value.string (str s)).toArray 9)) (fun j s hj => strs_cell w _ 9 j s hj) (by rw [World.size_alloc]; omega) (by rw [hp, tag_length]; omega) (by simp; omega) (by simp)
    rw [hPS, hC, hL, hX]; exact h)
  have HP := Lib.hid hp
  have HN := Lib.hid hn
  have d1 : decide ((n : Int) < 0) = false := decide_eq_false (by omega)
  have d2 : decide ((8160 : Int) < (n : Int)) = false := decide_eq_false (by omega)
  rw [← hA, ← hB, ← hC]
  clear hA hB hC hp hPS h1 h2 h3
  go_enter Try.func36, Try.ntmps36
  go_wp2_with fail
  refine (HTag.out w).mono ?_
  rintro e w1 ⟨rfl, hf1⟩
  have HF1 := Lib.hid (((Fr.refl (fun _ => False) w).alloc (.cells #[.string B] 9)).trans hf1 (fun i hi => hi.elim))
  clear hf1 HTag
  go_wp2_with fail
  go_loopw [11, 12, 13] (fun v11 v12 v13 wr => ∃ k : Nat, k ≤ (n + 31) / 32 ∧ v11 = .string (str (drvO p info k)) ∧ v12 = .string (str (drvB p info k)) ∧ v13 = .int .i64 ((k : Int) + 1) ∧ Fr (fun _ => False) w wr) (fun _ _ v _ => (n + 31) / 32 + 1 - (intOf v).toNat)
  case atStart => exact ⟨0, Nat.zero_le _, rfl, rfl, rfl, HF1.out⟩
  case round =>
    obtain ⟨k, hk, rfl, rfl, rfl, hf⟩ := hrel
    have HF := Lib.hid hf
    clear hf HF1
    obtain ⟨L, hL⟩ : ∃ s, s = str (drvB p info k) := ⟨_, rfl⟩
    obtain ⟨O, hO⟩ : ∃ s, s = str (drvO p info k) := ⟨_, rfl⟩
    obtain ⟨m, hm⟩ : ∃ m, m = 32 * k := ⟨_, rfl⟩
    have hOs : O.size = m := by rw [hO, str_size, drvO_length, hm]
    rw [← hL, ← hO]
    have HL := Lib.hid hL
    have HO := Lib.hid hO
    have HM := Lib.hid hm
    clear hL hO
    have hn' := HN.out
    by_cases hlt : m < n
    · have hd : decide ((m : Int) < (n : Int)) = true := decide_eq_true (by omega)
      have hdm : (m : Int) < (n : Int) := by omega
      obtain ⟨x, hx⟩ : ∃ x, x = UInt8.ofNat (k + 1) := ⟨_, rfl⟩
      have e1 : ((k : Int) + 1) % 256 = (x.toNat : Int) := by rw [hx]; exact u8_num k
      have e2 : IntKind.u8.wrap ((k : Int) + 1) = (x.toNat : Int) := by rw [IntKind.wrap_u8', e1]
      obtain ⟨X, hX⟩ : ∃ s, s = str [x] := ⟨_, rfl⟩
      have hcv := run_convert_str (P := Try.prog) (wr.alloc (.cells #[.int .u8 (x.toNat : Int)] 5)) 27 5 Try.underlying27 Try.underlying5 wr.heap.size 0 1 1 [x] rfl (fun j v hj => by
        rw [Nat.zero_add, cell_of_row _ wr.heap.size j _ _ _ (heap_alloc_new wr _)]; simpa [bcells] using hj) 9 Try.underlying9
      rw [← hX] at hcv
      have HTk := Lib.hid (HTagK.out k L X (wr.alloc (.cells #[.int .u8 (x.toNat : Int)] 5)) (wr.heap.size + 1) (by rw [World.size_alloc]) HL.out (by rw [hX, hx]))
      obtain ⟨L2, hL2⟩ : ∃ s, s = str (drvB p info (k + 1)) := ⟨_, rfl⟩
      rw [← hL2] at HTk
      have hap : O ++ L2 = str (drvO p info (k + 1)) := by rw [HO.out, hL2, jstr_append]; rfl
      have hsz2 : L2.size = 32 := by rw [hL2, str_size, drvB, tag_length]
      have hsb : ¬ 9223372036854775807 < O.size + L2.size := by omega
      have hsb2 : m + L2.size ≤ 9223372036854775807 := by omega
      have HAP := Lib.hid hap
      have HL2 := Lib.hid hL2
      have bx := x.toNat_lt
      have hk8 : k + 1 ≤ (n + 31) / 32 := by omega
      have hwk : IntKind.i64.wrap ((k : Int) + 1 + 1) = (k : Int) + 1 + 1 := IntWalk.i64_in _ (by omega)
      clear hx hX hL2 hap hlt hm
      go_wp2_with fail
      refine HTk.out.mono ?_
      rintro e w2 ⟨rfl, hf2⟩
      have HF2 := Lib.hid (((HF.out.alloc (.cells #[.int .u8 (x.toNat : Int)] 5)).alloc (.cells #[.string L, .string C, .string X] 9)).trans hf2 (fun i hi => hi.elim))
      clear hf2
      go_wp2_with fail
      go_roundw
      case rel => exact ⟨k + 1, hk8, by rw [HAP.out], by rw [HL2.out], by go_num, HF2.out⟩
      case measure => simp [intOf]; omega
    · have hd : decide ((m : Int) < (n : Int)) = false := decide_eq_false (by omega)
      have hdm : ¬ (m : Int) < (n : Int) := by omega
      have hkk : k = (n + 31) / 32 := by omega
      have hx1 : O.extract 0 n = str (derive salt secret info n) := by
        rw [HO.out, jstr_take, hkk]; unfold derive; rw [← HP.out]
      have hnm : n ≤ m := by omega
      have hnm2 : (n : Int) ≤ (m : Int) := by omega
      clear hkk hlt hm
      go_wp2_with fail
      go_ret2
      exact ⟨rfl, HF.out⟩
end Go.Proofs.Ytcchhfkmhbjdmaa
