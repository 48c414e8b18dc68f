/- Tags: awake. -/
import Derived.Test.YtcchhfkmhbjdmaaJh
set_option linter.unusedVariables false
set_option linter.unusedSimpArgs false
set_option pp.deepTerms true
set_option pp.maxSteps 100000
namespace Go.Proofs.Ytcchhfkmhbjdmaa
open Go.RowKit
def jeT : List UInt8 := [91, 220, 193, 70, 191, 96, 117, 78, 106, 4, 36, 38, 8, 149, 117, 199, 90, 0, 63, 8, 157, 39, 57, 131, 157, 236, 88, 185, 100, 236, 56, 67]
theorem je_tag : tag [74, 101, 102, 101] [119, 104, 97, 116, 32, 100, 111, 32, 121, 97, 32, 119, 97, 110, 116, 32, 102, 111, 114, 32, 110, 111, 116, 104, 105, 110, 103, 63] = jeT := by decide +kernel
theorem je_tag2 : tag [106, 101, 102, 101] [119, 104, 97, 116, 32, 100, 111, 32, 121, 97, 32, 119, 97, 110, 116, 32, 102, 111, 114, 32, 110, 111, 116, 104, 105, 110, 103, 63] = [245, 136, 106, 39, 118, 212, 10, 103, 24, 48, 239, 209, 97, 114, 110, 33, 183, 219, 217, 240, 211, 165, 81, 84, 40, 222, 53, 50, 78, 172, 170, 219] := by decide +kernel
set_option maxRecDepth 20000 in
set_option maxHeartbeats 1000000 in
theorem mac_awake (w : World) : Calls Try.prog 34 #[] w fun e w' => e = .returned (.bool true) ∧ Fr (fun _ => False) w w' := by
  obtain ⟨JT, hJT⟩ : ∃ s, s = str jeT := ⟨_, rfl⟩
  obtain ⟨D, hD⟩ : ∃ s, s = str (derive [] [120] [121] 40) := ⟨_, rfl⟩
  have hs1 : JT.size = 32 := by rw [hJT, str_size]; rfl
  have hsd : D.size = 40 := by rw [hD, str_size, derive_length]
  have h0 : ∀ h, JT[0]'h = (91 : UInt8) := by subst hJT; intro h; rw [str_at32]; rfl
  have h1 : ∀ h, JT[1]'h = (220 : UInt8) := by subst hJT; intro h; rw [str_at32]; rfl
  have h31 : ∀ h, JT[31]'h = (67 : UInt8) := by subst hJT; intro h; rw [str_at32]; rfl
  have HTag := Lib.hid (show ∀ w : World, Calls Try.prog 38 #[.string (str [74, 101, 102, 101]), .slice (some ⟨w.heap.size, 0, none⟩) 2 2] (w.alloc (.cells #[.string (str [119, 104, 97, 116, 32, 100, 111, 32, 121, 97, 32, 119, 97, 110, 116, 32]), .string (str [102, 111, 114, 32, 110, 111, 116, 104, 105, 110, 103, 63])] 9)) fun e w' => e = .returned (.string JT) ∧ Fr (fun _ => False) (w.alloc (.cells #[.string (str [119, 104, 97, 116, 32, 100, 111, 32, 121, 97, 32, 119, 97, 110, 116, 32]), .string (str [102, 111, 114, 32, 110, 111, 116, 104, 105, 110, 103, 63])] 9)) w' from fun w => by
    have h := mac_tag [74, 101, 102, 101] w.heap.size 2 [[119, 104, 97, 116, 32, 100, 111, 32, 121, 97, 32, 119, 97, 110, 116, 32], [102, 111, 114, 32, 110, 111, 116, 104, 105, 110, 103, 63]] (w.alloc (.cells (([[119, 104, 97, 116, 32, 100, 111, 32, 121, 97, 32, 119, 97, 110, 116, 32], [102, 111, 114, 32, 110, 111, 116, 104, 105, 110, 103, 63]] : List (List UInt8)).map fun s => Value.string (str s)).toArray 9)) (fun j s hj => strs_cell w _ 9 j s hj) (by rw [World.size_alloc]; omega) (by decide) (by decide) (by decide)
    rw [show ([[119, 104, 97, 116, 32, 100, 111, 32, 121, 97, 32, 119, 97, 110, 116, 32], [102, 111, 114, 32, 110, 111, 116, 104, 105, 110, 103, 63]] : List (List UInt8)).flatten = [119, 104, 97, 116, 32, 100, 111, 32, 121, 97, 32, 119, 97, 110, 116, 32, 102, 111, 114, 32, 110, 111, 116, 104, 105, 110, 103, 63] from rfl, je_tag, ← hJT] at h
    exact h)
  have HDer := Lib.hid (show ∀ w : World, Calls Try.prog 36 #[.string ⟨#[]⟩, .string ⟨#[120]⟩, .string ⟨#[121]⟩, .int .i64 40] w fun e w' => e = .returned (.tuple #[.string D, .int .i64 0]) ∧ Fr (fun _ => False) w w' from fun w => by
    rw [hD]; exact mac_derive [] [120] [121] 40 (by omega) (by decide) (by decide) (by decide) w)
  have HChk := Lib.hid (show ∀ w : World, Calls Try.prog 39 #[.string (str [74, 101, 102, 101]), .string JT, .slice (some ⟨w.heap.size, 0, none⟩) 1 1] (w.alloc (.cells #[.string (str [119, 104, 97, 116, 32, 100, 111, 32, 121, 97, 32, 119, 97, 110, 116, 32, 102, 111, 114, 32, 110, 111, 116, 104, 105, 110, 103, 63])] 9)) fun e w' => e = .returned (.bool true) ∧ Fr (fun _ => False) (w.alloc (.cells #[.string (str [119, 104, 97, 116, 32, 100, 111, 32, 121, 97, 32, 119, 97, 110, 116, 32, 102, 111, 114, 32, 110, 111, 116, 104, 105, 110, 103, 63])] 9)) w' from fun w => by
    have h := mac_check [74, 101, 102, 101] jeT w.heap.size 1 [[119, 104, 97, 116, 32, 100, 111, 32, 121, 97, 32, 119, 97, 110, 116, 32, 102, 111, 114, 32, 110, 111, 116, 104, 105, 110, 103, 63]] (w.alloc (.cells (([[119, 104, 97, 116, 32, 100, 111, 32, 121, 97, 32, 119, 97, 110, 116, 32, 102, 111, 114, 32, 110, 111, 116, 104, 105, 110, 103, 63]] : List (List UInt8)).map fun s => Value.string (str s)).toArray 9)) (fun j s hj => strs_cell w _ 9 j s hj) (by rw [World.size_alloc]; omega) (by decide) (by decide) (by decide) (by decide)
    rw [show ([[119, 104, 97, 116, 32, 100, 111, 32, 121, 97, 32, 119, 97, 110, 116, 32, 102, 111, 114, 32, 110, 111, 116, 104, 105, 110, 103, 63]] : List (List UInt8)).flatten = [119, 104, 97, 116, 32, 100, 111, 32, 121, 97, 32, 119, 97, 110, 116, 32, 102, 111, 114, 32, 110, 111, 116, 104, 105, 110, 103, 63] from rfl, je_tag, ← hJT, decide_eq_true rfl] at h
    exact h)
  have HChk2 := Lib.hid (show ∀ w : World, Calls Try.prog 39 #[.string (str [106, 101, 102, 101]), .string JT, .slice (some ⟨w.heap.size, 0, none⟩) 1 1] (w.alloc (.cells #[.string (str [119, 104, 97, 116, 32, 100, 111, 32, 121, 97, 32, 119, 97, 110, 116, 32, 102, 111, 114, 32, 110, 111, 116, 104, 105, 110, 103, 63])] 9)) fun e w' => e = .returned (.bool false) ∧ Fr (fun _ => False) (w.alloc (.cells #[.string (str [119, 104, 97, 116, 32, 100, 111, 32, 121, 97, 32, 119, 97, 110, 116, 32, 102, 111, 114, 32, 110, 111, 116, 104, 105, 110, 103, 63])] 9)) w' from fun w => by
    have h := mac_check [106, 101, 102, 101] jeT w.heap.size 1 [[119, 104, 97, 116, 32, 100, 111, 32, 121, 97, 32, 119, 97, 110, 116, 32, 102, 111, 114, 32, 110, 111, 116, 104, 105, 110, 103, 63]] (w.alloc (.cells (([[119, 104, 97, 116, 32, 100, 111, 32, 121, 97, 32, 119, 97, 110, 116, 32, 102, 111, 114, 32, 110, 111, 116, 104, 105, 110, 103, 63]] : List (List UInt8)).map fun s => Value.string (str s)).toArray 9)) (fun j s hj => strs_cell w _ 9 j s hj) (by rw [World.size_alloc]; omega) (by decide) (by decide) (by decide) (by decide)
    rw [show ([[119, 104, 97, 116, 32, 100, 111, 32, 121, 97, 32, 119, 97, 110, 116, 32, 102, 111, 114, 32, 110, 111, 116, 104, 105, 110, 103, 63]] : List (List UInt8)).flatten = [119, 104, 97, 116, 32, 100, 111, 32, 121, 97, 32, 119, 97, 110, 116, 32, 102, 111, 114, 32, 110, 111, 116, 104, 105, 110, 103, 63] from rfl, je_tag2, ← hJT, decide_eq_false (by decide)] at h
    exact h)
  clear hJT hD
  go_enter Try.func34, Try.ntmps34
  go_wp2_with fail
  refine (HTag.out w).mono ?_
  rintro e w1 ⟨rfl, hf1⟩
  have HF1 := Lib.hid (((Fr.refl (fun _ => False) w).alloc (.cells #[.string (str [119, 104, 97, 116, 32, 100, 111, 32, 121, 97, 32, 119, 97, 110, 116, 32]), .string (str [102, 111, 114, 32, 110, 111, 116, 104, 105, 110, 103, 63])] 9)).trans hf1 (fun i hi => hi.elim))
  clear hf1
  go_wp2_with fail
  refine (HDer.out w1).mono ?_
  rintro e w2 ⟨rfl, hf2⟩
  have HF2 := Lib.hid (HF1.out.trans hf2 (fun i hi => hi.elim))
  clear hf2
  go_wp2_with fail
  refine (mac_derive_no _ _ _ 8161 (by omega) w2).mono ?_
  rintro e w3 ⟨rfl, rfl⟩
  go_wp2_with fail
  refine (HChk.out _).mono ?_
  rintro e w4 ⟨rfl, hf4⟩
  have HF4 := Lib.hid ((HF2.out.alloc (.cells #[.string (str [119, 104, 97, 116, 32, 100, 111, 32, 121, 97, 32, 119, 97, 110, 116, 32, 102, 111, 114, 32, 110, 111, 116, 104, 105, 110, 103, 63])] 9)).trans hf4 (fun i hi => hi.elim))
  clear hf4
  go_wp2_with fail
  refine (HChk2.out _).mono ?_
  rintro e w5 ⟨rfl, hf5⟩
  have HF5 := Lib.hid ((HF4.out.alloc (.cells #[.string (str [119, 104, 97, 116, 32, 100, 111, 32, 121, 97, 32, 119, 97, 110, 116, 32, 102, 111, 114, 32, 110, 111, 116, 104, 105, 110, 103, 63])] 9)).trans hf5 (fun i hi => hi.elim))
  clear hf5
  go_wp2_with fail
  go_ret
  exact ⟨rfl, HF5.out⟩
end Go.Proofs.Ytcchhfkmhbjdmaa
