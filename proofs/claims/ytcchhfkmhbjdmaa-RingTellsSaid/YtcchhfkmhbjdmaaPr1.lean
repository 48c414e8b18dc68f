/- The ring's small functions, as total functions of their arguments. -/
import Derived.Test.YtcchhfkmhbjdmaaPmG
set_option linter.unusedVariables false
set_option linter.unusedSimpArgs false
set_option pp.deepTerms true
set_option pp.maxSteps 100000
namespace Go.Proofs.Ytcchhfkmhbjdmaa
open Go.RowKit
def wrapF (U N K : List UInt8) : List UInt8 × Int := if U.length ≠ 32 ∨ K.length ≠ 32 then ([], 2) else if 64 < N.length then ([], 3) else (wrapL U N K, 0)
def unwrapF (U N W : List UInt8) : List UInt8 × Int := if U.length ≠ 32 ∨ W.length ≠ 60 then ([], 2) else if 64 < N.length then ([], 3) else (if unwraps U N W then unkey U W else [], if unwraps U N W then 0 else 8)
theorem wrapF_code (U N K : List UInt8) : (wrapF U N K).2 = 0 ∨ (wrapF U N K).2 = 2 ∨ (wrapF U N K).2 = 3 ∨ (wrapF U N K).2 = 8 := by
  unfold wrapF; split
  · exact .inr (.inl rfl)
  · split
    · exact .inr (.inr (.inl rfl))
    · exact .inl rfl
theorem unwrapF_code (U N W : List UInt8) : (unwrapF U N W).2 = 0 ∨ (unwrapF U N W).2 = 2 ∨ (unwrapF U N W).2 = 3 ∨ (unwrapF U N W).2 = 8 := by
  unfold unwrapF; split
  · exact .inr (.inl rfl)
  · split
    · exact .inr (.inr (.inl rfl))
    · show (if unwraps U N W = true then (0 : Int) else 8) = 0 ∨ _
      cases unwraps U N W
      · exact .inr (.inr (.inr rfl))
      · exact .inl rfl
theorem wrap_all (U N K : List UInt8) (w : World) : Calls Try.prog 48 #[.string (str U), .string (str N), .string (str K)] w fun e w' => e = .returned (.tuple #[.string (str (wrapF U N K).1), .int .i64 (wrapF U N K).2]) ∧ Fr (fun _ => False) w w' := by
  unfold wrapF
  by_cases h : U.length ≠ 32 ∨ K.length ≠ 32
  · rw [if_pos h]
    exact wrap_form (str U) (str N) (str K) (by rw [str_size, str_size]; exact h) w
  · rw [if_neg h]
    by_cases h2 : 64 < N.length
    · rw [if_pos h2]
      exact wrap_long (str U) (str N) (str K) (by rw [str_size]; omega) (by rw [str_size]; omega) (by rw [str_size]; exact h2) w
    · rw [if_neg h2]
      have hy := wrap_yes U N K (by omega) (by omega) (by omega) w
      exact hy
theorem refwrap_all (U N K : List UInt8) (w : World) : Calls Try.prog 49 #[.string (str U), .string (str N), .string (str K)] w fun e w' => e = .returned (.tuple #[.string (str (wrapF U N K).1), .int .i64 (wrapF U N K).2]) ∧ Fr (fun _ => False) w w' := by
  unfold wrapF
  by_cases h : U.length ≠ 32 ∨ K.length ≠ 32
  · rw [if_pos h]
    exact refwrap_form (str U) (str N) (str K) (by rw [str_size, str_size]; exact h) w
  · rw [if_neg h]
    by_cases h2 : 64 < N.length
    · rw [if_pos h2]
      exact refwrap_long (str U) (str N) (str K) (by rw [str_size]; omega) (by rw [str_size]; omega) (by rw [str_size]; exact h2) w
    · rw [if_neg h2]
      have hy := refwrap_yes U N K (by omega) (by omega) (by omega) w
      exact hy
theorem unwrap_all (U N W : List UInt8) (w : World) : Calls Try.prog 50 #[.string (str U), .string (str N), .string (str W)] w fun e w' => e = .returned (.tuple #[.string (str (unwrapF U N W).1), .int .i64 (unwrapF U N W).2]) ∧ Fr (fun _ => False) w w' := by
  unfold unwrapF
  by_cases h : U.length ≠ 32 ∨ W.length ≠ 60
  · rw [if_pos h]
    exact unwrap_form (str U) (str N) (str W) (by rw [str_size, str_size]; exact h) w
  · rw [if_neg h]
    by_cases h2 : 64 < N.length
    · rw [if_pos h2]
      exact unwrap_long (str U) (str N) (str W) (by rw [str_size]; omega) (by rw [str_size]; omega) (by rw [str_size]; exact h2) w
    · rw [if_neg h2]
      have hy := unwrap_yes U N W (by omega) (by omega) (by omega) w
      refine hy.mono ?_
      rintro e w' ⟨rfl, hf⟩
      refine ⟨?_, hf⟩
      cases unwraps U N W <;> rfl
theorem refunwrap_all (U N W : List UInt8) (w : World) : Calls Try.prog 51 #[.string (str U), .string (str N), .string (str W)] w fun e w' => e = .returned (.tuple #[.string (str (unwrapF U N W).1), .int .i64 (unwrapF U N W).2]) ∧ Fr (fun _ => False) w w' := by
  unfold unwrapF
  by_cases h : U.length ≠ 32 ∨ W.length ≠ 60
  · rw [if_pos h]
    exact refunwrap_form (str U) (str N) (str W) (by rw [str_size, str_size]; exact h) w
  · rw [if_neg h]
    by_cases h2 : 64 < N.length
    · rw [if_pos h2]
      exact refunwrap_long (str U) (str N) (str W) (by rw [str_size]; omega) (by rw [str_size]; omega) (by rw [str_size]; exact h2) w
    · rw [if_neg h2]
      have hy := refunwrap_yes U N W (by omega) (by omega) (by omega) w
      refine hy.mono ?_
      rintro e w' ⟨rfl, hf⟩
      refine ⟨?_, hf⟩
      cases unwraps U N W <;> rfl
def fourL (n : Int) : List UInt8 := [0, 0, 0, UInt8.ofNat n.toNat]
def derL (salt draw info : List UInt8) : List UInt8 := derive salt draw info 32
theorem derL_length (salt draw info : List UInt8) : (derL salt draw info).length = 32 := derive_length _ _ _ _
def badN (n : Int) : Prop := n < 1 ∨ 8 < n
set_option maxRecDepth 20000 in
set_option maxHeartbeats 1000000 in
theorem rgfour_1 (w : World) : Calls Try.prog 95 #[.int .i64 1] w fun e w' => e = .returned (.string (str (fourL 1))) ∧ Fr (fun _ => False) w w' := by
  have hcv := run_convert_str (P := Try.prog) (w.alloc (.cells #[.int .u8 0, .int .u8 0, .int .u8 0, .int .u8 1] 5)) 27 5 Try.underlying27 Try.underlying5 w.heap.size 0 4 4 [0, 0, 0, 1] rfl (fun j v hj => by
    rw [Nat.zero_add, cell_of_row _ w.heap.size j _ _ _ (heap_alloc_new w _)]; simpa [bcells] using hj) 9 Try.underlying9
  obtain ⟨Y, hY⟩ : ∃ s, s = str [0, 0, 0, 1] := ⟨_, rfl⟩
  rw [← hY] at hcv
  have HY := Lib.hid (show str (fourL 1) = Y by rw [hY]; rfl)
  rw [HY.out]
  clear hY
  go_enter Try.func95, Try.ntmps95
  go_wp2_with fail
  go_ret
  exact ⟨rfl, (Fr.refl _ _).alloc _⟩
set_option maxRecDepth 20000 in
set_option maxHeartbeats 1000000 in
theorem rgfour_2 (w : World) : Calls Try.prog 95 #[.int .i64 2] w fun e w' => e = .returned (.string (str (fourL 2))) ∧ Fr (fun _ => False) w w' := by
  have hcv := run_convert_str (P := Try.prog) (w.alloc (.cells #[.int .u8 0, .int .u8 0, .int .u8 0, .int .u8 2] 5)) 27 5 Try.underlying27 Try.underlying5 w.heap.size 0 4 4 [0, 0, 0, 2] rfl (fun j v hj => by
    rw [Nat.zero_add, cell_of_row _ w.heap.size j _ _ _ (heap_alloc_new w _)]; simpa [bcells] using hj) 9 Try.underlying9
  obtain ⟨Y, hY⟩ : ∃ s, s = str [0, 0, 0, 2] := ⟨_, rfl⟩
  rw [← hY] at hcv
  have HY := Lib.hid (show str (fourL 2) = Y by rw [hY]; rfl)
  rw [HY.out]
  clear hY
  go_enter Try.func95, Try.ntmps95
  go_wp2_with fail
  go_ret
  exact ⟨rfl, (Fr.refl _ _).alloc _⟩
set_option maxRecDepth 20000 in
set_option maxHeartbeats 1000000 in
theorem rgfour_3 (w : World) : Calls Try.prog 95 #[.int .i64 3] w fun e w' => e = .returned (.string (str (fourL 3))) ∧ Fr (fun _ => False) w w' := by
  have hcv := run_convert_str (P := Try.prog) (w.alloc (.cells #[.int .u8 0, .int .u8 0, .int .u8 0, .int .u8 3] 5)) 27 5 Try.underlying27 Try.underlying5 w.heap.size 0 4 4 [0, 0, 0, 3] rfl (fun j v hj => by
    rw [Nat.zero_add, cell_of_row _ w.heap.size j _ _ _ (heap_alloc_new w _)]; simpa [bcells] using hj) 9 Try.underlying9
  obtain ⟨Y, hY⟩ : ∃ s, s = str [0, 0, 0, 3] := ⟨_, rfl⟩
  rw [← hY] at hcv
  have HY := Lib.hid (show str (fourL 3) = Y by rw [hY]; rfl)
  rw [HY.out]
  clear hY
  go_enter Try.func95, Try.ntmps95
  go_wp2_with fail
  go_ret
  exact ⟨rfl, (Fr.refl _ _).alloc _⟩
set_option maxRecDepth 20000 in
set_option maxHeartbeats 1000000 in
theorem rgfour_4 (w : World) : Calls Try.prog 95 #[.int .i64 4] w fun e w' => e = .returned (.string (str (fourL 4))) ∧ Fr (fun _ => False) w w' := by
  have hcv := run_convert_str (P := Try.prog) (w.alloc (.cells #[.int .u8 0, .int .u8 0, .int .u8 0, .int .u8 4] 5)) 27 5 Try.underlying27 Try.underlying5 w.heap.size 0 4 4 [0, 0, 0, 4] rfl (fun j v hj => by
    rw [Nat.zero_add, cell_of_row _ w.heap.size j _ _ _ (heap_alloc_new w _)]; simpa [bcells] using hj) 9 Try.underlying9
  obtain ⟨Y, hY⟩ : ∃ s, s = str [0, 0, 0, 4] := ⟨_, rfl⟩
  rw [← hY] at hcv
  have HY := Lib.hid (show str (fourL 4) = Y by rw [hY]; rfl)
  rw [HY.out]
  clear hY
  go_enter Try.func95, Try.ntmps95
  go_wp2_with fail
  go_ret
  exact ⟨rfl, (Fr.refl _ _).alloc _⟩
set_option maxRecDepth 20000 in
set_option maxHeartbeats 1000000 in
theorem rgfour_5 (w : World) : Calls Try.prog 95 #[.int .i64 5] w fun e w' => e = .returned (.string (str (fourL 5))) ∧ Fr (fun _ => False) w w' := by
  have hcv := run_convert_str (P := Try.prog) (w.alloc (.cells #[.int .u8 0, .int .u8 0, .int .u8 0, .int .u8 5] 5)) 27 5 Try.underlying27 Try.underlying5 w.heap.size 0 4 4 [0, 0, 0, 5] rfl (fun j v hj => by
    rw [Nat.zero_add, cell_of_row _ w.heap.size j _ _ _ (heap_alloc_new w _)]; simpa [bcells] using hj) 9 Try.underlying9
  obtain ⟨Y, hY⟩ : ∃ s, s = str [0, 0, 0, 5] := ⟨_, rfl⟩
  rw [← hY] at hcv
  have HY := Lib.hid (show str (fourL 5) = Y by rw [hY]; rfl)
  rw [HY.out]
  clear hY
  go_enter Try.func95, Try.ntmps95
  go_wp2_with fail
  go_ret
  exact ⟨rfl, (Fr.refl _ _).alloc _⟩
set_option maxRecDepth 20000 in
set_option maxHeartbeats 1000000 in
theorem rgfour_6 (w : World) : Calls Try.prog 95 #[.int .i64 6] w fun e w' => e = .returned (.string (str (fourL 6))) ∧ Fr (fun _ => False) w w' := by
  have hcv := run_convert_str (P := Try.prog) (w.alloc (.cells #[.int .u8 0, .int .u8 0, .int .u8 0, .int .u8 6] 5)) 27 5 Try.underlying27 Try.underlying5 w.heap.size 0 4 4 [0, 0, 0, 6] rfl (fun j v hj => by
    rw [Nat.zero_add, cell_of_row _ w.heap.size j _ _ _ (heap_alloc_new w _)]; simpa [bcells] using hj) 9 Try.underlying9
  obtain ⟨Y, hY⟩ : ∃ s, s = str [0, 0, 0, 6] := ⟨_, rfl⟩
  rw [← hY] at hcv
  have HY := Lib.hid (show str (fourL 6) = Y by rw [hY]; rfl)
  rw [HY.out]
  clear hY
  go_enter Try.func95, Try.ntmps95
  go_wp2_with fail
  go_ret
  exact ⟨rfl, (Fr.refl _ _).alloc _⟩
set_option maxRecDepth 20000 in
set_option maxHeartbeats 1000000 in
theorem rgfour_7 (w : World) : Calls Try.prog 95 #[.int .i64 7] w fun e w' => e = .returned (.string (str (fourL 7))) ∧ Fr (fun _ => False) w w' := by
  have hcv := run_convert_str (P := Try.prog) (w.alloc (.cells #[.int .u8 0, .int .u8 0, .int .u8 0, .int .u8 7] 5)) 27 5 Try.underlying27 Try.underlying5 w.heap.size 0 4 4 [0, 0, 0, 7] rfl (fun j v hj => by
    rw [Nat.zero_add, cell_of_row _ w.heap.size j _ _ _ (heap_alloc_new w _)]; simpa [bcells] using hj) 9 Try.underlying9
  obtain ⟨Y, hY⟩ : ∃ s, s = str [0, 0, 0, 7] := ⟨_, rfl⟩
  rw [← hY] at hcv
  have HY := Lib.hid (show str (fourL 7) = Y by rw [hY]; rfl)
  rw [HY.out]
  clear hY
  go_enter Try.func95, Try.ntmps95
  go_wp2_with fail
  go_ret
  exact ⟨rfl, (Fr.refl _ _).alloc _⟩
set_option maxRecDepth 20000 in
set_option maxHeartbeats 1000000 in
theorem rgfour_8 (w : World) : Calls Try.prog 95 #[.int .i64 8] w fun e w' => e = .returned (.string (str (fourL 8))) ∧ Fr (fun _ => False) w w' := by
  have hcv := run_convert_str (P := Try.prog) (w.alloc (.cells #[.int .u8 0, .int .u8 0, .int .u8 0, .int .u8 8] 5)) 27 5 Try.underlying27 Try.underlying5 w.heap.size 0 4 4 [0, 0, 0, 8] rfl (fun j v hj => by
    rw [Nat.zero_add, cell_of_row _ w.heap.size j _ _ _ (heap_alloc_new w _)]; simpa [bcells] using hj) 9 Try.underlying9
  obtain ⟨Y, hY⟩ : ∃ s, s = str [0, 0, 0, 8] := ⟨_, rfl⟩
  rw [← hY] at hcv
  have HY := Lib.hid (show str (fourL 8) = Y by rw [hY]; rfl)
  rw [HY.out]
  clear hY
  go_enter Try.func95, Try.ntmps95
  go_wp2_with fail
  go_ret
  exact ⟨rfl, (Fr.refl _ _).alloc _⟩
theorem rgfour_calls (n : Int) (hn : ¬ badN n) (w : World) : Calls Try.prog 95 #[.int .i64 n] w fun e w' => e = .returned (.string (str (fourL n))) ∧ Fr (fun _ => False) w w' := by
  have h : n = 1 ∨ n = 2 ∨ n = 3 ∨ n = 4 ∨ n = 5 ∨ n = 6 ∨ n = 7 ∨ n = 8 := by unfold badN at hn; omega
  rcases h with rfl | rfl | rfl | rfl | rfl | rfl | rfl | rfl
  · exact rgfour_1 w
  · exact rgfour_2 w
  · exact rgfour_3 w
  · exact rgfour_4 w
  · exact rgfour_5 w
  · exact rgfour_6 w
  · exact rgfour_7 w
  · exact rgfour_8 w
set_option maxRecDepth 20000 in
set_option maxHeartbeats 1000000 in
theorem rgreffour_1 (w : World) : Calls Try.prog 97 #[.int .i64 1] w fun e w' => e = .returned (.string (str (fourL 1))) ∧ Fr (fun _ => False) w w' := by
  have hcv := run_convert_str (P := Try.prog) (w.alloc (.cells #[.int .u8 0, .int .u8 0, .int .u8 0, .int .u8 1] 5)) 27 5 Try.underlying27 Try.underlying5 w.heap.size 0 4 4 [0, 0, 0, 1] rfl (fun j v hj => by
    rw [Nat.zero_add, cell_of_row _ w.heap.size j _ _ _ (heap_alloc_new w _)]; simpa [bcells] using hj) 9 Try.underlying9
  obtain ⟨Y, hY⟩ : ∃ s, s = str [0, 0, 0, 1] := ⟨_, rfl⟩
  rw [← hY] at hcv
  have HY := Lib.hid (show str (fourL 1) = Y by rw [hY]; rfl)
  rw [HY.out]
  clear hY
  go_enter Try.func97, Try.ntmps97
  go_wp2_with fail
  go_ret
  exact ⟨rfl, (Fr.refl _ _).alloc _⟩
set_option maxRecDepth 20000 in
set_option maxHeartbeats 1000000 in
theorem rgreffour_2 (w : World) : Calls Try.prog 97 #[.int .i64 2] w fun e w' => e = .returned (.string (str (fourL 2))) ∧ Fr (fun _ => False) w w' := by
  have hcv := run_convert_str (P := Try.prog) (w.alloc (.cells #[.int .u8 0, .int .u8 0, .int .u8 0, .int .u8 2] 5)) 27 5 Try.underlying27 Try.underlying5 w.heap.size 0 4 4 [0, 0, 0, 2] rfl (fun j v hj => by
    rw [Nat.zero_add, cell_of_row _ w.heap.size j _ _ _ (heap_alloc_new w _)]; simpa [bcells] using hj) 9 Try.underlying9
  obtain ⟨Y, hY⟩ : ∃ s, s = str [0, 0, 0, 2] := ⟨_, rfl⟩
  rw [← hY] at hcv
  have HY := Lib.hid (show str (fourL 2) = Y by rw [hY]; rfl)
  rw [HY.out]
  clear hY
  go_enter Try.func97, Try.ntmps97
  go_wp2_with fail
  go_ret
  exact ⟨rfl, (Fr.refl _ _).alloc _⟩
set_option maxRecDepth 20000 in
set_option maxHeartbeats 1000000 in
theorem rgreffour_3 (w : World) : Calls Try.prog 97 #[.int .i64 3] w fun e w' => e = .returned (.string (str (fourL 3))) ∧ Fr (fun _ => False) w w' := by
  have hcv := run_convert_str (P := Try.prog) (w.alloc (.cells #[.int .u8 0, .int .u8 0, .int .u8 0, .int .u8 3] 5)) 27 5 Try.underlying27 Try.underlying5 w.heap.size 0 4 4 [0, 0, 0, 3] rfl (fun j v hj => by
    rw [Nat.zero_add, cell_of_row _ w.heap.size j _ _ _ (heap_alloc_new w _)]; simpa [bcells] using hj) 9 Try.underlying9
  obtain ⟨Y, hY⟩ : ∃ s, s = str [0, 0, 0, 3] := ⟨_, rfl⟩
  rw [← hY] at hcv
  have HY := Lib.hid (show str (fourL 3) = Y by rw [hY]; rfl)
  rw [HY.out]
  clear hY
  go_enter Try.func97, Try.ntmps97
  go_wp2_with fail
  go_ret
  exact ⟨rfl, (Fr.refl _ _).alloc _⟩
set_option maxRecDepth 20000 in
set_option maxHeartbeats 1000000 in
theorem rgreffour_4 (w : World) : Calls Try.prog 97 #[.int .i64 4] w fun e w' => e = .returned (.string (str (fourL 4))) ∧ Fr (fun _ => False) w w' := by
  have hcv := run_convert_str (P := Try.prog) (w.alloc (.cells #[.int .u8 0, .int .u8 0, .int .u8 0, .int .u8 4] 5)) 27 5 Try.underlying27 Try.underlying5 w.heap.size 0 4 4 [0, 0, 0, 4] rfl (fun j v hj => by
    rw [Nat.zero_add, cell_of_row _ w.heap.size j _ _ _ (heap_alloc_new w _)]; simpa [bcells] using hj) 9 Try.underlying9
  obtain ⟨Y, hY⟩ : ∃ s, s = str [0, 0, 0, 4] := ⟨_, rfl⟩
  rw [← hY] at hcv
  have HY := Lib.hid (show str (fourL 4) = Y by rw [hY]; rfl)
  rw [HY.out]
  clear hY
  go_enter Try.func97, Try.ntmps97
  go_wp2_with fail
  go_ret
  exact ⟨rfl, (Fr.refl _ _).alloc _⟩
set_option maxRecDepth 20000 in
set_option maxHeartbeats 1000000 in
theorem rgreffour_5 (w : World) : Calls Try.prog 97 #[.int .i64 5] w fun e w' => e = .returned (.string (str (fourL 5))) ∧ Fr (fun _ => False) w w' := by
  have hcv := run_convert_str (P := Try.prog) (w.alloc (.cells #[.int .u8 0, .int .u8 0, .int .u8 0, .int .u8 5] 5)) 27 5 Try.underlying27 Try.underlying5 w.heap.size 0 4 4 [0, 0, 0, 5] rfl (fun j v hj => by
    rw [Nat.zero_add, cell_of_row _ w.heap.size j _ _ _ (heap_alloc_new w _)]; simpa [bcells] using hj) 9 Try.underlying9
  obtain ⟨Y, hY⟩ : ∃ s, s = str [0, 0, 0, 5] := ⟨_, rfl⟩
  rw [← hY] at hcv
  have HY := Lib.hid (show str (fourL 5) = Y by rw [hY]; rfl)
  rw [HY.out]
  clear hY
  go_enter Try.func97, Try.ntmps97
  go_wp2_with fail
  go_ret
  exact ⟨rfl, (Fr.refl _ _).alloc _⟩
set_option maxRecDepth 20000 in
set_option maxHeartbeats 1000000 in
theorem rgreffour_6 (w : World) : Calls Try.prog 97 #[.int .i64 6] w fun e w' => e = .returned (.string (str (fourL 6))) ∧ Fr (fun _ => False) w w' := by
  have hcv := run_convert_str (P := Try.prog) (w.alloc (.cells #[.int .u8 0, .int .u8 0, .int .u8 0, .int .u8 6] 5)) 27 5 Try.underlying27 Try.underlying5 w.heap.size 0 4 4 [0, 0, 0, 6] rfl (fun j v hj => by
    rw [Nat.zero_add, cell_of_row _ w.heap.size j _ _ _ (heap_alloc_new w _)]; simpa [bcells] using hj) 9 Try.underlying9
  obtain ⟨Y, hY⟩ : ∃ s, s = str [0, 0, 0, 6] := ⟨_, rfl⟩
  rw [← hY] at hcv
  have HY := Lib.hid (show str (fourL 6) = Y by rw [hY]; rfl)
  rw [HY.out]
  clear hY
  go_enter Try.func97, Try.ntmps97
  go_wp2_with fail
  go_ret
  exact ⟨rfl, (Fr.refl _ _).alloc _⟩
set_option maxRecDepth 20000 in
set_option maxHeartbeats 1000000 in
theorem rgreffour_7 (w : World) : Calls Try.prog 97 #[.int .i64 7] w fun e w' => e = .returned (.string (str (fourL 7))) ∧ Fr (fun _ => False) w w' := by
  have hcv := run_convert_str (P := Try.prog) (w.alloc (.cells #[.int .u8 0, .int .u8 0, .int .u8 0, .int .u8 7] 5)) 27 5 Try.underlying27 Try.underlying5 w.heap.size 0 4 4 [0, 0, 0, 7] rfl (fun j v hj => by
    rw [Nat.zero_add, cell_of_row _ w.heap.size j _ _ _ (heap_alloc_new w _)]; simpa [bcells] using hj) 9 Try.underlying9
  obtain ⟨Y, hY⟩ : ∃ s, s = str [0, 0, 0, 7] := ⟨_, rfl⟩
  rw [← hY] at hcv
  have HY := Lib.hid (show str (fourL 7) = Y by rw [hY]; rfl)
  rw [HY.out]
  clear hY
  go_enter Try.func97, Try.ntmps97
  go_wp2_with fail
  go_ret
  exact ⟨rfl, (Fr.refl _ _).alloc _⟩
set_option maxRecDepth 20000 in
set_option maxHeartbeats 1000000 in
theorem rgreffour_8 (w : World) : Calls Try.prog 97 #[.int .i64 8] w fun e w' => e = .returned (.string (str (fourL 8))) ∧ Fr (fun _ => False) w w' := by
  have hcv := run_convert_str (P := Try.prog) (w.alloc (.cells #[.int .u8 0, .int .u8 0, .int .u8 0, .int .u8 8] 5)) 27 5 Try.underlying27 Try.underlying5 w.heap.size 0 4 4 [0, 0, 0, 8] rfl (fun j v hj => by
    rw [Nat.zero_add, cell_of_row _ w.heap.size j _ _ _ (heap_alloc_new w _)]; simpa [bcells] using hj) 9 Try.underlying9
  obtain ⟨Y, hY⟩ : ∃ s, s = str [0, 0, 0, 8] := ⟨_, rfl⟩
  rw [← hY] at hcv
  have HY := Lib.hid (show str (fourL 8) = Y by rw [hY]; rfl)
  rw [HY.out]
  clear hY
  go_enter Try.func97, Try.ntmps97
  go_wp2_with fail
  go_ret
  exact ⟨rfl, (Fr.refl _ _).alloc _⟩
theorem rgreffour_calls (n : Int) (hn : ¬ badN n) (w : World) : Calls Try.prog 97 #[.int .i64 n] w fun e w' => e = .returned (.string (str (fourL n))) ∧ Fr (fun _ => False) w w' := by
  have h : n = 1 ∨ n = 2 ∨ n = 3 ∨ n = 4 ∨ n = 5 ∨ n = 6 ∨ n = 7 ∨ n = 8 := by unfold badN at hn; omega
  rcases h with rfl | rfl | rfl | rfl | rfl | rfl | rfl | rfl
  · exact rgreffour_1 w
  · exact rgreffour_2 w
  · exact rgreffour_3 w
  · exact rgreffour_4 w
  · exact rgreffour_5 w
  · exact rgreffour_6 w
  · exact rgreffour_7 w
  · exact rgreffour_8 w
set_option maxRecDepth 20000 in
set_option maxHeartbeats 1000000 in
theorem derived_calls (salt draw info : List UInt8) (h1 : salt.length ≤ 60000) (h2 : draw.length ≤ 60000) (h3 : info.length ≤ 60000) (w : World) :
    Calls Try.prog 96 #[.string (str salt), .string (str draw), .string (str info)] w fun e w' => e = .returned (.string (str (derL salt draw info))) ∧ Fr (fun _ => False) w w' := by
  obtain ⟨S, hS⟩ : ∃ s, s = str salt := ⟨_, rfl⟩
  obtain ⟨D, hD⟩ : ∃ s, s = str draw := ⟨_, rfl⟩
  obtain ⟨I, hI⟩ : ∃ s, s = str info := ⟨_, rfl⟩
  obtain ⟨R, hR⟩ : ∃ s, s = str (derL salt draw info) := ⟨_, rfl⟩
  have HC := Lib.hid (show ∀ w, Calls Try.prog 36 #[.string S, .string D, .string I, .int .i64 32] w fun e w' => e = .returned (.tuple #[.string R, .int .i64 0]) ∧ Fr (fun _ => False) w w' from fun w => by rw [hS, hD, hI, hR]; exact mac_derive salt draw info 32 (by omega) (by omega) (by omega) (by omega) w)
  rw [← hS, ← hD, ← hI, ← hR]
  clear hS hD hI hR h1 h2 h3
  go_enter Try.func96, Try.ntmps96
  go_wp2_with fail
  refine (HC.out w).mono ?_
  rintro e w1 ⟨rfl, f1⟩
  have HF1 := Lib.hid f1
  clear f1
  go_wp2_with fail
  go_ret
  exact ⟨rfl, HF1.out⟩
set_option maxRecDepth 20000 in
set_option maxHeartbeats 1000000 in
theorem refderived_calls (salt draw info : List UInt8) (h1 : salt.length ≤ 60000) (h2 : draw.length ≤ 60000) (h3 : info.length ≤ 60000) (w : World) :
    Calls Try.prog 64 #[.string (str salt), .string (str draw), .string (str info)] w fun e w' => e = .returned (.string (str (derL salt draw info))) ∧ Fr (fun _ => False) w w' := by
  obtain ⟨S, hS⟩ : ∃ s, s = str salt := ⟨_, rfl⟩
  obtain ⟨D, hD⟩ : ∃ s, s = str draw := ⟨_, rfl⟩
  obtain ⟨I, hI⟩ : ∃ s, s = str info := ⟨_, rfl⟩
  obtain ⟨R, hR⟩ : ∃ s, s = str (derL salt draw info) := ⟨_, rfl⟩
  have HC := Lib.hid (show ∀ w, Calls Try.prog 37 #[.string S, .string D, .string I, .int .i64 32] w fun e w' => e = .returned (.tuple #[.string R, .int .i64 0]) ∧ Fr (fun _ => False) w w' from fun w => by rw [hS, hD, hI, hR]; exact ref_derive salt draw info 32 (by omega) (by omega) (by omega) (by omega) w)
  rw [← hS, ← hD, ← hI, ← hR]
  clear hS hD hI hR h1 h2 h3
  go_enter Try.func64, Try.ntmps64
  go_wp2_with fail
  refine (HC.out w).mono ?_
  rintro e w1 ⟨rfl, f1⟩
  have HF1 := Lib.hid f1
  clear f1
  go_wp2_with fail
  go_ret
  exact ⟨rfl, HF1.out⟩
set_option maxRecDepth 20000 in
set_option maxHeartbeats 1000000 in
theorem data_calls (draw : List UInt8) (h2 : draw.length ≤ 60000) (w : World) :
    Calls Try.prog 63 #[.string (str draw)] w fun e w' => e = .returned (.string (str (derL [100, 97, 116, 97] draw []))) ∧ Fr (fun _ => False) w w' := by
  obtain ⟨D, hD⟩ : ∃ s, s = str draw := ⟨_, rfl⟩
  obtain ⟨R, hR⟩ : ∃ s, s = str (derL [100, 97, 116, 97] draw []) := ⟨_, rfl⟩
  have HC := Lib.hid (show ∀ w, Calls Try.prog 96 #[.string ⟨#[100, 97, 116, 97]⟩, .string D, .string ⟨#[]⟩] w fun e w' => e = .returned (.string R) ∧ Fr (fun _ => False) w w' from fun w => by rw [hD, hR]; exact derived_calls [100, 97, 116, 97] draw [] (by simp) h2 (by simp) w)
  rw [← hD, ← hR]
  clear hD hR h2
  go_enter Try.func63, Try.ntmps63
  go_wp2_with fail
  refine (HC.out w).mono ?_
  rintro e w1 ⟨rfl, f1⟩
  have HF1 := Lib.hid f1
  clear f1
  go_wp2_with fail
  go_ret
  exact ⟨rfl, HF1.out⟩
set_option maxRecDepth 20000 in
set_option maxHeartbeats 1000000 in
theorem domains_yes (n : Int) (hn : ¬ badN n) (w : World) : Calls Try.prog 94 #[.int .i64 n] w fun e w' => e = .returned (.bool true) ∧ w' = w := by
  have d1 : decide ((1 : Int) ≤ n) = true := decide_eq_true (by unfold badN at hn; omega)
  have d2 : decide (n ≤ (8 : Int)) = true := decide_eq_true (by unfold badN at hn; omega)
  clear hn
  go_enter Try.func94, Try.ntmps94
  go_wp2_with fail
  go_ret
  exact ⟨rfl, rfl⟩
set_option maxRecDepth 20000 in
set_option maxHeartbeats 1000000 in
theorem domains_no (n : Int) (hn : badN n) (w : World) : Calls Try.prog 94 #[.int .i64 n] w fun e w' => e = .returned (.bool false) ∧ w' = w := by
  by_cases h : n < 1
  · have d1 : decide ((1 : Int) ≤ n) = false := decide_eq_false (by omega)
    clear hn h
    go_enter Try.func94, Try.ntmps94
    go_wp2_with fail
    go_ret
    exact ⟨rfl, rfl⟩
  · have d1 : decide ((1 : Int) ≤ n) = true := decide_eq_true (by omega)
    have d2 : decide (n ≤ (8 : Int)) = false := decide_eq_false (by unfold badN at hn; omega)
    clear hn h
    go_enter Try.func94, Try.ntmps94
    go_wp2_with fail
    go_ret
    exact ⟨rfl, rfl⟩
set_option maxRecDepth 20000 in
set_option maxHeartbeats 1000000 in
theorem rgnew_yes (root : List UInt8) (h : root.length = 32) (w : World) : Calls Try.prog 54 #[.string (str root)] w fun e w' => ∃ R, e = .returned (.tuple #[.pointer (some ⟨R, 0, none⟩), .int .i64 0]) ∧ w'.heap[R]? = some (.cells #[.string (str root)] 132 (0, 0)) ∧ Fr (fun _ => False) w w' := by
  obtain ⟨S, hS⟩ : ∃ s, s = str root := ⟨_, rfl⟩
  have u1 : ((S.size : Int) != 32) = false := by rw [hS, str_size, h]; rfl
  rw [← hS]
  clear hS h
  go_enter Try.func54, Try.ntmps54
  go_wp2_with fail
  go_ret2
  exact ⟨_, rfl, heap_alloc_new _ _, (Fr.refl _ _).alloc _⟩
set_option maxRecDepth 20000 in
set_option maxHeartbeats 1000000 in
theorem rgnew_no (S : ByteArray) (h : S.size ≠ 32) (w : World) : Calls Try.prog 54 #[.string S] w fun e w' => e = .returned (.tuple #[.pointer none, .int .i64 2]) ∧ Fr (fun _ => False) w w' := by
  have u1 : ((S.size : Int) != 32) = true := by simp; omega
  clear h
  go_enter Try.func54, Try.ntmps54
  go_wp2_with fail
  go_ret2
  exact ⟨rfl, Fr.refl _ _⟩
end Go.Proofs.Ytcchhfkmhbjdmaa
