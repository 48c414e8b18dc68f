/- ValueNests: the plain law. -/
import Derived.Test.YthmpmpepokeedaaNq
set_option linter.unusedVariables false
set_option linter.unusedSimpArgs false
namespace Go.Proofs.Ythmpmpepokeedaa
/-- The bytes of a list of one. -/
theorem nest1 (X : AV) : encA 8 (.row [X]) = if (encA 7 X).2 = 0 then (108 :: 1 :: (encA 7 X).1, 0) else ([], (encA 7 X).2) := by
  show (if 255 < [X].length then ([], 3) else if (encL (encA 7) [X]).2 = 0 then (108 :: UInt8.ofNat [X].length :: (encL (encA 7) [X]).1, 0) else ([], (encL (encA 7) [X]).2)) = _
  rw [if_neg (by simp)]
  by_cases h : (encA 7 X).2 = 0
  · simp [encL, h]
  · simp [encL, h]
/-- The bytes of a list of two. -/
theorem nest2 (X Y : AV) : encA 8 (.row [X, Y]) = if (encA 7 X).2 = 0 then (if (encA 7 Y).2 = 0 then (108 :: 2 :: ((encA 7 X).1 ++ (encA 7 Y).1), 0) else ([], (encA 7 Y).2)) else ([], (encA 7 X).2) := by
  show (if 255 < [X, Y].length then ([], 3) else if (encL (encA 7) [X, Y]).2 = 0 then (108 :: UInt8.ofNat [X, Y].length :: (encL (encA 7) [X, Y]).1, 0) else ([], (encL (encA 7) [X, Y]).2)) = _
  rw [if_neg (by simp)]
  by_cases h : (encA 7 X).2 = 0
  · by_cases h2 : (encA 7 Y).2 = 0
    · simp [encL, h, h2]
    · simp [encL, h, h2]
  · simp [encL, h]
theorem encL_up (e f : AV → List UInt8 × Nat) (h : ∀ a, (e a).2 = 0 → f a = e a) : ∀ (l : List AV), (encL e l).2 = 0 → encL f l = encL e l
  | [], _ => rfl
  | a :: r, hh => by
    by_cases h1 : (e a).2 = 0
    · by_cases h2 : (encL e r).2 = 0
      · rw [encL, encL, h a h1, encL_up e f h r h2]
      · rw [encL, if_pos h1, if_neg h2] at hh
        exact absurd hh h2
    · rw [encL, if_neg h1] at hh
      exact absurd hh h1
/-- What can be written with k lists left, is written alike with more. -/
theorem enc_up : ∀ (k : Nat) (a : AV), (encA k a).2 = 0 → encA (k + 1) a = encA k a
  | 0, .non, _ => rfl
  | 0, .int n, _ => rfl
  | 0, .text s, _ => rfl
  | 0, .yes b, _ => rfl
  | 0, .row l, h => by cases h
  | k + 1, .non, _ => rfl
  | k + 1, .int n, _ => rfl
  | k + 1, .text s, _ => rfl
  | k + 1, .yes b, _ => rfl
  | k + 1, .row l, h => by
    have e0 : encA (k + 1) (.row l) = if 255 < l.length then ([], 3) else if (encL (encA k) l).2 = 0 then (108 :: UInt8.ofNat l.length :: (encL (encA k) l).1, 0) else ([], (encL (encA k) l).2) := rfl
    have e1 : encA (k + 1 + 1) (.row l) = if 255 < l.length then ([], 3) else if (encL (encA (k + 1)) l).2 = 0 then (108 :: UInt8.ofNat l.length :: (encL (encA (k + 1)) l).1, 0) else ([], (encL (encA (k + 1)) l).2) := rfl
    rw [e0] at h
    by_cases h1 : 255 < l.length
    · rw [e0, e1, if_pos h1, if_pos h1]
    · rw [if_neg h1] at h
      by_cases h2 : (encL (encA k) l).2 = 0
      · rw [e0, e1, if_neg h1, if_neg h1, encL_up (encA k) (encA (k + 1)) (fun a => enc_up k a) l h2]
      · rw [if_neg h2] at h
        exact absurd h h2
/-- What few_calls at depth one grants. -/
theorem nest_len {t : VT} (hf : fewK 10 t = true) : lenK 7 (ofV t) ≤ 261129960812 := lenK7 t hf
theorem nest_len1 {X : AV} (h : lenK 7 X ≤ 261129960812) : lenK 8 (.row [X]) ≤ 140737488355328 := by
  have e : lenK 8 (.row [X]) = if 255 < [X].length then 0 else lenL (lenK 7) [X] + 2 := rfl
  rw [e, if_neg (by simp)]
  simp [lenL]
  omega
theorem nest_len2 {X Y : AV} (h : lenK 7 X ≤ 261129960812) (h2 : lenK 7 Y ≤ 261129960812) : lenK 8 (.row [X, Y]) ≤ 140737488355328 := by
  have e : lenK 8 (.row [X, Y]) = if 255 < [X, Y].length then 0 else lenL (lenK 7) [X, Y] + 2 := rfl
  rw [e, if_neg (by simp)]
  simp [lenL]
  omega
theorem nest_len0 {X : AV} (h : lenK 7 X ≤ 261129960812) (ho : (encA 7 X).2 = 0) : lenK 8 X ≤ 140737488355328 := by
  have e := enc_up 7 X ho
  rw [lenK_eq 8 X (by rw [e]; exact ho), e, ← lenK_eq 7 X ho]
  omega
theorem nest_same {X : AV} (ho : (encA 7 X).2 = 0) : sameB X X = true := by
  have e := enc_up 7 X ho
  unfold sameB
  rw [e, ho]
  simp
end Go.Proofs.Ythmpmpepokeedaa
