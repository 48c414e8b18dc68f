/- A life's steps: plain laws. -/
import Derived.Test.YthmpmpepokeedaaL0
import Derived.Test.YthmpmpepokeedaaKg
import Derived.Test.YthmpmpepokeedaaPLifeUndonex3
set_option linter.unusedVariables false
set_option linter.unusedSimpArgs false
namespace Go.Proofs.Ythmpmpepokeedaa
open Go.RowKit PLifeUndone Go.Proofs.YthmpmpepokeedaaW.PrintWords
theorem right_yes (st dl ex vs : Int) (h1 : 1 ≤ st) (h2 : st ≤ 4) (h3 : 0 ≤ dl) (h4 : dl ≤ 1099511627776) (h5 : 0 ≤ ex) (h6 : ex ≤ 1099511627776) (h7 : st = 3 ∨ dl = 0) (h8 : 1 ≤ vs) (h9 : vs ≤ 8) : life_Right.f st dl ex vs = some true := by
  rcases h7 with h7 | h7 <;> simp [life_Right.f, life_time.f, *]
theorem right_some (st dl ex vs : Int) : ∃ b : Bool, life_Right.f st dl ex vs = some b ∧ (b = true → 1 ≤ st ∧ st ≤ 4 ∧ 0 ≤ dl ∧ dl ≤ 1099511627776 ∧ 0 ≤ ex ∧ ex ≤ 1099511627776 ∧ (st = 3 ∨ dl = 0) ∧ 1 ≤ vs ∧ vs ≤ 8) := by
  by_cases h1 : 1 ≤ st
  · by_cases h2 : st ≤ 4
    · by_cases h3 : 0 ≤ dl
      · by_cases h4 : dl ≤ 1099511627776
        · by_cases h5 : 0 ≤ ex
          · by_cases h6 : ex ≤ 1099511627776
            · by_cases h7 : st = 3
              · by_cases h8 : 1 ≤ vs
                · exact ⟨decide (vs ≤ 8), by simp [life_Right.f, life_time.f, *], fun h => by simp at h; omega⟩
                · exact ⟨false, by simp [life_Right.f, life_time.f, *], fun h => by cases h⟩
              · by_cases h8 : dl = 0
                · by_cases h9 : 1 ≤ vs
                  · exact ⟨decide (vs ≤ 8), by simp [life_Right.f, life_time.f, *], fun h => by simp at h; omega⟩
                  · exact ⟨false, by simp [life_Right.f, life_time.f, *], fun h => by cases h⟩
                · exact ⟨false, by simp [life_Right.f, life_time.f, *], fun h => by cases h⟩
            · exact ⟨false, by simp [life_Right.f, life_time.f, *], fun h => by cases h⟩
          · exact ⟨false, by simp [life_Right.f, life_time.f, *], fun h => by cases h⟩
        · exact ⟨false, by simp [life_Right.f, life_time.f, *], fun h => by cases h⟩
      · exact ⟨false, by simp [life_Right.f, life_time.f, *], fun h => by cases h⟩
    · exact ⟨false, by simp [life_Right.f, life_time.f, *], fun h => by cases h⟩
  · exact ⟨false, by simp [life_Right.f, life_time.f, *], fun h => by cases h⟩
theorem w64 (n : Int) (h0 : 0 ≤ n) (h1 : n ≤ 1099511627776) : wrap64 n = n := by
  unfold wrap64
  omega
def stL (n now v : Int) : Nat → Nat → Int × Int × Int × Int
  | 0, 1 => (2, 0, 0, v)
  | 1, 1 => (3, now + n, 0, v)
  | 1, 2 => (2, 0, 0, v)
  | 2, 1 => (1, 0, n, v)
  | 2, 2 => (1, 0, n, v)
  | _, _ => (1, 0, 0, v)
def evL (n : Int) : Nat → Nat → Int × Int
  | 0, 0 => (2, 0)
  | 0, 1 => (1, 0)
  | 0, _ => (7, 0)
  | 1, 0 => (3, n)
  | 1, 1 => (4, 0)
  | 1, _ => (1, 0)
  | 2, 0 => (6, n)
  | 2, 1 => (7, 0)
  | _, _ => (6, 0)
theorem step_at (n now v : Int) (hn0 : 1 ≤ n) (hn1 : n ≤ 1000) (ht0 : 0 ≤ now) (ht1 : now ≤ 549755813888) (hv0 : 1 ≤ v) (hv1 : v ≤ 8) (i k : Nat) (hi : i < 3) (hk : k < 3) :
    StepR (stL n now v i k).1 (stL n now v i k).2.1 (stL n now v i k).2.2.1 (stL n now v i k).2.2.2 (evL n i k).1 (evL n i k).2 (now + (k : Int))
      (stL n now v i (k + 1)).1 (stL n now v i (k + 1)).2.1 (stL n now v i (k + 1)).2.2.1 (stL n now v i (k + 1)).2.2.2 0 := by
  have g0 : 0 ≤ n := by omega
  have g1 : n ≤ 1099511627776 := by omega
  have g2 : 0 ≤ now + n := by omega
  have g3 : now + n ≤ 1099511627776 := by omega
  have g4 : wrap64 (now + n) = now + n := w64 _ g2 g3
  have g5 : ¬ n < 1 := by omega
  have g6 : ¬ 1000 < n := by omega
  have a0 : 0 ≤ now := ht0
  have a1 : now ≤ 1099511627776 := by omega
  have a2 : 0 ≤ now + 1 := by omega
  have a3 : now + 1 ≤ 1099511627776 := by omega
  have a4 : 0 ≤ now + 2 := by omega
  have a5 : now + 2 ≤ 1099511627776 := by omega
  have ei : i = 0 ∨ i = 1 ∨ i = 2 := by omega
  have ek : k = 0 ∨ k = 1 ∨ k = 2 := by omega
  rcases ei with rfl | rfl | rfl <;> rcases ek with rfl | rfl | rfl <;> (unfold StepR; refine ⟨?_, by omega, by omega, ?_⟩) <;> first
    | (simp [stL, evL, life_Right.f, life_time.f, *]; done)
    | (simp [stL, evL]; done)
    | (simp [stL, evL]; omega)
end Go.Proofs.Ythmpmpepokeedaa
