/- Blobs: the plain law of a blob that is taken apart. -/
import Derived.Test.YtcchhfkmhbjdmaaGreatQb0
set_option linter.unusedVariables false
set_option linter.unusedSimpArgs false
namespace Go.Proofs.YtcchhfkmhbjdmaaGreat
open Go.RowKit
/-- So many bytes are taken off. -/
def Tk (n : Nat) (r : List UInt8) (ok : Bool) (t r' : List UInt8) (ok' : Bool) : Prop := (n ≤ r.length ∧ t = r.take n ∧ r' = r.drop n ∧ ok' = ok) ∨ (r.length < n ∧ t = [] ∧ r' = r ∧ ok' = false)
def preB (b : List UInt8) : Bool := decide (b.take 2 = [75, 49])
def rest0 (b : List UInt8) : List UInt8 := if preB b then b.drop 2 else b
theorem Tk.ok {n : Nat} {r t r' : List UInt8} {ok ok' : Bool} (h : Tk n r ok t r' ok') (ho : ok' = true) : n ≤ r.length ∧ t = r.take n ∧ r' = r.drop n ∧ ok = true := by
  rcases h with ⟨a, b, c, d⟩ | ⟨_, _, _, d⟩
  · exact ⟨a, b, c, d ▸ ho⟩
  · rw [ho] at d; cases d
theorem Tk.len {n : Nat} {r t r' : List UInt8} {ok ok' : Bool} (h : Tk n r ok t r' ok') : t.length ≤ n := by
  rcases h with ⟨_, b, _, _⟩ | ⟨_, b, _, _⟩
  · rw [b, List.length_take]; omega
  · rw [b]; simp
theorem Tk.rest {n : Nat} {r t r' : List UInt8} {ok ok' : Bool} (h : Tk n r ok t r' ok') : r'.length ≤ r.length := by
  rcases h with ⟨_, _, c, _⟩ | ⟨_, _, c, _⟩
  · rw [c, List.length_drop]; omega
  · rw [c]; exact Nat.le_refl _
theorem Tk.no {n : Nat} {r t r' : List UInt8} {ok' : Bool} (h : Tk n r false t r' ok') : ok' = false := by
  rcases h with ⟨_, _, _, d⟩ | ⟨_, _, _, d⟩ <;> exact d
theorem Tk.bad {n : Nat} {r t r' : List UInt8} (h : Tk n r true t r' false) : r.length < n := by
  rcases h with ⟨_, _, _, d⟩ | ⟨d, _, _, _⟩
  · cases d
  · exact d
theorem take_one (l : List UInt8) (h : 1 ≤ l.length) : l.take 1 = [l.getD 0 0] := by
  cases l with
  | nil => simp at h
  | cons x l => simp
theorem split_no {b t r : List UInt8} (h : Tk 1 (rest0 b) (preB b) t r false) : goodB b = false := by
  unfold goodB
  unfold rest0 at h
  by_cases hp : preB b = true
  · rw [if_pos hp, hp] at h
    have := h.bad
    rw [List.length_drop] at this
    rw [show decide (3 ≤ b.length) = false from decide_eq_false (by omega)]
    simp
  · rw [show decide (b.take 2 = [75, 49]) = false from by unfold preB at hp; simpa using hp]
    simp
theorem split_first {b t r : List UInt8} (h : Tk 1 (rest0 b) (preB b) t r true) : preB b = true ∧ 3 ≤ b.length ∧ t = [b.getD 2 0] ∧ r = b.drop 3 := by
  obtain ⟨h1, h2, h3, h4⟩ := h.ok rfl
  unfold rest0 at h1 h2 h3
  rw [if_pos h4] at h1 h2 h3
  rw [List.length_drop] at h1
  refine ⟨h4, by omega, ?_, ?_⟩
  · rw [h2, take_one _ (by rw [List.length_drop]; omega)]
    simp [List.getD_eq_getElem?_getD, List.getElem?_drop]
  · rw [h3, List.drop_drop]
def verOf (v : List UInt8) : Int := if v = [] then 0 else ((v.getD 0 0).toNat : Int)
theorem split_law {b I V N r2 r3 r4 : List UInt8} {ok2 ok3 ok4 : Bool} (hp : preB b = true) (hl : 3 ≤ b.length) (h2 : Tk (nB b) (b.drop 3) true I r2 ok2) (h3 : Tk 1 r2 ok2 V r3 ok3) (h4 : Tk 12 r3 ok3 N r4 ok4) :
    goodB b = (ok4 && okH ⟨I, verOf V, N⟩ && decide (16 ≤ r4.length) && decide (r4.length ≤ 1040)) ∧ (goodB b = true → (⟨I, verOf V, N⟩ : Hd) = hdB b (nB b) ∧ r4 = restB b (nB b)) := by
  have hp' : b.take 2 = [75, 49] := by unfold preB at hp; simpa using hp
  cases ok4 with
  | false =>
    have hbad : b.length < nB b + 16 := by
      cases ok3 with
      | false =>
        cases ok2 with
        | false =>
          have := h2.bad
          rw [List.length_drop] at this
          omega
        | true =>
          obtain ⟨a1, a2, a3, a4⟩ := h2.ok rfl
          have := h3.bad
          rw [a3, List.length_drop, List.length_drop] at this
          omega
      | true =>
        obtain ⟨c1, c2, c3, c4⟩ := h3.ok rfl
        rw [c4] at h2
        obtain ⟨a1, a2, a3, a4⟩ := h2.ok rfl
        have := h4.bad
        rw [c3, a3, List.length_drop, List.length_drop, List.length_drop] at this
        omega
    have hg : goodB b = false := by
      unfold goodB
      rw [show decide (nB b + 32 ≤ b.length) = false from decide_eq_false (by omega)]
      simp
    exact ⟨by rw [hg]; rfl, fun h => by rw [hg] at h; cases h⟩
  | true =>
    obtain ⟨d1, d2, d3, d4⟩ := h4.ok rfl
    rw [d4] at h3
    obtain ⟨c1, c2, c3, c4⟩ := h3.ok rfl
    rw [c4] at h2
    obtain ⟨a1, a2, a3, a4⟩ := h2.ok rfl
    have l2 : r2.length = b.length - (nB b + 3) := by rw [a3, List.length_drop, List.length_drop]; omega
    have l3 : r3.length = b.length - (nB b + 4) := by rw [c3, List.length_drop, l2]; omega
    have l4 : r4.length = b.length - (nB b + 16) := by rw [d3, List.length_drop, l3]; omega
    have e2 : r2 = b.drop (nB b + 3) := by rw [a3, List.drop_drop]; congr 1; omega
    have e3 : r3 = b.drop (nB b + 4) := by rw [c3, e2, List.drop_drop]
    have e4 : r4 = restB b (nB b) := by rw [d3, e3, List.drop_drop]; rfl
    have eV : V = [b.getD (nB b + 3) 0] := by
      rw [c2, take_one _ c1, e2]
      simp [List.getD_eq_getElem?_getD, List.getElem?_drop]
    have eh : (⟨I, verOf V, N⟩ : Hd) = hdB b (nB b) := by
      unfold hdB
      rw [a2, d2, e3, eV]
      rfl
    refine ⟨?_, fun _ => ⟨eh, e4⟩⟩
    rw [eh]
    unfold goodB
    rw [hp', show decide (3 ≤ b.length) = true from decide_eq_true hl]
    have f1 : decide (nB b + 32 ≤ b.length) = decide (16 ≤ r4.length) := decide_eq_decide.2 (by omega)
    have f2 : decide (b.length ≤ nB b + 1056) = decide (r4.length ≤ 1040) := decide_eq_decide.2 (by omega)
    rw [f1, f2]
    simp
end Go.Proofs.YtcchhfkmhbjdmaaGreat
