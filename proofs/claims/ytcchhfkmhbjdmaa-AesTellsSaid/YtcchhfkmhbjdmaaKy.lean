/- The document's Press: plain laws. -/
import Derived.Test.YtcchhfkmhbjdmaaKb
set_option linter.unusedVariables false
set_option linter.unusedSimpArgs false
namespace Go.Proofs.Ytcchhfkmhbjdmaa
def pi4 (i : Nat) : Nat := 4 * (i % 4) + i / 4
theorem pi4_lt {i : Nat} (h : i < 16) : pi4 i < 16 := by unfold pi4; omega
theorem pi4_pi4 {i : Nat} (h : i < 16) : pi4 (pi4 i) = i := by unfold pi4; omega
def tr (s : List UInt8) : List UInt8 := full (fun p => s.getD (pi4 p) 0) 16
theorem tr_length (s : List UInt8) : (tr s).length = 16 := full_length _ _
theorem tr_get (s : List UInt8) (p : Nat) (h : p < 16) : (tr s)[p]? = some (s.getD (pi4 p) 0) := full_get _ _ _ h
theorem tr_getD (s : List UInt8) (p : Nat) (h : p < 16) : (tr s).getD p 0 = s.getD (pi4 p) 0 := full_getD _ _ _ h
def tupd (f : Nat → UInt8) (s : List UInt8) (i : Nat) : List UInt8 := (List.range s.length).map fun p => if pi4 p < i then f (pi4 p) else s.getD p 0
theorem tupd_length (f : Nat → UInt8) (s : List UInt8) (i : Nat) : (tupd f s i).length = s.length := by simp [tupd]
theorem tupd_zero (f : Nat → UInt8) (s : List UInt8) : tupd f s 0 = s := by
  apply List.ext_getElem (by simp [tupd])
  intro j h1 h2
  simp [tupd, List.getElem?_eq_getElem h2]
theorem tupd_all (f : Nat → UInt8) (s : List UInt8) (h : s.length = 16) : tupd f s 16 = tr (full f 16) := by
  show (List.range s.length).map _ = (List.range 16).map (fun p => (full f 16).getD (pi4 p) 0)
  rw [h]
  apply List.map_congr_left
  intro p hp
  have hp := List.mem_range.mp hp
  show (if pi4 p < 16 then f (pi4 p) else s.getD p 0) = _
  rw [if_pos (pi4_lt hp), full_getD f 16 _ (pi4_lt hp)]
theorem tupd_get (f : Nat → UInt8) (s : List UInt8) (i j : Nat) (h : j < s.length) : (tupd f s i)[j]? = some (if pi4 j < i then f (pi4 j) else s.getD j 0) := by
  simp [tupd, h]
theorem tupd_set (f : Nat → UInt8) (s : List UInt8) (i : Nat) (hs : s.length = 16) (hi : i < 16) : (tupd f s i).set (pi4 i) (f i) = tupd f s (i + 1) := by
  apply List.ext_getElem (by simp [tupd])
  intro j h1 h2
  have hj : j < 16 := by rw [tupd_length] at h2; omega
  rw [List.getElem_set]
  simp only [tupd, List.getElem_map, List.getElem_range]
  by_cases e : pi4 i = j
  · subst e
    rw [pi4_pi4 hi, if_pos rfl, if_pos (by omega)]
  · rw [if_neg e]
    have hne : pi4 j ≠ i := fun h => e (by rw [← h, pi4_pi4 hj])
    by_cases hl : pi4 j < i
    · rw [if_pos hl, if_pos (by omega)]
    · rw [if_neg hl, if_neg (by omega)]
theorem full_ext {f g : Nat → UInt8} {n : Nat} (h : ∀ p, p < n → f p = g p) : full f n = full g n := by
  unfold full
  apply List.map_congr_left
  intro p hp
  exact h p (List.mem_range.mp hp)
def rshF (t : List UInt8) (p : Nat) : UInt8 := box (t.getD (4 * (p / 4) + (p % 4 + p / 4) % 4) 0)
theorem rsh_eq (s : List UInt8) : full (rshF (tr s)) 16 = tr (shiftL s) := by
  refine full_ext fun p hp => ?_
  unfold rshF
  rw [tr_getD _ _ (by omega)]
  rw [show (shiftL s).getD (pi4 p) 0 = shiftF s (pi4 p) from full_getD _ _ _ (pi4_lt hp)]
  unfold shiftF
  have : ∀ p, p < 16 → pi4 (4 * (p / 4) + (p % 4 + p / 4) % 4) = (pi4 p + 4 * (pi4 p % 4)) % 16 := by decide
  rw [this p hp]
theorem rmix_eq (s : List UInt8) (c r : Nat) (hc : c < 4) (hr : r < 4) : mixF s (4 * c + r) = tw (s.getD (4 * c + r) 0) ^^^ (tw (s.getD (4 * c + (r + 1) % 4) 0) ^^^ s.getD (4 * c + (r + 1) % 4) 0) ^^^ s.getD (4 * c + (r + 2) % 4) 0 ^^^ s.getD (4 * c + (r + 3) % 4) 0 := by
  unfold mixF mixC
  rw [show (4 * c + r) / 4 = c by omega, show (4 * c + r) % 4 = r by omega]
  have : r = 0 ∨ r = 1 ∨ r = 2 ∨ r = 3 := by omega
  rcases this with rfl | rfl | rfl | rfl <;> simp only [Nat.reduceAdd, Nat.reduceMod, Nat.add_zero, tw_xor] <;>
    generalize s.getD (4 * c) 0 = a0 <;> generalize s.getD (4 * c + 1) 0 = a1 <;> generalize s.getD (4 * c + 2) 0 = a2 <;> generalize s.getD (4 * c + 3) 0 = a3 <;>
    generalize tw a0 = t0 <;> generalize tw a1 = t1 <;> generalize tw a2 = t2 <;> generalize tw a3 = t3 <;>
    simp only [UInt8.xor_assoc, UInt8.xor_comm, xor_lc, xor_left_cancel', UInt8.xor_self, UInt8.xor_zero, UInt8.zero_xor]
def stN (W s : List UInt8) (r : Nat) : List UInt8 := if r ≤ 13 then pressN W s r else press W s
theorem stN_length (W s : List UInt8) (r : Nat) : (stN W s r).length = 16 := by
  unfold stN
  split
  · exact pressN_length _ _ _
  · exact press_length _ _
theorem stN_next (W s : List UInt8) (r : Nat) (h : r < 13) : stN W s (r + 1) = addL W (r + 1) (mixL (shiftL (stN W s r))) := by
  unfold stN
  rw [if_pos (by omega), if_pos (by omega)]
  rfl
theorem stN_last (W s : List UInt8) : stN W s 14 = addL W 14 (shiftL (stN W s 13)) := by
  unfold stN
  rw [if_neg (by omega), if_pos (by omega)]
  rfl
end Go.Proofs.Ytcchhfkmhbjdmaa
