/- DiskTorn: the plain law. -/
import Derived.Test.YthlngbdbmnnnaaaKm
set_option linter.unusedVariables false
set_option linter.unusedSimpArgs false
namespace Go.Proofs.Ythlngbdbmnnnaaa
theorem splice_get (L : List UInt8) (o : Nat) (cs : List UInt8) (h : o + cs.length ≤ L.length) (p : Nat) : (splice L o cs)[p]? = if o ≤ p ∧ p < o + cs.length then cs[p - o]? else L[p]? := by
  unfold splice
  by_cases h1 : p < o
  · rw [List.getElem?_append_left (by simp; omega), List.getElem?_take, if_pos h1, if_neg (by omega)]
  · rw [List.getElem?_append_right (by simp; omega)]
    have e : p - (List.take o L).length = p - o := by simp; omega
    rw [e]
    by_cases h2 : p < o + cs.length
    · rw [if_pos (by omega), List.getElem?_append_left (by omega)]
    · rw [if_neg (by omega), List.getElem?_append_right (by omega), List.getElem?_drop]
      congr 1; omega
def tornX : List UInt8 := List.replicate 64 120
def tornW (m : Nat) : List Wr := (List.range m).map fun (i : Nat) => (⟨(i : Int), tornX⟩ : Wr)
theorem tornW_succ (m : Nat) : tornW (m + 1) = tornW m ++ [⟨(m : Int), tornX⟩] := by simp [tornW, List.range_succ]
theorem tornW_length (m : Nat) : (tornW m).length = m := by simp [tornW]
def tornD (n m : Nat) : Dk := { Dk.new n with wait := tornW m, count := m }
theorem tornD_zero (n : Nat) : tornD n 0 = Dk.new n := rfl
theorem torn_asked (n m : Nat) (h : m < n) : (tornD n m).asked m = 0 := by
  unfold Dk.asked tornD Dk.new
  simp; omega
theorem torn_fill : Dk.fill tornX = tornX := by simp [Dk.fill, tornX]
theorem torn_write (n m : Nat) (h : m < n) : (tornD n m).writeE m tornX = 0 ∧ (tornD n m).write m tornX = tornD n (m + 1) := by
  have ha := torn_asked n m h
  have hl : ¬ 64 < tornX.length := by simp [tornX]
  have hf : ¬ (tornD n m).cutAt = (tornD n m).count + 1 := by simp [tornD, Dk.new]; omega
  constructor
  · simp [Dk.writeE, ha, hl, Dk.failing, hf]
  · simp only [Dk.write, ha, ne_eq, not_true_eq_false, if_false, hl, torn_fill, Dk.counted]
    rw [if_neg hf]
    simp [tornD, tornW_succ]
theorem torn_get (f : Nat → Nat) (hf : ∀ i, f i ≤ 64) (n : Nat) : ∀ (m : Nat), m ≤ n → ∀ p, p < 64 * n →
    (settle f 0 (tornW m) (List.replicate (64 * n) 0))[p]? = some (if p / 64 < m ∧ p % 64 < f (p / 64) then 120 else 0)
  | 0, _, p, hp => by simp [tornW, settle, hp]
  | m + 1, hm, p, hp => by
    have ih := torn_get f hf n m (by omega) p hp
    have hlen : (settle f 0 (tornW m) (List.replicate (64 * n) 0)).length = 64 * n := settle_length f n _ 0 _ (fun x hx => by
      simp only [tornW, List.mem_map, List.mem_range] at hx
      obtain ⟨i, hi, rfl⟩ := hx
      exact ⟨by show (0 : Int) ≤ (i : Int); omega, by show (i : Int) < (n : Int); omega, by simp [tornX]⟩) (by simp)
    have hfm := hf m
    have htk : (tornX.take (f m)).length = f m := by simp [tornX]; omega
    rw [tornW_succ, settle_snoc, tornW_length, Nat.zero_add, show ((m : Int)).toNat = m from rfl, splice_get _ _ _ (by rw [htk, hlen]; omega), htk, ih]
    by_cases h1 : 64 * m ≤ p ∧ p < 64 * m + f m
    · rw [if_pos h1, if_pos (by
        have : p / 64 = m := by omega
        rw [this]; omega)]
      have hd : p - 64 * m < f m := by omega
      rw [List.getElem?_take, if_pos hd, tornX, List.getElem?_replicate, if_pos (by omega)]
    · rw [if_neg h1]
      congr 1
      by_cases h2 : p / 64 = m
      · rw [if_neg (by omega), if_neg (by rw [h2]; omega)]
      · have : (p / 64 < m ∧ p % 64 < f (p / 64)) ↔ (p / 64 < m + 1 ∧ p % 64 < f (p / 64)) := by omega
        simp only [this]
theorem torn_lasts (n : Nat) (keep torn : Int) : ((tornD n n).crash keep torn).lasts = settle (crashN keep torn n) 0 (tornW n) (List.replicate (64 * n) 0) := by
  simp [Dk.crash, tornD, Dk.new, tornW_length]
theorem torn_lasts_len (n : Nat) (keep torn : Int) : ((tornD n n).crash keep torn).lasts.length = 64 * n := by
  rw [torn_lasts]
  exact settle_length _ n _ 0 _ (fun x hx => by
      simp only [tornW, List.mem_map, List.mem_range] at hx
      obtain ⟨i, hi, rfl⟩ := hx
      exact ⟨by show (0 : Int) ≤ (i : Int); omega, by show (i : Int) < (n : Int); omega, by simp [tornX]⟩) (by simp)
theorem torn_lasts_get (n : Nat) (keep torn : Int) (i k : Nat) (hi : i < n) (hk : k < 64) : ((tornD n n).crash keep torn).lasts[64 * i + k]? = some (if k < crashN keep torn n i then 120 else 0) := by
  rw [torn_lasts, torn_get _ (crashN_le keep torn n) n n (Nat.le_refl _) _ (by omega), show (64 * i + k) / 64 = i by omega, show (64 * i + k) % 64 = k by omega]
  simp only [hi, true_and]
end Go.Proofs.Ythlngbdbmnnnaaa
