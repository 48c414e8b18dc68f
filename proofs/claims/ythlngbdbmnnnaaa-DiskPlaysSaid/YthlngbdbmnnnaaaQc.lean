/- DiskLasts: the plain law. -/
import Derived.Test.YthlngbdbmnnnaaaQb
set_option linter.unusedVariables false
set_option linter.unusedSimpArgs false
namespace Go.Proofs.Ythlngbdbmnnnaaa
/-- What the writes that wait may leave in a sector. -/
def mays (W : List Wr) (p : Int) : List (List UInt8) := (W.filter fun x => decide (x.place = p)).map (·.data)
theorem mays_push (W : List Wr) (x : Wr) (p : Int) : mays (W ++ [x]) p = if x.place = p then mays W p ++ [x.data] else mays W p := by
  unfold mays
  by_cases h : x.place = p <;> simp [h]
theorem mays_mem {W : List Wr} {x : Wr} (h : x ∈ W) : x.data ∈ mays W x.place := by
  unfold mays
  exact List.mem_map.mpr ⟨x, List.mem_filter.mpr ⟨h, by simp⟩, rfl⟩
theorem settle_may (f : Nat → Nat) (n : Nat) : ∀ (W : List Wr) (i : Nat) (L : List UInt8), (∀ x ∈ W, 0 ≤ x.place ∧ x.place < n ∧ x.data.length = 64) → L.length = 64 * n → ∀ p, p < 64 * n →
    (settle f i W L)[p]? = L[p]? ∨ ∃ x ∈ W, x.place.toNat = p / 64 ∧ (settle f i W L)[p]? = x.data[p % 64]?
  | [], i, L, _, _, p, _ => .inl rfl
  | x :: r, i, L, hW, hL, p, hp => by
    have hx := hW x (by simp)
    have hs : settle f i (x :: r) L = settle f (i + 1) r (splice L (64 * x.place.toNat) (x.data.take (f i))) := rfl
    have hlen : (x.data.take (f i)).length ≤ 64 := by simp; omega
    have hl2 : (splice L (64 * x.place.toNat) (x.data.take (f i))).length = 64 * n := by
      rw [length_splice _ _ _ (by omega)]; exact hL
    rcases settle_may f n r (i + 1) _ (fun y hy => hW y (by simp [hy])) hl2 p hp with h | ⟨y, hy, h1, h2⟩
    · rw [hs, h, splice_get _ _ _ (by omega)]
      by_cases hc : 64 * x.place.toNat ≤ p ∧ p < 64 * x.place.toNat + (x.data.take (f i)).length
      · right
        refine ⟨x, by simp, by omega, ?_⟩
        rw [if_pos hc, show p % 64 = p - 64 * x.place.toNat by omega, List.getElem?_take, if_pos (by
          have h3 : (x.data.take (f i)).length ≤ f i := by simp; omega
          omega)]
      · left
        rw [if_neg hc]
    · right
      exact ⟨y, by simp [hy], h1, by rw [hs]; exact h2⟩
/-- A disk that no cut waits for. -/
structure Calm (m : Nat) (D : Dk) : Prop where
  wd : Wd 4 m D
  cut : D.cutAt = 0
  up : D.down = false
theorem Calm.quiet {m : Nat} {D : Dk} (h : Calm m D) : D.failing = false := by
  have := h.wd.c0
  simp [Dk.failing, h.cut]; omega
theorem Calm.counted {m : Nat} {D : Dk} (h : Calm m D) : D.counted = { D with count := D.count + 1 } := by
  have := h.wd.c0
  unfold Dk.counted
  rw [if_neg (by rw [h.cut]; omega)]
theorem calm_new : Calm 0 (Dk.new 4) := ⟨wd_new 4, rfl, rfl⟩
theorem Calm.write {m : Nat} {D : Dk} (h : Calm m D) (p : Int) (l : List UInt8) :
    (D.writeE p l = 0 ∧ 0 ≤ p ∧ p < 4 ∧ D.write p l = { D with wait := D.wait ++ [⟨p, Dk.fill l⟩], count := D.count + 1 } ∧ (D.write p l).read p = Dk.fill l ∧ (D.write p l).asked p = 0) ∨ (D.writeE p l ≠ 0 ∧ D.write p l = D) := by
  by_cases ha : D.asked p = 0
  · have hz := asked_zero ha
    have hn := h.wd.nn
    by_cases h64 : 64 < l.length
    · right
      simp [Dk.writeE, Dk.write, ha, h64]
    · left
      have hc : Calm (m + 1) { D with wait := D.wait ++ [(⟨p, Dk.fill l⟩ : Wr)] } := ⟨wd_push h.wd p l hz.2.1 (by omega) (by omega), h.cut, h.up⟩
      have hw : D.write p l = { D with wait := D.wait ++ [⟨p, Dk.fill l⟩], count := D.count + 1 } := by
        simp only [Dk.write, ha, ne_eq, not_true_eq_false, if_false, h64]
        exact hc.counted
      have ha2 : (D.write p l).asked p = 0 := by rw [hw]; exact ha
      refine ⟨by simp [Dk.writeE, ha, h64, h.quiet], hz.2.1, by omega, hw, ?_, ha2⟩
      have hl : ∀ W : List Wr, Dk.latest (W ++ [(⟨p, Dk.fill l⟩ : Wr)]) p = some (Dk.fill l) := by
        intro W
        induction W with
        | nil => simp [Dk.latest]
        | cons y r ih => simp [Dk.latest, ih]
      unfold Dk.read
      rw [if_neg (by rw [ha2]; decide), hw]
      simp [hl]
  · right
    simp [Dk.writeE, Dk.write, ha]
theorem Calm.next {m : Nat} {D : Dk} (h : Calm m D) (p : Int) (l : List UInt8) : Calm (m + 2) (D.write p l) := by
  rcases h.write p l with ⟨_, _, _, hw, _⟩ | ⟨_, hw⟩
  · exact ⟨wd_write h.wd p l, by rw [hw]; exact h.cut, by rw [hw]; exact h.up⟩
  · rw [hw]; exact ⟨wd_mono h.wd (by omega), h.cut, h.up⟩
theorem Calm.lasts {m : Nat} {D : Dk} (h : Calm m D) (p : Int) (l : List UInt8) : (D.write p l).lasts = D.lasts := by
  rcases h.write p l with ⟨_, _, _, hw, _⟩ | ⟨_, hw⟩ <;> rw [hw]
theorem Calm.flush {m : Nat} {D : Dk} (h : Calm m D) : D.flushE = 0 ∧ Calm (m + 1) D.flush ∧ D.flush.wait = [] := by
  have hq := h.quiet
  refine ⟨by simp [Dk.flushE, h.up, hq], ⟨wd_flush h.wd, ?_, ?_⟩, ?_⟩
  · simp [Dk.flush, h.up, hq, h.counted, h.cut]
  · simp [Dk.flush, h.up, hq, h.counted]
  · simp [Dk.flush, h.up, hq]
theorem Calm.crash {m : Nat} {D : Dk} (h : Calm m D) (keep torn : Int) (p : Nat) (hp : p < 256) :
    (D.crash keep torn).lasts.length = 256 ∧ ((D.crash keep torn).lasts[p]? = D.lasts[p]? ∨ ∃ s ∈ mays D.wait ((p / 64 : Nat) : Int), (D.crash keep torn).lasts[p]? = s[p % 64]?) := by
  have hl : (D.crash keep torn).lasts = settle (crashN keep torn D.wait.length) 0 D.wait D.lasts := by simp [Dk.crash, h.up]
  refine ⟨by have := (wd_crash h.wd keep torn).L; omega, ?_⟩
  rw [hl]
  rcases settle_may (crashN keep torn D.wait.length) 4 D.wait 0 D.lasts h.wd.W h.wd.L p (by omega) with h1 | ⟨x, hx, h2, h3⟩
  · exact .inl h1
  · right
    have hpl : x.place = ((p / 64 : Nat) : Int) := by have := (h.wd.W x hx).1; omega
    exact ⟨x.data, by rw [← hpl]; exact mays_mem hx, h3⟩
theorem Calm.crash0 {m : Nat} {D : Dk} (h : Calm m D) (torn : Int) : (D.crash 0 torn).lasts = D.lasts := by
  have hl : (D.crash 0 torn).lasts = settle (crashN 0 torn D.wait.length) 0 D.wait D.lasts := by simp [Dk.crash, h.up]
  rw [hl, settle_off _ _ _ _ (fun j _ => by unfold crashN; rw [if_pos (.inr (by simp))])]
theorem mays_len {m : Nat} {D : Dk} (h : Calm m D) (p : Int) : ∀ s ∈ mays D.wait p, s.length = 64 := by
  intro s hs
  unfold mays at hs
  obtain ⟨x, hx, rfl⟩ := List.mem_map.mp hs
  exact (h.wd.W x (List.mem_filter.mp hx).1).2.2
theorem mays_le {m : Nat} {D : Dk} (h : Calm m D) (p : Int) : (mays D.wait p).length ≤ m := by
  unfold mays
  rw [List.length_map]
  exact Nat.le_trans (List.length_filter_le _ _) h.wd.len
theorem str_get? (l : List UInt8) (i : Nat) (h : i < (str l).size) : l[i]? = some ((str l)[i]'h) := by
  have h2 : i < l.length := by rw [← str_size l]; exact h
  rw [List.getElem?_eq_getElem h2]
  rfl
theorem Calm.byte {m : Nat} {D : Dk} (h : Calm m D) (keep torn : Int) (i : Nat) (h0 : i < (str D.lasts).size) (h1 : i < (str (D.crash keep torn).lasts).size) :
    (str (D.crash keep torn).lasts)[i]'h1 = (str D.lasts)[i]'h0 ∨ ∃ (k : Nat) (s : List UInt8), (mays D.wait ((i / 64 : Nat) : Int))[k]? = some s ∧ ∃ h2 : i % 64 < (str s).size, (str (D.crash keep torn).lasts)[i]'h1 = (str s)[i % 64]'h2 := by
  have hi : i < 256 := by have := h.wd.L; rw [str_size] at h0; omega
  obtain ⟨_, h2⟩ := h.crash keep torn i hi
  rw [str_get? _ i h1] at h2
  rcases h2 with h2 | ⟨s, hs, h2⟩
  · left
    rw [str_get? _ i h0] at h2
    exact Option.some.inj h2
  · right
    obtain ⟨k, hk, e⟩ := List.getElem_of_mem hs
    have hl := mays_len h _ s hs
    have h3 : i % 64 < (str s).size := by rw [str_size]; omega
    refine ⟨k, s, by rw [List.getElem?_eq_getElem hk, e], h3, ?_⟩
    rw [str_get? _ (i % 64) h3] at h2
    exact Option.some.inj h2
theorem Calm.byte0 {m : Nat} {D : Dk} (h : Calm m D) (torn : Int) (i : Nat) (h0 : i < (str D.lasts).size) (h1 : i < (str (D.crash 0 torn).lasts).size) :
    (str (D.crash 0 torn).lasts)[i]'h1 = (str D.lasts)[i]'h0 := by
  have aux : ∀ (L M : List UInt8) (e : L = M) (h0 : i < (str M).size) (h1 : i < (str L).size), (str L)[i]'h1 = (str M)[i]'h0 := by
    rintro _ _ rfl _ _; rfl
  exact aux _ _ (h.crash0 torn) h0 h1
theorem Calm.sizes {m : Nat} {D : Dk} (h : Calm m D) (keep torn : Int) : (str D.lasts).size = 256 ∧ (str (D.crash keep torn).lasts).size = 256 := by
  rw [str_size, str_size]
  exact ⟨by have := h.wd.L; omega, by have := (wd_crash h.wd keep torn).L; omega⟩
end Go.Proofs.Ythlngbdbmnnnaaa
