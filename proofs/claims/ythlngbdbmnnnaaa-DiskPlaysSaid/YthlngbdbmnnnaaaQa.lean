/- Disks: plain laws on what waits and what lasts (no printed text). -/
import Derived.Test.YthlngbdbmnnnaaaKo
import Derived.Test.YthlngbdbmnnnaaaL2
import Derived.Test.YthlngbdbmnnnaaaKj
set_option linter.unusedVariables false
set_option linter.unusedSimpArgs false
namespace Go.Proofs.Ythlngbdbmnnnaaa
open Go.RowKit
theorem str_append (a b : List UInt8) : str a ++ str b = str (a ++ b) := by
  apply ByteArray.ext
  simp [str]
theorem splice_nil (L : List UInt8) (o : Nat) : splice L o [] = L := by simp [splice]
theorem settle_off (f : Nat → Nat) : ∀ (l : List Wr) (i : Nat) (L : List UInt8), (∀ j, i ≤ j → f j = 0) → settle f i l L = L
  | [], _, _, _ => rfl
  | x :: l, i, L, h => by
    show settle f (i + 1) l _ = _
    rw [h i (Nat.le_refl _), List.take_zero, splice_nil]
    exact settle_off f l (i + 1) L (fun j hj => h j (by omega))
structure Wd (n m : Nat) (D : Dk) : Prop where
  nn : D.n = n
  L : D.lasts.length = 64 * n
  W : ∀ x ∈ D.wait, 0 ≤ x.place ∧ x.place < n ∧ x.data.length = 64
  len : D.wait.length ≤ m
  c0 : 0 ≤ D.count
  c1 : D.count ≤ m
  k0 : 0 ≤ D.keep
  k1 : D.keep ≤ 18446744073709551615
theorem wd_push {n m : Nat} {D : Dk} (h : Wd n m D) (p : Int) (l : List UInt8) (h0 : 0 ≤ p) (h1 : p < n) (hl : l.length ≤ 64) : Wd n (m + 1) { D with wait := D.wait ++ [(⟨p, Dk.fill l⟩ : Wr)] } :=
  ⟨h.nn, h.L, fun x hx => by
    rcases List.mem_append.mp hx with hx | hx
    · exact h.W x hx
    · simp at hx; subst hx; exact ⟨h0, h1, fill_length l hl⟩, by have := h.len; simp; omega, h.c0, by have := h.c1; show D.count ≤ _; omega, h.k0, h.k1⟩
theorem wd_counted {n m : Nat} {D : Dk} (h : Wd n m D) : Wd n (m + 1) D.counted := by
  have h0 := h.c0
  have h1 := h.c1
  have h2 := h.len
  unfold Dk.counted
  by_cases hc : D.cutAt = D.count + 1
  · rw [if_pos hc]
    unfold Dk.crash
    by_cases hd : D.down = true
    · rw [if_pos hd]
      exact ⟨h.nn, h.L, h.W, by show D.wait.length ≤ _; omega, by show 0 ≤ D.count + 1; omega, by show D.count + 1 ≤ _; omega, h.k0, h.k1⟩
    · rw [if_neg hd]
      exact ⟨h.nn, settle_length _ n _ _ _ h.W h.L, fun x hx => by simp at hx, by simp, by show 0 ≤ D.count + 1; omega, by show D.count + 1 ≤ _; omega, by show (0 : Int) ≤ 0; omega, by show (0 : Int) ≤ _; omega⟩
  · rw [if_neg hc]
    exact ⟨h.nn, h.L, h.W, by show D.wait.length ≤ _; omega, by show 0 ≤ D.count + 1; omega, by show D.count + 1 ≤ _; omega, h.k0, h.k1⟩
theorem wd_mono {n m m' : Nat} {D : Dk} (h : Wd n m D) (hm : m ≤ m') : Wd n m' D := ⟨h.nn, h.L, h.W, Nat.le_trans h.len hm, h.c0, by have := h.c1; omega, h.k0, h.k1⟩
theorem asked_zero {D : Dk} {p : Int} (h : D.asked p = 0) : D.down = false ∧ 0 ≤ p ∧ p < D.n := by
  unfold Dk.asked at h
  by_cases hd : D.down = true
  · simp [hd] at h
  · by_cases hp : p < 0 ∨ (D.n : Int) ≤ p
    · simp [hd, hp] at h
    · exact ⟨by simpa using hd, by omega, by omega⟩
theorem wd_write {n m : Nat} {D : Dk} (h : Wd n m D) (p : Int) (l : List UInt8) : Wd n (m + 2) (D.write p l) := by
  unfold Dk.write
  by_cases ha : D.asked p = 0
  · have hz := asked_zero ha
    rw [if_neg (by simpa using ha)]
    by_cases h64 : 64 < l.length
    · rw [if_pos h64]; exact wd_mono h (by omega)
    · rw [if_neg h64]
      exact wd_counted (wd_push h p l hz.2.1 (by have := h.nn; omega) (by omega))
  · rw [if_pos ha]; exact wd_mono h (by omega)
theorem wd_flush {n m : Nat} {D : Dk} (h : Wd n m D) : Wd n (m + 1) D.flush := by
  unfold Dk.flush
  by_cases hd : D.down = true
  · rw [if_pos hd]; exact wd_mono h (by omega)
  · rw [if_neg hd]
    have hc := wd_counted h
    by_cases hf : D.failing = true
    · rw [if_pos hf]; exact hc
    · rw [if_neg hf]
      exact ⟨hc.nn, settle_length _ n _ _ _ h.W h.L, fun x hx => by simp at hx, by simp, hc.c0, hc.c1, hc.k0, hc.k1⟩
theorem wd_crash {n m : Nat} {D : Dk} (h : Wd n m D) (keep torn : Int) : Wd n m (D.crash keep torn) := by
  unfold Dk.crash
  by_cases hd : D.down = true
  · rw [if_pos hd]; exact h
  · rw [if_neg hd]
    exact ⟨h.nn, settle_length _ n _ _ _ h.W h.L, fun x hx => by simp at hx, by simp, h.c0, h.c1, by show (0 : Int) ≤ 0; omega, by show (0 : Int) ≤ _; omega⟩
theorem wd_arm {n m : Nat} {D : Dk} (h : Wd n m D) (a k t : Int) (hk0 : 0 ≤ k) (hk1 : k ≤ 18446744073709551615) : Wd n m (D.arm a k t) := by
  unfold Dk.arm
  by_cases ha : a < 1
  · rw [if_pos ha]; exact ⟨h.nn, h.L, h.W, h.len, by show (0 : Int) ≤ 0; omega, by show (0 : Int) ≤ _; omega, by show (0 : Int) ≤ 0; omega, by show (0 : Int) ≤ _; omega⟩
  · rw [if_neg ha]; exact ⟨h.nn, h.L, h.W, h.len, by show (0 : Int) ≤ 0; omega, by show (0 : Int) ≤ _; omega, hk0, hk1⟩
theorem wd_start {n m : Nat} {D : Dk} (h : Wd n m D) : Wd n m D.start := ⟨h.nn, h.L, h.W, h.len, h.c0, h.c1, h.k0, h.k1⟩
theorem wd_new (n : Nat) : Wd n 0 (Dk.new n) := ⟨rfl, by simp [Dk.new], fun x hx => by simp [Dk.new] at hx, by simp [Dk.new], by simp [Dk.new], by simp [Dk.new], by simp [Dk.new], by simp [Dk.new]⟩
theorem Wd.fine {n m : Nat} {D : Dk} (h : Wd n m D) (hm : m < 1000000) : Fine D := ⟨h.k0, h.k1, by have := h.len; omega, by have := h.c1; omega⟩
end Go.Proofs.Ythlngbdbmnnnaaa
