/- The cipher: plain laws. -/
import Derived.Test.YtcchhfkmhbjdmaaKa
set_option linter.unusedVariables false
set_option linter.unusedSimpArgs false
namespace Go.Proofs.Ytcchhfkmhbjdmaa
/-- Bytes, of which the first i are new. -/
def upd (f : Nat → UInt8) (s : List UInt8) (i : Nat) : List UInt8 := (List.range s.length).map fun j => if j < i then f j else s.getD j 0
def full (f : Nat → UInt8) (n : Nat) : List UInt8 := (List.range n).map f
theorem upd_length (f : Nat → UInt8) (s : List UInt8) (i : Nat) : (upd f s i).length = s.length := by simp [upd]
theorem full_length (f : Nat → UInt8) (n : Nat) : (full f n).length = n := by simp [full]
theorem upd_zero (f : Nat → UInt8) (s : List UInt8) : upd f s 0 = s := by
  apply List.ext_getElem (by simp [upd])
  intro j h1 h2
  simp [upd, List.getElem?_eq_getElem h2]
theorem upd_all (f : Nat → UInt8) (s : List UInt8) (n : Nat) (h : s.length = n) : upd f s n = full f n := by
  subst h
  unfold upd full
  apply List.map_congr_left
  intro j hj
  rw [if_pos (List.mem_range.mp hj)]
theorem upd_get (f : Nat → UInt8) (s : List UInt8) (i j : Nat) (h : j < s.length) : (upd f s i)[j]? = some (if j < i then f j else s.getD j 0) := by
  simp [upd, h]
theorem full_get (f : Nat → UInt8) (n j : Nat) (h : j < n) : (full f n)[j]? = some (f j) := by simp [full, h]
theorem full_getD (f : Nat → UInt8) (n j : Nat) (h : j < n) : (full f n).getD j 0 = f j := by
  rw [List.getD_eq_getElem?_getD, full_get f n j h]; rfl
theorem upd_set (f : Nat → UInt8) (s : List UInt8) (i : Nat) (h : i < s.length) : (upd f s i).set i (f i) = upd f s (i + 1) := by
  apply List.ext_getElem (by simp [upd])
  intro j h1 h2
  rw [List.getElem_set]
  simp only [upd, List.getElem_map, List.getElem_range]
  by_cases e : i = j
  · subst e; simp
  · rw [if_neg e]
    by_cases hl : j < i
    · rw [if_pos hl, if_pos (by omega)]
    · rw [if_neg hl, if_neg (by omega)]
theorem full_congr {f g : Nat → UInt8} {n : Nat} (h : full f n = full g n) {j : Nat} (hj : j < n) : f j = g j := by
  have := congrArg (fun l => l[j]?) h
  simpa [full_get _ _ _ hj] using this
theorem list16_ext {s t : List UInt8} {n : Nat} (hs : s.length = n) (ht : t.length = n) (h : ∀ j, j < n → s.getD j 0 = t.getD j 0) : s = t := by
  apply List.ext_getElem (by omega)
  intro j h1 h2
  have := h j (by omega)
  simpa [List.getElem?_eq_getElem h1, List.getElem?_eq_getElem h2] using this
/-! ### rounds -/
def addF (W : List UInt8) (r : Nat) (s : List UInt8) (i : Nat) : UInt8 := s.getD i 0 ^^^ W.getD (16 * r + i) 0
def addL (W : List UInt8) (r : Nat) (s : List UInt8) : List UInt8 := full (addF W r s) 16
def shiftF (s : List UInt8) (i : Nat) : UInt8 := box (s.getD ((i + 4 * (i % 4)) % 16) 0)
def shiftL (s : List UInt8) : List UInt8 := full (shiftF s) 16
def mixC (a0 a1 a2 a3 x y : UInt8) : UInt8 := x ^^^ ((a0 ^^^ a1 ^^^ a2 ^^^ a3) ^^^ tw (x ^^^ y))
def mixF (s : List UInt8) (j : Nat) : UInt8 :=
  mixC (s.getD (4 * (j / 4)) 0) (s.getD (4 * (j / 4) + 1) 0) (s.getD (4 * (j / 4) + 2) 0) (s.getD (4 * (j / 4) + 3) 0) (s.getD j 0) (s.getD (4 * (j / 4) + (j % 4 + 1) % 4) 0)
def mixL (s : List UInt8) : List UInt8 := full (mixF s) 16
def pressN (W : List UInt8) (s : List UInt8) : Nat → List UInt8
  | 0 => addL W 0 s
  | r + 1 => addL W (r + 1) (mixL (shiftL (pressN W s r)))
def press (W : List UInt8) (s : List UInt8) : List UInt8 := addL W 14 (shiftL (pressN W s 13))
theorem pressN_length (W s : List UInt8) : ∀ n, (pressN W s n).length = 16
  | 0 => full_length _ _
  | n + 1 => full_length _ _
theorem press_length (W s : List UInt8) : (press W s).length = 16 := full_length _ _
theorem add_inj {W : List UInt8} {r : Nat} {s t : List UInt8} (hs : s.length = 16) (ht : t.length = 16) (h : addL W r s = addL W r t) : s = t := by
  refine list16_ext hs ht fun j hj => ?_
  have := full_congr h hj
  unfold addF at this
  have h2 := congrArg (fun x => x ^^^ W.getD (16 * r + j) 0) this
  simpa [UInt8.xor_assoc] using h2
theorem shift_inj {s t : List UInt8} (hs : s.length = 16) (ht : t.length = 16) (h : shiftL s = shiftL t) : s = t := by
  refine list16_ext hs ht fun j hj => ?_
  obtain ⟨i, hi, e⟩ : ∃ i, i < 16 ∧ (i + 4 * (i % 4)) % 16 = j := ⟨(j + 12 * (j % 4)) % 16, by omega, by omega⟩
  have := full_congr h hi
  unfold shiftF at this
  rw [e] at this
  exact box_inj this
theorem xor_left_cancel' (a b : UInt8) : a ^^^ (a ^^^ b) = b := by rw [← UInt8.xor_assoc, UInt8.xor_self, UInt8.zero_xor]
theorem xor_lc (a b c : UInt8) : a ^^^ (b ^^^ c) = b ^^^ (a ^^^ c) := by rw [← UInt8.xor_assoc, UInt8.xor_comm a b, UInt8.xor_assoc]
theorem xcancel {a b c : UInt8} (h : a ^^^ c = b ^^^ c) : a = b := by
  have := congrArg (fun x => x ^^^ c) h
  simpa [UInt8.xor_assoc] using this
theorem mix_sum (a0 a1 a2 a3 S : UInt8) : (a0 ^^^ (S ^^^ tw (a0 ^^^ a1))) ^^^ (a1 ^^^ (S ^^^ tw (a1 ^^^ a2))) ^^^ (a2 ^^^ (S ^^^ tw (a2 ^^^ a3))) ^^^ (a3 ^^^ (S ^^^ tw (a3 ^^^ a0))) = a0 ^^^ a1 ^^^ a2 ^^^ a3 := by
  simp only [tw_xor]
  generalize tw a0 = t0
  generalize tw a1 = t1
  generalize tw a2 = t2
  generalize tw a3 = t3
  simp only [UInt8.xor_assoc, UInt8.xor_comm, xor_lc, xor_left_cancel', UInt8.xor_self, UInt8.xor_zero, UInt8.zero_xor]
theorem mix_two (a0 a1 a2 a3 S : UInt8) : (a0 ^^^ (S ^^^ tw (a0 ^^^ a1))) ^^^ (a2 ^^^ (S ^^^ tw (a2 ^^^ a3))) = (a0 ^^^ a2) ^^^ tw (a0 ^^^ a1 ^^^ a2 ^^^ a3) := by
  simp only [tw_xor]
  simp only [UInt8.xor_assoc, UInt8.xor_comm, xor_lc, xor_left_cancel', UInt8.xor_self, UInt8.xor_zero, UInt8.zero_xor]
theorem mix_one (a0 a1 a2 S : UInt8) : (a0 ^^^ (S ^^^ tw (a0 ^^^ a1))) ^^^ (a1 ^^^ (S ^^^ tw (a1 ^^^ a2))) = (a0 ^^^ a1) ^^^ tw (a0 ^^^ a2) := by
  simp only [tw_xor]
  simp only [UInt8.xor_assoc, UInt8.xor_comm, xor_lc, xor_left_cancel', UInt8.xor_self, UInt8.xor_zero, UInt8.zero_xor]
theorem mix_inj4 {a0 a1 a2 a3 b0 b1 b2 b3 : UInt8} (h0 : mixC a0 a1 a2 a3 a0 a1 = mixC b0 b1 b2 b3 b0 b1) (h1 : mixC a0 a1 a2 a3 a1 a2 = mixC b0 b1 b2 b3 b1 b2)
    (h2 : mixC a0 a1 a2 a3 a2 a3 = mixC b0 b1 b2 b3 b2 b3) (h3 : mixC a0 a1 a2 a3 a3 a0 = mixC b0 b1 b2 b3 b3 b0) : a0 = b0 ∧ a1 = b1 ∧ a2 = b2 ∧ a3 = b3 := by
  unfold mixC at h0 h1 h2 h3
  have hS : a0 ^^^ a1 ^^^ a2 ^^^ a3 = b0 ^^^ b1 ^^^ b2 ^^^ b3 := by
    rw [← mix_sum a0 a1 a2 a3 (a0 ^^^ a1 ^^^ a2 ^^^ a3), h0, h1, h2, h3, mix_sum]
  rw [hS] at h0 h1 h2 h3
  have hP : a0 ^^^ a2 = b0 ^^^ b2 := by
    have e := mix_two a0 a1 a2 a3 (b0 ^^^ b1 ^^^ b2 ^^^ b3)
    rw [h0, h2, mix_two, hS] at e
    exact (xcancel e).symm
  have hR : a0 ^^^ a1 = b0 ^^^ b1 := by
    have e := mix_one a0 a1 a2 (b0 ^^^ b1 ^^^ b2 ^^^ b3)
    rw [h0, h1, mix_one, hP] at e
    exact (xcancel e).symm
  have g0 : a0 = b0 := by rw [hR] at h0; exact xcancel h0
  have g1 : a1 = b1 := by rw [g0, UInt8.xor_comm b0 a1, UInt8.xor_comm b0 b1] at hR; exact xcancel hR
  have g2 : a2 = b2 := by rw [g0, UInt8.xor_comm b0 a2, UInt8.xor_comm b0 b2] at hP; exact xcancel hP
  refine ⟨g0, g1, g2, ?_⟩
  rw [g0, g1, g2, UInt8.xor_comm _ a3, UInt8.xor_comm _ b3] at hS
  exact xcancel hS
theorem mix_col {s t : List UInt8} (h : mixL s = mixL t) (c k : Nat) (hc : c < 4) (hk : k < 4) : mixF s (4 * c + k) = mixF t (4 * c + k) := full_congr h (by omega)
theorem mix_inj {s t : List UInt8} (hs : s.length = 16) (ht : t.length = 16) (h : mixL s = mixL t) : s = t := by
  have key : ∀ c, c < 4 → ∀ u : List UInt8, mixF u (4 * c + 0) = mixC (u.getD (4 * c) 0) (u.getD (4 * c + 1) 0) (u.getD (4 * c + 2) 0) (u.getD (4 * c + 3) 0) (u.getD (4 * c) 0) (u.getD (4 * c + 1) 0) ∧
      mixF u (4 * c + 1) = mixC (u.getD (4 * c) 0) (u.getD (4 * c + 1) 0) (u.getD (4 * c + 2) 0) (u.getD (4 * c + 3) 0) (u.getD (4 * c + 1) 0) (u.getD (4 * c + 2) 0) ∧
      mixF u (4 * c + 2) = mixC (u.getD (4 * c) 0) (u.getD (4 * c + 1) 0) (u.getD (4 * c + 2) 0) (u.getD (4 * c + 3) 0) (u.getD (4 * c + 2) 0) (u.getD (4 * c + 3) 0) ∧
      mixF u (4 * c + 3) = mixC (u.getD (4 * c) 0) (u.getD (4 * c + 1) 0) (u.getD (4 * c + 2) 0) (u.getD (4 * c + 3) 0) (u.getD (4 * c + 3) 0) (u.getD (4 * c) 0) := by
    intro c hc u
    refine ⟨?_, ?_, ?_, ?_⟩ <;> unfold mixF
    · rw [show (4 * c + 0) / 4 = c by omega, show (4 * c + 0) % 4 = 0 by omega]; rfl
    · rw [show (4 * c + 1) / 4 = c by omega, show (4 * c + 1) % 4 = 1 by omega]
    · rw [show (4 * c + 2) / 4 = c by omega, show (4 * c + 2) % 4 = 2 by omega]
    · rw [show (4 * c + 3) / 4 = c by omega, show (4 * c + 3) % 4 = 3 by omega]; rfl
  have col : ∀ c, c < 4 → s.getD (4 * c) 0 = t.getD (4 * c) 0 ∧ s.getD (4 * c + 1) 0 = t.getD (4 * c + 1) 0 ∧ s.getD (4 * c + 2) 0 = t.getD (4 * c + 2) 0 ∧ s.getD (4 * c + 3) 0 = t.getD (4 * c + 3) 0 := by
    intro c hc
    obtain ⟨s0, s1, s2, s3⟩ := key c hc s
    obtain ⟨t0, t1, t2, t3⟩ := key c hc t
    have h0 := mix_col h c 0 hc (by omega)
    have h1 := mix_col h c 1 hc (by omega)
    have h2 := mix_col h c 2 hc (by omega)
    have h3 := mix_col h c 3 hc (by omega)
    rw [s0, t0] at h0
    rw [s1, t1] at h1
    rw [s2, t2] at h2
    rw [s3, t3] at h3
    generalize s.getD (4 * c) 0 = a0 at *
    generalize s.getD (4 * c + 1) 0 = a1 at *
    generalize s.getD (4 * c + 2) 0 = a2 at *
    generalize s.getD (4 * c + 3) 0 = a3 at *
    generalize t.getD (4 * c) 0 = b0 at *
    generalize t.getD (4 * c + 1) 0 = b1 at *
    generalize t.getD (4 * c + 2) 0 = b2 at *
    generalize t.getD (4 * c + 3) 0 = b3 at *
    exact mix_inj4 h0 h1 h2 h3
  refine list16_ext hs ht fun j hj => ?_
  obtain ⟨c0, c1, c2, c3⟩ := col (j / 4) (by omega)
  have e : j = 4 * (j / 4) ∨ j = 4 * (j / 4) + 1 ∨ j = 4 * (j / 4) + 2 ∨ j = 4 * (j / 4) + 3 := by omega
  rcases e with e | e | e | e <;> rw [e] <;> assumption
theorem pressN_inj {W s t : List UInt8} (hs : s.length = 16) (ht : t.length = 16) : ∀ n, pressN W s n = pressN W t n → s = t
  | 0, h => add_inj hs ht h
  | n + 1, h => pressN_inj hs ht n (shift_inj (pressN_length _ _ _) (pressN_length _ _ _) (mix_inj (full_length _ _) (full_length _ _) (add_inj (full_length _ _) (full_length _ _) h)))
theorem press_inj {W s t : List UInt8} (hs : s.length = 16) (ht : t.length = 16) (h : press W s = press W t) : s = t :=
  pressN_inj hs ht 13 (shift_inj (pressN_length _ _ _) (pressN_length _ _ _) (add_inj (full_length _ _) (full_length _ _) h))
/-! ### the key's words -/
def powN : Nat → UInt8
  | 0 => 1
  | n + 1 => tw (powN n)
def wordT (w : List UInt8) (i : Nat) (k : Nat) : UInt8 :=
  if i % 8 = 0 then (if k = 0 then box (w.getD (4 * i - 3) 0) ^^^ powN ((i - 1) / 8) else box (w.getD (4 * i - 4 + (k + 1) % 4) 0))
  else if i % 8 = 4 then box (w.getD (4 * i - 4 + k) 0) else w.getD (4 * i - 4 + k) 0
def wordF (w : List UInt8) (i : Nat) (k : Nat) : UInt8 := w.getD (4 * i - 32 + k) 0 ^^^ wordT w i k
def words (key : List UInt8) : Nat → List UInt8
  | 0 => key
  | n + 1 => words key n ++ full (wordF (words key n) (n + 8)) 4
theorem words_length (key : List UInt8) (h : key.length = 32) : ∀ n, (words key n).length = 4 * (n + 8)
  | 0 => by simp [words, h]
  | n + 1 => by simp [words, words_length key h n, full_length]; omega
end Go.Proofs.Ytcchhfkmhbjdmaa
