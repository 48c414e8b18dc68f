/- Blocks by bits: load, text, sums. -/
import Derived.Test.YtcchhfkmhbjdmaaPg2
set_option linter.unusedVariables false
set_option linter.unusedSimpArgs false
namespace Go.Proofs.Ytcchhfkmhbjdmaa
/-- A block's bit. -/
def bitL (s : List UInt8) (i : Nat) : Bool := (s.getD (i / 8) 0).toBitVec.getLsbD (7 - i % 8)
theorem shl_or_bit (a : UInt64) (x : UInt8) (m : Nat) (hm : m < 64) : ((a <<< 8) ||| x.toUInt64).toBitVec.getLsbD m = if m < 8 then x.toBitVec.getLsbD m else a.toBitVec.getLsbD (m - 8) := by
  rw [UInt64.toBitVec_or, BitVec.getLsbD_or]
  have h1 : (a <<< 8).toBitVec.getLsbD m = (decide (8 ≤ m) && a.toBitVec.getLsbD (m - 8)) := by
    rw [UInt64.toBitVec_shiftLeft, show ((8 : UInt64).toBitVec % 64) = 8#64 from rfl]
    rw [BitVec.shiftLeft_eq', show (8#64).toNat = 8 from rfl, BitVec.getLsbD_shiftLeft, decide_eq_true hm, Bool.true_and]
    by_cases h : m < 8
    · simp [h, show ¬ 8 ≤ m by omega]
    · simp [h, show 8 ≤ m by omega]
  have h2 : x.toUInt64.toBitVec.getLsbD m = (decide (m < 8) && x.toBitVec.getLsbD m) := by
    rw [UInt8.toBitVec_toUInt64]
    by_cases h : m < 8
    · simp [h, hm]
    · simp [h, BitVec.getLsbD_of_ge _ _ (Nat.le_of_not_lt h)]
  rw [h1, h2]
  by_cases h : m < 8
  · simp [h, show ¬ 8 ≤ m by omega]
  · simp [h, show 8 ≤ m by omega]
theorem ld_lo (l : List UInt8) : ∀ n, n ≤ 8 → (ldF l n).b = 0 ∧ ∀ m, m < 64 → (ldF l n).a.toBitVec.getLsbD m = (decide (m < 8 * n) && (l.getD (n - 1 - m / 8) 0).toBitVec.getLsbD (m % 8))
  | 0, _ => ⟨rfl, fun m hm => by simp [ldF, W2.zero]⟩
  | n + 1, h => by
    obtain ⟨hb, ha⟩ := ld_lo l n (by omega)
    have hn : n < 8 := by omega
    refine ⟨by rw [ldF, if_pos hn]; exact hb, fun m hm => ?_⟩
    rw [ldF, if_pos hn]
    show (((_ : UInt64) <<< 8) ||| (_ : UInt64)).toBitVec.getLsbD m = _
    rw [shl_or_bit _ _ _ hm]
    by_cases h8 : m < 8
    · rw [if_pos h8, show n + 1 - 1 - m / 8 = n by omega, show m % 8 = m by omega, decide_eq_true (by omega), Bool.true_and]
    · rw [if_neg h8, ha (m - 8) (by omega), show n + 1 - 1 - m / 8 = n - 1 - (m - 8) / 8 by omega, show m % 8 = (m - 8) % 8 by omega]
      congr 1
      exact decide_eq_decide.2 (by omega)
theorem ld_hi (l : List UInt8) : ∀ n, n ≤ 8 → (ldF l (8 + n)).a = (ldF l 8).a ∧ ∀ m, m < 64 → (ldF l (8 + n)).b.toBitVec.getLsbD m = (decide (m < 8 * n) && (l.getD (8 + (n - 1 - m / 8)) 0).toBitVec.getLsbD (m % 8))
  | 0, _ => ⟨rfl, fun m hm => by rw [Nat.add_zero, (ld_lo l 8 (Nat.le_refl _)).1]; simp⟩
  | n + 1, h => by
    obtain ⟨ha, hb⟩ := ld_hi l n (by omega)
    rw [← Nat.add_assoc]
    refine ⟨by rw [ldF, if_neg (by omega)]; exact ha, fun m hm => ?_⟩
    rw [ldF, if_neg (by omega)]
    show (((_ : UInt64) <<< 8) ||| (_ : UInt64)).toBitVec.getLsbD m = _
    rw [shl_or_bit _ _ _ hm]
    by_cases h8 : m < 8
    · rw [if_pos h8, show n + 1 - 1 - m / 8 = n by omega, show m % 8 = m by omega, decide_eq_true (by omega), Bool.true_and]
    · rw [if_neg h8, hb (m - 8) (by omega), show n + 1 - 1 - m / 8 = n - 1 - (m - 8) / 8 by omega, show m % 8 = (m - 8) % 8 by omega]
      congr 1
      exact decide_eq_decide.2 (by omega)
theorem bit_load (l : List UInt8) (i : Nat) (hi : i < 128) : W2.bit (loadL l) i = bitL l i := by
  unfold W2.bit bitL loadL
  by_cases h : i < 64
  · rw [if_pos h, (ld_hi l 8 (Nat.le_refl _)).1, (ld_lo l 8 (Nat.le_refl _)).2 _ (by omega), decide_eq_true (by omega), Bool.true_and, show 8 - 1 - (63 - i) / 8 = i / 8 by omega, show (63 - i) % 8 = 7 - i % 8 by omega]
  · rw [if_neg h, (ld_hi l 8 (Nat.le_refl _)).2 _ (by omega), decide_eq_true (by omega), Bool.true_and, show 8 + (8 - 1 - (127 - i) / 8) = i / 8 by omega, show (127 - i) % 8 = 7 - i % 8 by omega]
theorem ofNat_bit (n k j : Nat) (hj : j < 8) : (UInt8.ofNat (n / 2 ^ k)).toBitVec.getLsbD j = n.testBit (k + j) := by
  rw [BitVec.getLsbD]
  show (n / 2 ^ k % 2 ^ 8).testBit j = _
  rw [Nat.testBit_mod_two_pow, decide_eq_true hj, Bool.true_and, Nat.testBit_div_two_pow, Nat.add_comm]
theorem bit_text (z : W2) (i : Nat) (hi : i < 128) : bitL (textL z) i = W2.bit z i := by
  unfold bitL textL
  rw [List.getD_eq_getElem?_getD, full_get _ _ _ (by omega)]
  show (txF z (i / 8)).toBitVec.getLsbD (7 - i % 8) = _
  unfold txF W2.bit
  rw [ofNat_bit _ _ _ (by omega)]
  by_cases h : i < 64
  · rw [if_pos (by omega), if_pos h, show 56 - 8 * (i / 8 % 8) + (7 - i % 8) = 63 - i by omega]; rfl
  · rw [if_neg (by omega), if_neg h, show 56 - 8 * (i / 8 % 8) + (7 - i % 8) = 127 - i by omega]; rfl
theorem text_length (z : W2) : (textL z).length = 16 := full_length _ _
theorem block_ext {a b : List UInt8} (ha : a.length = 16) (hb : b.length = 16) (h : ∀ i, i < 128 → bitL a i = bitL b i) : a = b := by
  apply List.ext_getElem (by rw [ha, hb])
  intro q h1 h2
  apply UInt8.toBitVec_inj.mp
  apply BitVec.eq_of_getLsbD_eq
  intro j hj
  have := h (8 * q + (7 - j)) (by omega)
  unfold bitL at this
  rw [show (8 * q + (7 - j)) / 8 = q by omega, show 7 - (8 * q + (7 - j)) % 8 = j by omega, List.getD_eq_getElem?_getD, List.getD_eq_getElem?_getD, List.getElem?_eq_getElem h1, List.getElem?_eq_getElem h2] at this
  exact this
theorem load_text (z : W2) : loadL (textL z) = z := W2.ext_bit fun i hi => by rw [bit_load _ _ hi, bit_text _ _ hi]
theorem text_load (l : List UInt8) (hl : l.length = 16) : textL (loadL l) = l := block_ext (text_length _) hl fun i hi => by rw [bit_text _ _ hi, bit_load _ _ hi]
/-- Bytes by others. -/
def xorG (a b : List UInt8) : List UInt8 := List.zipWith (· ^^^ ·) a b
theorem xorG_length (a b : List UInt8) : (xorG a b).length = min a.length b.length := by simp [xorG]
theorem bit_xorG (a b : List UInt8) (ha : a.length = 16) (hb : b.length = 16) (i : Nat) (hi : i < 128) : bitL (xorG a b) i = (bitL a i ^^ bitL b i) := by
  unfold bitL xorG
  simp only [List.getD_eq_getElem?_getD, List.getElem?_zipWith]
  have h1 : i / 8 < a.length := by omega
  have h2 : i / 8 < b.length := by omega
  rw [List.getElem?_eq_getElem h1, List.getElem?_eq_getElem h2]
  simp [UInt8.toBitVec_xor, BitVec.getLsbD_xor]
theorem load_xorG (a b : List UInt8) (ha : a.length = 16) (hb : b.length = 16) : loadL (xorG a b) = W2.xr (loadL a) (loadL b) := W2.ext_bit fun i hi => by
  rw [bit_load _ _ hi, bit_xorG _ _ ha hb _ hi, W2.bit_xr, bit_load _ _ hi, bit_load _ _ hi]
theorem text_xr (x y : W2) : textL (W2.xr x y) = xorG (textL x) (textL y) := block_ext (text_length _) (by rw [xorG_length, text_length, text_length]; rfl) fun i hi => by
  rw [bit_text _ _ hi, bit_xorG _ _ (text_length _) (text_length _) _ hi, W2.bit_xr, bit_text _ _ hi, bit_text _ _ hi]
/-- Coefficients of a polynomial, the first m. -/
def ev (m : Nat) (p : Nat → Bool) : W2 := W2.S m (fun k => W2.sel (p k) (W2.pw k W2.one))
theorem S_upd (n k : Nat) (f g : Nat → W2) (d : W2) (hk : k < n) (h : ∀ i, i ≠ k → g i = f i) (hd : g k = W2.xr (f k) d) : W2.S n g = W2.xr (W2.S n f) d := by
  induction n with
  | zero => omega
  | succ n ih =>
    rw [W2.S, W2.S]
    by_cases e : k = n
    · subst e
      rw [hd, W2.S_congr (f := g) (g := f) (fun i hi => h i (by omega)), W2.xr_assoc]
    · rw [ih (by omega), h n (by omega), W2.xr_assoc, W2.xr_assoc, W2.xr_comm d]
theorem ev_flip (m k : Nat) (p q : Nat → Bool) (c : Bool) (hk : k < m) (h : ∀ i, i ≠ k → q i = p i) (hd : q k = (p k ^^ c)) : ev m q = W2.xr (ev m p) (W2.sel c (W2.pw k W2.one)) :=
  S_upd m k _ _ _ hk (fun i hi => by rw [h i hi]) (by rw [hd, W2.xor_sel])
theorem bit_ev (p : Nat → Bool) (k : Nat) (hk : k < 128) : ∀ n, n ≤ 128 → W2.bit (ev n p) k = (decide (k < n) && p k)
  | 0, _ => by simp [ev, W2.S, W2.bit_zero]
  | n + 1, hn => by
    have ih := bit_ev p k hk n (by omega)
    unfold ev at ih ⊢
    rw [W2.S, W2.bit_xr, ih, W2.bit_sel, W2.bit_pw n k (by omega) hk]
    by_cases e : n = k
    · subst e; simp
    · by_cases h : k < n
      · simp [e, h, show k < n + 1 by omega]
      · simp [e, h, show ¬ k < n + 1 by omega]
theorem pw128 : W2.pw 128 W2.one = W2.xr (W2.xr (W2.xr W2.one (W2.pw 1 W2.one)) (W2.pw 2 W2.one)) (W2.pw 7 W2.one) := by decide +kernel
theorem pw_fold (i : Nat) (hi : 128 ≤ i) : W2.pw i W2.one = W2.xr (W2.xr (W2.xr (W2.pw (i - 128) W2.one) (W2.pw (i - 127) W2.one)) (W2.pw (i - 126) W2.one)) (W2.pw (i - 121) W2.one) := by
  obtain ⟨d, rfl⟩ : ∃ d, i = d + 128 := ⟨i - 128, by omega⟩
  rw [← W2.pw_add, pw128, W2.pw_xr, W2.pw_xr, W2.pw_xr, W2.pw_add, W2.pw_add, W2.pw_add]
  rw [show d + 128 - 128 = d by omega, show d + 128 - 127 = d + 1 by omega, show d + 128 - 126 = d + 2 by omega, show d + 128 - 121 = d + 7 by omega]
/-- One round of the folding. -/
theorem ev_fold (i : Nat) (hi : 128 ≤ i) (p q : Nat → Bool) (h : ∀ k, k < i → q k = (p k ^^ (p i && (decide (k = i - 128) || decide (k = i - 127) || decide (k = i - 126) || decide (k = i - 121))))) : ev i q = ev (i + 1) p := by
  obtain ⟨q1, h1⟩ : ∃ q : Nat → Bool, q = fun k => if k = i - 128 then (p k ^^ p i) else p k := ⟨_, rfl⟩
  obtain ⟨q2, h2⟩ : ∃ q : Nat → Bool, q = fun k => if k = i - 127 then (q1 k ^^ p i) else q1 k := ⟨_, rfl⟩
  obtain ⟨q3, h3⟩ : ∃ q : Nat → Bool, q = fun k => if k = i - 126 then (q2 k ^^ p i) else q2 k := ⟨_, rfl⟩
  obtain ⟨q4, h4⟩ : ∃ q : Nat → Bool, q = fun k => if k = i - 121 then (q3 k ^^ p i) else q3 k := ⟨_, rfl⟩
  have e1 := ev_flip i (i - 128) p q1 (p i) (by omega) (fun k hk => by rw [h1]; simp [hk]) (by rw [h1]; simp)
  have e2 := ev_flip i (i - 127) q1 q2 (p i) (by omega) (fun k hk => by rw [h2]; simp [hk]) (by rw [h2]; simp)
  have e3 := ev_flip i (i - 126) q2 q3 (p i) (by omega) (fun k hk => by rw [h3]; simp [hk]) (by rw [h3]; simp)
  have e4 := ev_flip i (i - 121) q3 q4 (p i) (by omega) (fun k hk => by rw [h4]; simp [hk]) (by rw [h4]; simp)
  have hq : ev i q = ev i q4 := by
    unfold ev
    refine W2.S_congr fun k hk => ?_
    rw [h k hk]
    congr 1
    rw [h4, h3, h2, h1]
    by_cases c1 : k = i - 128
    · have c2 : k ≠ i - 127 := by omega
      have c3 : k ≠ i - 126 := by omega
      have c4 : k ≠ i - 121 := by omega
      simp [c1, show i - 128 ≠ i - 127 by omega, show i - 128 ≠ i - 126 by omega, show i - 128 ≠ i - 121 by omega]
    · by_cases c2 : k = i - 127
      · simp [c2, show i - 127 ≠ i - 128 by omega, show i - 127 ≠ i - 126 by omega, show i - 127 ≠ i - 121 by omega]
      · by_cases c3 : k = i - 126
        · simp [c3, show i - 126 ≠ i - 128 by omega, show i - 126 ≠ i - 127 by omega, show i - 126 ≠ i - 121 by omega]
        · by_cases c4 : k = i - 121
          · simp [c4, show i - 121 ≠ i - 128 by omega, show i - 121 ≠ i - 127 by omega, show i - 121 ≠ i - 126 by omega]
          · simp [c1, c2, c3, c4]
  rw [hq, e4, e3, e2, e1]
  show _ = W2.xr (ev i p) (W2.sel (p i) (W2.pw i W2.one))
  rw [pw_fold i hi, W2.sel_xr, W2.sel_xr, W2.sel_xr]
  simp only [W2.xr_assoc]
/-- The bits gathered, one behind the other. -/
def outF (p : Nat → Bool) : Nat → List UInt8
  | 0 => List.replicate 16 0
  | i + 1 => (outF p i).set (i / 8) ((outF p i).getD (i / 8) 0 ||| (if p i then 1 else 0) <<< UInt8.ofNat (7 - i % 8))
theorem outF_length (p : Nat → Bool) : ∀ i, (outF p i).length = 16
  | 0 => by simp [outF]
  | i + 1 => by rw [outF, List.length_set, outF_length p i]
theorem one_shl : ∀ k j : Fin 8, ((1 : UInt8) <<< UInt8.ofNat k.1).toBitVec.getLsbD j.1 = decide (j = k) := by decide +kernel
theorem zero_shl : ∀ k j : Fin 8, ((0 : UInt8) <<< UInt8.ofNat k.1).toBitVec.getLsbD j.1 = false := by decide +kernel
theorem b_shl (c : Bool) (k j : Nat) (hk : k < 8) (hj : j < 8) : (((if c then 1 else 0) : UInt8) <<< UInt8.ofNat k).toBitVec.getLsbD j = (c && decide (j = k)) := by
  cases c
  · exact zero_shl ⟨k, hk⟩ ⟨j, hj⟩
  · have := one_shl ⟨k, hk⟩ ⟨j, hj⟩
    simpa using this
theorem bit_outF (p : Nat → Bool) (k : Nat) (hk : k < 128) : ∀ i, i ≤ 128 → bitL (outF p i) k = (decide (k < i) && p k)
  | 0, _ => by
    have : (List.replicate 16 (0 : UInt8)).getD (k / 8) 0 = 0 := by
      rw [List.getD_eq_getElem?_getD, List.getElem?_replicate]; split <;> rfl
    unfold bitL outF
    rw [this]; simp
  | i + 1, hi => by
    have ih := bit_outF p k hk i (by omega)
    unfold bitL at ih ⊢
    rw [outF, List.getD_eq_getElem?_getD, List.getElem?_set]
    by_cases e : i / 8 = k / 8
    · rw [if_pos e, if_pos (by rw [outF_length]; omega)]
      show (_ ||| _ : UInt8).toBitVec.getLsbD _ = _
      rw [UInt8.toBitVec_or, BitVec.getLsbD_or, e, ih, b_shl _ _ _ (by omega) (by omega)]
      by_cases e2 : i = k
      · subst e2; simp
      · have e3 : (decide (7 - k % 8 = 7 - i % 8)) = false := decide_eq_false (by omega)
        rw [e3, Bool.and_false, Bool.or_false]
        congr 1
        exact decide_eq_decide.2 (by omega)
    · rw [if_neg e]
      have : (outF p i).getD (k / 8) 0 = ((outF p i)[k / 8]?).getD 0 := List.getD_eq_getElem?_getD ..
      rw [← this, ih]
      congr 1
      exact decide_eq_decide.2 (by omega)
theorem outF_text (p : Nat → Bool) (z : W2) (h : ev 128 p = z) : outF p 128 = textL z := block_ext (outF_length _ _) (text_length _) fun i hi => by
  rw [bit_outF p i hi 128 (Nat.le_refl _), bit_text _ _ hi, ← h, bit_ev p i hi 128 (Nat.le_refl _)]
end Go.Proofs.Ytcchhfkmhbjdmaa
