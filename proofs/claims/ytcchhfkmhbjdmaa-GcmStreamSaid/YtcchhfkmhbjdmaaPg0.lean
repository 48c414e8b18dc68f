/- The product of blocks: plain laws. -/
import Derived.Test.YtcchhfkmhbjdmaaKb
set_option linter.unusedVariables false
set_option linter.unusedSimpArgs false
namespace Go.Proofs.Ytcchhfkmhbjdmaa
/-- A block as two words. -/
structure W2 where
  (a b : UInt64)
deriving DecidableEq
namespace W2
def zero : W2 := ⟨0, 0⟩
def xr (x y : W2) : W2 := ⟨x.a ^^^ y.a, x.b ^^^ y.b⟩
def one : W2 := ⟨0x8000000000000000, 0⟩
/-- Times the second bit alone. -/
def T (v : W2) : W2 := ⟨(v.a >>> 1) ^^^ (0xe100000000000000 * (v.b &&& 1)), (v.b >>> 1) ||| (v.a <<< 63)⟩
def bit (w : W2) (i : Nat) : Bool := if i < 64 then w.a.toBitVec.getLsbD (63 - i) else w.b.toBitVec.getLsbD (127 - i)
def sel (c : Bool) (v : W2) : W2 := if c then v else zero
def pw : Nat → W2 → W2
  | 0, v => v
  | n + 1, v => T (pw n v)
def S : Nat → (Nat → W2) → W2
  | 0, _ => zero
  | n + 1, f => xr (S n f) (f n)
def times (w v : W2) : W2 := S 128 (fun i => sel (bit w i) (pw i v))
theorem xr_comm (x y : W2) : xr x y = xr y x := by unfold xr; rw [UInt64.xor_comm x.a, UInt64.xor_comm x.b]
theorem xr_assoc (x y z : W2) : xr (xr x y) z = xr x (xr y z) := by unfold xr; simp [UInt64.xor_assoc]
theorem xr_zero (x : W2) : xr x zero = x := by unfold xr zero; simp
theorem zero_xr (x : W2) : xr zero x = x := by rw [xr_comm, xr_zero]
theorem xr_self (x : W2) : xr x x = zero := by unfold xr zero; simp
theorem xr_lc (x y z : W2) : xr x (xr y z) = xr y (xr x z) := by rw [← xr_assoc, xr_comm x y, xr_assoc]
theorem xr_four (x y z t : W2) : xr (xr x y) (xr z t) = xr (xr x z) (xr y t) := by rw [xr_assoc, xr_assoc, xr_lc y z t]
theorem and_one (x : UInt64) : x &&& 1 = if x.toBitVec.getLsbD 0 then 1 else 0 := by
  apply UInt64.toBitVec_inj.mp
  apply BitVec.eq_of_getLsbD_eq
  intro i hi
  have h1 : (1 : UInt64).toBitVec.getLsbD i = decide (i = 0) := by
    show (1#64).getLsbD i = _
    rw [BitVec.getLsbD_one]; simp
  have h0 : (0 : UInt64).toBitVec.getLsbD i = false := by
    show (0#64).getLsbD i = _
    simp
  rw [UInt64.toBitVec_and, BitVec.getLsbD_and, h1]
  by_cases e : i = 0
  · subst e
    cases h : x.toBitVec.getLsbD 0
    · rw [if_neg (by simp)]; rw [h0]; rfl
    · rw [if_pos rfl]; rw [h1]; rfl
  · rw [decide_eq_false e, Bool.and_false]
    split
    · rw [h1, decide_eq_false e]
    · rw [h0]
theorem T_xr (x y : W2) : T (xr x y) = xr (T x) (T y) := by
  unfold T xr
  congr 1
  · simp only [and_one, UInt64.toBitVec_xor, BitVec.getLsbD_xor]
    cases x.b.toBitVec.getLsbD 0 <;> cases y.b.toBitVec.getLsbD 0 <;>
    · apply UInt64.toBitVec_inj.mp
      apply BitVec.eq_of_getLsbD_eq
      intro i hi
      simp [BitVec.getLsbD_xor]
      try (cases x.a.toBitVec.getLsbD (1 + i) <;> cases y.a.toBitVec.getLsbD (1 + i) <;> simp)
  · apply UInt64.toBitVec_inj.mp
    apply BitVec.eq_of_getLsbD_eq
    intro i hi
    by_cases h : i < 63
    · simp [h, hi]
    · have : i = 63 := by omega
      subst this
      simp
theorem sel_zero (c : Bool) : sel c zero = zero := by unfold sel; split <;> rfl
theorem sel_xr (c : Bool) (x y : W2) : sel c (xr x y) = xr (sel c x) (sel c y) := by unfold sel; cases c <;> simp [xr_zero]
theorem xor_sel (c d : Bool) (v : W2) : sel (c ^^ d) v = xr (sel c v) (sel d v) := by
  unfold sel; cases c <;> cases d <;> simp [xr_self, xr_zero, zero_xr]
theorem sel_sel (c d : Bool) (v : W2) : sel c (sel d v) = sel d (sel c v) := by unfold sel; cases c <;> cases d <;> rfl
theorem T_zero : T zero = zero := by decide
theorem T_sel (c : Bool) (v : W2) : T (sel c v) = sel c (T v) := by unfold sel; cases c <;> simp [T_zero]
theorem pw_xr (n : Nat) (x y : W2) : pw n (xr x y) = xr (pw n x) (pw n y) := by
  induction n with
  | zero => rfl
  | succ n ih => rw [pw, ih, T_xr]; rfl
theorem pw_zero (n : Nat) : pw n zero = zero := by
  induction n with
  | zero => rfl
  | succ n ih => rw [pw, ih, T_zero]
theorem pw_sel (n : Nat) (c : Bool) (v : W2) : pw n (sel c v) = sel c (pw n v) := by unfold sel; cases c <;> simp [pw_zero]
theorem pw_add (m n : Nat) (v : W2) : pw m (pw n v) = pw (m + n) v := by
  induction m with
  | zero => rw [Nat.zero_add]; rfl
  | succ m ih => rw [Nat.add_right_comm, pw, pw, ih]
theorem S_congr {n : Nat} {f g : Nat → W2} (h : ∀ i, i < n → f i = g i) : S n f = S n g := by
  induction n with
  | zero => rfl
  | succ n ih => rw [S, S, ih (fun i hi => h i (by omega)), h n (by omega)]
theorem S_xr (n : Nat) (f g : Nat → W2) : S n (fun i => xr (f i) (g i)) = xr (S n f) (S n g) := by
  induction n with
  | zero => rw [S, S, S, xr_zero]
  | succ n ih => rw [S, S, S, ih, xr_four]
theorem S_zero (n : Nat) : S n (fun _ => zero) = zero := by
  induction n with
  | zero => rfl
  | succ n ih => rw [S, ih, xr_zero]
theorem S_sel (c : Bool) (n : Nat) (f : Nat → W2) : sel c (S n f) = S n (fun i => sel c (f i)) := by
  induction n with
  | zero => rw [S, S, sel_zero]
  | succ n ih => rw [S, S, sel_xr, ih]
theorem S_pw (m n : Nat) (f : Nat → W2) : pw m (S n f) = S n (fun i => pw m (f i)) := by
  induction n with
  | zero => rw [S, S, pw_zero]
  | succ n ih => rw [S, S, pw_xr, ih]
theorem S_swap (m n : Nat) (f : Nat → Nat → W2) : S m (fun i => S n (f i)) = S n (fun j => S m (fun i => f i j)) := by
  induction m with
  | zero => simp only [S]; rw [S_zero]
  | succ m ih => simp only [S]; rw [ih, S_xr]
theorem bit_xr (x y : W2) (i : Nat) : bit (xr x y) i = (bit x i ^^ bit y i) := by
  unfold bit xr; split <;> simp
theorem bit_zero (i : Nat) : bit zero i = false := by unfold bit zero; split <;> simp
theorem bit_sel (c : Bool) (v : W2) (i : Nat) : bit (sel c v) i = (c && bit v i) := by unfold sel; cases c <;> simp [bit_zero]
theorem ext_bit {x y : W2} (h : ∀ i, i < 128 → bit x i = bit y i) : x = y := by
  obtain ⟨xa, xb⟩ := x
  obtain ⟨ya, yb⟩ := y
  congr 1
  · apply UInt64.toBitVec_inj.mp
    apply BitVec.eq_of_getLsbD_eq
    intro i hi
    have := h (63 - i) (by omega)
    simp only [bit, if_pos (show 63 - i < 64 by omega), show 63 - (63 - i) = i by omega] at this
    exact this
  · apply UInt64.toBitVec_inj.mp
    apply BitVec.eq_of_getLsbD_eq
    intro i hi
    have := h (127 - i) (by omega)
    simp only [bit, if_neg (show ¬ 127 - i < 64 by omega), show 127 - (127 - i) = i by omega] at this
    exact this
set_option maxRecDepth 100000 in
theorem bit_one : ((List.range 128).all fun j => (List.range 128).all fun k => bit (pw j one) k == decide (j = k)) = true := by decide +kernel
theorem bit_pw (j k : Nat) (hj : j < 128) (hk : k < 128) : bit (pw j one) k = decide (j = k) := by
  have h := List.all_eq_true.1 bit_one j (List.mem_range.2 hj)
  have h := List.all_eq_true.1 h k (List.mem_range.2 hk)
  simpa using h
theorem bit_S (v : W2) (k : Nat) (hk : k < 128) : ∀ n, n ≤ 128 → bit (S n fun j => sel (bit v j) (pw j one)) k = (decide (k < n) && bit v k)
  | 0, _ => by simp [S, bit_zero]
  | n + 1, hn => by
    rw [S, bit_xr, bit_S v k hk n (by omega), bit_sel, bit_pw n k (by omega) hk]
    by_cases e : n = k
    · subst e; simp
    · by_cases h : k < n
      · simp [e, h, show k < n + 1 by omega]
      · simp [e, h, show ¬ k < n + 1 by omega]
theorem decomp (v : W2) : S 128 (fun j => sel (bit v j) (pw j one)) = v := ext_bit fun i hi => by
  rw [bit_S v i hi 128 (Nat.le_refl _), decide_eq_true hi, Bool.true_and]
theorem times_sum (w v : W2) : times w v = S 128 (fun i => S 128 (fun j => sel (bit w i) (sel (bit v j) (pw (i + j) one)))) := by
  unfold times
  refine S_congr fun i hi => ?_
  conv => lhs; rw [← decomp v]
  rw [S_pw, S_sel]
  refine S_congr fun j hj => ?_
  rw [pw_sel, pw_add]
theorem times_comm (w v : W2) : times w v = times v w := by
  rw [times_sum, times_sum, S_swap]
  refine S_congr fun j hj => S_congr fun i hi => ?_
  rw [sel_sel, Nat.add_comm]
theorem times_xr_right (w x y : W2) : times w (xr x y) = xr (times w x) (times w y) := by
  unfold times
  rw [← S_xr]
  exact S_congr fun i hi => by rw [pw_xr, sel_xr]
theorem times_xr_left (x y v : W2) : times (xr x y) v = xr (times x v) (times y v) := by rw [times_comm, times_xr_right, times_comm v, times_comm v]
theorem times_one (v : W2) : times v one = v := by
  unfold times; exact decomp v
theorem times_pw (n : Nat) (w v : W2) : times w (pw n v) = pw n (times w v) := by
  unfold times
  rw [S_pw]
  refine S_congr fun i hi => ?_
  rw [pw_sel, pw_add, pw_add, Nat.add_comm]
theorem times_sel (c : Bool) (w v : W2) : times w (sel c v) = sel c (times w v) := by
  unfold times
  rw [S_sel]
  refine S_congr fun i hi => ?_
  rw [pw_sel, sel_sel]
theorem times_S (w : W2) (n : Nat) (f : Nat → W2) : times w (S n f) = S n (fun i => times w (f i)) := by
  induction n with
  | zero =>
    simp only [S]
    have := times_sel false w zero
    simpa [sel] using this
  | succ n ih => rw [S, S, times_xr_right, ih]
theorem times_assoc (a b c : W2) : times (times a b) c = times a (times b c) := by
  rw [times_comm, times_comm b c]
  show S 128 (fun i => sel (bit c i) (pw i (times a b))) = times a (S 128 (fun i => sel (bit c i) (pw i b)))
  rw [times_S]
  refine S_congr fun i hi => ?_
  rw [times_sel, times_pw]
end W2
end Go.Proofs.Ytcchhfkmhbjdmaa
