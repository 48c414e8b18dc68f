/- The product of blocks; the digest's loops. -/
import Derived.Laws.BitsAllLaws
import Derived.Test.YtcchhfkmhbjdmaaGreatPm1
/-! Pg0 -/
set_option linter.unusedVariables false
set_option linter.unusedSimpArgs false
namespace Go.Proofs.YtcchhfkmhbjdmaaGreat
/-- A block as two words. -/
structure W2 where
  (a b : UInt64)
deriving DecidableEq
namespace W2
def zero : W2 := ⟨0, 0⟩
def xr (x y : W2) : W2 := ⟨x.a ^^^ y.a, x.b ^^^ y.b⟩
def one : W2 := ⟨0x8000000000000000, 0⟩
/-- Times the second bit alone. -/
def T (v : W2) : W2 := ⟨(v.a >>> 1) ^^^ (0xe100000000000000 * (v.b &&& 1)), (v.b >>> 1) ||| (v.a <<< 63)⟩
def bit (w : W2) (i : Nat) : Bool := if i < 64 then w.a.toBitVec.getLsbD (63 - i) else w.b.toBitVec.getLsbD (127 - i)
def sel (c : Bool) (v : W2) : W2 := if c then v else zero
def pw : Nat → W2 → W2
  | 0, v => v
  | n + 1, v => T (pw n v)
def S : Nat → (Nat → W2) → W2
  | 0, _ => zero
  | n + 1, f => xr (S n f) (f n)
def times (w v : W2) : W2 := S 128 (fun i => sel (bit w i) (pw i v))
theorem xr_comm (x y : W2) : xr x y = xr y x := by unfold xr; rw [UInt64.xor_comm x.a, UInt64.xor_comm x.b]
theorem xr_assoc (x y z : W2) : xr (xr x y) z = xr x (xr y z) := by unfold xr; simp [UInt64.xor_assoc]
theorem xr_zero (x : W2) : xr x zero = x := by unfold xr zero; simp
theorem zero_xr (x : W2) : xr zero x = x := by rw [xr_comm, xr_zero]
theorem xr_self (x : W2) : xr x x = zero := by unfold xr zero; simp
theorem xr_lc (x y z : W2) : xr x (xr y z) = xr y (xr x z) := by rw [← xr_assoc, xr_comm x y, xr_assoc]
theorem xr_four (x y z t : W2) : xr (xr x y) (xr z t) = xr (xr x z) (xr y t) := by rw [xr_assoc, xr_assoc, xr_lc y z t]
theorem and_one (x : UInt64) : x &&& 1 = if x.toBitVec.getLsbD 0 then 1 else 0 := by
  apply UInt64.toBitVec_inj.mp
  apply BitVec.eq_of_getLsbD_eq
  intro i hi
  have h1 : (1 : UInt64).toBitVec.getLsbD i = decide (i = 0) := by
    show (1#64).getLsbD i = _
    rw [BitVec.getLsbD_one]; simp
  have h0 : (0 : UInt64).toBitVec.getLsbD i = false := by
    show (0#64).getLsbD i = _
    simp
  rw [UInt64.toBitVec_and, BitVec.getLsbD_and, h1]
  by_cases e : i = 0
  · subst e
    cases h : x.toBitVec.getLsbD 0
    · rw [if_neg (by simp)]; rw [h0]; rfl
    · rw [if_pos rfl]; rw [h1]; rfl
  · rw [decide_eq_false e, Bool.and_false]
    split
    · rw [h1, decide_eq_false e]
    · rw [h0]
theorem T_xr (x y : W2) : T (xr x y) = xr (T x) (T y) := by
  unfold T xr
  congr 1
  · simp only [and_one, UInt64.toBitVec_xor, BitVec.getLsbD_xor]
    cases x.b.toBitVec.getLsbD 0 <;> cases y.b.toBitVec.getLsbD 0 <;>
    · apply UInt64.toBitVec_inj.mp
      apply BitVec.eq_of_getLsbD_eq
      intro i hi
      simp [BitVec.getLsbD_xor]
      try (cases x.a.toBitVec.getLsbD (1 + i) <;> cases y.a.toBitVec.getLsbD (1 + i) <;> simp)
  · apply UInt64.toBitVec_inj.mp
    apply BitVec.eq_of_getLsbD_eq
    intro i hi
    by_cases h : i < 63
    · simp [h, hi]
    · have : i = 63 := by omega
      subst this
      simp
theorem sel_zero (c : Bool) : sel c zero = zero := by unfold sel; split <;> rfl
theorem sel_xr (c : Bool) (x y : W2) : sel c (xr x y) = xr (sel c x) (sel c y) := by unfold sel; cases c <;> simp [xr_zero]
theorem xor_sel (c d : Bool) (v : W2) : sel (c ^^ d) v = xr (sel c v) (sel d v) := by
  unfold sel; cases c <;> cases d <;> simp [xr_self, xr_zero, zero_xr]
theorem sel_sel (c d : Bool) (v : W2) : sel c (sel d v) = sel d (sel c v) := by unfold sel; cases c <;> cases d <;> rfl
theorem T_zero : T zero = zero := by decide
theorem T_sel (c : Bool) (v : W2) : T (sel c v) = sel c (T v) := by unfold sel; cases c <;> simp [T_zero]
theorem pw_xr (n : Nat) (x y : W2) : pw n (xr x y) = xr (pw n x) (pw n y) := by
  induction n with
  | zero => rfl
  | succ n ih => rw [pw, ih, T_xr]; rfl
theorem pw_zero (n : Nat) : pw n zero = zero := by
  induction n with
  | zero => rfl
  | succ n ih => rw [pw, ih, T_zero]
theorem pw_sel (n : Nat) (c : Bool) (v : W2) : pw n (sel c v) = sel c (pw n v) := by unfold sel; cases c <;> simp [pw_zero]
theorem pw_add (m n : Nat) (v : W2) : pw m (pw n v) = pw (m + n) v := by
  induction m with
  | zero => rw [Nat.zero_add]; rfl
  | succ m ih => rw [Nat.add_right_comm, pw, pw, ih]
theorem S_congr {n : Nat} {f g : Nat → W2} (h : ∀ i, i < n → f i = g i) : S n f = S n g := by
  induction n with
  | zero => rfl
  | succ n ih => rw [S, S, ih (fun i hi => h i (by omega)), h n (by omega)]
theorem S_xr (n : Nat) (f g : Nat → W2) : S n (fun i => xr (f i) (g i)) = xr (S n f) (S n g) := by
  induction n with
  | zero => rw [S, S, S, xr_zero]
  | succ n ih => rw [S, S, S, ih, xr_four]
theorem S_zero (n : Nat) : S n (fun _ => zero) = zero := by
  induction n with
  | zero => rfl
  | succ n ih => rw [S, ih, xr_zero]
theorem S_sel (c : Bool) (n : Nat) (f : Nat → W2) : sel c (S n f) = S n (fun i => sel c (f i)) := by
  induction n with
  | zero => rw [S, S, sel_zero]
  | succ n ih => rw [S, S, sel_xr, ih]
theorem S_pw (m n : Nat) (f : Nat → W2) : pw m (S n f) = S n (fun i => pw m (f i)) := by
  induction n with
  | zero => rw [S, S, pw_zero]
  | succ n ih => rw [S, S, pw_xr, ih]
theorem S_swap (m n : Nat) (f : Nat → Nat → W2) : S m (fun i => S n (f i)) = S n (fun j => S m (fun i => f i j)) := by
  induction m with
  | zero => simp only [S]; rw [S_zero]
  | succ m ih => simp only [S]; rw [ih, S_xr]
theorem bit_xr (x y : W2) (i : Nat) : bit (xr x y) i = (bit x i ^^ bit y i) := by
  unfold bit xr; split <;> simp
theorem bit_zero (i : Nat) : bit zero i = false := by unfold bit zero; split <;> simp
theorem bit_sel (c : Bool) (v : W2) (i : Nat) : bit (sel c v) i = (c && bit v i) := by unfold sel; cases c <;> simp [bit_zero]
theorem ext_bit {x y : W2} (h : ∀ i, i < 128 → bit x i = bit y i) : x = y := by
  obtain ⟨xa, xb⟩ := x
  obtain ⟨ya, yb⟩ := y
  congr 1
  · apply UInt64.toBitVec_inj.mp
    apply BitVec.eq_of_getLsbD_eq
    intro i hi
    have := h (63 - i) (by omega)
    simp only [bit, if_pos (show 63 - i < 64 by omega), show 63 - (63 - i) = i by omega] at this
    exact this
  · apply UInt64.toBitVec_inj.mp
    apply BitVec.eq_of_getLsbD_eq
    intro i hi
    have := h (127 - i) (by omega)
    simp only [bit, if_neg (show ¬ 127 - i < 64 by omega), show 127 - (127 - i) = i by omega] at this
    exact this
set_option maxRecDepth 100000 in
theorem bit_one : ((List.range 128).all fun j => (List.range 128).all fun k => bit (pw j one) k == decide (j = k)) = true := by decide +kernel
theorem bit_pw (j k : Nat) (hj : j < 128) (hk : k < 128) : bit (pw j one) k = decide (j = k) := by
  have h := List.all_eq_true.1 bit_one j (List.mem_range.2 hj)
  have h := List.all_eq_true.1 h k (List.mem_range.2 hk)
  simpa using h
theorem bit_S (v : W2) (k : Nat) (hk : k < 128) : ∀ n, n ≤ 128 → bit (S n fun j => sel (bit v j) (pw j one)) k = (decide (k < n) && bit v k)
  | 0, _ => by simp [S, bit_zero]
  | n + 1, hn => by
    rw [S, bit_xr, bit_S v k hk n (by omega), bit_sel, bit_pw n k (by omega) hk]
    by_cases e : n = k
    · subst e; simp
    · by_cases h : k < n
      · simp [e, h, show k < n + 1 by omega]
      · simp [e, h, show ¬ k < n + 1 by omega]
theorem decomp (v : W2) : S 128 (fun j => sel (bit v j) (pw j one)) = v := ext_bit fun i hi => by
  rw [bit_S v i hi 128 (Nat.le_refl _), decide_eq_true hi, Bool.true_and]
theorem times_sum (w v : W2) : times w v = S 128 (fun i => S 128 (fun j => sel (bit w i) (sel (bit v j) (pw (i + j) one)))) := by
  unfold times
  refine S_congr fun i hi => ?_
  conv => lhs; rw [← decomp v]
  rw [S_pw, S_sel]
  refine S_congr fun j hj => ?_
  rw [pw_sel, pw_add]
theorem times_comm (w v : W2) : times w v = times v w := by
  rw [times_sum, times_sum, S_swap]
  refine S_congr fun j hj => S_congr fun i hi => ?_
  rw [sel_sel, Nat.add_comm]
theorem times_xr_right (w x y : W2) : times w (xr x y) = xr (times w x) (times w y) := by
  unfold times
  rw [← S_xr]
  exact S_congr fun i hi => by rw [pw_xr, sel_xr]
theorem times_xr_left (x y v : W2) : times (xr x y) v = xr (times x v) (times y v) := by rw [times_comm, times_xr_right, times_comm v, times_comm v]
theorem times_one (v : W2) : times v one = v := by
  unfold times; exact decomp v
theorem times_pw (n : Nat) (w v : W2) : times w (pw n v) = pw n (times w v) := by
  unfold times
  rw [S_pw]
  refine S_congr fun i hi => ?_
  rw [pw_sel, pw_add, pw_add, Nat.add_comm]
theorem times_sel (c : Bool) (w v : W2) : times w (sel c v) = sel c (times w v) := by
  unfold times
  rw [S_sel]
  refine S_congr fun i hi => ?_
  rw [pw_sel, sel_sel]
theorem times_S (w : W2) (n : Nat) (f : Nat → W2) : times w (S n f) = S n (fun i => times w (f i)) := by
  induction n with
  | zero =>
    simp only [S]
    have := times_sel false w zero
    simpa [sel] using this
  | succ n ih => rw [S, S, times_xr_right, ih]
theorem times_assoc (a b c : W2) : times (times a b) c = times a (times b c) := by
  rw [times_comm, times_comm b c]
  show S 128 (fun i => sel (bit c i) (pw i (times a b))) = times a (S 128 (fun i => sel (bit c i) (pw i b)))
  rw [times_S]
  refine S_congr fun i hi => ?_
  rw [times_sel, times_pw]
end W2
end Go.Proofs.YtcchhfkmhbjdmaaGreat
/-! Pg1 -/
set_option linter.unusedVariables false
set_option linter.unusedSimpArgs false
set_option pp.deepTerms true
set_option pp.maxSteps 100000
namespace Go.Proofs.YtcchhfkmhbjdmaaGreat
open Go.RowKit
theorem xor_u64 (a b : UInt64) : bits .xor .u64 (a.toNat : Int) (b.toNat : Int) = ((a ^^^ b).toNat : Int) := by
  rw [u64_xor_nat _ _ a.toNat_lt b.toNat_lt, UInt64.toNat_xor]
theorem and_u64 (a b : UInt64) : bits .and .u64 (a.toNat : Int) (b.toNat : Int) = ((a &&& b).toNat : Int) := by
  rw [u64_and_nat _ _ a.toNat_lt b.toNat_lt, UInt64.toNat_and]
theorem or_u64 (a b : UInt64) : bits .or .u64 (a.toNat : Int) (b.toNat : Int) = ((a ||| b).toNat : Int) := by
  rw [u64_or_nat _ _ a.toNat_lt b.toNat_lt, UInt64.toNat_or]
theorem shl_u64 (a : UInt64) (k : Nat) (s : UInt64) (hk : s.toNat = k) (h : k < 64) : ((a.toNat : Int) * ((2 ^ k : Nat) : Int)) % 18446744073709551616 = ((a <<< s).toNat : Int) := by
  rw [UInt64.toNat_shiftLeft, hk, Nat.mod_eq_of_lt h, Nat.shiftLeft_eq]
  rw [← Int.natCast_mul]; omega
theorem shr_u64 (a : UInt64) (k : Nat) (s : UInt64) (hk : s.toNat = k) (h : k < 64) : (a.toNat : Int) / ((2 ^ k : Nat) : Int) = ((a >>> s).toNat : Int) := by
  rw [UInt64.toNat_shiftRight, hk, Nat.mod_eq_of_lt h, Nat.shiftRight_eq_div_pow, Int.natCast_ediv]
theorem mul_u64 (a b : UInt64) : ((a.toNat : Int) * (b.toNat : Int)) % 18446744073709551616 = ((a * b).toNat : Int) := by
  rw [UInt64.toNat_mul, ← Int.natCast_mul]; omega
def vals (w : W2) : Array Value := #[.int .u64 (w.a.toNat : Int), .int .u64 (w.b.toNat : Int)]
theorem wrap_u64' (n : Int) : IntKind.u64.wrap n = n % 18446744073709551616 := by simp [IntKind.wrap, IntKind.bits, IntKind.signed]
/-- A word's bit, as the code takes it. -/
theorem bit_word (x : UInt64) (m : Nat) (hm : m < 64) : bits .and .u64 ((x.toNat : Int) / 2 ^ m) 1 = if x.toBitVec.getLsbD m then 1 else 0 := by
  have h1 : (x.toNat : Int) / 2 ^ m = ((x.toNat / 2 ^ m : Nat) : Int) := by rw [Int.natCast_ediv]; norm_cast
  have hlt : x.toNat / 2 ^ m < 18446744073709551616 := Nat.lt_of_le_of_lt (Nat.div_le_self _ _) x.toNat_lt
  rw [h1, show (1 : Int) = ((1 : Nat) : Int) from rfl, u64_and_nat _ _ hlt (by omega), Nat.and_one_is_mod]
  have h2 : x.toBitVec.getLsbD m = decide (x.toNat / 2 ^ m % 2 = 1) := by
    rw [BitVec.getLsbD]
    show x.toNat.testBit m = _
    rw [Nat.testBit_eq_decide_div_mod_eq]
  rw [h2]
  by_cases h : x.toNat / 2 ^ m % 2 = 1
  · simp [h]
  · simp [show x.toNat / 2 ^ m % 2 = 0 by omega]
section
variable {ops : Array Oper} {rest : List Oper} {op : Oper} {a : Act} {w : World} {Q : Exit → Act → World → Prop}
theorem wpList_load127 (hgd : op.guard = none) (x : Operand) (ho : op.op = .load 97 x) (V : Nat) (hx : a.eval x = .pointer (some ⟨V, 0, none⟩)) (u v : Value)
    (hg : w.heap[V]? = some (.cells #[u, v] 97 (0, 0))) (h : wpList Tryz.prog ops Q rest (a.put op.dst (.agg #[u, v])) w) : wpList Tryz.prog ops Q (op :: rest) a w :=
  wpList_load_row hgd 97 x ho V hx 97 #[u, v] (0, 0) _ hg Tryz.underlying97 rfl (by kernel_rfl) h
end
theorem four_alloc (w : World) (a b c d : Array Value) (t : TypeId) :
    let w4 := (((w.alloc (.cells a t)).alloc (.cells b t)).alloc (.cells c t)).alloc (.cells d t)
    w4.heap[w.heap.size]? = some (.cells a t (0, 0)) ∧ w4.heap[w.heap.size + 1]? = some (.cells b t (0, 0)) ∧ w4.heap[w.heap.size + 1 + 1]? = some (.cells c t (0, 0)) ∧ w4.heap[w.heap.size + 1 + 1 + 1]? = some (.cells d t (0, 0)) ∧ Fr (fun _ => False) w w4 := by
  intro w4
  have hA := heap_alloc_new w (.cells a t)
  have hB := heap_alloc_new (w.alloc (.cells a t)) (.cells b t)
  have hC := heap_alloc_new ((w.alloc (.cells a t)).alloc (.cells b t)) (.cells c t)
  have hD := heap_alloc_new (((w.alloc (.cells a t)).alloc (.cells b t)).alloc (.cells c t)) (.cells d t)
  have fA := (((Fr.refl (fun _ => False) (w.alloc (.cells a t))).alloc (.cells b t)).alloc (.cells c t)).alloc (.cells d t)
  have fB := ((Fr.refl (fun _ => False) ((w.alloc (.cells a t)).alloc (.cells b t))).alloc (.cells c t)).alloc (.cells d t)
  have fC := (Fr.refl (fun _ => False) (((w.alloc (.cells a t)).alloc (.cells b t)).alloc (.cells c t))).alloc (.cells d t)
  simp only [World.size_alloc] at hB hC hD
  exact ⟨fA.heap hA id, fB.heap hB id, fC.heap hC id, hD, ((((Fr.refl _ _).alloc _).alloc _).alloc _).alloc _⟩
theorem word_at (x : W2) (i : Nat) (hi : i < 128) : ∃ (q r m : Nat) (xw : UInt64), (i : Int).tdiv 64 = (q : Int) ∧ (i : Int) / 64 = (q : Int) ∧ IntKind.i64.wrap (q : Int) = (q : Int) ∧ (q : Int) < 2 ∧ (i : Int).tmod 64 = (r : Int) ∧ (i : Int) % 64 = (r : Int) ∧ IntKind.i64.wrap (r : Int) = (r : Int) ∧ IntKind.i64.wrap (63 - (r : Int)) = (m : Int) ∧ m < 64 ∧ (vals x)[q]? = some (.int .u64 (xw.toNat : Int)) ∧ W2.bit x i = xw.toBitVec.getLsbD m := by
  refine ⟨i / 64, i % 64, 63 - i % 64, if i < 64 then x.a else x.b, ?_, by omega, IntWalk.i64_in _ (by omega), by omega, ?_, by omega, IntWalk.i64_in _ (by omega), ?_, by omega, ?_, ?_⟩
  · rw [Int.tdiv_eq_ediv_of_nonneg (by omega)]; omega
  · rw [Int.tmod_eq_emod_of_nonneg (by omega)]; omega
  · rw [IntWalk.i64_in _ (by omega)]; omega
  · by_cases h : i < 64
    · rw [if_pos h, show i / 64 = 0 by omega]; rfl
    · rw [if_neg h, show i / 64 = 1 by omega]; rfl
  · unfold W2.bit
    by_cases h : i < 64
    · rw [if_pos h, if_pos h, show i % 64 = i by omega]
    · rw [if_neg h, if_neg h, show 63 - i % 64 = 127 - i by omega]
set_option maxRecDepth 20000 in
set_option maxHeartbeats 2000000 in
theorem times_calls (x v : W2) (w : World) : Calls Tryz.prog 57 #[.agg (vals x), .agg (vals v)] w fun e w' => e = .returned (.agg (vals (W2.times x v))) ∧ Fr (fun _ => False) w w' := by
  obtain ⟨h0, h1, h2, h3, hf⟩ := four_alloc w (vals x) (vals v) (vals W2.zero) (vals W2.zero) 97
  obtain ⟨X, hX⟩ : ∃ X, X = w.heap.size := ⟨_, rfl⟩
  obtain ⟨V, hV⟩ : ∃ X, X = w.heap.size + 1 := ⟨_, rfl⟩
  obtain ⟨R, hR⟩ : ∃ X, X = w.heap.size + 1 + 1 := ⟨_, rfl⟩
  obtain ⟨O, hO⟩ : ∃ X, X = w.heap.size + 1 + 1 + 1 := ⟨_, rfl⟩
  have HNE := Lib.hid (show w.heap.size ≤ X ∧ w.heap.size ≤ V ∧ w.heap.size ≤ R ∧ w.heap.size ≤ O ∧ X ≠ V ∧ X ≠ O ∧ V ≠ O ∧ R ≠ V ∧ R ≠ O by omega)
  rw [← hX] at h0
  rw [← hV] at h1
  rw [← hR] at h2
  rw [← hO] at h3
  go_enter Tryz.func57, Tryz.ntmps57
  unfold vals
  go_wp2
  change Code.wp _ _ _ _ ((((w.alloc (.cells (vals x) 97)).alloc (.cells (vals v) 97)).alloc (.cells (vals W2.zero) 97)).alloc (.cells (vals W2.zero) 97))
  rw [← hO, ← hR, ← hV, ← hX]
  generalize (((w.alloc (.cells (vals x) 97)).alloc (.cells (vals v) 97)).alloc (.cells (vals W2.zero) 97)).alloc (.cells (vals W2.zero) 97) = w4 at h0 h1 h2 h3 hf ⊢
  have H0 := Lib.hid h0
  have H1 := Lib.hid h1
  have H2 := Lib.hid h2
  have H3 := Lib.hid h3
  have HF := Lib.hid hf
  obtain ⟨f, hfd⟩ : ∃ f : Nat → W2, f = fun j => W2.sel (W2.bit x j) (W2.pw j v) := ⟨_, rfl⟩
  have HFD := Lib.hid hfd
  clear h0 h1 h2 h3 hf hX hV hR hO hfd
  go_loopw [7] (fun v7 wr => ∃ i : Nat, i ≤ 128 ∧ v7 = .int .i64 i ∧ wr.heap[X]? = some (.cells (vals x) 97 (0, 0)) ∧ wr.heap[V]? = some (.cells (vals (W2.pw i v)) 97 (0, 0)) ∧ wr.heap[O]? = some (.cells (vals (W2.S i f)) 97 (0, 0)) ∧ wr.heap[R]? = some (.cells (vals W2.zero) 97 (0, 0)) ∧ Fr (fun _ => False) w wr) (fun v _ => 128 - (intOf v).toNat)
  case atStart => exact ⟨0, Nat.zero_le _, rfl, H0.out, H1.out, H3.out, H2.out, HF.out⟩
  case round =>
    obtain ⟨i, hi, rfl, hx, hv, ho, hr, hf⟩ := hrel
    have HXr := Lib.hid hx
    have HVr := Lib.hid hv
    have HOr := Lib.hid ho
    have HRr := Lib.hid hr
    have HFr := Lib.hid hf
    clear hx hv ho hr hf H0 H1 H2 H3 HF
    by_cases hlt : i < 128
    · have hx128 : (i : Int) < 128 := by omega
      obtain ⟨q, r, m, xw, hq1, hq2, hq3, hq4, hr1, hr2, hr3, hm1, hm2, hcw, hbit⟩ := word_at x i hlt
      have hbw := bit_word xw m hm2
      rw [← hbit] at hbw
      have cX : wr.cell? ⟨X, q, none⟩ = some (.int .u64 (xw.toNat : Int)) := (cell_of_row wr X q _ _ _ HXr.out).trans hcw
      have hm0 : (0 : Int) ≤ (m : Int) := by omega
      have hm3 : (m : Int) ≤ 64 := by omega
      obtain ⟨p, hp⟩ : ∃ p, p = W2.pw i v := ⟨_, rfl⟩
      obtain ⟨s, hs⟩ : ∃ s, s = W2.S i f := ⟨_, rfl⟩
      have HPN := Lib.hid (show W2.pw (i + 1) v = W2.T p by rw [hp]; rfl)
      have HSN := Lib.hid (show W2.S (i + 1) f = W2.xr s (W2.sel (W2.bit x i) p) by rw [hs, hp]; show W2.xr _ (f i) = _; rw [HFD.out])
      rw [← hp] at HVr
      rw [← hs] at HOr
      have cV0 : wr.cell? ⟨V, 0, none⟩ = some (.int .u64 (p.a.toNat : Int)) := (cell_of_row wr V 0 _ _ _ HVr.out).trans rfl
      have cV1 : wr.cell? ⟨V, 1, none⟩ = some (.int .u64 (p.b.toNat : Int)) := (cell_of_row wr V 1 _ _ _ HVr.out).trans rfl
      obtain ⟨s0, hs0⟩ : ∃ z, z = p.a >>> 1 := ⟨_, rfl⟩
      obtain ⟨a1, ha1⟩ : ∃ z, z = p.b &&& 1 := ⟨_, rfl⟩
      obtain ⟨m1, hm1'⟩ : ∃ z, z = 0xe100000000000000 * a1 := ⟨_, rfl⟩
      obtain ⟨n0, hn0⟩ : ∃ z, z = s0 ^^^ m1 := ⟨_, rfl⟩
      obtain ⟨s1, hs1⟩ : ∃ z, z = p.b >>> 1 := ⟨_, rfl⟩
      obtain ⟨s2, hs2⟩ : ∃ z, z = p.a <<< 63 := ⟨_, rfl⟩
      obtain ⟨n1, hn1⟩ : ∃ z, z = s1 ||| s2 := ⟨_, rfl⟩
      have HTP := Lib.hid (show W2.T p = ⟨n0, n1⟩ by unfold W2.T; rw [hn0, hn1, hs0, hs1, hs2, hm1', ha1])
      have es0 : (p.a.toNat : Int) / 2 = (s0.toNat : Int) := by rw [hs0]; exact shr_u64 p.a 1 1 rfl (by omega)
      have es1 : (p.b.toNat : Int) / 2 = (s1.toNat : Int) := by rw [hs1]; exact shr_u64 p.b 1 1 rfl (by omega)
      have es2 : ((p.a.toNat : Int) * 9223372036854775808) % 18446744073709551616 = (s2.toNat : Int) := by rw [hs2]; exact shl_u64 p.a 63 63 rfl (by omega)
      have es2b : IntKind.u64.wrap ((p.a.toNat : Int) * 9223372036854775808) = (s2.toNat : Int) := by rw [wrap_u64', es2]
      have ea1 : bits .and .u64 (p.b.toNat : Int) 1 = (a1.toNat : Int) := by rw [ha1]; exact and_u64 p.b 1
      have em1 : (16212958658533785600 * (a1.toNat : Int)) % 18446744073709551616 = (m1.toNat : Int) := by rw [hm1']; exact mul_u64 0xe100000000000000 a1
      have em2 : IntKind.u64.wrap (16212958658533785600 * (a1.toNat : Int)) = (m1.toNat : Int) := by rw [wrap_u64', em1]
      have en0 : bits .xor .u64 (s0.toNat : Int) (m1.toNat : Int) = (n0.toNat : Int) := by rw [hn0]; exact xor_u64 _ _
      have en1 : bits .or .u64 (s1.toNat : Int) (s2.toNat : Int) = (n1.toNat : Int) := by rw [hn1]; exact or_u64 _ _
      have bbpa := p.a.toNat_lt
      have bbpb := p.b.toNat_lt
      have bbs0 := s0.toNat_lt
      have bba1 := a1.toNat_lt
      have bbm1 := m1.toNat_lt
      have bbn0 := n0.toNat_lt
      have bbs1 := s1.toNat_lt
      have bbs2 := s2.toNat_lt
      have bbn1 := n1.toNat_lt
      have bbxw := xw.toNat_lt
      clear hs0 ha1 hm1' hn0 hs1 hs2 hn1
      clear hp hs hcw
      cases hbb : W2.bit x i with
      | false =>
        rw [hbb] at hbw HSN
        rw [if_neg (by simp)] at hbw
        have HON := Lib.hid (show wr.heap[O]? = some (.cells (vals (W2.S (i + 1) f)) 97 (0, 0)) by rw [HSN.out, show W2.sel false p = W2.zero from rfl, W2.xr_zero]; exact HOr.out)
        have HVd := Lib.hid (show wr.heap[V]? = some (.cells #[.int .u64 (p.a.toNat : Int), .int .u64 (p.b.toNat : Int)] 97 (0, 0)) from HVr.out)
        have hfs : Fr (fun j => j = V) wr (wr.setRow V #[.int .u64 (n0.toNat : Int), .int .u64 (n1.toNat : Int)]) := (Fr.refl _ _).setRow _ _ (.inl rfl)
        have HX2 := Lib.hid (hfs.heap HXr.out HNE.out.2.2.2.2.1)
        have HO2 := Lib.hid (hfs.heap HON.out (Ne.symm HNE.out.2.2.2.2.2.2.1))
        have HR2 := Lib.hid (hfs.heap HRr.out HNE.out.2.2.2.2.2.2.2.1)
        have HV2 := Lib.hid (show (wr.setRow V #[.int .u64 (n0.toNat : Int), .int .u64 (n1.toNat : Int)]).heap[V]? = some (.cells (vals (W2.pw (i + 1) v)) 97 (0, 0)) by rw [HPN.out, HTP.out]; exact setRow_heap HVr.out)
        have HF2 := Lib.hid (HFr.out.setRow V #[.int .u64 (n0.toNat : Int), .int .u64 (n1.toNat : Int)] (.inr HNE.out.2.1))
        clear hfs hbit hbb
        go_wp2_with (with_reducible refine wpList_store_whole (op := ⟨none, .store 97 _ _, _, _, _, _⟩) rfl 97 _ _ rfl V 97 #[.int .u64 (p.a.toNat : Int), .int .u64 (p.b.toNat : Int)] #[.int .u64 (n0.toNat : Int), .int .u64 (n1.toNat : Int)] rfl rfl HVd.out rfl (by kernel_rfl) (by simp [Value.oneCell']) ?_)
        go_roundw
        case rel => exact ⟨i + 1, by omega, by go_num, HX2.out, HV2.out, HO2.out, HR2.out, HF2.out⟩
        case measure => simp [intOf]; omega
      | true =>
        rw [hbb] at hbw HSN
        rw [if_pos rfl] at hbw
        have HXS := Lib.hid (show W2.xr s p = ⟨s.a ^^^ p.a, s.b ^^^ p.b⟩ from rfl)
        obtain ⟨z0, hz0⟩ : ∃ z, z = s.a ^^^ p.a := ⟨_, rfl⟩
        obtain ⟨z1, hz1⟩ : ∃ z, z = s.b ^^^ p.b := ⟨_, rfl⟩
        have ez0 : bits .xor .u64 (s.a.toNat : Int) (p.a.toNat : Int) = (z0.toNat : Int) := by rw [hz0]; exact xor_u64 _ _
        have ez1 : bits .xor .u64 (s.b.toNat : Int) (p.b.toNat : Int) = (z1.toNat : Int) := by rw [hz1]; exact xor_u64 _ _
        have HSZ := Lib.hid (show W2.S (i + 1) f = ⟨z0, z1⟩ by rw [HSN.out, show W2.sel true p = p from rfl, HXS.out, hz0, hz1])
        have bz0 := z0.toNat_lt
        have bz1 := z1.toNat_lt
        have bs0 := s.a.toNat_lt
        have bs1 := s.b.toNat_lt
        have cO0 : wr.cell? ⟨O, 0, none⟩ = some (.int .u64 (s.a.toNat : Int)) := (cell_of_row wr O 0 _ _ _ HOr.out).trans rfl
        have fO0 : wr.frozen? ⟨O, 0, none⟩ = false := frozen_of_row wr _ _ _ _ HOr.out
        have hO2 : (wr.setCell ⟨O, 0, none⟩ (.int .u64 (z0.toNat : Int))).heap[O]? = some (.cells #[.int .u64 (z0.toNat : Int), .int .u64 (s.b.toNat : Int)] 97 (0, 0)) := heap_setCell_same wr O 0 _ _ _ HOr.out
        have cO1 : (wr.setCell ⟨O, 0, none⟩ (.int .u64 (z0.toNat : Int))).cell? ⟨O, 1, none⟩ = some (.int .u64 (s.b.toNat : Int)) := (cell_of_row _ O 1 _ _ _ hO2).trans rfl
        have fO1 : (wr.setCell ⟨O, 0, none⟩ (.int .u64 (z0.toNat : Int))).frozen? ⟨O, 1, none⟩ = false := frozen_of_row _ _ _ _ _ hO2
        have hf1 : Fr (fun j => j = O) wr (wr.setCell ⟨O, 0, none⟩ (.int .u64 (z0.toNat : Int))) := (Fr.refl _ _).setCell _ _ (.inl rfl)
        have hf2 : Fr (fun j => j = O) wr ((wr.setCell ⟨O, 0, none⟩ (.int .u64 (z0.toNat : Int))).setCell ⟨O, 1, none⟩ (.int .u64 (z1.toNat : Int))) := hf1.setCell _ _ (.inl rfl)
        have hO3 : ((wr.setCell ⟨O, 0, none⟩ (.int .u64 (z0.toNat : Int))).setCell ⟨O, 1, none⟩ (.int .u64 (z1.toNat : Int))).heap[O]? = some (.cells #[.int .u64 (z0.toNat : Int), .int .u64 (z1.toNat : Int)] 97 (0, 0)) := heap_setCell_same _ O 1 _ _ _ hO2
        have dV1 : (wr.setCell ⟨O, 0, none⟩ (.int .u64 (z0.toNat : Int))).cell? ⟨V, 1, none⟩ = some (.int .u64 (p.b.toNat : Int)) := hf1.cell cV1 HNE.out.2.2.2.2.2.2.1
        have eV0 : ((wr.setCell ⟨O, 0, none⟩ (.int .u64 (z0.toNat : Int))).setCell ⟨O, 1, none⟩ (.int .u64 (z1.toNat : Int))).cell? ⟨V, 0, none⟩ = some (.int .u64 (p.a.toNat : Int)) := hf2.cell cV0 HNE.out.2.2.2.2.2.2.1
        have eV1 : ((wr.setCell ⟨O, 0, none⟩ (.int .u64 (z0.toNat : Int))).setCell ⟨O, 1, none⟩ (.int .u64 (z1.toNat : Int))).cell? ⟨V, 1, none⟩ = some (.int .u64 (p.b.toNat : Int)) := hf2.cell cV1 HNE.out.2.2.2.2.2.2.1
        obtain ⟨w5, hw5⟩ : ∃ w5, w5 = (wr.setCell ⟨O, 0, none⟩ (.int .u64 (z0.toNat : Int))).setCell ⟨O, 1, none⟩ (.int .u64 (z1.toNat : Int)) := ⟨_, rfl⟩
        have HV5 := Lib.hid (show ((wr.setCell ⟨O, 0, none⟩ (.int .u64 (z0.toNat : Int))).setCell ⟨O, 1, none⟩ (.int .u64 (z1.toNat : Int))).heap[V]? = some (.cells #[.int .u64 (p.a.toNat : Int), .int .u64 (p.b.toNat : Int)] 97 (0, 0)) from hf2.heap HVr.out HNE.out.2.2.2.2.2.2.1)
        have hfs : Fr (fun j => j = V) ((wr.setCell ⟨O, 0, none⟩ (.int .u64 (z0.toNat : Int))).setCell ⟨O, 1, none⟩ (.int .u64 (z1.toNat : Int))) (((wr.setCell ⟨O, 0, none⟩ (.int .u64 (z0.toNat : Int))).setCell ⟨O, 1, none⟩ (.int .u64 (z1.toNat : Int))).setRow V #[.int .u64 (n0.toNat : Int), .int .u64 (n1.toNat : Int)]) := (Fr.refl _ _).setRow _ _ (.inl rfl)
        have HX2 := Lib.hid (hfs.heap (hf2.heap HXr.out HNE.out.2.2.2.2.2.1) HNE.out.2.2.2.2.1)
        have HO2 := Lib.hid (show (((wr.setCell ⟨O, 0, none⟩ (.int .u64 (z0.toNat : Int))).setCell ⟨O, 1, none⟩ (.int .u64 (z1.toNat : Int))).setRow V #[.int .u64 (n0.toNat : Int), .int .u64 (n1.toNat : Int)]).heap[O]? = some (.cells (vals (W2.S (i + 1) f)) 97 (0, 0)) by rw [HSZ.out]; exact hfs.heap hO3 (Ne.symm HNE.out.2.2.2.2.2.2.1))
        have HR2 := Lib.hid (hfs.heap (hf2.heap HRr.out HNE.out.2.2.2.2.2.2.2.2) HNE.out.2.2.2.2.2.2.2.1)
        have HV2 := Lib.hid (show (((wr.setCell ⟨O, 0, none⟩ (.int .u64 (z0.toNat : Int))).setCell ⟨O, 1, none⟩ (.int .u64 (z1.toNat : Int))).setRow V #[.int .u64 (n0.toNat : Int), .int .u64 (n1.toNat : Int)]).heap[V]? = some (.cells (vals (W2.pw (i + 1) v)) 97 (0, 0)) by rw [HPN.out, HTP.out]; exact setRow_heap HV5.out)
        have HF2 := Lib.hid (((HFr.out.setCell ⟨O, 0, none⟩ (.int .u64 (z0.toNat : Int)) (.inr HNE.out.2.2.2.1)).setCell ⟨O, 1, none⟩ (.int .u64 (z1.toNat : Int)) (.inr HNE.out.2.2.2.1)).setRow V #[.int .u64 (n0.toNat : Int), .int .u64 (n1.toNat : Int)] (.inr HNE.out.2.1))
        clear hfs hf1 hf2 hO2 hO3 hz0 hz1 hw5 hbit hbb
        go_wp2_with (with_reducible refine wpList_store_whole (op := ⟨none, .store 97 _ _, _, _, _, _⟩) rfl 97 _ _ rfl V 97 #[.int .u64 (p.a.toNat : Int), .int .u64 (p.b.toNat : Int)] #[.int .u64 (n0.toNat : Int), .int .u64 (n1.toNat : Int)] rfl rfl HV5.out rfl (by kernel_rfl) (by simp [Value.oneCell']) ?_)
        go_roundw
        case rel => exact ⟨i + 1, by omega, by go_num, HX2.out, HV2.out, HO2.out, HR2.out, HF2.out⟩
        case measure => simp [intOf]; omega
    · have h128 : i = 128 := by omega
      subst h128
      obtain ⟨s, hs⟩ : ∃ s, s = W2.S 128 f := ⟨_, rfl⟩
      have HTM := Lib.hid (show s = W2.times x v by rw [hs, HFD.out]; rfl)
      rw [← hs] at HOr
      have HOd := Lib.hid (show wr.heap[O]? = some (.cells #[.int .u64 (s.a.toNat : Int), .int .u64 (s.b.toNat : Int)] 97 (0, 0)) from HOr.out)
      have HRd := Lib.hid (show wr.heap[R]? = some (.cells #[.int .u64 0, .int .u64 0] 97 (0, 0)) from HRr.out)
      have HR2 := Lib.hid (show (wr.setRow R #[.int .u64 (s.a.toNat : Int), .int .u64 (s.b.toNat : Int)]).heap[R]? = some (.cells #[.int .u64 (s.a.toNat : Int), .int .u64 (s.b.toNat : Int)] 97 (0, 0)) from setRow_heap HRd.out)
      have HF2 := Lib.hid (HFr.out.setRow R #[.int .u64 (s.a.toNat : Int), .int .u64 (s.b.toNat : Int)] (.inr HNE.out.2.2.1))
      clear hs
      go_wp2_with (first
        | (with_reducible refine wpList_load127 (op := ⟨some 49, _, _, _, _, _⟩) rfl _ rfl O rfl _ _ HOd.out ?_)
        | (with_reducible refine wpList_store_whole (op := ⟨none, .store 97 _ _, _, _, _, _⟩) rfl 97 _ _ rfl R 97 #[.int .u64 0, .int .u64 0] #[.int .u64 (s.a.toNat : Int), .int .u64 (s.b.toNat : Int)] rfl rfl HRd.out rfl (by kernel_rfl) (by simp [Value.oneCell']) ?_))
      refine bodyPost_ret (results_cell_row rfl _ _ R 97 #[.int .u64 (s.a.toNat : Int), .int .u64 (s.b.toNat : Int)] (0, 0) _ rfl HR2.out Tryz.underlying97 rfl (by kernel_rfl)) rfl ?_
      exact ⟨by first | (rw [← HTM.out]; done) | (rw [← HTM.out]; rfl), HF2.out⟩
end Go.Proofs.YtcchhfkmhbjdmaaGreat
/-! J0 -/
set_option linter.unusedVariables false
set_option linter.unusedSimpArgs false
namespace Go.Proofs.YtcchhfkmhbjdmaaGreat
def rr (x n : UInt32) : UInt32 := (x <<< (32 - n)) ||| (x >>> n)
def sg0 (x : UInt32) : UInt32 := rr x 7 ^^^ rr x 18 ^^^ (x >>> 3)
def sg1 (x : UInt32) : UInt32 := rr x 17 ^^^ rr x 19 ^^^ (x >>> 10)
def bg0 (x : UInt32) : UInt32 := rr x 2 ^^^ rr x 13 ^^^ rr x 22
def bg1 (x : UInt32) : UInt32 := rr x 6 ^^^ rr x 11 ^^^ rr x 25
def chs (e f g : UInt32) : UInt32 := g ^^^ (e &&& (f ^^^ g))
def maj (a b c : UInt32) : UInt32 := (a &&& b) ||| (c &&& (a ||| b))
def kT : List UInt32 := [
  0x428a2f98, 0x71374491, 0xb5c0fbcf, 0xe9b5dba5, 0x3956c25b, 0x59f111f1, 0x923f82a4, 0xab1c5ed5,
  0xd807aa98, 0x12835b01, 0x243185be, 0x550c7dc3, 0x72be5d74, 0x80deb1fe, 0x9bdc06a7, 0xc19bf174,
  0xe49b69c1, 0xefbe4786, 0x0fc19dc6, 0x240ca1cc, 0x2de92c6f, 0x4a7484aa, 0x5cb0a9dc, 0x76f988da,
  0x983e5152, 0xa831c66d, 0xb00327c8, 0xbf597fc7, 0xc6e00bf3, 0xd5a79147, 0x06ca6351, 0x14292967,
  0x27b70a85, 0x2e1b2138, 0x4d2c6dfc, 0x53380d13, 0x650a7354, 0x766a0abb, 0x81c2c92e, 0x92722c85,
  0xa2bfe8a1, 0xa81a664b, 0xc24b8b70, 0xc76c51a3, 0xd192e819, 0xd6990624, 0xf40e3585, 0x106aa070,
  0x19a4c116, 0x1e376c08, 0x2748774c, 0x34b0bcb5, 0x391c0cb3, 0x4ed8aa4a, 0x5b9cca4f, 0x682e6ff3,
  0x748f82ee, 0x78a5636f, 0x84c87814, 0x8cc70208, 0x90befffa, 0xa4506ceb, 0xbef9a3f7, 0xc67178f2]
def hT : List UInt32 := [0x6a09e667, 0xbb67ae85, 0x3c6ef372, 0xa54ff53a, 0x510e527f, 0x9b05688c, 0x1f83d9ab, 0x5be0cd19]
def w4 (b : List UInt8) (i : Nat) : UInt32 := ((((b.getD (4 * i) 0).toUInt32 <<< 24) ||| ((b.getD (4 * i + 1) 0).toUInt32 <<< 16)) ||| ((b.getD (4 * i + 2) 0).toUInt32 <<< 8)) ||| (b.getD (4 * i + 3) 0).toUInt32
def nextW (b : List UInt8) (l : List UInt32) (i : Nat) : UInt32 :=
  if i < 16 then w4 b i else ((l.getD (i - 16) 0 + sg0 (l.getD (i - 15) 0)) + l.getD (i - 7) 0) + sg1 (l.getD (i - 2) 0)
def sws (b : List UInt8) : Nat → List UInt32
  | 0 => []
  | n + 1 => sws b n ++ [nextW b (sws b n) n]
theorem sws_length (b : List UInt8) : ∀ n, (sws b n).length = n
  | 0 => rfl
  | n + 1 => by simp [sws, sws_length b n]
structure R8 where
  (a b c d e f g h : UInt32)
def rnd (s : R8) (w k : UInt32) : R8 :=
  ⟨(w + (((s.h + bg1 s.e) + chs s.e s.f s.g) + k)) + (bg0 s.a + maj s.a s.b s.c), s.a, s.b, s.c, s.d + (w + (((s.h + bg1 s.e) + chs s.e s.f s.g) + k)), s.e, s.f, s.g⟩
def R8.of (h : List UInt32) : R8 := ⟨h.getD 0 0, h.getD 1 0, h.getD 2 0, h.getD 3 0, h.getD 4 0, h.getD 5 0, h.getD 6 0, h.getD 7 0⟩
def R8.list (s : R8) : List UInt32 := [s.a, s.b, s.c, s.d, s.e, s.f, s.g, s.h]
def rounds (ws : List UInt32) (s : R8) : Nat → R8
  | 0 => s
  | n + 1 => rnd (rounds ws s n) (ws.getD n 0) (kT.getD n 0)
def comp (h : List UInt32) (b : List UInt8) : List UInt32 :=
  (List.range 8).map fun i => h.getD i 0 + (rounds (sws b 64) (R8.of h) 64).list.getD i 0
theorem comp_length (h : List UInt32) (b : List UInt8) : (comp h b).length = 8 := by simp [comp]
/-! ### the blocks -/
def eat : Nat → List UInt32 → List UInt8 → List UInt32 × List UInt8
  | 0, h, l => (h, l)
  | n + 1, h, l => if 64 ≤ l.length then eat n (comp h (l.take 64)) (l.drop 64) else (h, l)
def eatAll (h : List UInt32) (l : List UInt8) : List UInt32 × List UInt8 := eat (l.length / 64) h l
theorem eatAll_done (h : List UInt32) (l : List UInt8) (hl : l.length < 64) : eatAll h l = (h, l) := by
  unfold eatAll
  rw [Nat.div_eq_of_lt hl]
  rfl
theorem eatAll_step (h : List UInt32) (l : List UInt8) (hl : 64 ≤ l.length) : eatAll h l = eatAll (comp h (l.take 64)) (l.drop 64) := by
  unfold eatAll
  obtain ⟨n, hn⟩ : ∃ n, l.length / 64 = n + 1 := ⟨l.length / 64 - 1, by omega⟩
  rw [hn]
  have : (l.drop 64).length / 64 = n := by rw [List.length_drop]; omega
  rw [this, eat, if_pos hl]
theorem eatAll_length (h : List UInt32) (l : List UInt8) : (eatAll h l).2.length = l.length % 64 := by
  generalize hn : l.length = n
  induction n using Nat.strongRecOn generalizing h l with
  | _ n ih =>
    by_cases hl : 64 ≤ l.length
    · rw [eatAll_step h l hl, ih (l.drop 64).length (by rw [List.length_drop]; omega) _ _ rfl, List.length_drop]; omega
    · rw [eatAll_done h l (by omega)]; show l.length = _; omega
theorem eatAll_hl (h : List UInt32) (hh : h.length = 8) (l : List UInt8) : (eatAll h l).1.length = 8 := by
  generalize hn : l.length = n
  induction n using Nat.strongRecOn generalizing h l with
  | _ n ih =>
    by_cases hl : 64 ≤ l.length
    · rw [eatAll_step h l hl, ih (l.drop 64).length (by rw [List.length_drop]; omega) _ (comp_length _ _) _ rfl]
    · rw [eatAll_done h l (by omega)]; exact hh
theorem eatAll_append (h : List UInt32) (l m : List UInt8) : eatAll h (l ++ m) = eatAll (eatAll h l).1 ((eatAll h l).2 ++ m) := by
  generalize hn : l.length = n
  induction n using Nat.strongRecOn generalizing h l with
  | _ n ih =>
    by_cases hl : 64 ≤ l.length
    · rw [eatAll_step h l hl, eatAll_step h (l ++ m) (by rw [List.length_append]; omega), List.take_append_of_le_length hl, List.drop_append_of_le_length hl]
      exact ih (l.drop 64).length (by rw [List.length_drop]; omega) _ _ rfl
    · rw [eatAll_done h l (by omega)]
/-- What came: the state, what is left, how many. -/
structure Tal where
  (h : List UInt32) (rest : List UInt8) (n : Nat)
def Tal.new : Tal := ⟨hT, [], 0⟩
def Tal.add (t : Tal) (s : List UInt8) : Tal := ⟨(eatAll t.h (t.rest ++ s)).1, (eatAll t.h (t.rest ++ s)).2, t.n + s.length⟩
theorem Tal.add_append (t : Tal) (a b : List UInt8) : t.add (a ++ b) = (t.add a).add b := by
  unfold Tal.add
  rw [← List.append_assoc, eatAll_append]
  simp [Nat.add_assoc]
theorem Tal.add_nil (t : Tal) (h : t.rest.length < 64) : t.add [] = t := by
  unfold Tal.add
  rw [List.append_nil, eatAll_done _ _ h]
  rfl
def be8 (n : Nat) : List UInt8 := (List.range 8).map fun i => UInt8.ofNat (n / 2 ^ (56 - 8 * i))
def padL (n : Nat) : List UInt8 := 128 :: (List.replicate ((119 - n % 64) % 64) 0 ++ be8 (8 * n))
def outW (x : UInt32) : List UInt8 := [(x >>> 24).toUInt8, (x >>> 16).toUInt8, (x >>> 8).toUInt8, x.toUInt8]
def outL (h : List UInt32) : List UInt8 := h.flatMap outW
def Tal.sum (t : Tal) : List UInt8 := outL (t.add (padL t.n)).h
def dig (s : List UInt8) : List UInt8 := (Tal.new.add s).sum
/-- A tally that can be. -/
structure Tal.Ok (t : Tal) : Prop where
  h : t.h.length = 8
  rest : t.rest.length < 64
  mod : t.rest.length = t.n % 64
theorem Tal.new_ok : Tal.new.Ok := ⟨rfl, by decide, rfl⟩
theorem Tal.Ok.add {t : Tal} (ht : t.Ok) (s : List UInt8) : (t.add s).Ok := by
  refine ⟨eatAll_hl _ ht.h _, ?_, ?_⟩
  · show (eatAll _ _).2.length < 64
    rw [eatAll_length]; omega
  · show (eatAll _ _).2.length = (t.n + s.length) % 64
    rw [eatAll_length, List.length_append, ht.mod]; omega
theorem outL_length (h : List UInt32) : (outL h).length = 4 * h.length := by
  unfold outL
  induction h with
  | nil => rfl
  | cons x t ih => rw [List.flatMap_cons, List.length_append, ih]; simp [outW]; omega
theorem Tal.Ok.sum_length {t : Tal} (ht : t.Ok) : t.sum.length = 32 := by
  unfold Tal.sum
  rw [outL_length, (ht.add _).h]
end Go.Proofs.YtcchhfkmhbjdmaaGreat
/-! J1 -/
set_option linter.unusedVariables false
set_option linter.unusedSimpArgs false
namespace Go.Proofs.YtcchhfkmhbjdmaaGreat
theorem u32_lt (a : UInt32) : a.toNat < 4294967296 := a.toNat_lt
theorem xor_u32 (a b : UInt32) : bits .xor .u32 (a.toNat : Int) (b.toNat : Int) = ((a ^^^ b).toNat : Int) := by
  rw [u32_xor_nat _ _ a.toNat_lt b.toNat_lt, UInt32.toNat_xor]
theorem and_u32 (a b : UInt32) : bits .and .u32 (a.toNat : Int) (b.toNat : Int) = ((a &&& b).toNat : Int) := by
  rw [u32_and_nat _ _ a.toNat_lt b.toNat_lt, UInt32.toNat_and]
theorem or_u32 (a b : UInt32) : bits .or .u32 (a.toNat : Int) (b.toNat : Int) = ((a ||| b).toNat : Int) := by
  rw [u32_or_nat _ _ a.toNat_lt b.toNat_lt, UInt32.toNat_or]
theorem add_u32 (a b : UInt32) : ((a.toNat : Int) + (b.toNat : Int)) % 4294967296 = ((a + b).toNat : Int) := by
  rw [UInt32.toNat_add]; omega
theorem addw_u32 (a b : UInt32) : IntKind.u32.wrap ((a.toNat : Int) + (b.toNat : Int)) = ((a + b).toNat : Int) := by
  rw [IntKind.wrap_u32', add_u32]
theorem shl_u32 (a : UInt32) (k : Nat) (s : UInt32) (hk : s.toNat = k) (h : k < 32) : ((a.toNat : Int) * ((2 ^ k : Nat) : Int)) % 4294967296 = ((a <<< s).toNat : Int) := by
  rw [UInt32.toNat_shiftLeft, hk, Nat.mod_eq_of_lt h, Nat.shiftLeft_eq]
  rw [← Int.natCast_mul]; omega
theorem shr_u32 (a : UInt32) (k : Nat) (s : UInt32) (hk : s.toNat = k) (h : k < 32) : (a.toNat : Int) / ((2 ^ k : Nat) : Int) = ((a >>> s).toNat : Int) := by
  rw [UInt32.toNat_shiftRight, hk, Nat.mod_eq_of_lt h, Nat.shiftRight_eq_div_pow, Int.natCast_ediv]
end Go.Proofs.YtcchhfkmhbjdmaaGreat
/-! J2 -/
set_option linter.unusedVariables false
set_option linter.unusedSimpArgs false
namespace Go.Proofs.YtcchhfkmhbjdmaaGreat
open Go.RowKit
def wcells (l : List UInt32) : List Value := l.map fun b => .int .u32 (b.toNat : Int)
theorem wcells_length (l : List UInt32) : (wcells l).length = l.length := by simp [wcells]
theorem wcells_append (l m : List UInt32) : wcells (l ++ m) = wcells l ++ wcells m := by simp [wcells]
theorem wcells_one (l : List UInt32) : ∀ v ∈ wcells l, v.oneCell' = true := by
  intro v hv
  simp only [wcells, List.mem_map] at hv
  obtain ⟨b, _, rfl⟩ := hv
  rfl
theorem wcells_get (l : List UInt32) (k : Nat) (x : UInt32) (hx : l[k]? = some x) : (wcells l)[k]? = some (.int .u32 (x.toNat : Int)) := by simp [wcells, hx]
theorem wcells_cell {w : World} {B : Nat} {l : List UInt32} {r : List Value} {t : TypeId} {fr : Nat × Nat} (h : w.heap[B]? = some (.cells (wcells l ++ r).toArray t fr)) (k : Nat) (x : UInt32) (hx : l[k]? = some x) : w.cell? ⟨B, k, none⟩ = some (.int .u32 (x.toNat : Int)) := by
  have hk : k < l.length := (List.getElem?_eq_some_iff.1 hx).1
  rw [cell_of_row w B k _ _ _ h, List.getElem?_toArray, List.getElem?_append_left (by rw [wcells_length]; exact hk)]
  exact wcells_get l k x hx
theorem wcells_set {w : World} {B : Nat} {l : List UInt32} {r : List Value} {t : TypeId} (h : w.heap[B]? = some (.cells (wcells l ++ r).toArray t (0, 0))) (k : Nat) (hk : k < l.length) (x : UInt32) : (w.setCell ⟨B, k, none⟩ (.int .u32 (x.toNat : Int))).heap[B]? = some (.cells (wcells (l.set k x) ++ r).toArray t (0, 0)) := by
  rw [heap_setCell_same w B k _ _ _ h]
  simp only [List.setIfInBounds_toArray]
  rw [List.set_append_left _ _ (by rw [wcells_length]; exact hk)]
  simp [wcells, List.map_set]
theorem get_some32 {s : List UInt32} {n : Nat} (h : s.length = n) (k : Nat) (hk : k < n) : s[k]? = some (s.getD k 0) := by
  rw [List.getD_eq_getElem?_getD, List.getElem?_eq_getElem (by omega)]; rfl
end Go.Proofs.YtcchhfkmhbjdmaaGreat
/-! J3 -/
set_option linter.unusedVariables false
set_option linter.unusedSimpArgs false
set_option pp.deepTerms true
set_option pp.maxSteps 100000
namespace Go.Proofs.YtcchhfkmhbjdmaaGreat
open Go.RowKit
theorem sws_step (b : List UInt8) (i : Nat) (hi : i < 64) : ((sws b i ++ List.replicate (64 - i) 0).set i (nextW b (sws b i) i)) = sws b (i + 1) ++ List.replicate (64 - (i + 1)) 0 := by
  have hl := sws_length b i
  obtain ⟨m, hm⟩ : ∃ m, 64 - i = m + 1 := ⟨63 - i, by omega⟩
  rw [hm, show 64 - (i + 1) = m by omega, List.replicate_succ, List.set_append, hl, if_neg (by omega), Nat.sub_self]
  simp [sws]
theorem sws_old (b : List UInt8) (i k : Nat) (hk : k < i) (hi : i ≤ 64) : (sws b i ++ List.replicate (64 - i) 0)[k]? = some ((sws b i).getD k 0) := by
  have hl := sws_length b i
  rw [List.getElem?_append_left (by omega)]
  exact get_some32 hl k hk
theorem sws_len (b : List UInt8) (i : Nat) (hi : i ≤ 64) : (sws b i ++ List.replicate (64 - i) 0).length = 64 := by
  rw [List.length_append, sws_length, List.length_replicate]; omega
theorem sws_at (b : List UInt8) (i : Nat) (hi : i < 64) : (sws b i ++ List.replicate (64 - i) 0)[i]? = some ((sws b i ++ List.replicate (64 - i) 0).getD i 0) :=
  get_some32 (sws_len b i (by omega)) i hi
theorem str_at32 (s : List UInt8) (i : Nat) (h : i < (str s).size) : (str s)[i]'h = s.getD i 0 := by
  have hl : i < s.length := by rwa [str_size] at h
  simp [str, List.getD_eq_getElem?_getD, List.getElem?_eq_getElem hl, ByteArray.getElem_eq_getElem_data]
theorem u8_32 (x : UInt8) : (x.toNat : Int) = ((x.toUInt32).toNat : Int) := by simp
end Go.Proofs.YtcchhfkmhbjdmaaGreat
/-! J4 -/
set_option linter.unusedVariables false
set_option linter.unusedSimpArgs false
set_option pp.deepTerms true
set_option pp.maxSteps 100000
namespace Go.Proofs.YtcchhfkmhbjdmaaGreat
open Go.RowKit
end Go.Proofs.YtcchhfkmhbjdmaaGreat
/-! J5 -/
set_option linter.unusedVariables false
set_option linter.unusedSimpArgs false
set_option pp.deepTerms true
set_option pp.maxSteps 100000
namespace Go.Proofs.YtcchhfkmhbjdmaaGreat
open Go.RowKit
theorem run_index_w (t : TypeId) (len : Nat) (hu : Tryz.prog.underlying t = some (.array len 141)) (l : List UInt32) (n : Nat) (x : UInt32) (hx : l[n]? = some x) (hn : n < len) (w : World) :
    (Instr.index t (.agg (wcells l).toArray) (.int .i64 (n : Int))).run Tryz.prog w = .ok (.int .u32 (x.toNat : Int)) w := by
  have hs : (sizeOf 141).run Tryz.prog w = .ok 1 w := by kernel_rfl
  have ha : (isAgg 141).run Tryz.prog w = .ok false w := by kernel_rfl
  have hc : (wcells l)[n]? = some (.int .u32 (x.toNat : Int)) := wcells_get l n x hx
  simp [Instr.index, run_underlying hu, asIntOf, part, hs, ha, hc, hn, go_sem]
end Go.Proofs.YtcchhfkmhbjdmaaGreat
/-! J6 -/
set_option linter.unusedVariables false
set_option linter.unusedSimpArgs false
set_option pp.deepTerms true
set_option pp.maxSteps 100000
namespace Go.Proofs.YtcchhfkmhbjdmaaGreat
open Go.RowKit
def up32 (h r : List UInt32) (i : Nat) : List UInt32 := (List.range 8).map fun j => if j < i then h.getD j 0 + r.getD j 0 else h.getD j 0
theorem up32_length (h r : List UInt32) (i : Nat) : (up32 h r i).length = 8 := by simp [up32]
theorem up32_zero (h r : List UInt32) (hh : h.length = 8) : up32 h r 0 = h := by
  apply List.ext_getElem (by simp [up32, hh])
  intro j h1 h2
  simp [up32, List.getElem?_eq_getElem h2]
theorem up32_get (h r : List UInt32) (i j : Nat) (hj : j < 8) : (up32 h r i)[j]? = some (if j < i then h.getD j 0 + r.getD j 0 else h.getD j 0) := by simp [up32, hj]
theorem up32_set (h r : List UInt32) (i : Nat) (hi : i < 8) : (up32 h r i).set i (h.getD i 0 + r.getD i 0) = up32 h r (i + 1) := by
  apply List.ext_getElem (by simp [up32])
  intro j h1 h2
  rw [List.getElem_set]
  simp only [up32, List.getElem_map, List.getElem_range]
  by_cases e : i = j
  · subst e; simp
  · rw [if_neg e]
    by_cases hl : j < i
    · rw [if_pos hl, if_pos (by omega)]
    · rw [if_neg hl, if_neg (by omega)]
theorem up32_all (h r : List UInt32) : up32 h r 8 = (List.range 8).map fun i => h.getD i 0 + r.getD i 0 := by
  unfold up32
  apply List.map_congr_left
  intro j hj
  rw [if_pos (List.mem_range.mp hj)]
end Go.Proofs.YtcchhfkmhbjdmaaGreat
