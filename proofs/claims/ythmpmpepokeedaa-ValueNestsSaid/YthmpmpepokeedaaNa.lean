/- Values: the plain law: bytes of a value, and back. -/
import Derived.Test.YthmpmpepokeedaaL0
set_option linter.unusedVariables false
set_option linter.unusedSimpArgs false
namespace Go.Proofs.Ythmpmpepokeedaa
/-- A value as the program has it. -/
inductive AV where
  | non
  | int (n : Int)
  | text (s : List UInt8)
  | yes (b : Bool)
  | row (l : List AV)
/-- A value as the document has it. -/
inductive VT where
  | mk (k n : Int) (s : List UInt8) (b : Bool) (l : List VT)
def bAt (n : Int) (i : Nat) : UInt8 := UInt8.ofNat (n / 256 ^ i % 256).toNat
def be8 (n : Int) : List UInt8 := [bAt n 7, bAt n 6, bAt n 5, bAt n 4, bAt n 3, bAt n 2, bAt n 1, bAt n 0]
def accB (v : Int) (l : List UInt8) : Int := l.foldl (fun v c => IntKind.i64.wrap (v * 256 + (c.toNat : Int))) v
def inI (n : Int) : Prop := -9223372036854775808 ≤ n ∧ n ≤ 9223372036854775807
theorem wrapI (n : Int) : IntKind.i64.wrap n = if n % 18446744073709551616 ≥ 9223372036854775808 then n % 18446744073709551616 - 18446744073709551616 else n % 18446744073709551616 := by
  simp [IntKind.wrap, IntKind.bits, IntKind.signed]
theorem wrapI_in (n : Int) : inI (IntKind.i64.wrap n) := by
  rw [wrapI]; unfold inI; split <;> omega
theorem wrapI_id {n : Int} (h : inI n) : IntKind.i64.wrap n = n := by
  rw [wrapI]; unfold inI at h; split <;> omega
theorem wrapI_step (x c : Int) : IntKind.i64.wrap (IntKind.i64.wrap x * 256 + c) = IntKind.i64.wrap (x * 256 + c) := by
  have h : ∃ q : Int, IntKind.i64.wrap x = x - 18446744073709551616 * q := by
    rw [wrapI]
    split
    · exact ⟨x / 18446744073709551616 + 1, by omega⟩
    · exact ⟨x / 18446744073709551616, by omega⟩
  obtain ⟨q, hq⟩ := h
  rw [hq, wrapI, wrapI]
  have e : ((x - 18446744073709551616 * q) * 256 + c) % 18446744073709551616 = (x * 256 + c) % 18446744073709551616 := by omega
  rw [e]
theorem bAt_toNat (n : Int) (i : Nat) : ((bAt n i).toNat : Int) = n / 256 ^ i % 256 := by
  unfold bAt
  rw [UInt8.toNat_ofNat']
  omega
theorem bAt_num (n : Int) : n / 256 ^ 7 % 256 = n / 72057594037927936 % 256 ∧ n / 256 ^ 6 % 256 = n / 281474976710656 % 256 ∧ n / 256 ^ 5 % 256 = n / 1099511627776 % 256 ∧ n / 256 ^ 4 % 256 = n / 4294967296 % 256
    ∧ n / 256 ^ 3 % 256 = n / 16777216 % 256 ∧ n / 256 ^ 2 % 256 = n / 65536 % 256 ∧ n / 256 ^ 1 % 256 = n / 256 % 256 ∧ n / 256 ^ 0 % 256 = n % 256 := by
  refine ⟨rfl, rfl, rfl, rfl, rfl, rfl, rfl, ?_⟩
  simp
/-- What eight bytes say, all told. -/
theorem acc_eight (a b c d e f g h : UInt8) : accB 0 [a, b, c, d, e, f, g, h] = IntKind.i64.wrap ((((((((a.toNat : Int) * 256 + b.toNat) * 256 + c.toNat) * 256 + d.toNat) * 256 + e.toNat) * 256 + f.toNat) * 256 + g.toNat) * 256 + h.toNat) := by
  simp only [accB, List.foldl_cons, List.foldl_nil, wrapI_step, Int.zero_mul, Int.zero_add]
theorem div_step (n : Int) (m : Int) (hm : 0 < m) : n / m = n / (m * 256) * 256 + n / m % 256 := by
  have h := Int.mul_ediv_add_emod (n / m) 256
  rw [Int.ediv_ediv_of_nonneg (by omega)] at h
  omega
theorem be8_chain (n : Int) : ∃ q : Int, ((((((((bAt n 7).toNat : Int) * 256 + (bAt n 6).toNat) * 256 + (bAt n 5).toNat) * 256 + (bAt n 4).toNat) * 256 + (bAt n 3).toNat) * 256 + (bAt n 2).toNat) * 256 + (bAt n 1).toNat) * 256 + (bAt n 0).toNat = n - 18446744073709551616 * q := by
  simp only [bAt_toNat]
  obtain ⟨h7, h6, h5, h4, h3, h2, h1, h0⟩ := bAt_num n
  rw [h7, h6, h5, h4, h3, h2, h1, h0]
  have e0 := div_step n 1 (by decide)
  have e1 := div_step n 256 (by decide)
  have e2 := div_step n 65536 (by decide)
  have e3 := div_step n 16777216 (by decide)
  have e4 := div_step n 4294967296 (by decide)
  have e5 := div_step n 1099511627776 (by decide)
  have e6 := div_step n 281474976710656 (by decide)
  have e7 := div_step n 72057594037927936 (by decide)
  simp only [Int.ediv_one, Int.one_mul, Int.reduceMul] at e0 e1 e2 e3 e4 e5 e6 e7
  refine ⟨n / 18446744073709551616, ?_⟩
  generalize n / 256 = x1 at *
  generalize n / 65536 = x2 at *
  generalize n / 16777216 = x3 at *
  generalize n / 4294967296 = x4 at *
  generalize n / 1099511627776 = x5 at *
  generalize n / 281474976710656 = x6 at *
  generalize n / 72057594037927936 = x7 at *
  generalize n / 18446744073709551616 = x8 at *
  generalize n % 256 = y0 at *
  generalize x1 % 256 = y1 at *
  generalize x2 % 256 = y2 at *
  generalize x3 % 256 = y3 at *
  generalize x4 % 256 = y4 at *
  generalize x5 % 256 = y5 at *
  generalize x6 % 256 = y6 at *
  generalize x7 % 256 = y7 at *
  omega
theorem wrapI_sub (n q : Int) : IntKind.i64.wrap (n - 18446744073709551616 * q) = IntKind.i64.wrap n := by
  rw [wrapI, wrapI, show (n - 18446744073709551616 * q) % 18446744073709551616 = n % 18446744073709551616 by omega]
theorem acc_be8 {n : Int} (h : inI n) : accB 0 (be8 n) = n := by
  obtain ⟨q, hq⟩ := be8_chain n
  rw [be8, acc_eight, hq, wrapI_sub, wrapI_id h]
theorem byte_of (c : UInt8) (m : Int) (h : m = c.toNat) : UInt8.ofNat m.toNat = c := by
  subst h
  rw [Int.toNat_natCast]
  exact UInt8.ofNat_toNat
theorem bAt_wrap (n : Int) : ∃ q : Int, IntKind.i64.wrap n = n - 18446744073709551616 * q := by
  rw [wrapI]
  split
  · exact ⟨n / 18446744073709551616 + 1, by omega⟩
  · exact ⟨n / 18446744073709551616, by omega⟩
theorem peel (x : Int) (c : Nat) (hc : c < 256) : (x * 256 + c) / 256 = x ∧ (x * 256 + c) % 256 = c := by omega
theorem be8_acc (a b c d e f g h : UInt8) : be8 (accB 0 [a, b, c, d, e, f, g, h]) = [a, b, c, d, e, f, g, h] := by
  have ha := a.toNat_lt; have hb := b.toNat_lt; have hc := c.toNat_lt; have hd := d.toNat_lt
  have he := e.toNat_lt; have hf := f.toNat_lt; have hg := g.toNat_lt; have hh := h.toNat_lt
  rw [acc_eight]
  generalize hU : (((((((a.toNat : Int) * 256 + b.toNat) * 256 + c.toNat) * 256 + d.toNat) * 256 + e.toNat) * 256 + f.toNat) * 256 + g.toNat) * 256 + h.toNat = U
  obtain ⟨q, hq⟩ := bAt_wrap U
  rw [hq]
  generalize hN : U - 18446744073709551616 * q = N
  -- the chain of quotients
  have e0 : N = ((((((((-q) * 256 + a.toNat) * 256 + b.toNat) * 256 + c.toNat) * 256 + d.toNat) * 256 + e.toNat) * 256 + f.toNat) * 256 + g.toNat) * 256 + h.toNat := by omega
  obtain ⟨x7, hx7⟩ : ∃ x : Int, x = (-q) * 256 + a.toNat := ⟨_, rfl⟩
  obtain ⟨x6, hx6⟩ : ∃ x : Int, x = x7 * 256 + b.toNat := ⟨_, rfl⟩
  obtain ⟨x5, hx5⟩ : ∃ x : Int, x = x6 * 256 + c.toNat := ⟨_, rfl⟩
  obtain ⟨x4, hx4⟩ : ∃ x : Int, x = x5 * 256 + d.toNat := ⟨_, rfl⟩
  obtain ⟨x3, hx3⟩ : ∃ x : Int, x = x4 * 256 + e.toNat := ⟨_, rfl⟩
  obtain ⟨x2, hx2⟩ : ∃ x : Int, x = x3 * 256 + f.toNat := ⟨_, rfl⟩
  obtain ⟨x1, hx1⟩ : ∃ x : Int, x = x2 * 256 + g.toNat := ⟨_, rfl⟩
  rw [← hx7, ← hx6, ← hx5, ← hx4, ← hx3, ← hx2, ← hx1] at e0
  have q1 : N / 256 = x1 := by rw [e0]; exact (peel x1 _ hh).1
  have q2 : N / 65536 = x2 := by rw [show (65536 : Int) = 256 * 256 from rfl, ← Int.ediv_ediv_of_nonneg (by decide), q1, hx1]; exact (peel x2 _ hg).1
  have q3 : N / 16777216 = x3 := by rw [show (16777216 : Int) = 65536 * 256 from rfl, ← Int.ediv_ediv_of_nonneg (by decide), q2, hx2]; exact (peel x3 _ hf).1
  have q4 : N / 4294967296 = x4 := by rw [show (4294967296 : Int) = 16777216 * 256 from rfl, ← Int.ediv_ediv_of_nonneg (by decide), q3, hx3]; exact (peel x4 _ he).1
  have q5 : N / 1099511627776 = x5 := by rw [show (1099511627776 : Int) = 4294967296 * 256 from rfl, ← Int.ediv_ediv_of_nonneg (by decide), q4, hx4]; exact (peel x5 _ hd).1
  have q6 : N / 281474976710656 = x6 := by rw [show (281474976710656 : Int) = 1099511627776 * 256 from rfl, ← Int.ediv_ediv_of_nonneg (by decide), q5, hx5]; exact (peel x6 _ hc).1
  have q7 : N / 72057594037927936 = x7 := by rw [show (72057594037927936 : Int) = 281474976710656 * 256 from rfl, ← Int.ediv_ediv_of_nonneg (by decide), q6, hx6]; exact (peel x7 _ hb).1
  obtain ⟨h7, h6, h5, h4, h3, h2, h1, h0⟩ := bAt_num N
  unfold be8 bAt
  rw [h7, h6, h5, h4, h3, h2, h1, h0, q1, q2, q3, q4, q5, q6, q7]
  rw [byte_of h (N % 256) (by rw [e0]; exact (peel x1 _ hh).2), byte_of g (x1 % 256) (by rw [hx1]; exact (peel x2 _ hg).2), byte_of f (x2 % 256) (by rw [hx2]; exact (peel x3 _ hf).2), byte_of e (x3 % 256) (by rw [hx3]; exact (peel x4 _ he).2),
    byte_of d (x4 % 256) (by rw [hx4]; exact (peel x5 _ hd).2), byte_of c (x5 % 256) (by rw [hx5]; exact (peel x6 _ hc).2), byte_of b (x6 % 256) (by rw [hx6]; exact (peel x7 _ hb).2), byte_of a (x7 % 256) (by rw [hx7]; exact (peel _ _ ha).2)]
theorem list8 {l : List UInt8} (h : l.length = 8) : ∃ a b c d e f g i, l = [a, b, c, d, e, f, g, i] := by
  match l, h with
  | [a, b, c, d, e, f, g, i], _ => exact ⟨a, b, c, d, e, f, g, i, rfl⟩
theorem be8_acc' {l : List UInt8} (h : l.length = 8) : be8 (accB 0 l) = l := by
  obtain ⟨a, b, c, d, e, f, g, i, rfl⟩ := list8 h
  exact be8_acc a b c d e f g i
theorem acc_in {l : List UInt8} : inI (accB 0 l) := by
  have h : ∀ (l : List UInt8) (v : Int), inI v → inI (accB v l) := fun l => by
    induction l with
    | nil => exact fun v h => h
    | cons c l ih => exact fun v _ => ih _ (wrapI_in _)
  exact h l 0 ⟨by decide, by decide⟩
/-! ### bytes of a value -/
def encL (enc : AV → List UInt8 × Nat) : List AV → List UInt8 × Nat
  | [] => ([], 0)
  | a :: r => if (enc a).2 = 0 then (if (encL enc r).2 = 0 then ((enc a).1 ++ (encL enc r).1, 0) else ([], (encL enc r).2)) else ([], (enc a).2)
/-- k: how many lists deep it may go on. -/
def encA : Nat → AV → List UInt8 × Nat
  | _, .non => ([], 9)
  | _, .int n => (105 :: be8 n, 0)
  | _, .text s => if 65535 < s.length then ([], 3) else (115 :: UInt8.ofNat (s.length / 256) :: UInt8.ofNat s.length :: s, 0)
  | _, .yes b => ([if b then 121 else 110], 0)
  | 0, .row _ => ([], 3)
  | k + 1, .row l => if 255 < l.length then ([], 3) else if (encL (encA k) l).2 = 0 then (108 :: UInt8.ofNat l.length :: (encL (encA k) l).1, 0) else ([], (encL (encA k) l).2)
def decN (dec : List UInt8 → Option (AV × List UInt8)) : Nat → List UInt8 → Option (List AV × List UInt8)
  | 0, s => some ([], s)
  | n + 1, s => match dec s with
    | none => none
    | some (a, r) => match decN dec n r with
      | none => none
      | some (l, r') => some (a :: l, r')
def num2 (s : List UInt8) : Nat := match s with
  | a :: b :: _ => a.toNat * 256 + b.toNat
  | _ => 0
def decA : Nat → List UInt8 → Option (AV × List UInt8)
  | _, [] => none
  | 0, h :: s =>
    if h = 105 then (if s.length < 8 then none else some (.int (accB 0 (s.take 8)), s.drop 8))
    else if h = 115 then (if s.length < 2 ∨ (s.drop 2).length < num2 s then none else some (.text ((s.drop 2).take (num2 s)), (s.drop 2).drop (num2 s)))
    else if h = 121 then some (.yes true, s) else if h = 110 then some (.yes false, s) else none
  | k + 1, h :: s =>
    if h = 105 then (if s.length < 8 then none else some (.int (accB 0 (s.take 8)), s.drop 8))
    else if h = 115 then (if s.length < 2 ∨ (s.drop 2).length < num2 s then none else some (.text ((s.drop 2).take (num2 s)), (s.drop 2).drop (num2 s)))
    else if h = 121 then some (.yes true, s) else if h = 110 then some (.yes false, s)
    else if h = 108 then (match s with
      | [] => none
      | c :: r => (decN (decA k) c.toNat r).map fun x => (.row x.1, x.2))
    else none
/-- Whole numbers of 64 bits alone. -/
inductive WfA : AV → Prop where
  | non : WfA .non
  | int (n : Int) (h : inI n) : WfA (.int n)
  | text (s : List UInt8) : WfA (.text s)
  | yes (b : Bool) : WfA (.yes b)
  | row (l : List AV) (h : ∀ a ∈ l, WfA a) : WfA (.row l)
theorem ofNat_mod (n : Nat) : (UInt8.ofNat n).toNat = n % 256 := UInt8.toNat_ofNat'
theorem num2_of (n : Nat) (h : n ≤ 65535) (r : List UInt8) : num2 (UInt8.ofNat (n / 256) :: UInt8.ofNat n :: r) = n := by
  simp only [num2, ofNat_mod]; omega
theorem encL_ok {enc : AV → List UInt8 × Nat} {a : AV} {r : List AV} {s : List UInt8} (h : encL enc (a :: r) = (s, 0)) : (enc a).2 = 0 ∧ (encL enc r).2 = 0 ∧ s = (enc a).1 ++ (encL enc r).1 := by
  unfold encL at h
  split at h
  · rename_i h1
    split at h
    · rename_i h2
      simp only [Prod.mk.injEq] at h
      exact ⟨h1, h2, h.1.symm⟩
    · rename_i h2
      simp only [Prod.mk.injEq] at h
      exact absurd h.2 h2
  · rename_i h1
    simp only [Prod.mk.injEq] at h
    exact absurd h.2 h1
theorem decN_enc (k : Nat) (ih : ∀ a s r, WfA a → encA k a = (s, 0) → decA k (s ++ r) = some (a, r)) : ∀ (l : List AV) (s r : List UInt8), (∀ a ∈ l, WfA a) → encL (encA k) l = (s, 0) → decN (decA k) l.length (s ++ r) = some (l, r)
  | [], s, r, _, h => by
    simp only [encL, Prod.mk.injEq] at h
    rw [← h.1]; rfl
  | a :: l, s, r, hw, h => by
    obtain ⟨h1, h2, h3⟩ := encL_ok h
    rw [h3, List.append_assoc, List.length_cons]
    have i1 := ih a (encA k a).1 ((encL (encA k) l).1 ++ r) (hw a (by simp)) (Prod.ext rfl h1)
    have i2 := decN_enc k ih l (encL (encA k) l).1 r (fun b hb => hw b (by simp [hb])) (Prod.ext rfl h2)
    simp only [decN, i1, i2]
theorem take_left' {l : List UInt8} {n : Nat} (h : l.length = n) (r : List UInt8) : (l ++ r).take n = l ∧ (l ++ r).drop n = r := by
  subst h; exact ⟨List.take_left, List.drop_left⟩
theorem dec_int (k : Nat) (n : Int) (h : inI n) (r : List UInt8) : decA k (105 :: (be8 n ++ r)) = some (.int n, r) := by
  have h8 : (be8 n).length = 8 := rfl
  have hl : ¬ (be8 n ++ r).length < 8 := by rw [List.length_append, h8]; omega
  cases k <;> (simp only [decA, if_true, if_neg hl]; rw [(take_left' h8 r).1, (take_left' h8 r).2, acc_be8 h])
theorem dec_text (k : Nat) (s : List UInt8) (h : s.length ≤ 65535) (r : List UInt8) : decA k (115 :: UInt8.ofNat (s.length / 256) :: UInt8.ofNat s.length :: (s ++ r)) = some (.text s, r) := by
  have hn := num2_of s.length h (s ++ r)
  have e1 : (115 : UInt8) ≠ 105 := by decide
  have hc : ¬ ((UInt8.ofNat (s.length / 256) :: UInt8.ofNat s.length :: (s ++ r)).length < 2 ∨ ((UInt8.ofNat (s.length / 256) :: UInt8.ofNat s.length :: (s ++ r)).drop 2).length < num2 (UInt8.ofNat (s.length / 256) :: UInt8.ofNat s.length :: (s ++ r))) := by
    rw [hn]; simp
  cases k <;> (simp only [decA, if_true, if_neg e1, if_neg hc]; rw [hn]; simp only [List.drop_succ_cons, List.drop_zero]; rw [(take_left' rfl r).1, (take_left' rfl r).2])
theorem dec_enc : ∀ (k : Nat) (a : AV) (s r : List UInt8), WfA a → encA k a = (s, 0) → decA k (s ++ r) = some (a, r)
  | k, .non, s, r, _, h => by simp [encA] at h
  | k, .int n, s, r, hw, h => by
    cases hw with | int _ hi =>
    simp only [encA, Prod.mk.injEq] at h
    rw [← h.1]; exact dec_int k n hi r
  | k, .text t, s, r, _, h => by
    simp only [encA] at h
    split at h
    · simp at h
    · rename_i hl
      simp only [Prod.mk.injEq] at h
      rw [← h.1]; exact dec_text k t (by omega) r
  | k, .yes b, s, r, _, h => by
    simp only [encA, Prod.mk.injEq] at h
    rw [← h.1]
    cases k <;> cases b <;> rfl
  | 0, .row l, s, r, _, h => by simp [encA] at h
  | k + 1, .row l, s, r, hw, h => by
    cases hw with | row _ hi =>
    simp only [encA] at h
    split at h
    · simp at h
    · rename_i hl
      split at h
      · rename_i h2
        simp only [Prod.mk.injEq] at h
        have := decN_enc k (fun a s r => dec_enc k a s r) l (encL (encA k) l).1 r hi (Prod.ext rfl h2)
        rw [← h.1]
        have e1 : (108 : UInt8) ≠ 105 := by decide
        have e2 : (108 : UInt8) ≠ 115 := by decide
        have e3 : (108 : UInt8) ≠ 121 := by decide
        have e4 : (108 : UInt8) ≠ 110 := by decide
        simp only [List.cons_append, decA, if_neg e1, if_neg e2, if_neg e3, if_neg e4, if_true]
        rw [ofNat_mod, show l.length % 256 = l.length by omega, this]
        rfl
      · rename_i h2
        simp only [Prod.mk.injEq] at h
        exact absurd h.2 h2
theorem encN_dec (k : Nat) (ih : ∀ s a r, decA k s = some (a, r) → ∃ p, encA k a = (p, 0) ∧ s = p ++ r ∧ WfA a) : ∀ (n : Nat) (s : List UInt8) (l : List AV) (r : List UInt8), decN (decA k) n s = some (l, r) → ∃ p, encL (encA k) l = (p, 0) ∧ s = p ++ r ∧ l.length = n ∧ ∀ a ∈ l, WfA a
  | 0, s, l, r, h => by
    simp only [decN, Option.some.injEq, Prod.mk.injEq] at h
    obtain ⟨rfl, rfl⟩ := h
    exact ⟨[], rfl, rfl, rfl, fun a ha => by cases ha⟩
  | n + 1, s, l, r, h => by
    unfold decN at h
    split at h
    · cases h
    · rename_i a r1 h1
      split at h
      · cases h
      · rename_i l' r2 h2
        simp only [Option.some.injEq, Prod.mk.injEq] at h
        obtain ⟨rfl, rfl⟩ := h
        obtain ⟨p, hp, rfl, hw⟩ := ih _ _ _ h1
        obtain ⟨q, hq, rfl, hlen, hws⟩ := encN_dec k ih n _ _ _ h2
        refine ⟨p ++ q, ?_, by rw [List.append_assoc], by rw [List.length_cons, hlen], fun b hb => ?_⟩
        · simp only [encL, hp, hq, if_true]
        · rcases List.mem_cons.1 hb with rfl | hb
          · exact hw
          · exact hws b hb
theorem leaf_dec (k : Nat) (h : UInt8) (s : List UInt8) (a : AV) (r : List UInt8)
    (hd : (if h = 105 then (if s.length < 8 then none else some (AV.int (accB 0 (s.take 8)), s.drop 8))
      else if h = 115 then (if s.length < 2 ∨ (s.drop 2).length < num2 s then none else some (.text ((s.drop 2).take (num2 s)), (s.drop 2).drop (num2 s)))
      else if h = 121 then some (.yes true, s) else if h = 110 then some (.yes false, s) else none) = some (a, r)) : ∃ p, encA k a = (p, 0) ∧ h :: s = p ++ r ∧ WfA a := by
  split at hd
  · rename_i e; subst e
    split at hd
    · cases hd
    · rename_i hl
      simp only [Option.some.injEq, Prod.mk.injEq] at hd
      obtain ⟨rfl, rfl⟩ := hd
      have h8 : (s.take 8).length = 8 := by rw [List.length_take]; omega
      refine ⟨105 :: be8 (accB 0 (s.take 8)), by cases k <;> rfl, ?_, .int _ acc_in⟩
      rw [be8_acc' h8, List.cons_append, List.take_append_drop]
  · split at hd
    · rename_i e; subst e
      split at hd
      · cases hd
      · rename_i hl
        simp only [Option.some.injEq, Prod.mk.injEq] at hd
        obtain ⟨rfl, rfl⟩ := hd
        rw [not_or] at hl
        match s, hl with
        | [_], hl => exact absurd (by simp) hl.1
        | x :: y :: t, hl =>
          have hx := x.toNat_lt
          have hy := y.toNat_lt
          have hn : num2 (x :: y :: t) = x.toNat * 256 + y.toNat := rfl
          simp only [List.drop_succ_cons, List.drop_zero] at hl ⊢
          have hlen : (t.take (num2 (x :: y :: t))).length = num2 (x :: y :: t) := by rw [List.length_take]; omega
          refine ⟨115 :: x :: y :: t.take (num2 (x :: y :: t)), ?_, ?_, .text _⟩
          · have hle : ¬ 65535 < (t.take (num2 (x :: y :: t))).length := by rw [hlen, hn]; omega
            have e1 : UInt8.ofNat ((t.take (num2 (x :: y :: t))).length / 256) = x := by
              rw [hlen, hn, show (x.toNat * 256 + y.toNat) / 256 = x.toNat by omega]; exact UInt8.ofNat_toNat
            have e2 : UInt8.ofNat (t.take (num2 (x :: y :: t))).length = y := by
              rw [hlen, hn]
              apply UInt8.toNat_inj.1
              rw [ofNat_mod]; omega
            cases k <;> (simp only [encA, if_neg hle]; rw [e1, e2])
          · simp only [List.cons_append, List.take_append_drop]
    · split at hd
      · rename_i e; subst e
        simp only [Option.some.injEq, Prod.mk.injEq] at hd
        obtain ⟨rfl, rfl⟩ := hd
        exact ⟨[121], by cases k <;> rfl, rfl, .yes _⟩
      · split at hd
        · rename_i e; subst e
          simp only [Option.some.injEq, Prod.mk.injEq] at hd
          obtain ⟨rfl, rfl⟩ := hd
          exact ⟨[110], by cases k <;> rfl, rfl, .yes _⟩
        · cases hd
theorem enc_dec : ∀ (k : Nat) (s : List UInt8) (a : AV) (r : List UInt8), decA k s = some (a, r) → ∃ p, encA k a = (p, 0) ∧ s = p ++ r ∧ WfA a
  | k, [], a, r, h => by cases k <;> simp [decA] at h
  | 0, h :: s, a, r, hd => leaf_dec 0 h s a r hd
  | k + 1, h :: s, a, r, hd => by
    by_cases hh : h = 108
    · subst hh
      have e1 : (108 : UInt8) ≠ 105 := by decide
      have e2 : (108 : UInt8) ≠ 115 := by decide
      have e3 : (108 : UInt8) ≠ 121 := by decide
      have e4 : (108 : UInt8) ≠ 110 := by decide
      simp only [decA, if_neg e1, if_neg e2, if_neg e3, if_neg e4, if_true] at hd
      match s, hd with
      | c :: t, hd =>
        dsimp only at hd
        rw [Option.map_eq_some_iff] at hd
        obtain ⟨⟨l, r'⟩, hx, he⟩ := hd
        simp only [Prod.mk.injEq] at he
        obtain ⟨rfl, rfl⟩ := he
        obtain ⟨p, hp, rfl, hlen, hw⟩ := encN_dec k (fun s a r => enc_dec k s a r) _ _ _ _ hx
        have hc := c.toNat_lt
        refine ⟨108 :: c :: p, ?_, rfl, .row _ hw⟩
        simp only [encA, hlen, if_neg (show ¬ 255 < c.toNat by omega), hp, if_true]
        rw [UInt8.ofNat_toNat]
    · refine leaf_dec (k + 1) h s a r ?_
      simp only [decA, if_neg hh] at hd
      exact hd
theorem dec_len (k : Nat) (s : List UInt8) (a : AV) (r : List UInt8) (h : decA k s = some (a, r)) : r.length < s.length := by
  obtain ⟨p, hp, rfl, hw⟩ := enc_dec k s a r h
  rw [List.length_append]
  have : p ≠ [] := by
    intro e; subst e
    cases a <;> cases k <;> simp [encA] at hp
    all_goals (try split at hp) <;> (try split at hp) <;> simp_all
  have := List.length_pos_iff.2 this
  omega
/-! ### values as the document has them -/
mutual
def toV : AV → VT
  | .non => .mk 0 0 [] false []
  | .int n => .mk 1 n [] false []
  | .text s => .mk 2 0 s false []
  | .yes b => .mk 3 0 [] b []
  | .row l => .mk 4 0 [] false (toVs l)
def toVs : List AV → List VT
  | [] => []
  | a :: r => toV a :: toVs r
end
mutual
def ofV : VT → AV
  | .mk k n s b l => if k = 1 then .int n else if k = 2 then .text s else if k = 3 then .yes b else if k = 4 then .row (ofVs l) else .non
def ofVs : List VT → List AV
  | [] => []
  | a :: r => ofV a :: ofVs r
end
theorem toVs_map (l : List AV) : toVs l = l.map toV := by
  induction l with
  | nil => rfl
  | cons a r ih => rw [toVs, ih, List.map_cons]
theorem ofVs_map (l : List VT) : ofVs l = l.map ofV := by
  induction l with
  | nil => rfl
  | cons a r ih => rw [ofVs, ih, List.map_cons]
end Go.Proofs.Ythmpmpepokeedaa
