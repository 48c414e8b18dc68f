/- The disk's model in plain Lean. -/
import Derived.Laws.CopyOwn
namespace Go.Proofs.Ythlngbdbmnnnaaa

structure Wr where
  place : Int
  data : List UInt8

structure Dk where
  n : Nat
  lasts : List UInt8
  wait : List Wr
  cutAt : Int
  keep : Int
  torn : Int
  count : Int
  down : Bool

namespace Dk
def asked (D : Dk) (p : Int) : Int := if D.down then 7 else if p < 0 ∨ (D.n : Int) ≤ p then 1 else 0
end Dk

/-- Of what waits so many first bytes of each last. -/
def settle (f : Nat → Nat) : Nat → List Wr → List UInt8 → List UInt8
  | _, [], L => L
  | i, x :: r, L => settle f (i + 1) r (splice L (64 * x.place.toNat) (x.data.take (f i)))
theorem settle_snoc (f : Nat → Nat) (x : Wr) : ∀ (l : List Wr) (i : Nat) (L : List UInt8), settle f i (l ++ [x]) L = splice (settle f i l L) (64 * x.place.toNat) (x.data.take (f (i + l.length)))
  | [], i, L => rfl
  | y :: l, i, L => by
    show settle f (i + 1) (l ++ [x]) _ = _
    rw [settle_snoc f x l (i + 1)]
    show _ = splice (settle f (i + 1) l _) _ _
    congr 3
    simp; omega
theorem settle_length (f : Nat → Nat) (n : Nat) : ∀ (l : List Wr) (i : Nat) (L : List UInt8), (∀ x ∈ l, 0 ≤ x.place ∧ x.place < n ∧ x.data.length = 64) → L.length = 64 * n → (settle f i l L).length = 64 * n
  | [], i, L, _, h => h
  | y :: l, i, L, hw, h => by
    show (settle f (i + 1) l _).length = _
    refine settle_length f n l (i + 1) _ (fun x hx => hw x (by simp [hx])) ?_
    have hy := hw y (by simp)
    rw [length_splice]
    · exact h
    · simp; omega

/-- How many bytes of a write last at a failure. -/
def crashN (keep torn : Int) (m : Nat) (i : Nat) : Nat := if 63 < i ∨ keep / 2 ^ i % 2 = 0 then 0 else if i + 1 = m then (max 0 (min torn 64)).toNat else 64
theorem crashN_le (keep torn : Int) (m i : Nat) : crashN keep torn m i ≤ 64 := by unfold crashN; split <;> (try split) <;> omega

namespace Dk
def fill (l : List UInt8) : List UInt8 := l ++ List.replicate (64 - l.length) 0
/-- The power fails. -/
def crash (D : Dk) (keep torn : Int) : Dk := if D.down then D else { D with lasts := settle (crashN keep torn D.wait.length) 0 D.wait D.lasts, wait := [], cutAt := 0, keep := 0, torn := 0, down := true }
/-- An effect is counted: the disk behind. -/
def counted (D : Dk) : Dk := if D.cutAt = D.count + 1 then { D with count := D.count + 1 : Dk }.crash D.keep D.torn else { D with count := D.count + 1 }
/-- Does the power fail in it? -/
def failing (D : Dk) : Bool := decide (D.cutAt = D.count + 1)
def write (D : Dk) (p : Int) (l : List UInt8) : Dk := if D.asked p ≠ 0 then D else if 64 < l.length then D else { D with wait := D.wait ++ [(⟨p, fill l⟩ : Wr)] : Dk }.counted
def writeE (D : Dk) (p : Int) (l : List UInt8) : Int := if D.asked p ≠ 0 then D.asked p else if 64 < l.length then 3 else if D.failing then 7 else 0
/-- What a sector reads as. -/
def latest : List Wr → Int → Option (List UInt8)
  | [], _ => none
  | x :: r, p => (latest r p).or (if x.place = p then some x.data else none)
theorem latest_none (p : Int) : ∀ (l : List Wr), (∀ (j : Nat) (x : Wr), l[j]? = some x → x.place ≠ p) → latest l p = none
  | [], _ => rfl
  | y :: l, h => by
    have h1 := latest_none p l (fun j x hj => h (j + 1) x (by simpa using hj))
    have h2 := h 0 y (by simp)
    simp [latest, h1, h2]
theorem latest_some (p : Int) : ∀ (l : List Wr) (i : Nat) (x : Wr), l[i]? = some x → x.place = p → (∀ (j : Nat) (y : Wr), i < j → l[j]? = some y → y.place ≠ p) → latest l p = some x.data
  | [], i, x, h, _, _ => by simp at h
  | y :: l, 0, x, h, hp, hn => by
    simp at h; subst h
    have h1 := latest_none p l (fun j z hj => hn (j + 1) z (by omega) (by simpa using hj))
    simp [latest, h1, hp]
  | y :: l, i + 1, x, h, hp, hn => by
    have h1 := latest_some p l i x (by simpa using h) hp (fun j z hj hz => hn (j + 1) z (by omega) (by simpa using hz))
    simp [latest, h1]
def sector (D : Dk) (p : Int) : List UInt8 := (D.lasts.drop (64 * p.toNat)).take 64
def read (D : Dk) (p : Int) : List UInt8 := if D.asked p ≠ 0 then [] else (latest D.wait p).getD (D.sector p)
def flush (D : Dk) : Dk := if D.down then D else if D.failing then D.counted else { D.counted with lasts := settle (fun _ => 64) 0 D.wait D.lasts, wait := [] }
def flushE (D : Dk) : Int := if D.down then 7 else if D.failing then 7 else 0
def arm (D : Dk) (a k t : Int) : Dk := if a < 1 then { D with cutAt := 0, keep := 0, torn := 0, count := 0 } else { D with cutAt := a, keep := k, torn := t, count := 0 }
def start (D : Dk) : Dk := { D with down := false }
def new (n : Nat) : Dk := ⟨n, List.replicate (64 * n) 0, [], 0, 0, 0, 0, false⟩
end Dk
end Go.Proofs.Ythlngbdbmnnnaaa
