/- The digest: plain laws. -/
import Derived.Test.YtcchhfkmhbjdmaaKb
set_option linter.unusedVariables false
set_option linter.unusedSimpArgs false
namespace Go.Proofs.Ytcchhfkmhbjdmaa
def rr (x n : UInt32) : UInt32 := (x <<< (32 - n)) ||| (x >>> n)
def sg0 (x : UInt32) : UInt32 := rr x 7 ^^^ rr x 18 ^^^ (x >>> 3)
def sg1 (x : UInt32) : UInt32 := rr x 17 ^^^ rr x 19 ^^^ (x >>> 10)
def bg0 (x : UInt32) : UInt32 := rr x 2 ^^^ rr x 13 ^^^ rr x 22
def bg1 (x : UInt32) : UInt32 := rr x 6 ^^^ rr x 11 ^^^ rr x 25
def chs (e f g : UInt32) : UInt32 := g ^^^ (e &&& (f ^^^ g))
def maj (a b c : UInt32) : UInt32 := (a &&& b) ||| (c &&& (a ||| b))
def kT : List UInt32 := [
  0x428a2f98, 0x71374491, 0xb5c0fbcf, 0xe9b5dba5, 0x3956c25b, 0x59f111f1, 0x923f82a4, 0xab1c5ed5,
  0xd807aa98, 0x12835b01, 0x243185be, 0x550c7dc3, 0x72be5d74, 0x80deb1fe, 0x9bdc06a7, 0xc19bf174,
  0xe49b69c1, 0xefbe4786, 0x0fc19dc6, 0x240ca1cc, 0x2de92c6f, 0x4a7484aa, 0x5cb0a9dc, 0x76f988da,
  0x983e5152, 0xa831c66d, 0xb00327c8, 0xbf597fc7, 0xc6e00bf3, 0xd5a79147, 0x06ca6351, 0x14292967,
  0x27b70a85, 0x2e1b2138, 0x4d2c6dfc, 0x53380d13, 0x650a7354, 0x766a0abb, 0x81c2c92e, 0x92722c85,
  0xa2bfe8a1, 0xa81a664b, 0xc24b8b70, 0xc76c51a3, 0xd192e819, 0xd6990624, 0xf40e3585, 0x106aa070,
  0x19a4c116, 0x1e376c08, 0x2748774c, 0x34b0bcb5, 0x391c0cb3, 0x4ed8aa4a, 0x5b9cca4f, 0x682e6ff3,
  0x748f82ee, 0x78a5636f, 0x84c87814, 0x8cc70208, 0x90befffa, 0xa4506ceb, 0xbef9a3f7, 0xc67178f2]
def hT : List UInt32 := [0x6a09e667, 0xbb67ae85, 0x3c6ef372, 0xa54ff53a, 0x510e527f, 0x9b05688c, 0x1f83d9ab, 0x5be0cd19]
def w4 (b : List UInt8) (i : Nat) : UInt32 := ((((b.getD (4 * i) 0).toUInt32 <<< 24) ||| ((b.getD (4 * i + 1) 0).toUInt32 <<< 16)) ||| ((b.getD (4 * i + 2) 0).toUInt32 <<< 8)) ||| (b.getD (4 * i + 3) 0).toUInt32
def nextW (b : List UInt8) (l : List UInt32) (i : Nat) : UInt32 :=
  if i < 16 then w4 b i else ((l.getD (i - 16) 0 + sg0 (l.getD (i - 15) 0)) + l.getD (i - 7) 0) + sg1 (l.getD (i - 2) 0)
def sws (b : List UInt8) : Nat → List UInt32
  | 0 => []
  | n + 1 => sws b n ++ [nextW b (sws b n) n]
theorem sws_length (b : List UInt8) : ∀ n, (sws b n).length = n
  | 0 => rfl
  | n + 1 => by simp [sws, sws_length b n]
structure R8 where
  (a b c d e f g h : UInt32)
def rnd (s : R8) (w k : UInt32) : R8 :=
  ⟨(w + (((s.h + bg1 s.e) + chs s.e s.f s.g) + k)) + (bg0 s.a + maj s.a s.b s.c), s.a, s.b, s.c, s.d + (w + (((s.h + bg1 s.e) + chs s.e s.f s.g) + k)), s.e, s.f, s.g⟩
def R8.of (h : List UInt32) : R8 := ⟨h.getD 0 0, h.getD 1 0, h.getD 2 0, h.getD 3 0, h.getD 4 0, h.getD 5 0, h.getD 6 0, h.getD 7 0⟩
def R8.list (s : R8) : List UInt32 := [s.a, s.b, s.c, s.d, s.e, s.f, s.g, s.h]
def rounds (ws : List UInt32) (s : R8) : Nat → R8
  | 0 => s
  | n + 1 => rnd (rounds ws s n) (ws.getD n 0) (kT.getD n 0)
def comp (h : List UInt32) (b : List UInt8) : List UInt32 :=
  (List.range 8).map fun i => h.getD i 0 + (rounds (sws b 64) (R8.of h) 64).list.getD i 0
theorem comp_length (h : List UInt32) (b : List UInt8) : (comp h b).length = 8 := by simp [comp]
/-! ### the blocks -/
def eat : Nat → List UInt32 → List UInt8 → List UInt32 × List UInt8
  | 0, h, l => (h, l)
  | n + 1, h, l => if 64 ≤ l.length then eat n (comp h (l.take 64)) (l.drop 64) else (h, l)
def eatAll (h : List UInt32) (l : List UInt8) : List UInt32 × List UInt8 := eat (l.length / 64) h l
theorem eatAll_done (h : List UInt32) (l : List UInt8) (hl : l.length < 64) : eatAll h l = (h, l) := by
  unfold eatAll
  rw [Nat.div_eq_of_lt hl]
  rfl
theorem eatAll_step (h : List UInt32) (l : List UInt8) (hl : 64 ≤ l.length) : eatAll h l = eatAll (comp h (l.take 64)) (l.drop 64) := by
  unfold eatAll
  obtain ⟨n, hn⟩ : ∃ n, l.length / 64 = n + 1 := ⟨l.length / 64 - 1, by omega⟩
  rw [hn]
  have : (l.drop 64).length / 64 = n := by rw [List.length_drop]; omega
  rw [this, eat, if_pos hl]
theorem eatAll_length (h : List UInt32) (l : List UInt8) : (eatAll h l).2.length = l.length % 64 := by
  generalize hn : l.length = n
  induction n using Nat.strongRecOn generalizing h l with
  | _ n ih =>
    by_cases hl : 64 ≤ l.length
    · rw [eatAll_step h l hl, ih (l.drop 64).length (by rw [List.length_drop]; omega) _ _ rfl, List.length_drop]; omega
    · rw [eatAll_done h l (by omega)]; show l.length = _; omega
theorem eatAll_hl (h : List UInt32) (hh : h.length = 8) (l : List UInt8) : (eatAll h l).1.length = 8 := by
  generalize hn : l.length = n
  induction n using Nat.strongRecOn generalizing h l with
  | _ n ih =>
    by_cases hl : 64 ≤ l.length
    · rw [eatAll_step h l hl, ih (l.drop 64).length (by rw [List.length_drop]; omega) _ (comp_length _ _) _ rfl]
    · rw [eatAll_done h l (by omega)]; exact hh
theorem eatAll_append (h : List UInt32) (l m : List UInt8) : eatAll h (l ++ m) = eatAll (eatAll h l).1 ((eatAll h l).2 ++ m) := by
  generalize hn : l.length = n
  induction n using Nat.strongRecOn generalizing h l with
  | _ n ih =>
    by_cases hl : 64 ≤ l.length
    · rw [eatAll_step h l hl, eatAll_step h (l ++ m) (by rw [List.length_append]; omega), List.take_append_of_le_length hl, List.drop_append_of_le_length hl]
      exact ih (l.drop 64).length (by rw [List.length_drop]; omega) _ _ rfl
    · rw [eatAll_done h l (by omega)]
/-- What came: the state, what is left, how many. -/
structure Tal where
  (h : List UInt32) (rest : List UInt8) (n : Nat)
def Tal.new : Tal := ⟨hT, [], 0⟩
def Tal.add (t : Tal) (s : List UInt8) : Tal := ⟨(eatAll t.h (t.rest ++ s)).1, (eatAll t.h (t.rest ++ s)).2, t.n + s.length⟩
theorem Tal.add_append (t : Tal) (a b : List UInt8) : t.add (a ++ b) = (t.add a).add b := by
  unfold Tal.add
  rw [← List.append_assoc, eatAll_append]
  simp [Nat.add_assoc]
theorem Tal.add_nil (t : Tal) (h : t.rest.length < 64) : t.add [] = t := by
  unfold Tal.add
  rw [List.append_nil, eatAll_done _ _ h]
  rfl
def be8 (n : Nat) : List UInt8 := (List.range 8).map fun i => UInt8.ofNat (n / 2 ^ (56 - 8 * i))
def padL (n : Nat) : List UInt8 := 128 :: (List.replicate ((119 - n % 64) % 64) 0 ++ be8 (8 * n))
def outW (x : UInt32) : List UInt8 := [(x >>> 24).toUInt8, (x >>> 16).toUInt8, (x >>> 8).toUInt8, x.toUInt8]
def outL (h : List UInt32) : List UInt8 := h.flatMap outW
def Tal.sum (t : Tal) : List UInt8 := outL (t.add (padL t.n)).h
def dig (s : List UInt8) : List UInt8 := (Tal.new.add s).sum
/-- A tally that can be. -/
structure Tal.Ok (t : Tal) : Prop where
  h : t.h.length = 8
  rest : t.rest.length < 64
  mod : t.rest.length = t.n % 64
theorem Tal.new_ok : Tal.new.Ok := ⟨rfl, by decide, rfl⟩
theorem Tal.Ok.add {t : Tal} (ht : t.Ok) (s : List UInt8) : (t.add s).Ok := by
  refine ⟨eatAll_hl _ ht.h _, ?_, ?_⟩
  · show (eatAll _ _).2.length < 64
    rw [eatAll_length]; omega
  · show (eatAll _ _).2.length = (t.n + s.length) % 64
    rw [eatAll_length, List.length_append, ht.mod]; omega
theorem outL_length (h : List UInt32) : (outL h).length = 4 * h.length := by
  unfold outL
  induction h with
  | nil => rfl
  | cons x t ih => rw [List.flatMap_cons, List.length_append, ih]; simp [outW]; omega
theorem Tal.Ok.sum_length {t : Tal} (ht : t.Ok) : t.sum.length = 32 := by
  unfold Tal.sum
  rw [outL_length, (ht.add _).h]
end Go.Proofs.Ytcchhfkmhbjdmaa
