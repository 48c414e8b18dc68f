/- Sealed texts: plain laws. -/
import Derived.Test.YtcchhfkmhbjdmaaPg6
import Derived.Test.YtcchhfkmhbjdmaaPg4
set_option linter.unusedVariables false
set_option linter.unusedSimpArgs false
namespace Go.Proofs.Ytcchhfkmhbjdmaa
theorem full_add (f : Nat → UInt8) (a b : Nat) : full f (a + b) = full f a ++ full (fun i => f (a + i)) b := by
  simp [full, List.range_add, Function.comp_def]
theorem full_cg {f g : Nat → UInt8} {n : Nat} (h : ∀ i, i < n → f i = g i) : full f n = full g n := by
  unfold full
  exact List.map_congr_left fun i hi => h i (List.mem_range.1 hi)
theorem press_len (W s : List UInt8) : (press W s).length = 16 := by
  first | exact press_length W s | simp [press, full_length]
theorem ctr_length (W nonce : List UInt8) (j : Nat) : (ctr W nonce j).length = 16 := press_len _ _
theorem turnL_length (a b : List UInt8) : (turnL a b).length = min a.length b.length := full_length _ _
theorem turnL_xorG (a b : List UInt8) : turnL a b = xorG a b := by
  apply List.ext_getElem (by rw [turnL_length, xorG_length])
  intro i h1 h2
  rw [turnL_length] at h1
  have ha : i < a.length := by omega
  have hb : i < b.length := by omega
  simp [turnL, full, turnG, xorG, List.getD_eq_getElem?_getD, ha, hb]
def chunk (t : List UInt8) (k : Nat) : List UInt8 := (t.drop (16 * k)).take 16
theorem chunk_length (t : List UInt8) (k : Nat) : (chunk t k).length = min 16 (t.length - 16 * k) := by simp [chunk]
theorem chunk_get (t : List UInt8) (k i : Nat) (hi : i < 16) : (chunk t k).getD i 0 = t.getD (16 * k + i) 0 := by
  simp [chunk, List.getD_eq_getElem?_getD, List.getElem?_take, hi]
/-- The bytes that a text is turned by. -/
def ks (W nonce : List UInt8) (i : Nat) : UInt8 := (ctr W nonce (2 + i / 16)).getD (i % 16) 0
def bodyL (W nonce t : List UInt8) : List UInt8 := full (fun i => t.getD i 0 ^^^ ks W nonce i) t.length
theorem bodyL_length (W nonce t : List UInt8) : (bodyL W nonce t).length = t.length := full_length _ _
def bodyN (W nonce t : List UInt8) : Nat → List UInt8
  | 0 => []
  | k + 1 => bodyN W nonce t k ++ turnL (chunk t k) (ctr W nonce (2 + k))
theorem bodyN_eq (W nonce t : List UInt8) : ∀ n, bodyN W nonce t n = full (fun i => t.getD i 0 ^^^ ks W nonce i) (min (16 * n) t.length)
  | 0 => by simp [bodyN, full]
  | k + 1 => by
    rw [bodyN, bodyN_eq W nonce t k]
    have hc : (turnL (chunk t k) (ctr W nonce (2 + k))).length = min 16 (t.length - 16 * k) := by
      rw [turnL_length, chunk_length, ctr_length]; omega
    by_cases h : t.length ≤ 16 * k
    · have : turnL (chunk t k) (ctr W nonce (2 + k)) = [] := List.eq_nil_of_length_eq_zero (by rw [hc]; omega)
      rw [this, List.append_nil, show min (16 * k) t.length = t.length by omega, show min (16 * (k + 1)) t.length = t.length by omega]
    · rw [show min (16 * k) t.length = 16 * k by omega, show min (16 * (k + 1)) t.length = 16 * k + min 16 (t.length - 16 * k) by omega, full_add]
      congr 1
      unfold turnL
      rw [chunk_length, ctr_length, show min (min 16 (t.length - 16 * k)) 16 = min 16 (t.length - 16 * k) by omega]
      refine full_cg fun i hi => ?_
      show (chunk t k).getD i 0 ^^^ _ = _
      rw [chunk_get _ _ _ (by omega)]
      unfold ks
      rw [show (16 * k + i) / 16 = k by omega, show (16 * k + i) % 16 = i by omega]
theorem bodyN_all (W nonce t : List UInt8) (n : Nat) (h : t.length ≤ 16 * n) : bodyN W nonce t n = bodyL W nonce t := by
  rw [bodyN_eq, show min (16 * n) t.length = t.length by omega]; rfl
/-- What came of the chunks so far. -/
def bodyX (W nonce t : List UInt8) (pre : List Nat) : List UInt8 := pre.zipIdx.flatMap fun x => turnL (chunk t x.1) (ctr W nonce (2 + x.2))
theorem bodyX_snoc (W nonce t : List UInt8) (pre : List Nat) (k : Nat) : bodyX W nonce t (pre ++ [k]) = bodyX W nonce t pre ++ turnL (chunk t k) (ctr W nonce (2 + pre.length)) := by
  simp [bodyX, List.zipIdx_append]
theorem bodyX_range (W nonce t : List UInt8) : ∀ n, bodyX W nonce t (List.range n) = bodyN W nonce t n
  | 0 => rfl
  | n + 1 => by rw [List.range_succ, bodyX_snoc, bodyX_range W nonce t n, List.length_range]; rfl
theorem bodyX_len (W nonce t : List UInt8) : ∀ (pre : List Nat) (n : Nat), ((pre.zipIdx n).flatMap fun x => turnL (chunk t x.1) (ctr W nonce (2 + x.2))).length ≤ 16 * pre.length
  | [], n => by simp
  | k :: pre, n => by
    have ih := bodyX_len W nonce t pre (n + 1)
    rw [List.zipIdx_cons, List.flatMap_cons, List.length_append, turnL_length, ctr_length, List.length_cons]
    omega
theorem bodyX_length (W nonce t : List UInt8) (pre : List Nat) : (bodyX W nonce t pre).length ≤ 16 * pre.length := bodyX_len W nonce t pre 0
/-- The sum over blocks. -/
def ghF (h : W2) (all : List UInt8) : Nat → W2
  | 0 => W2.zero
  | k + 1 => W2.times (W2.xr (ghF h all k) (loadL (chunk all k))) h
def lensL (m n : Nat) : List UInt8 := textL ⟨UInt64.ofNat (8 * m), UInt64.ofNat (8 * n)⟩
def allL (beside body : List UInt8) : List UInt8 := fillL beside ++ fillL body ++ lensL beside.length body.length
def tagL (key nonce beside body : List UInt8) : List UInt8 := turnL (textL (ghF (hkey key) (allL beside body) ((allL beside body).length / 16))) (ctr (words key 52) nonce 1)
theorem tagL_length (key nonce beside body : List UInt8) : (tagL key nonce beside body).length = 16 := by
  unfold tagL; rw [turnL_length, text_length, ctr_length]; rfl
def sealL (key nonce beside t : List UInt8) : List UInt8 := bodyL (words key 52) nonce t ++ tagL key nonce beside (bodyL (words key 52) nonce t)
theorem fillL_length (s : List UInt8) : (fillL s).length % 16 = 0 ∧ (fillL s).length ≤ s.length + 15 := by
  unfold fillL; rw [List.length_append, List.length_replicate]; omega
theorem allL_length (beside body : List UInt8) : (allL beside body).length % 16 = 0 ∧ 16 ≤ (allL beside body).length ∧ (allL beside body).length ≤ beside.length + body.length + 46 := by
  have h1 := fillL_length beside
  have h2 := fillL_length body
  unfold allL lensL; rw [List.length_append, List.length_append, text_length]; omega
theorem lens_four (m n : Nat) (hm : m ≤ 100000000) (hn : n ≤ 100000000) : be4 0 ++ be4 (8 * m) ++ be4 0 ++ be4 (8 * n) = lensL m n := by
  have e1 : (UInt64.ofNat (8 * m)).toNat = 8 * m := by simp; omega
  have e2 : (UInt64.ofNat (8 * n)).toNat = 8 * n := by simp; omega
  unfold lensL textL full txF be4
  have hr : List.range 16 = [0, 1, 2, 3, 4, 5, 6, 7, 8, 9, 10, 11, 12, 13, 14, 15] := by decide
  rw [hr]
  simp only [List.map_cons, List.map_nil, List.cons_append, List.nil_append, e1, e2, Nat.reduceLT, if_true, if_false, Nat.reduceMod, Nat.reduceMul, Nat.reduceSub, Nat.reducePow, Nat.zero_div, Nat.div_one]
  rw [show 8 * m / 72057594037927936 = 0 by omega, show 8 * m / 281474976710656 = 0 by omega, show 8 * m / 1099511627776 = 0 by omega, show 8 * m / 4294967296 = 0 by omega, show 8 * n / 72057594037927936 = 0 by omega, show 8 * n / 281474976710656 = 0 by omega, show 8 * n / 1099511627776 = 0 by omega, show 8 * n / 4294967296 = 0 by omega]
end Go.Proofs.Ytcchhfkmhbjdmaa
