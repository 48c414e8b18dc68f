/- Blobs: the plain law. -/
import Derived.Test.YtcchhfkmhbjdmaaGreatPm5
import Derived.Test.YtcchhfkmhbjdmaaGreatLk
set_option linter.unusedVariables false
set_option linter.unusedSimpArgs false
namespace Go.Proofs.YtcchhfkmhbjdmaaGreat
open Go.RowKit
theorem runesW_half (f : Bool) (l : List UInt8) (n : Nat) (h : runesW f l = some n) : l.length ≤ 2 * n := by
  fun_induction runesW f l generalizing n with
  | case1 => simp
  | case2 f c r hc ih =>
    simp only [Option.map_eq_some_iff] at h
    obtain ⟨m, hm, rfl⟩ := h
    have := ih m hm
    simp; omega
  | case3 => cases h
  | case4 f c hc d r' h2 ih =>
    simp only [Option.map_eq_some_iff] at h
    obtain ⟨m, hm, rfl⟩ := h
    have := ih m hm
    simp; omega
  | case5 => cases h
theorem runesL_len (l : List UInt8) (h : 0 < runesL l) : l.length ≤ 64 := by
  unfold runesL at h
  split at h
  · omega
  · rename_i h32
    unfold runesN at h h32
    cases hr : runesW true l with
    | none => rw [hr] at h; simp at h
    | some n =>
      rw [hr] at h32
      have := runesW_half _ _ _ hr
      simp at h32
      omega
/-- A head. -/
structure Hd where
  id : List UInt8
  ver : Int
  nonce : List UInt8
def okH (h : Hd) : Bool := decide (0 < runesL h.id) && decide (1 ≤ h.ver) && decide (h.ver ≤ 8) && decide (h.nonce.length = 12)
theorem okH_iff (h : Hd) : okH h = true ↔ 0 < runesL h.id ∧ 1 ≤ h.ver ∧ h.ver ≤ 8 ∧ h.nonce.length = 12 := by
  simp [okH, and_assoc]
def verB (v : Int) : UInt8 := UInt8.ofNat (v % 256).toNat
theorem verB_int (v : Int) : v % 256 = ((verB v).toNat : Int) := by
  unfold verB
  simp
  omega
theorem verB_ok (v : Int) (h1 : 1 ≤ v) (h8 : v ≤ 8) : ((verB v).toNat : Int) = v := by rw [← verB_int]; omega
def headL (h : Hd) : List UInt8 := [75, 49] ++ ([UInt8.ofNat h.id.length] ++ (h.id ++ ([verB h.ver] ++ h.nonce)))
theorem headL_length (h : Hd) : (headL h).length = h.id.length + h.nonce.length + 4 := by
  simp [headL]; omega
/-- What a blob's bytes tell: its head, and what is sealed. -/
def restB (b : List UInt8) (n : Nat) : List UInt8 := b.drop (n + 16)
def hdB (b : List UInt8) (n : Nat) : Hd := ⟨(b.drop 3).take n, ((b.getD (n + 3) 0).toNat : Int), (b.drop (n + 4)).take 12⟩
def nB (b : List UInt8) : Nat := (b.getD 2 0).toNat
def goodB (b : List UInt8) : Bool := decide (b.take 2 = [75, 49]) && decide (3 ≤ b.length) && okH (hdB b (nB b)) && decide (nB b + 32 ≤ b.length) && decide (b.length ≤ nB b + 1056)
theorem okH_len {h : Hd} (ho : okH h = true) : h.id.length ≤ 64 ∧ h.nonce.length = 12 := by
  obtain ⟨a, b, c, d⟩ := (okH_iff h).1 ho
  exact ⟨runesL_len _ a, d⟩
theorem nB_head (h : Hd) (ho : okH h = true) (s : List UInt8) : nB (headL h ++ s) = h.id.length := by
  have := (okH_len ho).1
  simp [nB, headL]
  omega
theorem hdB_head (h : Hd) (ho : okH h = true) (s : List UInt8) : hdB (headL h ++ s) h.id.length = h := by
  obtain ⟨hi, hn⟩ := okH_len ho
  obtain ⟨_, h1, h8, _⟩ := (okH_iff h).1 ho
  cases h with
  | mk i v n =>
    simp only at hi hn h1 h8
    have e1 : ((headL ⟨i, v, n⟩ ++ s).drop 3) = i ++ ([verB v] ++ (n ++ s)) := by simp [headL]
    have e2 : ((headL ⟨i, v, n⟩ ++ s).drop (i.length + 4)) = n ++ s := by
      have : i.length + 4 = 3 + (i.length + 1) := by omega
      rw [this, ← List.drop_drop, e1, ← List.append_assoc, List.drop_left' (by simp)]
    have e3 : ((headL ⟨i, v, n⟩ ++ s).getD (i.length + 3) 0) = verB v := by
      have : (headL ⟨i, v, n⟩ ++ s).getD (i.length + 3) 0 = ((headL ⟨i, v, n⟩ ++ s).drop 3).getD i.length 0 := by
        simp [List.getD_eq_getElem?_getD, List.getElem?_drop, Nat.add_comm]
      rw [this, e1]
      simp [List.getD_eq_getElem?_getD]
    unfold hdB
    rw [e1, e2, e3]
    congr 1
    · simp
    · exact verB_ok v h1 h8
    · rw [List.take_left' hn]
theorem restB_head (h : Hd) (ho : okH h = true) (s : List UInt8) : restB (headL h ++ s) h.id.length = s := by
  unfold restB
  rw [List.drop_left']
  have := headL_length h
  have := (okH_len ho).2
  omega
theorem goodB_head (h : Hd) (ho : okH h = true) (s : List UInt8) (h16 : 16 ≤ s.length) (hs : s.length ≤ 1040) : goodB (headL h ++ s) = true := by
  have hn := nB_head h ho s
  have hh := hdB_head h ho s
  obtain ⟨hi, h12⟩ := okH_len ho
  have hl := headL_length h
  unfold goodB
  rw [hn, hh, ho, List.length_append]
  simp only [Bool.and_eq_true, decide_eq_true_eq]
  refine ⟨⟨⟨⟨by simp [headL], by omega⟩, trivial⟩, by omega⟩, by omega⟩
theorem headL_inj {g h : Hd} (hg : okH g = true) (hh : okH h = true) {s t : List UInt8} (e : headL g ++ s = headL h ++ t) : g = h := by
  have n1 := nB_head g hg s
  have n2 := nB_head h hh t
  have h1 := hdB_head g hg s
  have h2 := hdB_head h hh t
  rw [e] at n1 h1
  rw [n2] at n1
  rw [← n1] at h1
  rw [← h1, h2]
/-- A blob. -/
def blobL (key : List UInt8) (h : Hd) (c : List Pr) (text : List UInt8) : List UInt8 := headL h ++ sealL key h.nonce (headL h ++ textOf c) text
theorem sealL_length (key nonce beside t : List UInt8) : (sealL key nonce beside t).length = t.length + 16 := by
  unfold sealL
  rw [List.length_append, bodyL_length, tagL_length]
theorem blobL_length (key : List UInt8) (h : Hd) (ho : okH h = true) (c : List Pr) (text : List UInt8) : (blobL key h c text).length = 32 + h.id.length + text.length := by
  unfold blobL
  have := okH_len ho
  rw [List.length_append, headL_length, sealL_length]
  omega
theorem textOf_len {c : List Pr} (h : rightB c = true) : (textOf c).length ≤ 784 := by
  obtain ⟨h1, _, h8⟩ := (rightB_iff c).1 h
  unfold textOf
  have := textL_length (sortR c) (fun p hp => prOk_le (h1 p ((sortR_perm c).mem_iff.1 hp)))
  rw [sortR_length] at this
  omega
end Go.Proofs.YtcchhfkmhbjdmaaGreat
