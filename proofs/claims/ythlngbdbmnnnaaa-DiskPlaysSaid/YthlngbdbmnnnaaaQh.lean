/- Disks: sectors as texts; rows of texts that are written; the document's fill, walked. -/
import Derived.Test.YthlngbdbmnnnaaaQg
set_option linter.unusedVariables false
set_option linter.unusedSimpArgs false
set_option pp.deepTerms true
set_option pp.maxSteps 100000
namespace Go.Proofs.Ythlngbdbmnnnaaa
open Go.RowKit
theorem str_take (a : List UInt8) (n : Nat) : (str a).extract 0 n = str (a.take n) := by
  apply ByteArray.ext
  simp [str]
theorem str_drop (a : List UInt8) (n : Nat) : (str a).extract n (str a).size = str (a.drop n) := by
  apply ByteArray.ext
  simp [str, ByteArray.size]
  exact List.take_of_length_le (by simp)
def secs (n : Nat) (L : List UInt8) : List ByteArray := (List.range n).map fun (p : Nat) => str ((L.drop (64 * p)).take 64)
theorem secs_length (n : Nat) (L : List UInt8) : (secs n L).length = n := by simp [secs]
theorem secs_get (n : Nat) (L : List UInt8) (p : Nat) (h : p < n) : (secs n L)[p]? = some (str ((L.drop (64 * p)).take 64)) := by simp [secs, h]
theorem secs_splice (n : Nat) (L : List UInt8) (p : Nat) (cs : List UInt8) (hp : p < n) (hL : L.length = 64 * n) (hc : cs.length ≤ 64) :
    secs n (splice L (64 * p) cs) = (secs n L).set p (str (cs ++ ((L.drop (64 * p)).take 64).drop cs.length)) := by
  apply List.ext_getElem?
  intro q
  by_cases hq : q < n
  · rw [secs_get _ _ _ hq, List.getElem?_set, secs_length]
    by_cases e : p = q
    · subst e
      rw [if_pos rfl, if_pos hp]
      congr 2
      apply List.ext_getElem?
      intro j
      rw [List.getElem?_take, List.getElem?_drop, splice_get _ _ _ (by omega), List.getElem?_append, List.getElem?_drop, List.getElem?_take, List.getElem?_drop]
      by_cases hj : j < 64
      · rw [if_pos hj]
        by_cases hc' : j < cs.length
        · rw [if_pos (by omega), if_pos hc', show 64 * p + j - 64 * p = j by omega]
        · rw [if_neg (by omega), if_neg hc', if_pos (by omega), show 64 * p + (cs.length + (j - cs.length)) = 64 * p + j by omega]
      · rw [if_neg hj, if_neg (by omega), if_neg (by omega)]
    · rw [if_neg e, secs_get _ _ _ hq]
      congr 2
      apply List.ext_getElem?
      intro j
      rw [List.getElem?_take, List.getElem?_drop, splice_get _ _ _ (by omega), List.getElem?_take, List.getElem?_drop]
      by_cases hj : j < 64
      · rw [if_pos hj, if_pos hj, if_neg (by omega)]
      · rw [if_neg hj, if_neg hj]
  · rw [List.getElem?_eq_none (by rw [secs_length]; omega), List.getElem?_eq_none (by simp [secs_length]; omega)]
theorem sec_length (n : Nat) (L : List UInt8) (p : Nat) (hp : p < n) (hL : L.length = 64 * n) : ((L.drop (64 * p)).take 64).length = 64 := by simp; omega
theorem flat_strC (l : List ByteArray) : l.flatMap strC = l.map Value.string := by
  induction l with
  | nil => rfl
  | cons x r ih => rw [List.flatMap_cons, ih]; rfl
/-- A place of an owned row of texts is written. -/
theorem own_set {w : World} {B : Nat} {v : Value} {l : List ByteArray} (h : w.ownsRow B 9 1 v l.length (l.flatMap strC)) {p : Nat} (hp : p < l.length) :
    ∃ g cap, v = .slice (some ⟨g, 0, none⟩) l.length cap ∧ l.length ≤ cap ∧ cap ≤ 9223372036854775807 ∧ B ≤ g ∧ g < w.heap.size ∧ w.cell? ⟨g, p, none⟩ = some (.string l[p]) ∧ w.frozen? ⟨g, p, none⟩ = false ∧
      ∀ s, (w.setCell ⟨g, p, none⟩ (.string s)).ownsRow B 9 1 v l.length ((l.set p s).flatMap strC) := by
  rcases h.2 with ⟨rfl, h0⟩ | ⟨g, cap, cur, rfl, hb, hg, hnc, hcm, hcs, ht⟩
  · omega
  · rw [Nat.mul_one] at hcs ht
    rw [flat_strC] at ht
    have hc : cur[p]? = some (.string l[p]) := by
      have h1 : (cur.toList.take l.length)[p]? = some (.string l[p]) := by rw [ht]; simp [hp]
      rw [List.getElem?_take, if_pos hp] at h1
      rw [← h1]; simp
    refine ⟨g, cap, rfl, hnc, hcm, hb, lt_of_heap hg, (cell_of_row w g p _ _ _ hg).trans hc, frozen_of_row w _ _ _ _ hg, fun s => ⟨by rw [flat_strC]; simp, .inr ⟨g, cap, cur.setIfInBounds p (.string s), rfl, hb, heap_setCell_same w g p _ _ _ hg, hnc, hcm, by simp [hcs], ?_⟩⟩⟩
    rw [Nat.mul_one, flat_strC, Array.toList_setIfInBounds, List.map_set, ← ht, List.take_set]
theorem fill_zero (l : List UInt8) (h : l.length = 64) : Dk.fill l = l := by simp [Dk.fill, h]
set_option maxRecDepth 20000 in
set_option maxHeartbeats 1000000 in
theorem reffill_calls (l : List UInt8) (hl : l.length ≤ 64) (w : World) : Calls Try.prog 46 #[.string (str l)] w fun e w' => e = .returned (.string (str (Dk.fill l))) ∧ Fr (fun _ => False) w w' := by
  obtain ⟨R, hR⟩ : ∃ r, r = str (Dk.fill l) := ⟨_, rfl⟩
  have HR := Lib.hid hR
  rw [← hR]
  clear hR
  obtain ⟨S, hS⟩ : ∃ s, s = str l := ⟨_, rfl⟩
  have HS := Lib.hid hS
  rw [← hS]
  clear hS
  go_enter Try.func46, Try.ntmps46
  go_wp2_with fail
  go_loopw [0] (fun v wr => ∃ k : Nat, l.length + k ≤ 64 ∧ v = .string (str (l ++ List.replicate k 0)) ∧ Fr (fun _ => False) w wr) (fun v _ => match v with | .string s => 64 - s.size | _ => 0)
  case atStart => exact ⟨0, by omega, by rw [HS.out]; simp, Fr.refl _ _⟩
  case round =>
    obtain ⟨k, hk, rfl, hfr⟩ := hrel
    have HF := Lib.hid hfr
    clear hfr
    obtain ⟨T, hT⟩ : ∃ t, t = str (l ++ List.replicate k 0) := ⟨_, rfl⟩
    obtain ⟨n, hn⟩ : ∃ n, n = T.size := ⟨_, rfl⟩
    have hnl : n = l.length + k := by rw [hn, hT, str_size]; simp
    have hn' : T.size = n := hn.symm
    rw [← hT]
    by_cases h64 : n < 64
    · obtain ⟨U, hU⟩ : ∃ t, T ++ (⟨#[0]⟩ : ByteArray) = t := ⟨_, rfl⟩
      have hUs : U = str (l ++ List.replicate (k + 1) 0) := by
        rw [← hU, hT, show (⟨#[0]⟩ : ByteArray) = str [0] from rfl, str_append, List.append_assoc, List.replicate_succ']
      have hz : T.size + (⟨#[0]⟩ : ByteArray).size ≤ 9223372036854775807 := by rw [hn']; show n + 1 ≤ _; omega
      have hz2 : ¬ 9223372036854775807 < T.size + (⟨#[0]⟩ : ByteArray).size := by omega
      have d1 : decide ((n : Int) < 64) = true := decide_eq_true (by omega)
      have d2 : decide (n < 64) = true := decide_eq_true h64
      have d3 : (n : Int) < 64 := by omega
      have HU := Lib.hid hUs
      have HNL := Lib.hid hnl
      clear hT hn hnl hUs
      go_wp2_with fail
      go_roundw
      case rel => exact ⟨k + 1, by have := HNL.out; omega, by rw [HU.out], HF.out⟩
      case measure =>
        show 64 - U.size < 64 - T.size
        rw [HU.out, str_size, hn']
        have := HNL.out
        simp; omega
    · have hres : T = R := by
        rw [hT, HR.out]; unfold Dk.fill; rw [show 64 - l.length = k by omega]
      have d1 : decide ((n : Int) < 64) = false := decide_eq_false (by omega)
      have d2 : decide (n < 64) = false := decide_eq_false h64
      have d3 : ¬ (n : Int) < 64 := by omega
      have HRS := Lib.hid hres
      clear hT hn hnl hres
      go_wp2_with fail
      go_ret
      exact ⟨by rw [HRS.out]; rfl, HF.out⟩
end Go.Proofs.Ythlngbdbmnnnaaa
