/- The digest: Add. -/
import Derived.Test.YtcchhfkmhbjdmaaJ8
import Derived.Deep.LoopGhost
set_option linter.unusedVariables false
set_option linter.unusedSimpArgs false
set_option pp.deepTerms true
set_option pp.maxSteps 100000
namespace Go.Proofs.Ytcchhfkmhbjdmaa
open Go.RowKit
/-- A tally's row. -/
def TRow (w : World) (T K : Nat) (hl : List UInt32) (l : List UInt8) (n : Nat) : Prop := w.heap[T]? = some (.cells (wcells hl ++ ([.string (str l), .int .i64 (n : Int), .pointer (some ⟨K, 0, none⟩)] : List Value)).toArray 111 (0, 0))
set_option maxRecDepth 20000 in
set_option maxHeartbeats 4000000 in
theorem sha_add (T K : Nat) (t : Tal) (s : List UInt8) (hb : t.n + s.length ≤ 1099511627776) (w : World) (h : TRep w T K t) :
    Calls Try.prog 29 #[.pointer (some ⟨T, 0, none⟩), .string (str s)] w fun e w' => e = .returned (.pointer (some ⟨T, 0, none⟩)) ∧ TRep w' T K (t.add s) ∧ Fr (fun i => i = T) w w' := by
  obtain ⟨n2, hn2⟩ : ∃ n, n = t.n + s.length := ⟨_, rfl⟩
  have hsz : (str s).size = s.length := str_size s
  have c9 := (tcells_cell h.ok.h h.row).2.1
  have c8 := (tcells_cell h.ok.h h.row).1
  have hz9 : w.frozen? ⟨T, 9, none⟩ = false := frozen_of_row w _ _ _ _ h.row
  have hr1 := tcells_set9 h.ok.h h.row (.int .i64 (n2 : Int))
  have hw9 : IntKind.i64.wrap ((t.n : Int) + (s.length : Int)) = (n2 : Int) := by rw [IntWalk.i64_in _ (by omega)]; omega
  have d8 := (tcells_cell h.ok.h hr1).1
  have hz8 : (w.setCell ⟨T, 9, none⟩ (.int .i64 (n2 : Int))).frozen? ⟨T, 8, none⟩ = false := frozen_of_row _ _ _ _ _ hr1
  have hl0 : t.rest.length < 64 := h.ok.rest
  have hsb : ¬ 9223372036854775807 < (str t.rest).size + (str s).size := by rw [str_size, str_size]; omega
  have hr2 := tcells_set8 h.ok.h hr1 (.string (str (t.rest ++ s)))
  have hap := jstr_append t.rest s
  have hf1 : Fr (fun i => i = T) w (w.setCell ⟨T, 9, none⟩ (.int .i64 (n2 : Int))) := (Fr.refl _ _).setCell _ _ (.inl rfl)
  have hf2 : Fr (fun i => i = T) w ((w.setCell ⟨T, 9, none⟩ (.int .i64 (n2 : Int))).setCell ⟨T, 8, none⟩ (.string (str (t.rest ++ s)))) := hf1.setCell _ _ (.inl rfl)
  have HR2 := Lib.hid hr2
  have HF2 := Lib.hid hf2
  have HTAB := Lib.hid h.tab
  have HOK := Lib.hid h.ok
  have HNE := Lib.hid h.ne
  have HN2 := Lib.hid hn2
  have HADD := Lib.hid (h.ok.add s)
  clear h hr1 hr2 hf1 hf2 hn2
  go_enter Try.func29, Try.ntmps29
  go_wp2
  generalize (w.setCell ⟨T, 9, none⟩ (.int .i64 (n2 : Int))).setCell ⟨T, 8, none⟩ (.string (str (t.rest ++ s))) = w1 at HR2 HF2 ⊢
  clear c9 c8 hz9 hw9 d8 hz8 hsb hap
  go_loopg [] (t.rest ++ s).length (fun k wx => ∃ (hl : List UInt32) (l : List UInt8), k = l.length ∧ hl.length = 8 ∧ TRow wx T K hl l n2 ∧ eatAll hl l = eatAll t.h (t.rest ++ s) ∧ l.length ≤ n2 + 64 ∧ Fr (fun i => i = T) w wx)
  case atStart => exact ⟨t.h, t.rest ++ s, rfl, HOK.out.h, HR2.out, rfl, by rw [List.length_append]; have := HN2.out; omega, HF2.out⟩
  case round =>
    obtain ⟨hl, l, hk, hh, hr, he, hll, hf⟩ := hrel
    have HKL := Lib.hid hk
    have HH := Lib.hid hh
    have HR := Lib.hid hr
    have HE := Lib.hid he
    have HF := Lib.hid hf
    have c8 := (tcells_cell hh (show wr.heap[T]? = some (.cells (wcells hl ++ ([.string (str l), .int .i64 (n2 : Int), .pointer (some ⟨K, 0, none⟩)] : List Value)).toArray 111 (0, 0)) from hr)).1
    have hs2 : (str l).size = l.length := str_size l
    have HN := Lib.hid (show l.length ≤ 2199023255552 by have := HN2.out; omega)
    have HLL := Lib.hid hll
    clear hr he hf hk hh HR2 HF2 hll
    by_cases hlt : 64 ≤ l.length
    · have hd : (64 : Int) ≤ (l.length : Int) := by omega
      have hx1 : (str l).extract 0 64 = str (l.take 64) := jstr_take l 64
      have hx2 : (str l).extract 64 l.length = str (l.drop 64) := by rw [← hs2]; exact jstr_drop l 64
      have HB := Lib.hid (show (l.take 64).length = 64 by rw [List.length_take]; omega)
      go_wp2_with fail
      refine (press_sha T K hl HH.out (.string (str l)) (.int .i64 (n2 : Int)) (l.take 64) HB.out wr HR.out (HF.out.heap HTAB.out HNE.out)).mono ?_
      rintro e w2 ⟨rfl, h2, hf2⟩
      have HCL := Lib.hid (comp_length hl (l.take 64))
      have c82 := (tcells_cell HCL.out h2).1
      have hz82 : w2.frozen? ⟨T, 8, none⟩ = false := frozen_of_row w2 _ _ _ _ h2
      have HR3 := Lib.hid (tcells_set8 HCL.out h2 (.string (str (l.drop 64))))
      have HF3 := Lib.hid (((HF.out.trans hf2 (fun i hi => .inl hi)).setCell ⟨T, 8, none⟩ (.string (str (l.drop 64))) (.inl rfl)))
      clear h2 hf2 c8
      go_wp2_with fail
      have HE3 := Lib.hid (show eatAll (comp hl (l.take 64)) (l.drop 64) = eatAll t.h (t.rest ++ s) by rw [← HE.out, eatAll_step hl l hlt])
      go_roundg (l.drop 64).length
      case measure => rw [List.length_drop]; have := HKL.out; omega
      case rel => exact ⟨_, _, rfl, HCL.out, HR3.out, HE3.out, by rw [List.length_drop]; have := HLL.out; omega, HF3.out⟩
    · have hd : ¬ (64 : Int) ≤ (l.length : Int) := by omega
      have hev : eatAll t.h (t.rest ++ s) = (hl, l) := by rw [← HE.out, eatAll_done hl l (by omega)]
      have HT := Lib.hid (show TRep wr T K (t.add s) by
        refine ⟨?_, HF.out.heap HTAB.out HNE.out, HNE.out, HADD.out⟩
        unfold tcells Tal.add
        rw [hev, ← HN2.out]
        exact HR.out)
      clear hev
      go_wp2_with fail
      go_ret
      exact ⟨rfl, HT.out, HF.out⟩
end Go.Proofs.Ytcchhfkmhbjdmaa
