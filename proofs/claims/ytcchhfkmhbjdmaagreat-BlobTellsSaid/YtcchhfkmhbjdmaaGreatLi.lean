/- Labels: SortedFunc and sorted, walked. -/
import Derived.Test.YtcchhfkmhbjdmaaGreatLh
import Derived.Shelf.SlSortCmp.NoneTotal
set_option linter.unusedVariables false
set_option linter.unusedSimpArgs false
set_option pp.deepTerms true
set_option pp.maxSteps 100000
namespace Go.Proofs.YtcchhfkmhbjdmaaGreat
open Go.RowKit Go.Shelf Go.Sort
/-- A slice of pairs lies in a world. -/
def PV (w : World) (v : Value) (l : List Pr) : Prop := ∃ a cap, v = .slice a l.length cap ∧ PSl w a l ∧ l.length ≤ cap ∧ cap ≤ 9223372036854775807
theorem PV.frF {w w' : World} {v : Value} {l : List Pr} (h : PV w v l) (hf : Fr (fun _ => False) w w') : PV w' v l := by
  obtain ⟨a, cap, h1, h2, h3⟩ := h
  exact ⟨a, cap, h1, h2.frF hf, h3⟩
set_option maxHeartbeats 2000000 in
theorem sortedFunc_calls (VB b off cap : Nat) (a : Option Addr) (l : List Pr) (ha : l ≠ [] → a = some ⟨b, off, none⟩) (hlc : l.length ≤ cap) (hcap : cap ≤ 9223372036854775807) (h12 : l.length ≤ 12) (hnd : (l.map (·.1)).Nodup) (w : World) (h1 : VB < w.heap.size) (h2 : b < w.heap.size)
    (hVB : w.cell? ⟨VB, 0, none⟩ = some (.slice a l.length cap)) (hPB : PB w b off l) :
    Calls Tryz.prog 44 #[.func (.func 70) #[] #[.pointer (some ⟨VB, 0, none⟩)], .func (.func 46) #[] #[]] w fun e w' => ∃ v, e = .returned v ∧ PV w' v (sortR l) ∧ Fr (fun _ => False) w w' := by
  have HC := Lib.hid (collect_calls VB b off cap a l ha hlc hcap (by omega) w h1 h2 hVB hPB)
  clear ha hlc hcap h1 h2 hVB hPB
  go_enter Tryz.func44, Tryz.ntmps44
  go_wp2_with fail
  refine HC.out.mono ?_
  rintro e w1 ⟨v, rfl, ho, hn, hf⟩
  have HF := Lib.hid hf
  by_cases hl : l = []
  · have hv := hn.2 hl
    subst hv
    have HS := Lib.hid (show ∀ w, Calls Tryz.prog 69 #[.slice none 0 0, .func (.func 46) #[] #[]] w fun e w' => e = .returned (.tuple #[]) ∧ w' = w from fun w => AnyF.slices_SortFunc_none sortP none 0 _ w)
    have HL := Lib.hid hl
    clear ho hn hf hl
    go_wp2_with fail
    refine (HS.out w1).mono ?_
    rintro e w' ⟨rfl, hww⟩
    rw [hww]
    clear hww w'
    go_wp2_with fail
    go_ret
    exact ⟨_, rfl, ⟨none, 0, by rw [HL.out]; rfl, .inl (by rw [HL.out]; rfl), by rw [HL.out]; exact Nat.le_refl _, by decide⟩, HF.out⟩
  · have hr := ho.2
    rcases hr with ⟨h, h0⟩ | ⟨g, cap', cur, rfl, hb, hg, hlc', hcm, hcs, ht⟩
    · exact absurd (hn.1 h) hl
    · have HS := Lib.hid (sortFunc_calls g cap' l h12 w1 cur hg ht)
      have HB := Lib.hid hb
      have HC2 := Lib.hid (And.intro hlc' hcm)
      have hg1 := Lib.hid (lt_of_heap hg)
      have HD := Lib.hid hnd
      clear ho hn hf hl hb hg hcs ht hnd hlc' hcm
      go_wp2_with fail
      refine HS.out.mono ?_
      rintro e w2 ⟨rfl, m, hp, hs, hpb, hf2⟩
      have HM := Lib.hid (sortR_of HD.out hs hp)
      have HPB := Lib.hid hpb
      have HF2 := Lib.hid (HF.out.trans hf2 (fun i hi => .inr (by subst hi; exact HB.out)))
      have HLT := Lib.hid (Nat.lt_of_lt_of_le hg1.out hf2.size)
      clear hp hs hpb hf2
      go_wp2_with fail
      go_ret
      refine ⟨_, rfl, ⟨_, _, by rw [sortR_length]; rfl, .inr ⟨g, 0, rfl, ?_, HLT.out⟩, by rw [sortR_length]; exact HC2.out.1, by have := HC2.out.2; unfold maxLen at this; omega⟩, HF2.out⟩
      rw [← HM.out]; exact HPB.out
set_option maxHeartbeats 2000000 in
theorem sorted_calls (a : Option Addr) (cap : Nat) (l : List Pr) (h12 : l.length ≤ 12) (hnd : (l.map (·.1)).Nodup) (w : World) (hl : PSl w a l) (hlc : l.length ≤ cap) (hcap : cap ≤ 9223372036854775807) :
    Calls Tryz.prog 28 #[.slice a l.length cap] w fun e w' => ∃ v, e = .returned v ∧ PV w' v (sortR l) ∧ Fr (fun _ => False) w w' := by
  obtain ⟨w1, hw1⟩ : ∃ w1, w1 = w.alloc (.cells #[.slice a l.length cap] 24) := ⟨_, rfl⟩
  have hf1 : Fr (fun _ => False) w w1 := by rw [hw1]; exact (Fr.refl _ _).alloc _
  have hb1 : w1.heap[w.heap.size]? = some (.cells #[.slice a l.length cap] 24 (0, 0)) := by rw [hw1]; exact heap_alloc_new w _
  have HS := Lib.hid (show Calls Tryz.prog 44 #[.func (.func 70) #[] #[.pointer (some ⟨w.heap.size, 0, none⟩)], .func (.func 46) #[] #[]] w1 fun e w' => ∃ v, e = .returned v ∧ PV w' v (sortR l) ∧ Fr (fun _ => False) w1 w' by
    have hc : w1.cell? ⟨w.heap.size, 0, none⟩ = some (.slice a l.length cap) := (cell_of_row w1 _ 0 _ _ _ hb1).trans rfl
    rcases hl with hl | ⟨b, off, ha, hpb, hb⟩
    · exact sortedFunc_calls w.heap.size w.heap.size 0 cap a l (fun h => absurd hl h) hlc hcap h12 hnd w1 (lt_of_heap hb1) (lt_of_heap hb1) hc (fun i x hx => by rw [hl] at hx; simp at hx)
    · exact sortedFunc_calls w.heap.size b off cap a l (fun _ => ha) hlc hcap h12 hnd w1 (lt_of_heap hb1) (Nat.lt_of_lt_of_le hb hf1.size) hc (hpb.fr hf1 id))
  have HV := Lib.hid (show Calls Tryz.prog 45 #[.slice a l.length cap] w fun e w' => e = .returned (.func (.func 70) #[] #[.pointer (some ⟨w.heap.size, 0, none⟩)]) ∧ w' = w1 by rw [hw1]; exact values_calls a l.length cap w)
  have HF := Lib.hid hf1
  clear hl hnd hlc hcap hf1 hb1 hw1
  go_enter Tryz.func28, Tryz.ntmps28
  go_wp2_with fail
  refine HV.out.mono ?_
  rintro e w' ⟨rfl, hww⟩
  rw [hww]
  clear hww w'
  go_wp2_with fail
  refine HS.out.mono ?_
  rintro e w2 ⟨v, rfl, hpv, hf2⟩
  have HP := Lib.hid hpv
  have HF2 := Lib.hid (HF.out.trans hf2 (fun i hi => hi.elim))
  clear hpv hf2
  go_wp2_with fail
  go_ret
  exact ⟨v, rfl, HP.out, HF2.out⟩

set_option maxRecDepth 20000 in
set_option maxHeartbeats 1000000 in
theorem right_nil (a : Option Addr) (cap : Nat) (w : World) : Calls Tryz.prog 24 #[.slice a 0 cap] w fun e w' => e = .returned (.bool true) ∧ Fr (fun _ => False) w w' := by
  have hmm := @run_makeMap Tryz.prog
  go_enter Tryz.func24, Tryz.ntmps24
  go_wp2_with fail
  go_loopw [9] (fun i wr => i = .int .i64 0 ∧ Fr (fun _ => False) w wr) (fun _ _ => 0)
  case atStart => exact ⟨rfl, (Fr.refl _ _).alloc _⟩
  case round =>
    obtain ⟨rfl, hf⟩ := hrel
    have HF := Lib.hid hf
    clear hf
    go_wp2_with fail
    go_ret
    exact ⟨rfl, HF.out⟩
theorem right_calls (a : Option Addr) (cap : Nat) (l : List Pr) (hl : l.length ≤ 100000) (hsm : ∀ p ∈ l, p.1.length ≤ 100000 ∧ p.2.length ≤ 100000) (w : World) (hb : PSl w a l) (hlc : l.length ≤ cap) (hcap : cap ≤ 9223372036854775807) :
    Calls Tryz.prog 24 #[.slice a l.length cap] w fun e w' => e = .returned (.bool (rightB l)) ∧ Fr (fun _ => False) w w' := by
  rcases hb with rfl | ⟨b, off, rfl, hpb, hb⟩
  · exact right_nil a cap w
  · exact right_some b off cap l hl hsm w hpb hlc hcap
end Go.Proofs.YtcchhfkmhbjdmaaGreat
