/- Values: List (and the library's Clone) walked. -/
import Derived.Test.YthmpmpepokeedaaNm
set_option linter.unusedVariables false
set_option linter.unusedSimpArgs false
set_option pp.deepTerms true
set_option pp.maxSteps 100000
namespace Go.Proofs.Ythmpmpepokeedaa
open Go.RowKit
attribute [local go_sem] ta_ii ta_is ta_ib ta_il ta_si ta_ss ta_sb ta_sl ta_bi ta_bs ta_bb ta_bl ta_li ta_ls ta_lb ta_ll ta_ni ta_fi ta_ns ta_fs ta_nb ta_fb ta_nl ta_fl
theorem nil_yes (W : World) : (binOp .eql 58 (.slice none 0 0) (.slice none 0 0)).run Try.prog W = .ok (.bool true) W := by kernel_rfl
theorem nil_no (b n c : Nat) (W : World) : (binOp .eql 58 (.slice (some ⟨b, 0, none⟩) n c) (.slice none 0 0)).run Try.prog W = .ok (.bool false) W := by kernel_rfl
set_option maxRecDepth 20000 in
set_option maxHeartbeats 4000000 in
theorem clone_nil (w : World) : Calls Try.prog 59 #[.slice none 0 0] w fun e w' => e = .returned (.slice none 0 0) ∧ w' = w := by
  have hn := nil_yes
  go_enter Try.func59, Try.ntmps59
  go_wp2_with fail
  go_ret
  exact ⟨rfl, rfl⟩
set_option maxRecDepth 20000 in
set_option maxHeartbeats 4000000 in
theorem clone_some (g m cap : Nat) (vs : Nat → Value) (w : World) (hc : ∀ i, i < m → w.cell? ⟨g, i, none⟩ = some (vs i)) (h1 : ∀ i, i < m → (vs i).oneCell' = true) (hm : m ≤ 8796093022208) :
    Calls Try.prog 59 #[.slice (some ⟨g, 0, none⟩) m cap] w fun e w' => ∃ g' cap', e = .returned (.slice (some ⟨g', 0, none⟩) m cap') ∧ m ≤ cap' ∧ cap' ≤ 9223372036854775807 ∧ w.heap.size ≤ g' ∧ (∀ i, i < m → w'.cell? ⟨g', i, none⟩ = some (vs i)) ∧ Fr (fun _ => False) w w' := by
  obtain ⟨i0, hi, hz0, hz1, hz2⟩ := info_parts infoAny
  have HI := Lib.hid (And.intro hi (And.intro hz0 (And.intro hz1 hz2)))
  obtain ⟨w1, hw1⟩ : ∃ w1, w1 = w.alloc (.cells #[] 20) := ⟨_, rfl⟩
  have HOW := Lib.hid (ownA0 w w.heap.size (Nat.le_refl _))
  have HC := Lib.hid (show ∀ (j : Nat) (u : Value), ((List.range m).map vs)[j]? = some u → (w.alloc (.cells #[] 20)).cell? ((⟨g, 0, none⟩ : Addr).add j) = some u from fun j u hj => by
    have hjm : j < m := by have := (List.getElem?_eq_some_iff.1 hj).1; simpa using this
    rw [List.getElem?_map, List.getElem?_range hjm] at hj
    rw [Addr.add_lit, Nat.zero_add]
    rw [← Option.some.inj hj]
    exact ((Fr.refl (fun _ => False) w).alloc _).cell (hc j hjm) id)
  have HL := Lib.hid (show ((List.range m).map vs).length = m * 1 by simp)
  have HO := Lib.hid (show ∀ u ∈ (List.range m).map vs, u.oneCell' = true from fun u hu => by
    obtain ⟨i, hi, rfl⟩ := List.mem_map.1 hu
    exact h1 i (List.mem_range.1 hi))
  have HM := Lib.hid hm
  have hn := nil_no
  clear hi hz0 hz1 hz2 hc h1 hm hw1
  go_enter Try.func59, Try.ntmps59
  go_wp2_with (first | (refine wpList_buildA0 rfl rfl ?_) | (refine wpList_append_own_at (o := ⟨some 7, _, _, _, _, _⟩) _ rfl _ _ 58 rfl w.heap.size 20 i0 .nilIface 1 16 Try.underlying58 HI.out.1 HI.out.2.1 HI.out.2.2.1 HI.out.2.2.2 rfl (by decide) (.slice (some ⟨w.heap.size, 0, none⟩) 0 0) 0 [] rfl HOW.out ⟨g, 0, none⟩ m cap ((List.range m).map vs) rfl HL.out HC.out HO.out ?c3 ?c4 ?c5 ?_))
  case c3 => have := HM.out; unfold maxLen; omega
  case c4 => have := HM.out; omega
  case c5 => simp
  intro v' w3 hown' hgrow hnil hat
  have hf : Fr (fun _ => False) w w3 := ((Fr.refl (fun _ => False) w).alloc (.cells #[] 20)).trans (G := fun k => some k = (Value.slice (some ⟨w.heap.size, 0, none⟩) 0 0).ownBlock) ((Fr.refl _ _).grown hgrow (fun k hk => .inl hk.symm)) (fun i hi => .inr (Nat.le_of_eq (Option.some.inj hi).symm))
  have HF := Lib.hid hf
  have HOwn := Lib.hid hown'
  have hsh : ∃ g' c', v' = .slice (some ⟨g', 0, none⟩) m c' := by
    rcases hown'.2 with ⟨hv, hn⟩ | ⟨g', cp, cur, hv, _⟩
    · exact absurd hv (by simpa using hnil)
    · exact ⟨g', cp, by rw [hv]⟩
  obtain ⟨g', c', rfl⟩ := hsh
  clear hown' hgrow hnil hat hf
  go_wp2_with fail
  go_ret
  rcases HOwn.out.2 with ⟨hv, _⟩ | ⟨g2, cp, cur, hv, hb, hg, hlc, hcm, hcs, ht⟩
  · cases hv
  · cases hv
    refine ⟨_, _, rfl, by omega, by unfold maxLen at hcm; omega, hb, fun i hi => ?_, HF.out⟩
    rw [cell_of_row w3 _ i _ _ _ hg, ← Array.getElem?_toList]
    have h2 : ((cur.toList.take (((List.range m).map vs).length)))[i]? = some (vs i) := by
      rw [show cur.toList.take (((List.range m).map vs).length) = (List.range m).map vs by simpa using ht]
      rw [List.getElem?_map, List.getElem?_range hi]; rfl
    rw [List.getElem?_take] at h2
    split at h2
    · exact h2
    · cases h2
/-- What List hands back. -/
def LsR (w : World) (D : Nat → Prop) (a : AV) (v : Value) : Prop := match a with
  | .row m => ∃ (g cap : Nat) (vs : Nat → Value), v = .slice (some ⟨g, 0, none⟩) m.length cap ∧ m.length ≤ cap ∧ cap ≤ 9223372036854775807 ∧ ∀ i x, m[i]? = some x → w.cell? ⟨g, i, none⟩ = some (vs i) ∧ AR w D x (vs i)
  | _ => v = .slice none 0 0
def rowN : AV → Nat
  | .row m => m.length
  | _ => 0
set_option maxRecDepth 20000 in
set_option maxHeartbeats 4000000 in
theorem list_calls (a : AV) (D : Nat → Prop) (v : Value) (A : Option Addr) (cap : Nat) (l : List Int) (w : World) (hr : AR w D a v) (hl : IntsAt w A l) (hlc : l.length ≤ cap) (hcap : cap ≤ 9223372036854775807) (hn : rowN (withinA a l).1 ≤ 8796093022208) :
    Calls Try.prog 29 #[v, .slice A l.length cap] w fun e w' => ∃ ls, e = .returned (.tuple #[ls, .int .i64 (toldC (okL (withinA a l).1) (withinA a l).2 : Int)]) ∧ LsR w' D (withinA a l).1 ls ∧ Fr (fun _ => False) w w' := by
  have HW := Lib.hid (within_calls a D v A cap l w hr hl hlc hcap)
  generalize l.length = n at HW ⊢
  obtain ⟨R, hR⟩ : ∃ R, R = withinA a l := ⟨_, rfl⟩
  rw [← hR] at HW hn ⊢
  obtain ⟨r1, c2⟩ := R
  dsimp only at HW hn ⊢
  clear hr hl hlc hcap hR
  go_enter Try.func29, Try.ntmps29
  go_wp2_with fail
  refine HW.out.mono ?_
  rintro e w2 ⟨v2, rfl, har, f2⟩
  have HF2 := Lib.hid f2
  clear f2 HW
  cases har with
  | non =>
    have HT := Lib.hid (fun w' => vtold_calls false c2 w')
    obtain ⟨tc, htc⟩ : ∃ t, t = toldC false c2 := ⟨_, rfl⟩
    rw [← htc] at HT
    have HTC := Lib.hid htc
    clear htc

    go_wp2_with fail
    refine (clone_nil _).mono ?_
    rintro e w3 ⟨rfl, rfl⟩
    go_wp2_with fail
    refine (HT.out _).mono ?_
    rintro e w4 ⟨rfl, rfl⟩
    go_wp2_with fail
    go_ret2
    exact ⟨.slice none 0 0, by rw [HTC.out]; rfl, rfl, HF2.out⟩
  | int z =>
    have HT := Lib.hid (fun w' => vtold_calls false c2 w')
    obtain ⟨tc, htc⟩ : ∃ t, t = toldC false c2 := ⟨_, rfl⟩
    rw [← htc] at HT
    have HTC := Lib.hid htc
    clear htc

    go_wp2_with fail
    refine (clone_nil _).mono ?_
    rintro e w3 ⟨rfl, rfl⟩
    go_wp2_with fail
    refine (HT.out _).mono ?_
    rintro e w4 ⟨rfl, rfl⟩
    go_wp2_with fail
    go_ret2
    exact ⟨.slice none 0 0, by rw [HTC.out]; rfl, rfl, HF2.out⟩
  | text s hs =>
    have HT := Lib.hid (fun w' => vtold_calls false c2 w')
    obtain ⟨tc, htc⟩ : ∃ t, t = toldC false c2 := ⟨_, rfl⟩
    rw [← htc] at HT
    have HTC := Lib.hid htc
    clear htc
    obtain ⟨S, hS⟩ : ∃ x, x = str s := ⟨_, rfl⟩
    rw [← hS]
    clear hS
    go_wp2_with fail
    refine (clone_nil _).mono ?_
    rintro e w3 ⟨rfl, rfl⟩
    go_wp2_with fail
    refine (HT.out _).mono ?_
    rintro e w4 ⟨rfl, rfl⟩
    go_wp2_with fail
    go_ret2
    exact ⟨.slice none 0 0, by rw [HTC.out]; rfl, rfl, HF2.out⟩
  | yes z =>
    have HT := Lib.hid (fun w' => vtold_calls false c2 w')
    obtain ⟨tc, htc⟩ : ∃ t, t = toldC false c2 := ⟨_, rfl⟩
    rw [← htc] at HT
    have HTC := Lib.hid htc
    clear htc

    go_wp2_with fail
    refine (clone_nil _).mono ?_
    rintro e w3 ⟨rfl, rfl⟩
    go_wp2_with fail
    refine (HT.out _).mono ?_
    rintro e w4 ⟨rfl, rfl⟩
    go_wp2_with fail
    go_ret2
    exact ⟨.slice none 0 0, by rw [HTC.out]; rfl, rfl, HF2.out⟩
  | row m g cp vs hmc hmcap hD hb hc hh =>
    have HT := Lib.hid (fun w' => vtold_calls true c2 w')
    obtain ⟨tc, htc⟩ : ∃ t, t = toldC true c2 := ⟨_, rfl⟩
    rw [← htc] at HT
    have HTC := Lib.hid htc
    have HH := Lib.hid hh
    have HCl := Lib.hid (clone_some g m.length cp vs w2 (fun i hi => hc i _ (List.getElem?_eq_getElem hi)) (fun i hi => (hh i _ (List.getElem?_eq_getElem hi)).one) hn)
    obtain ⟨q, hq⟩ : ∃ q, q = m.length := ⟨_, rfl⟩
    rw [← hq] at HCl hmc ⊢
    have HQ := Lib.hid hq
    clear htc hh hc hq hn
    go_wp2_with fail
    refine HCl.out.mono ?_
    rintro e w3 ⟨g', c', rfl, h1, h2, h3, h4, f3⟩
    have HF3 := Lib.hid (HF2.out.trans f3 (fun i hi => hi.elim))
    have HX := Lib.hid (And.intro h1 (And.intro h2 (And.intro h4 f3)))
    clear h1 h2 h3 h4 f3
    go_wp2_with fail
    refine (HT.out _).mono ?_
    rintro e w4 ⟨rfl, rfl⟩
    go_wp2_with fail
    go_ret2
    refine ⟨.slice (some ⟨g', 0, none⟩) q c', by rw [HTC.out]; rfl, ⟨g', c', vs, by rw [HQ.out], by rw [← HQ.out]; exact HX.out.1, HX.out.2.1, fun i x hx => ⟨HX.out.2.2.1 i (by rw [HQ.out]; exact (List.getElem?_eq_some_iff.1 hx).1), (HH.out i x hx).frF HX.out.2.2.2⟩⟩, HF3.out⟩
end Go.Proofs.Ythmpmpepokeedaa
