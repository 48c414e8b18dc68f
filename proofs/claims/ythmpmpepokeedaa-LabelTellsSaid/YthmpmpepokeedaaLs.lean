/- LabelOrder: the plain law and the walk. -/
import Derived.Test.YthmpmpepokeedaaLo
set_option linter.unusedVariables false
set_option linter.unusedSimpArgs false
set_option pp.deepTerms true
set_option pp.maxSteps 100000
namespace Go.Proofs.Ythmpmpepokeedaa
open Go.RowKit
theorem textOf_perm {l m : List Pr} (h : rightB l = true) (hp : l.Perm m) : textOf l = textOf m := by
  unfold textOf
  rw [sortR_congr ((rightB_iff l).1 h).2.1 hp]
theorem eqB_sort {l : List Pr} (h : rightB l = true) : eqB (sortR l) l = true := by
  unfold eqB
  rw [rightB_perm (sortR_perm l), h, ← sortR_congr ((rightB_iff l).1 h).2.1 (sortR_perm l).symm]
  simp
theorem subB_self {l : List Pr} (h : rightB l = true) : subB l l = true := by
  unfold subB
  rw [h]
  simp only [Bool.true_and, List.all_eq_true, List.contains_iff_mem]
  exact fun p hp => hp
theorem text_iff {l m : List Pr} (h : rightB l = true) (k : rightB m = true) : decide (textOf l = textOf m) = eqB l m := by
  unfold eqB
  rw [h, k, Bool.true_and, Bool.true_and]
  have hs : rightB (sortR l) = true := by rw [rightB_perm (sortR_perm l)]; exact h
  have ks : rightB (sortR m) = true := by rw [rightB_perm (sortR_perm m)]; exact k
  have : textOf l = textOf m ↔ sortR l = sortR m := ⟨fun e => textL_inj (right_small hs) (right_small ks) e, fun e => by unfold textOf; rw [e]⟩
  exact decide_eq_decide.2 this
theorem few_small {l : List Pr} (h : fewB l = true) : l.length ≤ 100000 ∧ ∀ p ∈ l, p.1.length ≤ 100000 ∧ p.2.length ≤ 100000 := by
  have := (fewB_iff l).1 h
  exact ⟨by omega, fun p hp => by have := this.2 p hp; omega⟩
theorem rev_take (l : List Pr) (k q : Nat) (h : k + q + 1 = l.length) : l.reverse.take (k + 1) = l.reverse.take k ++ [l[q]'(by omega)] := by
  rw [List.take_succ_eq_append_getElem (by rw [List.length_reverse]; omega)]
  congr 2
  rw [List.getElem_reverse]
  congr 1
  omega
set_option maxRecDepth 20000 in
set_option maxHeartbeats 1000000 in
theorem order_many (a b : Option Addr) (cap cap2 : Nat) (l m : List Pr) (w : World) (hl : PSl w a l) (hm : PSl w b m) (hlc : l.length ≤ cap) (hcap : cap ≤ 9223372036854775807) (hmc : m.length ≤ cap2) (hcap2 : cap2 ≤ 9223372036854775807) (h : fewB l = false ∨ fewB m = false) :
    Calls Try.prog 9 #[.slice a l.length cap, .slice b m.length cap2] w fun e w' => e = .returned (.bool true) ∧ Fr (fun _ => False) w w' := by
  have H1 := Lib.hid (show ∀ w', Fr (fun _ => False) w w' → Calls Try.prog 33 #[.slice a l.length cap] w' fun e w2 => e = .returned (.bool (fewB l)) ∧ Fr (fun _ => False) w' w2 from fun w' hf => few_calls a cap l w' (hl.frF hf) hlc hcap)
  have H2 := Lib.hid (show ∀ w', Fr (fun _ => False) w w' → Calls Try.prog 33 #[.slice b m.length cap2] w' fun e w2 => e = .returned (.bool (fewB m)) ∧ Fr (fun _ => False) w' w2 from fun w' hf => few_calls b cap2 m w' (hm.frF hf) hmc hcap2)
  clear hl hm hlc hcap hmc hcap2
  generalize l.length = n at H1 ⊢
  generalize m.length = n2 at H2 ⊢
  generalize fewB l = x at H1 h
  generalize fewB m = y at H2 h
  cases x with
  | false =>
    clear h H2
    go_enter Try.func9, Try.ntmps9
    go_wp2_with fail
    refine (label_awake _).mono ?_
    rintro e w1 ⟨rfl, f1⟩
    have G1 := Lib.hid f1
    clear f1
    go_wp2_with fail
    refine (H1.out w1 G1.out).mono ?_
    rintro e w2 ⟨rfl, f2⟩
    have G2 := Lib.hid (G1.out.trans f2 (fun i hi => hi.elim))
    clear f2
    go_wp2_with fail
    go_ret
    exact ⟨rfl, G2.out⟩
  | true =>
    obtain rfl : y = false := by rcases h with h | h; cases h; exact h
    clear h
    go_enter Try.func9, Try.ntmps9
    go_wp2_with fail
    refine (label_awake _).mono ?_
    rintro e w1 ⟨rfl, f1⟩
    have G1 := Lib.hid f1
    clear f1
    go_wp2_with fail
    refine (H1.out w1 G1.out).mono ?_
    rintro e w2 ⟨rfl, f2⟩
    have G2 := Lib.hid (G1.out.trans f2 (fun i hi => hi.elim))
    clear f2
    go_wp2_with fail
    refine (H2.out w2 G2.out).mono ?_
    rintro e w3 ⟨rfl, f3⟩
    have G3 := Lib.hid (G2.out.trans f3 (fun i hi => hi.elim))
    clear f3
    go_wp2_with fail
    go_ret
    exact ⟨rfl, G3.out⟩
set_option maxRecDepth 20000 in
set_option maxHeartbeats 8000000 in
theorem order_few (a b : Option Addr) (cap cap2 : Nat) (l m : List Pr) (w : World) (hl : PSl w a l) (hm : PSl w b m) (hlc : l.length ≤ cap) (hcap : cap ≤ 9223372036854775807) (hmc : m.length ≤ cap2) (hcap2 : cap2 ≤ 9223372036854775807) (h1 : fewB l = true) (h2 : fewB m = true) :
    Calls Try.prog 9 #[.slice a l.length cap, .slice b m.length cap2] w fun e w' => e = .returned (.bool true) ∧ Fr (fun _ => False) w w' := by
  obtain ⟨i0, hi, hz0, hz1, hz2⟩ := info_parts infoP
  have HI := Lib.hid (And.intro hi (And.intro hz0 (And.intro hz1 hz2)))
  have hs1 := few_small h1
  have hs2 := few_small h2
  have hl20 := ((fewB_iff l).1 h1).1
  have H1 := Lib.hid (show ∀ w', Fr (fun _ => False) w w' → Calls Try.prog 33 #[.slice a l.length cap] w' fun e w2 => e = .returned (.bool true) ∧ Fr (fun _ => False) w' w2 from fun w' hf => by rw [← h1]; exact few_calls a cap l w' (hl.frF hf) hlc hcap)
  have H2 := Lib.hid (show ∀ w', Fr (fun _ => False) w w' → Calls Try.prog 33 #[.slice b m.length cap2] w' fun e w2 => e = .returned (.bool true) ∧ Fr (fun _ => False) w' w2 from fun w' hf => by rw [← h2]; exact few_calls b cap2 m w' (hm.frF hf) hmc hcap2)
  have HTa := Lib.hid (show ∀ w', Fr (fun _ => False) w w' → Calls Try.prog 34 #[.slice a l.length cap] w' fun e w2 => e = .returned (.tuple #[.string (str (if rightB l then textOf l else [])), .int .i64 (if rightB l then 0 else 2)]) ∧ Fr (fun _ => False) w' w2 from fun w' hf => text_calls a cap l hs1.1 hs1.2 w' (hl.frF hf) hlc hcap)
  have HTb := Lib.hid (show ∀ w', Fr (fun _ => False) w w' → Calls Try.prog 34 #[.slice b m.length cap2] w' fun e w2 => e = .returned (.tuple #[.string (str (if rightB m then textOf m else [])), .int .i64 (if rightB m then 0 else 2)]) ∧ Fr (fun _ => False) w' w2 from fun w' hf => text_calls b cap2 m hs2.1 hs2.2 w' (hm.frF hf) hmc hcap2)
  have HTt := Lib.hid (show ∀ w' c cc, PSl w' c l.reverse → l.reverse.length ≤ cc → cc ≤ 9223372036854775807 → Calls Try.prog 34 #[.slice c l.length cc] w' fun e w2 => e = .returned (.tuple #[.string (str (if rightB l then textOf l else [])), .int .i64 (if rightB l then 0 else 2)]) ∧ Fr (fun _ => False) w' w2 from fun w' c cc hp hc1 hc2 => by
    have h := text_calls c cc l.reverse (by rw [List.length_reverse]; exact hs1.1) (fun p hp => hs1.2 p (List.mem_reverse.1 hp)) w' hp hc1 hc2
    rw [← rightB_perm (List.reverse_perm l).symm, List.length_reverse] at h
    have e : (if rightB l then textOf l.reverse else []) = (if rightB l then textOf l else []) := by
      cases hr : rightB l with
      | false => rfl
      | true => rw [if_pos rfl, if_pos rfl, textOf_perm hr (List.reverse_perm l).symm]
    rw [e] at h
    exact h)
  have HEaa := Lib.hid (show ∀ w', Fr (fun _ => False) w w' → Calls Try.prog 44 #[.slice a l.length cap, .slice a l.length cap] w' fun e w2 => e = .returned (.bool (eqB l l)) ∧ Fr (fun _ => False) w' w2 from fun w' hf => equal_calls a a cap cap l l hs1.1 hs1.2 hs1.1 hs1.2 w' (hl.frF hf) (hl.frF hf) hlc hcap hlc hcap)
  have HEab := Lib.hid (show ∀ w', Fr (fun _ => False) w w' → Calls Try.prog 44 #[.slice a l.length cap, .slice b m.length cap2] w' fun e w2 => e = .returned (.bool (eqB l m)) ∧ Fr (fun _ => False) w' w2 from fun w' hf => equal_calls a b cap cap2 l m hs1.1 hs1.2 hs2.1 hs2.2 w' (hl.frF hf) (hm.frF hf) hlc hcap hmc hcap2)
  have HSaa := Lib.hid (show ∀ w', Fr (fun _ => False) w w' → Calls Try.prog 42 #[.slice a l.length cap, .slice a l.length cap] w' fun e w2 => e = .returned (.bool (subB l l)) ∧ Fr (fun _ => False) w' w2 from fun w' hf => subset_calls a a cap cap l l hs1.1 hs1.2 hs1.1 hs1.2 w' (hl.frF hf) (hl.frF hf) hlc hcap hlc hcap)
  have HEsa := Lib.hid (show ∀ w' c cc, Fr (fun _ => False) w w' → PSl w' c (sortR l) → (sortR l).length ≤ cc → cc ≤ 9223372036854775807 → Calls Try.prog 44 #[.slice c (sortR l).length cc, .slice a l.length cap] w' fun e w2 => e = .returned (.bool (eqB (sortR l) l)) ∧ Fr (fun _ => False) w' w2 from fun w' c cc hf hp hc1 hc2 => equal_calls c a cc cap (sortR l) l (by rw [sortR_length]; exact hs1.1) (fun p hp => hs1.2 p ((sortR_perm l).mem_iff.1 hp)) hs1.1 hs1.2 w' hp (hl.frF hf) hc1 hc2 hlc hcap)
  have HL := Lib.hid (And.intro hl hl20)
  obtain ⟨n, hn⟩ : ∃ n, n = l.length := ⟨_, rfl⟩
  obtain ⟨n2, hn2⟩ : ∃ n, n = m.length := ⟨_, rfl⟩
  have HN := Lib.hid hn
  have hn20 : n ≤ 20 := by omega
  have hncap : n ≤ cap := by omega
  rw [← hn] at H1 HTt HTa HEaa HEab HSaa HEsa ⊢
  rw [← hn2] at H2 HTb HEab ⊢
  have hw0 : IntKind.i64.wrap ((n : Int) - 1) = (n : Int) - 1 := IntWalk.i64_in _ (by omega)
  obtain ⟨SL, hSL⟩ : ∃ s, s = str (if rightB l then textOf l else []) := ⟨_, rfl⟩
  obtain ⟨SM, hSM⟩ : ∃ s, s = str (if rightB m then textOf m else []) := ⟨_, rfl⟩
  obtain ⟨eL, heL⟩ : ∃ s, s = (if rightB l then (0 : Int) else 2) := ⟨_, rfl⟩
  obtain ⟨eM, heM⟩ : ∃ s, s = (if rightB m then (0 : Int) else 2) := ⟨_, rfl⟩
  rw [← hSL, ← heL] at HTa HTt
  rw [← hSM, ← heM] at HTb
  have HSL := Lib.hid (And.intro hSL heL)
  have HSM := Lib.hid (And.intro hSM heM)
  clear hi hz0 hz1 hz2 hs1 hs2 hl hm hlc hmc hcap2 h1 h2 hn hn2 hl20 hSL hSM heL heM
  go_enter Try.func9, Try.ntmps9
  go_wp2_with fail
  refine (label_awake _).mono ?_
  rintro e w1 ⟨rfl, f1⟩
  have G1 := Lib.hid f1
  clear f1
  go_wp2_with fail
  refine (H1.out w1 G1.out).mono ?_
  rintro e w2 ⟨rfl, f2⟩
  have G2 := Lib.hid (G1.out.trans f2 (fun i hi => hi.elim))
  clear f2
  go_wp2_with fail
  refine (H2.out w2 G2.out).mono ?_
  rintro e w3 ⟨rfl, f3⟩
  have G3 := Lib.hid (G2.out.trans f3 (fun i hi => hi.elim))
  clear f3
  go_wp2_with fail
  go_loopw [5, 6] (fun v i wr => ∃ (x : Int) (k : Nat), i = .int .i64 x ∧ k ≤ n ∧ x = (n : Int) - 1 - (k : Int) ∧ Fr (fun _ => False) w wr ∧ wr.ownsRow w.heap.size 77 2 v (l.reverse.take k).length ((l.reverse.take k).flatMap encP)) (fun _ i _ => (intOf i + 1).toNat)
  case atStart => exact ⟨_, 0, rfl, Nat.zero_le _, by omega, G3.out, ⟨rfl, .inl ⟨rfl, rfl⟩⟩⟩
  case round =>
    obtain ⟨x, k, rfl, hk, hx, hfr, hown⟩ := hrel
    have HF := Lib.hid hfr
    have HO := Lib.hid hown
    by_cases hx0 : 0 ≤ x
    · obtain ⟨q, rfl⟩ := Int.eq_ofNat_of_zero_le hx0
      have hkq : k + q + 1 = n := by omega
      have hql : q < l.length := by have := HN.out; omega
      rcases HL.out.1 with h0 | ⟨b', off, rfl, hpb, hb'⟩
      · exact absurd hql (by rw [h0]; simp)
      · obtain ⟨c0, c1⟩ := (hpb.fr hfr id).cells q hql
        obtain ⟨p, hp, htk⟩ : ∃ p, p = l[q]'hql ∧ l.reverse.take (k + 1) = l.reverse.take k ++ [p] := ⟨_, rfl, rev_take l k q (by have := HN.out; omega)⟩
        rw [← hp] at c0 c1
        clear hp
        obtain ⟨K, hK⟩ : ∃ s, s = str p.1 := ⟨_, rfl⟩
        obtain ⟨V, hV⟩ : ∃ s, s = str p.2 := ⟨_, rfl⟩
        have henc : encP p = [.string K, .string V] := by rw [hK, hV]; rfl
        rw [← hK] at c0
        rw [← hV] at c1
        have hbs := buildP K V wr
        have HE := Lib.hid (And.intro htk henc)
        have HLen := Lib.hid (show (l.reverse.take k).length ≤ 20 by rw [List.length_take]; omega)
        have HOA := Lib.hid (rowp_keep hown ((Fr.refl (fun _ => False) wr).alloc (.cells #[.string K, .string V] 77)) (fun _ _ => id))
        have HSz := Lib.hid hfr.size
        have hwq : IntKind.i64.wrap ((q : Int) - 1) = (q : Int) - 1 := IntWalk.i64_in _ (by omega)
        have hqn : (q : Int) < (n : Int) := by omega
        have HKQ := Lib.hid (And.intro hkq hk)
        clear hK hV henc htk hfr hown hx hx0 hpb hb' hkq hk
        go_wp2_with (with_reducible refine wpList_append_own (o := ⟨some 38, _, _, _, _, _⟩) _ rfl _ _ 64 rfl w.heap.size 77 i0 (.agg #[.string ⟨#[]⟩, .string ⟨#[]⟩]) 2 32 Try.underlying64 HI.out.1 HI.out.2.1 HI.out.2.2.1 HI.out.2.2.2 rfl (by decide) u5 _ _ rfl HOA.out ⟨wr.heap.size, 0, none⟩ 1 1 [.string K, .string V] rfl rfl ?c1 ?c2 ?c3 ?c4 ?c5 ?_)
        case c1 =>
          intro j u hj
          rw [Addr.add_lit, Nat.zero_add, cell_of_row _ wr.heap.size j _ _ _ (heap_alloc_new wr _)]
          simpa using hj
        case c2 => intro u hu; simp only [List.mem_cons, List.not_mem_nil, or_false] at hu; rcases hu with rfl | rfl <;> rfl
        case c3 => have := HLen.out; unfold maxLen; omega
        case c4 => have := HLen.out; omega
        case c5 => have := HSz.out; simp; omega
        intro v' w4 hown' hgrow _
        have hfg : Fr (fun _ => False) w w4 := (HF.out.alloc (.cells #[.string K, .string V] 77)).grown hgrow (fun j hj => .inr (rowp_cells HO.out j hj).1)
        have HF4 := Lib.hid hfg
        have HO4 := Lib.hid (show w4.ownsRow w.heap.size 77 2 v' (l.reverse.take (k + 1)).length ((l.reverse.take (k + 1)).flatMap encP) by
          rw [HE.out.1, List.length_append, List.flatMap_append, List.flatMap_singleton, HE.out.2, List.length_take, List.length_reverse]; exact hown')
        have hvs' : ∃ aa nn cc, v' = .slice aa nn cc := by
          rcases hown'.2 with ⟨h, _⟩ | ⟨g, cap', cur, h, _⟩
          · exact ⟨_, _, _, h⟩
          · exact ⟨_, _, _, h⟩
        obtain ⟨aa', nn', cc', rfl⟩ := hvs'
        clear hown' hgrow hfg
        go_wp2_with fail
        go_roundw
        case rel => exact ⟨_, k + 1, rfl, by have := HKQ.out; omega, by have := HKQ.out; omega, HF4.out, HO4.out⟩
        case measure => simp [intOf]
    · obtain rfl : k = n := by omega
      have ht0 : decide ((0 : Int) ≤ x) = false := decide_eq_false hx0
      rw [show l.reverse.take k = l.reverse by rw [HN.out, ← List.length_reverse]; exact List.take_of_length_le (Nat.le_refl _)] at hown
      obtain ⟨a2, c2, rfl, hps, hc1, hc2⟩ := pv_of_own hown
      rw [show l.reverse.length = k by rw [List.length_reverse]; exact HN.out.symm]
      have HPS := Lib.hid hps
      have HTa2 := Lib.hid (HTa.out wr hfr)
      clear hown hps hfr HO
      go_wp2_with fail
      refine HTa2.out.mono ?_
      rintro e w5 ⟨rfl, f5⟩
      have G5 := Lib.hid (HF.out.trans f5 (fun i hi => hi.elim))
      have HPS5 := Lib.hid (HPS.out.frF f5)
      have HTt5 := Lib.hid (HTt.out w5 a2 c2 HPS5.out hc1 hc2)
      clear f5
      go_wp2_with fail
      refine HTt5.out.mono ?_
      rintro e w6 ⟨rfl, f6⟩
      have G6 := Lib.hid (G5.out.trans f6 (fun i hi => hi.elim))
      clear f6
      go_wp2_with fail
      refine (HTb.out w6 G6.out).mono ?_
      rintro e w7 ⟨rfl, f7⟩
      have G7 := Lib.hid (G6.out.trans f7 (fun i hi => hi.elim))
      clear f7
      cases hr : rightB l with
      | false =>
        have HEx := Lib.hid (show ∀ w', Fr (fun _ => False) w w' → Calls Try.prog 44 #[.slice a k cap, .slice a k cap] w' fun e w2 => e = .returned (.bool false) ∧ Fr (fun _ => False) w' w2 from fun w' hf => by
          have h := HEaa.out w' hf
          rw [show eqB l l = false by unfold eqB; rw [hr]; rfl] at h
          exact h)
        obtain ⟨hq, he⟩ := HSL.out
        clear hq
        rw [if_neg (by rw [hr]; simp)] at he
        subst he
        clear hr
        go_wp2_with fail
        refine (HEx.out w7 G7.out).mono ?_
        rintro e w8 ⟨rfl, f8⟩
        have G8 := Lib.hid (G7.out.trans f8 (fun i hi => hi.elim))
        clear f8
        go_wp2_with fail
        go_ret
        exact ⟨rfl, G8.out⟩
      | true =>
        have hlen : (textOf l).length ≤ 50000 := by
          have hri := (rightB_iff l).1 hr
          have h := textL_length (sortR l) (fun p hp => prOk_le (hri.1 p ((sortR_perm l).mem_iff.1 hp)))
          rw [sortR_length] at h
          unfold textOf; omega
        have HPar := Lib.hid (show ∀ w, Calls Try.prog 36 #[.string (str (textOf l))] w fun e w' => ∃ v, e = .returned (.tuple #[v, .int .i64 0]) ∧ PV w' v (sortR l) ∧ Fr (fun _ => False) w w' from fun w => by
          refine (parse_calls (textOf l) hlen w).mono ?_
          rintro e w' ⟨v, c, rfl, rfl, hpv, hf⟩
          rw [parse_text hr] at hpv ⊢
          exact ⟨v, rfl, hpv, hf⟩)
        have HE1 := Lib.hid (eqB_sort hr)
        have HS1 := Lib.hid (subB_self hr)
        have hti : rightB m = true → decide (textOf l = textOf m) = eqB l m := fun hm => text_iff hr hm
        have HTI := Lib.hid hti
        obtain ⟨hSA, he⟩ := HSL.out
        rw [if_pos hr] at he hSA
        subst he
        rw [← hSA] at HPar
        have HSA := Lib.hid hSA
        clear hr hlen hti hSA
        cases hrm : rightB m with
        | false =>
          obtain ⟨hq, he⟩ := HSM.out
          clear hq
          rw [if_neg (by rw [hrm]; simp)] at he
          subst he
          clear hrm
          go_wp2_with fail
          refine (HPar.out w7).mono ?_
          rintro e w8 ⟨v, rfl, ⟨a3, c3, rfl, hp3, hc31, hc32⟩, f8⟩
          have G8 := Lib.hid (G7.out.trans f8 (fun i hi => hi.elim))
          have HEs := HEsa.out w8 a3 c3 G8.out hp3 hc31 hc32
          rw [HE1.out] at HEs
          have HEsx := Lib.hid HEs
          clear f8 HEs hp3 hc31 hc32
          generalize (sortR l).length = ns at HEsx ⊢
          go_wp2_with fail
          refine HEsx.out.mono ?_
          rintro e w9 ⟨rfl, f9⟩
          have G9 := Lib.hid (G8.out.trans f9 (fun i hi => hi.elim))
          have HSx := HSaa.out w9 G9.out
          rw [HS1.out] at HSx
          have HSxx := Lib.hid HSx
          clear f9 HSx
          go_wp2_with fail
          refine HSxx.out.mono ?_
          rintro e w10 ⟨rfl, f10⟩
          have G10 := Lib.hid (G9.out.trans f10 (fun i hi => hi.elim))
          clear f10
          go_wp2_with fail
          go_ret
          exact ⟨rfl, G10.out⟩
        | true =>
          obtain ⟨hSB, he⟩ := HSM.out
          rw [if_pos hrm] at he hSB
          subst he
          obtain ⟨z, hz⟩ : ∃ z, z = eqB l m := ⟨_, rfl⟩
          have hcmp : (SL.toList == SM.toList) = z := by
            rw [hz, ← HTI.out hrm, HSA.out, hSB, str_toList, str_toList]
            by_cases e : textOf l = textOf m
            · rw [decide_eq_true e, e]; simp
            · rw [decide_eq_false e]; exact beq_eq_false_iff_ne.2 e
          have HEz := Lib.hid (show ∀ w', Fr (fun _ => False) w w' → Calls Try.prog 44 #[.slice a k cap, .slice b n2 cap2] w' fun e w2 => e = .returned (.bool z) ∧ Fr (fun _ => False) w' w2 from fun w' hf => by rw [hz]; exact HEab.out w' hf)
          clear hrm hSB hz
          go_wp2_with fail
          refine (HPar.out w7).mono ?_
          rintro e w8 ⟨v, rfl, ⟨a3, c3, rfl, hp3, hc31, hc32⟩, f8⟩
          have G8 := Lib.hid (G7.out.trans f8 (fun i hi => hi.elim))
          have HEs := HEsa.out w8 a3 c3 G8.out hp3 hc31 hc32
          rw [HE1.out] at HEs
          have HEsx := Lib.hid HEs
          clear f8 HEs hp3 hc31 hc32
          generalize (sortR l).length = ns at HEsx ⊢
          go_wp2_with fail
          refine HEsx.out.mono ?_
          rintro e w9 ⟨rfl, f9⟩
          have G9 := Lib.hid (G8.out.trans f9 (fun i hi => hi.elim))
          have HSx := HSaa.out w9 G9.out
          rw [HS1.out] at HSx
          have HSxx := Lib.hid HSx
          clear f9 HSx
          go_wp2_with fail
          refine HSxx.out.mono ?_
          rintro e w10 ⟨rfl, f10⟩
          have G10 := Lib.hid (G9.out.trans f10 (fun i hi => hi.elim))
          clear f10
          go_wp2_with fail
          refine (HEz.out w10 G10.out).mono ?_
          rintro e w11 ⟨rfl, f11⟩
          have G11 := Lib.hid (G10.out.trans f11 (fun i hi => hi.elim))
          clear f11
          cases z with
          | false =>
            go_wp2_with fail
            go_ret
            exact ⟨rfl, G11.out⟩
          | true =>
            go_wp2_with fail
            go_ret
            exact ⟨rfl, G11.out⟩
theorem order_walk (a b : Option Addr) (cap cap2 : Nat) (l m : List Pr) (w : World) (hl : PSl w a l) (hm : PSl w b m) (hlc : l.length ≤ cap) (hcap : cap ≤ 9223372036854775807) (hmc : m.length ≤ cap2) (hcap2 : cap2 ≤ 9223372036854775807) :
    Calls Try.prog 9 #[.slice a l.length cap, .slice b m.length cap2] w fun e w' => e = .returned (.bool true) ∧ Fr (fun _ => False) w w' := by
  cases h1 : fewB l with
  | false => exact order_many a b cap cap2 l m w hl hm hlc hcap hmc hcap2 (.inl h1)
  | true =>
    cases h2 : fewB m with
    | false => exact order_many a b cap cap2 l m w hl hm hlc hcap hmc hcap2 (.inr h2)
    | true => exact order_few a b cap cap2 l m w hl hm hlc hcap hmc hcap2 h1 h2
end Go.Proofs.Ythmpmpepokeedaa
