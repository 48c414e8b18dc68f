/- Labels: the document's Parse, walked. -/
import Derived.Test.YthmpmpepokeedaaMf
import Derived.WalkLawsBesides
set_option linter.unusedVariables false
set_option linter.unusedSimpArgs false
set_option pp.deepTerms true
set_option pp.maxSteps 100000
namespace Go.Proofs.Ythmpmpepokeedaa
open Go.RowKit
theorem run_at (S : ByteArray) (q : Nat) (c : UInt8) (h : q < S.size) (hc : S[q]'h = c) (w : World) : (Instr.index 9 (.string S) (.int .i64 (q : Int))).run Try.prog w = .ok (.int .u8 (c.toNat : Int)) w := by
  rw [run_index_string (P := Try.prog) w 9 S .i64 (q : Int) Try.underlying9]
  subst hc
  simp [go_sem, h]
  try rfl
theorem zero112 : (Try.prog.info? 112).map (fun i => (i.zero, i.size)) = some (some (.agg #[.string ⟨#[]⟩, .string ⟨#[]⟩]), 2) := by kernel_rfl
set_option maxRecDepth 20000 in
set_option maxHeartbeats 16000000 in
theorem refparse_calls (s : List UInt8) (hs : s.length ≤ 50000) (w : World) : Calls Try.prog 37 #[.string (str s)] w (ParseP s w) := by
  obtain ⟨S, hS⟩ : ∃ x, x = str s := ⟨_, rfl⟩
  have HSS := Lib.hid (show S.size = s.length ∧ S = str s from ⟨by rw [hS, str_size], hS⟩)
  have HSb := Lib.hid (show S.size ≤ 50000 by rw [hS, str_size]; exact hs)
  rw [← hS]
  obtain ⟨i0, hi, hz0, hz1, hz2⟩ := info_parts infoP
  have HI := Lib.hid (And.intro hi (And.intro hz0 (And.intro hz1 hz2)))
  clear hS hs hi hz0 hz1 hz2
  go_enter Try.func37, Try.ntmps37
  go_wp2_with fail
  go_loopw [4, 5] (fun v a wr => ∃ dn rest nf, a = .int .i64 ((s.length - rest.length : Nat) : Int) ∧ PdI s w v wr dn rest nf) (fun _ a _ => S.size - (intOf a).toNat)
  case atStart => exact ⟨[], s, s.length, by simp, ⟨⟨rfl, .inl ⟨rfl, rfl⟩⟩, Fr.refl _ _, by simp, Nat.le_refl _, Nat.le_refl _, by simp, rfl, rfl, List.Pairwise.nil⟩⟩
  case round =>
    obtain ⟨dn, rest, nf, rfl, hp⟩ := hrel
    have HP := Lib.hid hp
    have HFw := Lib.hid hp.fr
    clear hp
    cases rest with
    | nil =>
      have g0 : decide (((s.length - ([] : List UInt8).length : Nat) : Int) < (S.size : Int)) = false := decide_eq_false (by rw [HSS.out.1]; simp)
      have g0' : ¬ ((s.length - ([] : List UInt8).length : Nat) : Int) < (S.size : Int) := by rw [HSS.out.1]; simp
      obtain ⟨q, hq⟩ : ∃ q, q = s.length - ([] : List UInt8).length := ⟨_, rfl⟩
      have HN := Lib.hid (show q = S.size by rw [hq, HSS.out.1]; simp)
      rw [← hq] at g0 g0' ⊢
      have g1 : decide (q < S.size) = false := decide_eq_false (by rw [HN.out]; omega)
      have g1' : ¬ q < S.size := by rw [HN.out]; omega
      have hraw : rawF s.length s = (dn, true) := by
        have h1 := HP.out.raw
        have h2 := HP.out.flag
        rw [rawF_nil] at h1 h2
        rw [List.append_nil] at h1
        exact Prod.ext h1.symm h2.symm
      have HG := Lib.hid (parse_good hraw HP.out.rise)
      obtain ⟨a2, cap2, rfl, hps, hlc, hcp⟩ := pv_of_own HP.out.own
      have HRt := Lib.hid (refright_calls a2 cap2 dn wr hps hlc hcp)
      have HPV := Lib.hid (show PV wr (.slice a2 dn.length cap2) dn from ⟨a2, cap2, rfl, hps, hlc, hcp⟩)
      clear hraw hps hlc hcp hq
      go_wp2_with fail
      refine HRt.out.mono ?_
      rintro e w5 ⟨rfl, f5⟩
      have HF5 := Lib.hid (HFw.out.trans f5 (fun i hi => hi.elim))
      have HPV5 := Lib.hid (HPV.out.frF f5)
      clear f5
      cases hrb : rightB dn with
      | false =>
        have HNo := Lib.hid (show parseO s = none by rw [HG.out, hrb]; rfl)
        clear hrb
        go_wp2_with fail
        go_ret2
        exact ⟨_, _, rfl, by rw [HNo.out]; rfl, by rw [HNo.out]; exact ⟨none, 0, rfl, .inl rfl, Nat.le_refl _, by decide⟩, HF5.out⟩
      | true =>
        have HYes := Lib.hid (show parseO s = some dn by rw [HG.out, hrb]; rfl)
        clear hrb
        go_wp2_with fail
        go_ret2
        exact ⟨_, _, rfl, by rw [HYes.out]; rfl, by rw [HYes.out]; exact HPV5.out, HF5.out⟩
    | cons c t =>
      have HSfx0 := Lib.hid HP.out.sfx
      have HLe0 := Lib.hid HP.out.le
      obtain ⟨p, hpp⟩ : ∃ p, p = s.length - (c :: t).length := ⟨_, rfl⟩
      have hpN : p < S.size := by rw [HSS.out.1, hpp]; have := HLe0.out; simp at this ⊢; omega
      have HPn := Lib.hid hpN
      have HPP := Lib.hid hpp
      have hpN' : (p : Int) < (S.size : Int) := by omega
      rw [← hpp]
      obtain ⟨va, vn, vc, rfl⟩ := rowp_shape HP.out.own
      obtain ⟨T, hT⟩ : ∃ T, T = wr.heap.size := ⟨_, rfl⟩
      obtain ⟨w1w, hw1⟩ : ∃ w1, w1 = wr.alloc (.cells #[.string ⟨#[]⟩, .string ⟨#[]⟩] 112) := ⟨_, rfl⟩
      have HTc := Lib.hid (show w1w.heap[T]? = some (.cells #[.string ⟨#[]⟩, .string ⟨#[]⟩] 112 (0, 0)) by rw [hw1, hT]; exact heap_alloc_new wr _)
      have HF1 := Lib.hid (show Fr (fun _ => False) wr w1w by rw [hw1]; exact (Fr.refl _ _).alloc _)
      have HTw := Lib.hid (show w.heap.size ≤ T by rw [hT]; exact HP.out.fr.size)
      have HTr := Lib.hid hT
      have HW1 := Lib.hid (And.intro hT hw1)
      clear hpp hT hw1
      go_wp2_with fail
      rw [← HW1.out.1, ← HW1.out.2]
      go_loopw [5, 7] (fun a i wq => ∃ (T0 T1 : ByteArray) (r : List UInt8), a = .int .i64 ((s.length - r.length : Nat) : Int) ∧ wq.heap[T]? = some (.cells #[.string T0, .string T1] 112 (0, 0)) ∧ Fr (fun b => b = T) w1w wq ∧ r = s.drop (s.length - r.length) ∧ r.length ≤ s.length ∧
        ((i = .int .i64 0 ∧ Aside (r = c :: t)) ∨ (i = .int .i64 1 ∧ Aside (∃ k, tk (c :: t) = some (k, r) ∧ T0 = str k)) ∨ (i = .int .i64 2 ∧ Aside (∃ k r1 vv, tk (c :: t) = some (k, r1) ∧ tk r1 = some (vv, r) ∧ T0 = str k ∧ T1 = str vv)))) (fun _ i _ => 2 - (intOf i).toNat)
      case atStart => exact ⟨_, _, c :: t, by rw [HPP.out], HTc.out, Fr.refl _ _, HSfx0.out, HLe0.out, .inl ⟨rfl, rfl⟩⟩
      case round =>
        obtain ⟨T0, T1, r, rfl, hTq, hfq, hsfx, hle, hcase⟩ := hrel
        have HT := Lib.hid hTq
        have HFq := Lib.hid hfq
        have HSfx := Lib.hid hsfx
        have HLe := Lib.hid hle
        clear hTq hfq hsfx hle
        rcases hcase with ⟨rfl, hr⟩ | ⟨rfl, hr⟩ | ⟨rfl, hr⟩
        · obtain rfl : r = c :: t := hr
          obtain ⟨q, hq⟩ : ∃ q, q = s.length - (c :: t).length := ⟨_, rfl⟩
          have hle1 : (c :: t).length ≤ s.length := HLe.out
          have hqN : q + (t.length + 1) = S.size := by rw [HSS.out.1, hq]; simp at hle1 ⊢; omega
          have hqlt : q < S.size := by omega
          have hx := run_at S q c hqlt (by
            have := at_head HSfx.out hle1 (by rw [← hq, ← HSS.out.2]; exact hqlt)
            have e := HSS.out.2
            subst e
            simp only [← hq] at this
            exact this)
          rw [← hq]
          obtain ⟨q1, hq1⟩ : ∃ q1, q1 = q + 1 := ⟨_, rfl⟩
          obtain ⟨q2, hq2⟩ : ∃ q2, q2 = q1 + c.toNat := ⟨_, rfl⟩
          have hcb := c.toNat_lt
          have hSb : S.size ≤ 50000 := HSb.out
          have w1 : IntKind.i64.wrap ((q : Int) + 1) = (q1 : Int) := by rw [IntWalk.i64_in _ (by omega)]; omega
          have w2 : IntKind.i64.wrap ((q1 : Int) + (c.toNat : Int)) = (q2 : Int) := by rw [IntWalk.i64_in _ (by omega)]; omega
          have w0 : IntKind.i64.wrap (c.toNat : Int) = (c.toNat : Int) := IntWalk.i64_in _ (by omega)
          have g1 : decide ((S.size : Int) ≤ (q : Int)) = false := decide_eq_false (by omega)
          have g1' : decide (S.size ≤ q) = false := decide_eq_false (by omega)
          have cT : wr.cell? ⟨T, 0, none⟩ = some (.string T0) := (cell_of_row wr T 0 _ _ _ HT.out).trans rfl
          have fT : wr.frozen? ⟨T, 0, none⟩ = false := frozen_of_row wr _ _ _ _ HT.out
          cases htk : tk (c :: t) with
          | none =>
            have hlen := tk_no htk
            have g2 : decide ((S.size : Int) < (q2 : Int)) = true := decide_eq_true (by omega)
            have g2' : decide (S.size < q2) = true := decide_eq_true (by omega)
            have HNo := Lib.hid (show parseO s = none from HP.out.no1 htk)
            clear htk hlen hq hle1 hq1 hq2 hqN hcb
            go_wp2_with fail
            go_ret2
            exact ⟨_, _, rfl, by rw [HNo.out]; rfl, by rw [HNo.out]; exact ⟨none, 0, rfl, .inl rfl, Nat.le_refl _, by decide⟩, (HFw.out.trans HF1.out (fun i hi => hi.elim)).trans HFq.out (fun i hi => .inr (by rw [hi]; exact HTw.out))⟩
          | some x =>
            obtain ⟨kk, rr⟩ := x
            have htt := tk_at HSfx.out hle1 htk
            rw [← hq, ← HSS.out.2] at htt
            rw [← hq1] at htt
            rw [← hq2] at htt
            have g2 : decide ((S.size : Int) < (q2 : Int)) = false := decide_eq_false (by omega)
            have g2' : decide (S.size < q2) = false := decide_eq_false (by omega)
            have b1 : q1 ≤ q2 := by omega
            have b2 : q2 ≤ S.size := by omega
            have b1' : (q1 : Int) ≤ (q2 : Int) := by omega
            have b2' : (q2 : Int) ≤ (S.size : Int) := by omega
            obtain ⟨K, hK⟩ : ∃ K, K = str kk := ⟨_, rfl⟩
            have hext : S.extract q1 q2 = K := by rw [hK]; exact htt.2.1
            have HKK := Lib.hid hK
            have HTK := Lib.hid htk
            have HR2 := Lib.hid (show q2 = s.length - rr.length by rw [← HSS.out.1]; omega)
            have HTT := Lib.hid (And.intro htt.2.2.1 htt.2.2.2.1)
            have HTn := Lib.hid (show (wr.setCell ⟨T, 0, none⟩ (.string K)).heap[T]? = some (.cells #[.string K, .string T1] 112 (0, 0)) from heap_setCell_same wr T 0 _ _ _ HT.out)
            have HFn := Lib.hid (show Fr (fun b => b = T) w1w (wr.setCell ⟨T, 0, none⟩ (.string K)) from HFq.out.setCell _ _ (.inl rfl))
            clear htk htt hq hle1 hK hq1 hq2 hqN hcb
            go_wp2_with fail
            go_roundw
            case rel => exact ⟨_, _, rr, by rw [HR2.out], HTn.out, HFn.out, HTT.out.2, by have h1 := HLe.out; have h2 := HTT.out.1; simp at h1; omega, .inr (.inl ⟨by go_num, ⟨kk, (by first | rfl | exact HTK.out), HKK.out⟩⟩)⟩
            case measure => simp [intOf]
        · obtain ⟨k, hk1, hT0⟩ : ∃ k, tk (c :: t) = some (k, r) ∧ T0 = str k := hr
          have HK1 := Lib.hid (And.intro hk1 hT0)
          clear hk1 hT0
          cases r with
          | nil =>
            have g1 : decide ((S.size : Int) ≤ ((s.length - ([] : List UInt8).length : Nat) : Int)) = true := decide_eq_true (by rw [HSS.out.1]; simp)
            obtain ⟨q, hq⟩ : ∃ q, q = s.length - ([] : List UInt8).length := ⟨_, rfl⟩
            rw [← hq] at g1 ⊢
            have g1' : decide (S.size ≤ q) = true := decide_eq_true (by rw [HSS.out.1, hq]; simp)
            have HNo := Lib.hid (show parseO s = none from HP.out.no2 HK1.out.1 rfl)
            clear hq
            go_wp2_with fail
            go_ret2
            exact ⟨_, _, rfl, by rw [HNo.out]; rfl, by rw [HNo.out]; exact ⟨none, 0, rfl, .inl rfl, Nat.le_refl _, by decide⟩, (HFw.out.trans HF1.out (fun i hi => hi.elim)).trans HFq.out (fun i hi => .inr (by rw [hi]; exact HTw.out))⟩
          | cons c2 t2 =>
            obtain ⟨q, hq⟩ : ∃ q, q = s.length - (c2 :: t2).length := ⟨_, rfl⟩
            have hle1 : (c2 :: t2).length ≤ s.length := HLe.out
            have hqN : q + (t2.length + 1) = S.size := by rw [HSS.out.1, hq]; simp at hle1 ⊢; omega
            have hqlt : q < S.size := by omega
            have hx := run_at S q c2 hqlt (by
              have := at_head HSfx.out hle1 (by rw [← hq, ← HSS.out.2]; exact hqlt)
              have e := HSS.out.2
              subst e
              simp only [← hq] at this
              exact this)
            rw [← hq]
            obtain ⟨q1, hq1⟩ : ∃ q1, q1 = q + 1 := ⟨_, rfl⟩
            obtain ⟨q2, hq2⟩ : ∃ q2, q2 = q1 + c2.toNat := ⟨_, rfl⟩
            have hcb := c2.toNat_lt
            have hSb : S.size ≤ 50000 := HSb.out
            have w1 : IntKind.i64.wrap ((q : Int) + 1) = (q1 : Int) := by rw [IntWalk.i64_in _ (by omega)]; omega
            have w2 : IntKind.i64.wrap ((q1 : Int) + (c2.toNat : Int)) = (q2 : Int) := by rw [IntWalk.i64_in _ (by omega)]; omega
            have w0 : IntKind.i64.wrap (c2.toNat : Int) = (c2.toNat : Int) := IntWalk.i64_in _ (by omega)
            have g1 : decide ((S.size : Int) ≤ (q : Int)) = false := decide_eq_false (by omega)
            have g1' : decide (S.size ≤ q) = false := decide_eq_false (by omega)
            have cT : wr.cell? ⟨T, 1, none⟩ = some (.string T1) := (cell_of_row wr T 1 _ _ _ HT.out).trans rfl
            have fT : wr.frozen? ⟨T, 1, none⟩ = false := frozen_of_row wr _ _ _ _ HT.out
            cases htk : tk (c2 :: t2) with
            | none =>
              have hlen := tk_no htk
              have g2 : decide ((S.size : Int) < (q2 : Int)) = true := decide_eq_true (by omega)
              have g2' : decide (S.size < q2) = true := decide_eq_true (by omega)
              have HNo := Lib.hid (show parseO s = none from HP.out.no2 HK1.out.1 htk)
              clear htk hlen hq hle1 hq1 hq2 hqN hcb
              go_wp2_with fail
              go_ret2
              exact ⟨_, _, rfl, by rw [HNo.out]; rfl, by rw [HNo.out]; exact ⟨none, 0, rfl, .inl rfl, Nat.le_refl _, by decide⟩, (HFw.out.trans HF1.out (fun i hi => hi.elim)).trans HFq.out (fun i hi => .inr (by rw [hi]; exact HTw.out))⟩
            | some x =>
              obtain ⟨kk, rr⟩ := x
              have htt := tk_at HSfx.out hle1 htk
              rw [← hq, ← HSS.out.2] at htt
              rw [← hq1] at htt
              rw [← hq2] at htt
              have g2 : decide ((S.size : Int) < (q2 : Int)) = false := decide_eq_false (by omega)
              have g2' : decide (S.size < q2) = false := decide_eq_false (by omega)
              have b1 : q1 ≤ q2 := by omega
              have b2 : q2 ≤ S.size := by omega
              have b1' : (q1 : Int) ≤ (q2 : Int) := by omega
              have b2' : (q2 : Int) ≤ (S.size : Int) := by omega
              obtain ⟨K, hK⟩ : ∃ K, K = str kk := ⟨_, rfl⟩
              have hext : S.extract q1 q2 = K := by rw [hK]; exact htt.2.1
              have HKK := Lib.hid hK
              have HTK := Lib.hid htk
              have HR2 := Lib.hid (show q2 = s.length - rr.length by rw [← HSS.out.1]; omega)
              have HTT := Lib.hid (And.intro htt.2.2.1 htt.2.2.2.1)
              have HTn := Lib.hid (show (wr.setCell ⟨T, 1, none⟩ (.string K)).heap[T]? = some (.cells #[.string T0, .string K] 112 (0, 0)) from heap_setCell_same wr T 1 _ _ _ HT.out)
              have HFn := Lib.hid (show Fr (fun b => b = T) w1w (wr.setCell ⟨T, 1, none⟩ (.string K)) from HFq.out.setCell _ _ (.inl rfl))
              clear htk htt hq hle1 hK hq1 hq2 hqN hcb
              go_wp2_with fail
              go_roundw
              case rel => exact ⟨_, _, rr, by rw [HR2.out], HTn.out, HFn.out, HTT.out.2, by have h1 := HLe.out; have h2 := HTT.out.1; simp at h1; omega, .inr (.inr ⟨by go_num, ⟨k, _, kk, HK1.out.1, (by first | rfl | exact HTK.out), HK1.out.2, HKK.out⟩⟩)⟩
              case measure => simp [intOf]
        · obtain ⟨k, r1, vv, hk1, hk2, rfl, rfl⟩ : ∃ k r1 vv, tk (c :: t) = some (k, r1) ∧ tk r1 = some (vv, r) ∧ T0 = str k ∧ T1 = str vv := hr
          obtain ⟨K, hK⟩ : ∃ q, q = str k := ⟨_, rfl⟩
          obtain ⟨V, hV⟩ : ∃ q, q = str vv := ⟨_, rfl⟩
          rw [← hK, ← hV] at HT
          have HKV := Lib.hid (show encP (k, vv) = [.string K, .string V] by rw [hK, hV]; rfl)
          have HKs := Lib.hid hK
          have HK1 := Lib.hid hk1
          have HK2 := Lib.hid hk2
          obtain ⟨q, hq⟩ : ∃ q, q = s.length - r.length := ⟨_, rfl⟩
          rw [← hq]
          have HQ := Lib.hid hq
          clear hk1 hk2 hK hV hq
          have HFF := Lib.hid (HF1.out.trans HFq.out (fun i hi => .inr (by rw [hi, HTr.out]; exact Nat.le_refl _)))
          have hown := rowp_keep HP.out.own HFF.out (fun _ _ => id)
          have HOw := Lib.hid hown
          obtain ⟨a2, cap2, hv, hps, hlc2, hcp2⟩ := pv_of_own hown
          have hvn : vn = dn.length := by cases hv; rfl
          have hva : va = a2 := by cases hv; rfl
          have hvc : vc = cap2 := by cases hv; rfl
          subst hva
          subst hvc
          clear hv hown
          have HVN := Lib.hid hvn
          have cT0 : wr.cell? ⟨T, 0, none⟩ = some (.string K) := (cell_of_row wr T 0 _ _ _ HT.out).trans rfl
          have cT1 : wr.cell? ⟨T, 1, none⟩ = some (.string V) := (cell_of_row wr T 1 _ _ _ HT.out).trans rfl
          have HPS := Lib.hid hps
          have HOwA := Lib.hid (show ∀ n, ((wr.drewN n).alloc (.cells #[.string K, .string V] 77)).ownsRow w.heap.size 77 2 (.slice va vn vc) dn.length (dn.flatMap encP) from fun n => rowp_keep HOw.out (((Fr.refl _ wr).drewN n).alloc _) (fun _ _ => id))
          rw [← hvn] at HOwA HOw
          rw [← hvn] at hlc2
          have hn5 : vn ≤ 50000 := by have h1 := HP.out.cnt; have h2 := HSb.out; have h3 := HSS.out.1; omega
          clear hps
          rcases List.eq_nil_or_concat dn with h0 | ⟨l, qq, h0⟩
          · have hv0 : vn = 0 := by rw [hvn, h0]; rfl
            have t1 : decide ((0 : Int) < (vn : Int)) = false := decide_eq_false (by omega)
            have t1' : decide (0 < vn) = false := decide_eq_false (by omega)
            have HLast := Lib.hid (show ∀ q, dn.getLast? = some q → Op.bytesLess q.1 k = true from fun q hq => by rw [h0] at hq; simp at hq)
            clear h0 hvn hv0
            go_wp2_with fail
            go_quiet (fail)
            go_wp2_with (with_reducible refine wpList_append_own (o := ⟨some 74, _, _, _, _, _⟩) _ rfl _ _ 64 rfl w.heap.size 77 i0 (.agg #[.string ⟨#[]⟩, .string ⟨#[]⟩]) 2 32 Try.underlying64 HI.out.1 HI.out.2.1 HI.out.2.2.1 HI.out.2.2.2 rfl (by decide) (.slice va vn vc) _ _ rfl (HOwA.out _) ⟨wr.heap.size, 0, none⟩ 1 1 [.string K, .string V] rfl rfl ?c1 ?c2 ?c3 ?c4 ?c5 ?_)
            case c1 =>
              intro j u hj
              rw [Addr.add_lit, Nat.zero_add, show (_ : Option Value) = _ from cell_of_row _ wr.heap.size j _ _ _ (heap_alloc_new (wr.drewN _) _)]
              simpa using hj
            case c2 => intro u hu; simp only [List.mem_cons, List.not_mem_nil, or_false] at hu; rcases hu with rfl | rfl <;> rfl
            case c3 => unfold maxLen; omega
            case c4 => omega
            case c5 => have h1 := HP.out.fr.size; have h2 := HFF.out.size; simp; omega
            intro v' w3 hown' hgrow _
            have hoc : ∀ j, (Value.slice va vn vc).ownBlock = some j → w.heap.size ≤ j := fun j hj => (rowp_cells HOw.out j hj).1
            have hfg : Fr (fun j => w.heap.size ≤ j) wr w3 := (((Fr.refl (fun j => w.heap.size ≤ j) wr).drewN _).alloc (.cells #[.string K, .string V] 77)).grown hgrow (fun j hj => .inl (hoc j hj))
            obtain ⟨nf', hp'⟩ := PdI.next (v' := v') (w' := w3) HP.out HK1.out HK2.out HLast.out (by rw [← HVN.out, HKV.out]; exact hown') ((HFw.out.trans HFF.out (fun i hi => hi.elim)).trans hfg (fun i hi => .inr hi))
            have HP' := Lib.hid hp'
            obtain ⟨aa', nn', cc', rfl⟩ := rowp_shape hown'
            clear hown' hgrow hoc hfg hp'
            go_wp2_with fail
            go_roundw
            case rel => exact ⟨_, r, nf', by rw [HQ.out], HP'.out⟩
            case measure =>
              have h1 := (tk_len HK1.out).2.2
              have h2 := (tk_len HK2.out).2.2
              have h3 := HQ.out
              have h4 := HPP.out
              have h5 := HLe0.out
              have h6 := HSS.out.1
              simp [intOf]
              simp at h1 h4 h5
              omega
          · have hv0 : vn = l.length + 1 := by rw [hvn, h0]; simp
            have t1 : decide ((0 : Int) < (vn : Int)) = true := decide_eq_true (by omega)
            have t1' : decide (0 < vn) = true := decide_eq_true (by omega)
            have hw1 : IntKind.i64.wrap ((vn : Int) - 1) = (l.length : Int) := by rw [IntWalk.i64_in _ (by omega)]; omega
            have hlv : (l.length : Int) < (vn : Int) := by omega
            have hlv' : l.length < vn := by omega
            obtain ⟨u1, hu1⟩ : ∃ u, u = l.length := ⟨_, rfl⟩
            rcases HPS.out with h9 | ⟨gb, off, rfl, hpb, hgb⟩
            · exact absurd (h9.symm.trans h0) (by simp)
            have hcl : u1 < dn.length := by rw [← hvn]; omega
            have hgq : dn[u1]'hcl = qq := by
              subst h0
              simp [hu1]
            have c0 := (hpb.cells u1 hcl).1
            have c0d := ((hpb.fr ((Fr.refl (fun _ => False) wr).drew) id).cells u1 hcl).1
            rw [hgq] at c0 c0d
            obtain ⟨J, hJ⟩ : ∃ J, J = str qq.1 := ⟨_, rfl⟩
            rw [← hJ] at c0 c0d
            rw [← hu1] at hw1 hlv hlv' hv0
            have HMem := Lib.hid (show qq ∈ dn by rw [h0]; simp)
            have HLst := Lib.hid (show dn.getLast? = some qq by rw [h0]; simp)
            clear hpb hgb hcl hgq h0
            cases hless : Op.bytesLess qq.1 k with
            | false =>
              have t5 : Op.bytesLess J.toList K.toList = false := by rw [hJ, HKs.out, str_toList, str_toList]; exact hless
              have HNo := Lib.hid (HP.out.order HK1.out HK2.out HMem.out hless)
              clear hless hJ hvn hu1 hv0
              go_wp2_with fail
              go_quiet (fail)
              go_wp2_with fail
              go_ret2
              exact ⟨_, _, rfl, by rw [HNo.out]; rfl, by rw [HNo.out]; exact ⟨none, 0, rfl, .inl rfl, Nat.le_refl _, by decide⟩, (HFw.out.trans HFF.out (fun i hi => hi.elim)).drewN _⟩
            | true =>
              have t5 : Op.bytesLess J.toList K.toList = true := by rw [hJ, HKs.out, str_toList, str_toList]; exact hless
              have HLast := Lib.hid (show ∀ q, dn.getLast? = some q → Op.bytesLess q.1 k = true from fun q hq => by rw [HLst.out] at hq; cases hq; exact hless)
              clear hless hJ hvn hu1 hv0
              go_wp2_with fail
              go_quiet (fail)
              go_wp2_with (with_reducible refine wpList_append_own (o := ⟨some 74, _, _, _, _, _⟩) _ rfl _ _ 64 rfl w.heap.size 77 i0 (.agg #[.string ⟨#[]⟩, .string ⟨#[]⟩]) 2 32 Try.underlying64 HI.out.1 HI.out.2.1 HI.out.2.2.1 HI.out.2.2.2 rfl (by decide) (.slice (some ⟨gb, off, none⟩) vn vc) _ _ rfl (HOwA.out _) ⟨wr.heap.size, 0, none⟩ 1 1 [.string K, .string V] rfl rfl ?c1 ?c2 ?c3 ?c4 ?c5 ?_)
              case c1 =>
                intro j u hj
                rw [Addr.add_lit, Nat.zero_add, show (_ : Option Value) = _ from cell_of_row _ wr.heap.size j _ _ _ (heap_alloc_new (wr.drewN _) _)]
                simpa using hj
              case c2 => intro u hu; simp only [List.mem_cons, List.not_mem_nil, or_false] at hu; rcases hu with rfl | rfl <;> rfl
              case c3 => unfold maxLen; omega
              case c4 => omega
              case c5 => have h1 := HP.out.fr.size; have h2 := HFF.out.size; simp; omega
              intro v' w3 hown' hgrow _
              have hoc : ∀ j, (Value.slice (some ⟨gb, off, none⟩) vn vc).ownBlock = some j → w.heap.size ≤ j := fun j hj => (rowp_cells HOw.out j hj).1
              have hfg : Fr (fun j => w.heap.size ≤ j) wr w3 := (((Fr.refl (fun j => w.heap.size ≤ j) wr).drewN _).alloc (.cells #[.string K, .string V] 77)).grown hgrow (fun j hj => .inl (hoc j hj))
              obtain ⟨nf', hp'⟩ := PdI.next (v' := v') (w' := w3) HP.out HK1.out HK2.out HLast.out (by rw [← HVN.out, HKV.out]; exact hown') ((HFw.out.trans HFF.out (fun i hi => hi.elim)).trans hfg (fun i hi => .inr hi))
              have HP' := Lib.hid hp'
              obtain ⟨aa', nn', cc', rfl⟩ := rowp_shape hown'
              clear hown' hgrow hoc hfg hp'
              go_wp2_with fail
              go_roundw
              case rel => exact ⟨_, r, nf', by rw [HQ.out], HP'.out⟩
              case measure =>
                have h1 := (tk_len HK1.out).2.2
                have h2 := (tk_len HK2.out).2.2
                have h3 := HQ.out
                have h4 := HPP.out
                have h5 := HLe0.out
                have h6 := HSS.out.1
                simp [intOf]
                simp at h1 h4 h5
                omega
end Go.Proofs.Ythmpmpepokeedaa
