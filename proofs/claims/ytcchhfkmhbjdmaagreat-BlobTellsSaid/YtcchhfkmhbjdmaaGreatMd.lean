/- Labels: the document's Sorted, walked. -/
import Derived.Test.YtcchhfkmhbjdmaaGreatMx
set_option linter.unusedVariables false
set_option linter.unusedSimpArgs false
set_option pp.deepTerms true
set_option pp.maxSteps 100000
namespace Go.Proofs.YtcchhfkmhbjdmaaGreat
open Go.RowKit
theorem sortR_step (l : List Pr) (k : Nat) (h : k < l.length) : sortR (l.take (k + 1)) = insP (sortR (l.take k)) l[k] := by
  rw [List.take_succ_eq_append_getElem h]
  unfold sortR
  rw [List.foldl_append]
  rfl
theorem posF_step (x : Pr) (o : List Pr) (j : Nat) (hj : j < o.length) : posF x o (j + 1) = if Op.bytesLess x.1 o[j].1 then posF x o j else j + 1 := by
  show (if Op.bytesLess x.1 (o.getD j ([], [])).1 then posF x o j else j + 1) = _
  rw [List.getD_eq_getElem?_getD, List.getElem?_eq_getElem hj]
  rfl
set_option maxRecDepth 20000 in
set_option maxHeartbeats 16000000 in
theorem refsorted_calls (a : Option Addr) (cap : Nat) (l : List Pr) (w : World) (hl : PSl w a l) (hl8 : l.length ≤ 100) (hlc : l.length ≤ cap) (hcap : cap ≤ 9223372036854775807) :
    Calls Tryz.prog 34 #[.slice a l.length cap] w fun e w' => ∃ v, e = .returned v ∧ PV w' v (sortR l) ∧ Fr (fun _ => False) w w' := by
  have HL := Lib.hid hl
  obtain ⟨n, hn⟩ : ∃ n, n = l.length := ⟨_, rfl⟩
  have HN := Lib.hid (And.intro hn hl8)
  rw [← hn] at hlc ⊢
  clear hl hn hl8
  go_enter Tryz.func34, Tryz.ntmps34
  go_wp2_with fail
  go_loopw [3, 4] (fun v i wr => ∃ k : Nat, k ≤ n ∧ i = .int .i64 (k : Int) ∧ Fr (fun _ => False) w wr ∧ wr.ownsRow w.heap.size 42 2 v (sortR (l.take k)).length ((sortR (l.take k)).flatMap encP)) (fun _ i _ => n - (intOf i).toNat)
  case atStart => exact ⟨0, Nat.zero_le _, rfl, Fr.refl _ _, ⟨rfl, .inl ⟨rfl, rfl⟩⟩⟩
  case round =>
    obtain ⟨k, hk, rfl, hfr, hown⟩ := hrel
    have HF := Lib.hid hfr
    have HO := Lib.hid hown
    by_cases hlt : k < n
    · have hkl : k < l.length := by rw [← HN.out.1]; exact hlt
      have HKL := Lib.hid hkl
      have HSt := Lib.hid (sortR_step l k hkl)
      obtain ⟨p, hp⟩ : ∃ p, p = l[k]'hkl := ⟨_, rfl⟩
      rw [← hp] at HSt
      rcases HL.out with h0 | ⟨b, off, rfl, hpb, hb⟩
      · exact absurd hkl (by rw [h0]; simp)
      have HPB := Lib.hid hpb
      have HP := Lib.hid hp
      obtain ⟨o, ho⟩ : ∃ o, o = sortR (l.take k) := ⟨_, rfl⟩
      have holen : o.length = k := by rw [ho, sortR_length, List.length_take]; omega
      rw [← ho] at hown HSt
      have HOL := Lib.hid holen
      rw [holen] at hown
      have HO2 := Lib.hid hown
      have hi0 : (k : Int) < (n : Int) := by omega
      have hk100 : k ≤ 100 := by have := HN.out; omega
      obtain ⟨K, hK⟩ : ∃ s, s = str p.1 := ⟨_, rfl⟩
      have HC := Lib.hid (show ∀ W', Fr (fun _ => False) w W' → W'.cell? ⟨b, off + k * 2, none⟩ = some (.string K) from fun W' hf => by rw [hK, hp]; exact ((HPB.out.fr hf id).cells k HKL.out).1)
      have HKK := Lib.hid hK
      clear hpb hb hp ho hK HO hfr
      obtain ⟨V, hV⟩ : ∃ s, s = str p.2 := ⟨_, rfl⟩
      have HCW := Lib.hid (show ∀ W', Fr (fun _ => False) w W' → W'.rangeAt b (off + k * 2) [.string K, .string V] from fun W' hf => by
        have h := (HPB.out.fr hf id) k _ (List.getElem?_eq_getElem HKL.out)
        rw [show l[k]'HKL.out = p from HP.out.symm] at h
        rw [HKK.out, hV]; exact h)
      have HST4 := Lib.hid (show ∀ W : World, ∃ W' g, (Instr.buildSlice 24 1 #[(0, .agg #[.string K, .string V])]).run Tryz.prog W = .ok (.slice (some ⟨g, 0, none⟩) 1 1) W' ∧ PSl W' (some ⟨g, 0, none⟩) [p] ∧ Fr (fun _ => False) W W' ∧ g = W.heap.size ∧ g < W'.heap.size by rw [HKK.out, hV]; exact step4 p)
      obtain ⟨A, C, rfl, hpo, hkc, hcm⟩ := pv_of_own (l := o) (by rw [holen]; exact hown)
      rw [holen] at hkc ⊢
      have HPO := Lib.hid hpo
      have HG := Lib.hid (And.intro hkc hcm)
      clear hown hpo hkc hcm holen hV
      go_wp2_with fail
      go_loopw [5] (fun i wq => ∃ j : Nat, j ≤ k ∧ i = .int .i64 (j : Int) ∧ Fr (fun _ => False) wr wq ∧ Aside (posF p o k = posF p o j)) (fun i _ => (intOf i).toNat)
      case atStart => exact ⟨k, Nat.le_refl _, rfl, Fr.refl _ _, rfl⟩
      case round =>
        obtain ⟨j, hj, rfl, hfq, hpos⟩ := hrel
        have HFQ := Lib.hid hfq
        have HPF := Lib.hid hpos
        clear hfq hpos
        by_cases hj0 : j = 0
        · have u1 : decide ((0 : Int) < (j : Int)) = false := decide_eq_false (by omega)
          have u2 : decide (0 < j) = false := decide_eq_false (by omega)
          have HJ := Lib.hid (show posF p o k = j by rw [HPF.out, hj0]; rfl)
          have HJ0 := Lib.hid hj0
          clear hj0
          go_wp2_with fail
          go_quiet (fail)
          go_wp2_with fail
          refine wp_region_till (fun w' => Fr (fun _ => False) ((wr.drewN nq).drew) w') 14 rfl ?_
          obtain ⟨jj, hjj⟩ : ∃ jj : Nat, jj = j := ⟨_, rfl⟩
          generalize hW0 : (wr.drewN nq).drew = W0
          have HJ2 := Lib.hid (show posF p o o.length = jj by rw [HOL.out, hjj]; exact HJ.out)
          have hjk2 : jj ≤ k := by rw [hjj]; omega
          have HFr := Lib.hid (show Fr (fun _ => False) _ W0 by rw [← hW0]; exact (HFQ.out.drewN _).drew)
          have HFW := Lib.hid (HF.out.trans HFr.out (fun i hi => hi.elim))
          have HSa := Lib.hid (Fr.refl (fun _ => False) W0)
          obtain ⟨A1, hA1⟩ : ∃ A' : Option Addr, A' = (if C = 0 then A else A.map (·.add (0 * 2))) := ⟨_, rfl⟩
          obtain ⟨A2, hA2⟩ : ∃ A' : Option Addr, A' = (if C = jj then A else A.map (·.add (jj * 2))) := ⟨_, rfl⟩
          obtain ⟨c1, hc1⟩ : ∃ c, c = C := ⟨_, rfl⟩
          obtain ⟨c2, hc2⟩ : ∃ c, c = C - jj := ⟨_, rfl⟩
          have HT1 := Lib.hid (show ∀ W, (Instr.slice 24 (.slice A k C) none (some (.int .i64 (jj : Int))) none).run Tryz.prog W = .ok (.slice A1 jj c1) W from fun W => by rw [hA1, hc1]; exact slice_to A k C jj (by have := HG.out; omega) HG.out.2 W)
          have HT2 := Lib.hid (show ∀ W, (Instr.slice 24 (.slice A k C) (some (.int .i64 (jj : Int))) none none).run Tryz.prog W = .ok (.slice A2 (k - jj) c2) W from fun W => by rw [hA2, hc2]; exact slice_from A k C jj hjk2 HG.out.1 HG.out.2 W)
          have HL1 := Lib.hid (show (o.take jj).length = jj by rw [List.length_take, HOL.out]; omega)
          have HL2 := Lib.hid (show (o.drop jj).length = k - jj by rw [List.length_drop, HOL.out])
          have HP1 := Lib.hid (show ∀ W, Fr (fun _ => False) W0 W → PSl W A1 (o.take jj) from fun W hW => by rw [hA1]; exact psl_take (HPO.out.frF (HFr.out.trans hW (fun i hi => hi.elim))) (by rw [HOL.out]; exact HG.out.1))
          have HP2 := Lib.hid (show ∀ W, Fr (fun _ => False) W0 W → PSl W A2 (o.drop jj) from fun W hW => by rw [hA2]; exact psl_drop (HPO.out.frF (HFr.out.trans hW (fun i hi => hi.elim))) (by rw [HOL.out]; exact HG.out.1))
          have HLEN1 := Lib.hid (show ([] : List Pr).length + (o.take jj).length ≤ 1000 by rw [HL1.out]; simp; omega)
          have HLEN2 := Lib.hid (show ([] ++ o.take jj).length + [p].length ≤ 1000 by rw [List.nil_append, HL1.out]; simp; omega)
          have HLEN3 := Lib.hid (show ([] ++ o.take jj ++ [p]).length + (o.drop jj).length ≤ 1000 by rw [List.nil_append, List.length_append, HL1.out, HL2.out]; simp; omega)
          have HCL := Lib.hid (show ∀ W, Fr (fun _ => False) W0 W → W.rangeAt b (off + k * 2) [.string K, .string V] from fun W hW => HCW.out W (HFW.out.trans hW (fun i hi => hi.elim)))
          rw [← hjj]
          clear hjj hW0 hA1 hA2 hc1 hc2
          refine wpAnyT_path (i := 1) (p := [10, 4, 3]) (v := .slice A k C) rfl (by kernel_rfl) (by kernel_rfl) (fun _ _ _ h => h) HSa.out (.inl ⟨by rfl, fun W' hW => by clear hW; go_simp⟩) ?_
          try simp only [Act.put, List.setIfInBounds_toArray]
          try dsimp only [List.getElem_toArray, List.getElem_cons_succ, List.getElem_cons_zero, List.set_cons_zero, List.set_cons_succ]
          refine wpAnyT_path (i := 2) (p := [10, 4, 3]) (v := .int .i64 (jj : Int)) rfl (by kernel_rfl) (by kernel_rfl) (fun _ _ _ h => h) HSa.out (.inl ⟨by rfl, fun W' hW => by clear hW; go_simp⟩) ?_
          try simp only [Act.put, List.setIfInBounds_toArray]
          try dsimp only [List.getElem_toArray, List.getElem_cons_succ, List.getElem_cons_zero, List.set_cons_zero, List.set_cons_succ]
          refine wpAnyT_path (i := 3) (p := [10, 4]) (v := .slice A1 jj c1) rfl (by kernel_rfl) (by kernel_rfl) (fun _ _ _ h => h) HSa.out (yieldsIf_plain rfl (fun W' hW => by clear hW; have h := HT1.out W'; simp [execOp, Instr.sliceAt, Act.eval, run_underlying Tryz.underlying24, h])) ?_
          try simp only [Act.put, List.setIfInBounds_toArray]
          try dsimp only [List.getElem_toArray, List.getElem_cons_succ, List.getElem_cons_zero, List.set_cons_zero, List.set_cons_succ]
          refine wpAnyT_path (i := 5) (p := [10, 9, 8, 7]) (v := .slice (some ⟨b, off, none⟩) n cap) rfl (by kernel_rfl) (by kernel_rfl) (fun _ _ _ h => h) HSa.out (.inl ⟨by rfl, fun W' hW => by clear hW; go_simp⟩) ?_
          try simp only [Act.put, List.setIfInBounds_toArray]
          try dsimp only [List.getElem_toArray, List.getElem_cons_succ, List.getElem_cons_zero, List.set_cons_zero, List.set_cons_succ]
          refine wpAnyT_path (i := 6) (p := [10, 9, 8, 7]) (v := .int .i64 (k : Int)) rfl (by kernel_rfl) (by kernel_rfl) (fun _ _ _ h => h) HSa.out (.inl ⟨by rfl, fun W' hW => by clear hW; go_simp⟩) ?_
          try simp only [Act.put, List.setIfInBounds_toArray]
          try dsimp only [List.getElem_toArray, List.getElem_cons_succ, List.getElem_cons_zero, List.set_cons_zero, List.set_cons_succ]
          refine wpAnyT_path (i := 7) (p := [10, 9, 8]) (v := .pointer (some ⟨b, off + k * 2, none⟩)) rfl (by kernel_rfl) (by kernel_rfl) (fun _ _ _ h => h) HSa.out (.inl ⟨by rfl, fun W' hW => by clear hW; go_simp⟩) ?_
          try simp only [Act.put, List.setIfInBounds_toArray]
          try dsimp only [List.getElem_toArray, List.getElem_cons_succ, List.getElem_cons_zero, List.set_cons_zero, List.set_cons_succ]
          refine wpAnyT_path (i := 8) (p := [10, 9]) (v := .agg #[.string K, .string V]) rfl (by kernel_rfl) (by kernel_rfl) (fun _ _ _ h => h) HSa.out (yieldsIf_load rfl 42 (.tmp 39) rfl b (off + k * 2) rfl [.string K, .string V] _ (fun W' hW => HCL.out W' hW) Tryz.underlying42 rfl (by kernel_rfl)) ?_
          try simp only [Act.put, List.setIfInBounds_toArray]
          try dsimp only [List.getElem_toArray, List.getElem_cons_succ, List.getElem_cons_zero, List.set_cons_zero, List.set_cons_succ]
          refine wpAnyT_path (i := 11) (p := [13]) (v := .slice A k C) rfl (by kernel_rfl) (by kernel_rfl) (fun _ _ _ h => h) HSa.out (.inl ⟨by rfl, fun W' hW => by clear hW; go_simp⟩) ?_
          try simp only [Act.put, List.setIfInBounds_toArray]
          try dsimp only [List.getElem_toArray, List.getElem_cons_succ, List.getElem_cons_zero, List.set_cons_zero, List.set_cons_succ]
          refine wpAnyT_path (i := 12) (p := [13]) (v := .int .i64 (jj : Int)) rfl (by kernel_rfl) (by kernel_rfl) (fun _ _ _ h => h) HSa.out (.inl ⟨by rfl, fun W' hW => by clear hW; go_simp⟩) ?_
          try simp only [Act.put, List.setIfInBounds_toArray]
          try dsimp only [List.getElem_toArray, List.getElem_cons_succ, List.getElem_cons_zero, List.set_cons_zero, List.set_cons_succ]
          refine wpAnyT_path (i := 13) (p := []) (v := .slice A2 (k - jj) c2) rfl (by kernel_rfl) (by kernel_rfl) (fun _ _ _ h => h) HSa.out (yieldsIf_plain rfl (fun W' hW => by clear hW; have h := HT2.out W'; simp [execOp, Instr.sliceAt, Act.eval, run_underlying Tryz.underlying24, h])) ?_
          try simp only [Act.put, List.setIfInBounds_toArray]
          try dsimp only [List.getElem_toArray, List.getElem_cons_succ, List.getElem_cons_zero, List.set_cons_zero, List.set_cons_succ]
          refine wpAnyT_two (i := 0) (j := 9) (by kernel_rfl) ?_ ?_
          · refine wpOp_plain rfl rfl (fun K hK => ?_)
            try simp only [Act.put, List.setIfInBounds_toArray]
            try dsimp only [List.getElem_toArray, List.getElem_cons_succ, List.getElem_cons_zero, List.set_cons_zero, List.set_cons_succ]
            have HKK2 := Lib.hid hK
            clear hK
            obtain ⟨W1, g33, hr0, ho0, hf0, hg33⟩ := step0 W0.heap.size W0 HSa.out.size
            refine wp_build0 rfl _ _ hr0 ?_
            have HS1 := Lib.hid (HSa.out.trans hf0 (fun i hi => hi.elim))
            have HO33 := Lib.hid (show W1.ownsRow W0.heap.size 42 2 (.slice (some ⟨g33, 0, none⟩) 0 0) ([] : List Pr).length (([] : List Pr).flatMap encP) from ho0)
            clear hr0 ho0 hf0 hg33
            refine HKK2.out _ _ ⟨fun _ => HS1.out, ?_⟩
            clear HKK2 K
            try simp only [Act.put, List.setIfInBounds_toArray]
            try dsimp only [List.getElem_toArray, List.getElem_cons_succ, List.getElem_cons_zero, List.set_cons_zero, List.set_cons_succ]
            refine wpAnyT_two (i := 4) (j := 9) (by kernel_rfl) ?_ ?_
            · refine wpOp_plain rfl rfl (fun K hK => ?_)
              try simp only [Act.put, List.setIfInBounds_toArray]
              try dsimp only [List.getElem_toArray, List.getElem_cons_succ, List.getElem_cons_zero, List.set_cons_zero, List.set_cons_succ]
              have HKK2 := Lib.hid hK
              clear hK
              obtain ⟨v35, W2, hr2, ho2, hf2⟩ := stepA W0.heap.size _ [] (o.take jj) A1 c1 W1 HO33.out (HP1.out W1 HS1.out) HS1.out.size HLEN1.out
              rw [HL1.out] at hr2
              refine wp_append_run _ _ rfl _ _ hr2 ?_
              have HS2 := Lib.hid (HS1.out.trans hf2 (fun i hi => .inr (rowp_cells HO33.out i hi).1))
              have HO35 := Lib.hid ho2
              clear hr2 ho2 hf2
              refine HKK2.out _ _ ⟨fun _ => HS2.out, ?_⟩
              clear HKK2 K
              try simp only [Act.put, List.setIfInBounds_toArray]
              try dsimp only [List.getElem_toArray, List.getElem_cons_succ, List.getElem_cons_zero, List.set_cons_zero, List.set_cons_succ]
              refine wpAnyT_one (i := 9) rfl (by kernel_rfl) ?_
              refine wpOp_plain rfl rfl (fun K hK => ?_)
              try simp only [Act.put, List.setIfInBounds_toArray]
              try dsimp only [List.getElem_toArray, List.getElem_cons_succ, List.getElem_cons_zero, List.set_cons_zero, List.set_cons_succ]
              have HKK2 := Lib.hid hK
              clear hK
              obtain ⟨W3, g37, hr4, hp4, hf4, hg37, hlt37⟩ := HST4.out W2
              refine wp_build1 _ rfl _ _ hr4 ?_
              have HS3 := Lib.hid (HS2.out.trans hf4 (fun i hi => hi.elim))
              have HPp := Lib.hid hp4
              have HG37 := Lib.hid (And.intro hg37 hlt37)
              have HO35a := Lib.hid (rowp_keep HO35.out hf4 (fun _ _ => id))
              clear HO35
              have HO35 := HO35a
              clear HO35a
              clear hr4 hp4 hf4 hg37 hlt37
              refine HKK2.out _ _ ⟨fun _ => HS3.out, ?_⟩
              clear HKK2 K
              try simp only [Act.put, List.setIfInBounds_toArray]
              try dsimp only [List.getElem_toArray, List.getElem_cons_succ, List.getElem_cons_zero, List.set_cons_zero, List.set_cons_succ]
              refine wpAnyT_one (i := 10) rfl (by kernel_rfl) ?_
              refine wpOp_plain rfl rfl (fun K hK => ?_)
              try simp only [Act.put, List.setIfInBounds_toArray]
              try dsimp only [List.getElem_toArray, List.getElem_cons_succ, List.getElem_cons_zero, List.set_cons_zero, List.set_cons_succ]
              have HKK2 := Lib.hid hK
              clear hK
              obtain ⟨v42, W4, hr5, ho5, hf5⟩ := stepA W0.heap.size v35 _ [p] (some ⟨g37, 0, none⟩) 1 W3 HO35.out HPp.out HS3.out.size HLEN2.out
              refine wp_append_run _ _ rfl _ _ hr5 ?_
              have HS4 := Lib.hid (HS3.out.trans hf5 (fun i hi => .inr (rowp_cells HO35.out i hi).1))
              have HO42 := Lib.hid ho5
              clear hr5 ho5 hf5
              refine HKK2.out _ _ ⟨fun _ => HS4.out, ?_⟩
              clear HKK2 K
              try simp only [Act.put, List.setIfInBounds_toArray]
              try dsimp only [List.getElem_toArray, List.getElem_cons_succ, List.getElem_cons_zero, List.set_cons_zero, List.set_cons_succ]
              refine wpAnyT_one (i := 14) rfl (by kernel_rfl) ?_
              refine wpOp_plain rfl rfl (fun K hK => ?_)
              try simp only [Act.put, List.setIfInBounds_toArray]
              try dsimp only [List.getElem_toArray, List.getElem_cons_succ, List.getElem_cons_zero, List.set_cons_zero, List.set_cons_succ]
              have HKK2 := Lib.hid hK
              clear hK
              obtain ⟨v46, W5, hr6, ho6, hf6⟩ := stepA W0.heap.size v42 _ (o.drop jj) A2 c2 W4 HO42.out (HP2.out W4 HS4.out) HS4.out.size HLEN3.out
              rw [HL2.out] at hr6
              refine wp_append_run _ _ rfl _ _ hr6 ?_
              have HS5 := Lib.hid (HS4.out.trans hf6 (fun i hi => .inr (rowp_cells HO42.out i hi).1))
              have HO46 := Lib.hid (show W5.ownsRow w.heap.size 42 2 v46 (insP o p).length ((insP o p).flatMap encP) by unfold insP; rw [HJ2.out]; exact own_weaken ho6 HFW.out.size)
              clear hr6 ho6 hf6
              refine HKK2.out _ _ ⟨fun _ => HS5.out, ?_⟩
              clear HKK2 K
              try simp only [Act.put, List.setIfInBounds_toArray]
              try dsimp only [List.getElem_toArray, List.getElem_cons_succ, List.getElem_cons_zero, List.set_cons_zero, List.set_cons_succ]
              refine wpAnyT_doneP (by first | rfl | kernel_rfl) _ _ _ ?_
              refine wpAny_take (i := 15) (v := v46) rfl (by kernel_rfl) (by kernel_rfl) (by kernel_rfl) (fun _ _ _ h => h) (.inl ⟨by rfl, fun W' => by go_simp⟩) ?_
              try simp only [Act.put, List.setIfInBounds_toArray]
              try dsimp only [List.getElem_toArray, List.getElem_cons_succ, List.getElem_cons_zero, List.set_cons_zero, List.set_cons_succ]
              refine wpAny_done (by kernel_rfl) ?_ _
              have HFin := Lib.hid (HFW.out.trans HS5.out (fun i hi => hi.elim))
              obtain ⟨aV, nV, cV, rfl⟩ := rowp_shape HO46.out
              go_wp2_with fail
              go_roundw
              case rel => exact ⟨k + 1, by omega, by go_num, HFin.out, by rw [HSt.out]; exact HO46.out⟩
              case measure => simp [intOf]; omega
            · refine wpOp_plain rfl rfl (fun K hK => ?_)
              try simp only [Act.put, List.setIfInBounds_toArray]
              try dsimp only [List.getElem_toArray, List.getElem_cons_succ, List.getElem_cons_zero, List.set_cons_zero, List.set_cons_succ]
              have HKK2 := Lib.hid hK
              clear hK
              obtain ⟨W2, g37, hr4, hp4, hf4, hg37, hlt37⟩ := HST4.out W1
              refine wp_build1 _ rfl _ _ hr4 ?_
              have HS2 := Lib.hid (HS1.out.trans hf4 (fun i hi => hi.elim))
              have HPp := Lib.hid hp4
              have HG37 := Lib.hid (And.intro hg37 hlt37)
              have HO33a := Lib.hid (rowp_keep HO33.out hf4 (fun _ _ => id))
              have HNE := Lib.hid (show g37 ≠ g33 by have h1 := hg37; obtain ⟨_, cs, h2⟩ := rowp_cells HO33.out g33 rfl; have h3 := lt_of_heap h2; omega)
              clear HO33
              have HO33 := HO33a
              clear HO33a
              clear hr4 hp4 hf4 hg37 hlt37
              refine HKK2.out _ _ ⟨fun _ => HS2.out, ?_⟩
              clear HKK2 K
              try simp only [Act.put, List.setIfInBounds_toArray]
              try dsimp only [List.getElem_toArray, List.getElem_cons_succ, List.getElem_cons_zero, List.set_cons_zero, List.set_cons_succ]
              refine wpAnyT_one (i := 4) rfl (by kernel_rfl) ?_
              refine wpOp_plain rfl rfl (fun K hK => ?_)
              try simp only [Act.put, List.setIfInBounds_toArray]
              try dsimp only [List.getElem_toArray, List.getElem_cons_succ, List.getElem_cons_zero, List.set_cons_zero, List.set_cons_succ]
              have HKK2 := Lib.hid hK
              clear hK
              obtain ⟨v35, W3, hr2, ho2, hf2⟩ := stepA W0.heap.size _ [] (o.take jj) A1 c1 W2 HO33.out (HP1.out W2 HS2.out) HS2.out.size HLEN1.out
              rw [HL1.out] at hr2
              refine wp_append_run _ _ rfl _ _ hr2 ?_
              have HS3 := Lib.hid (HS2.out.trans hf2 (fun i hi => .inr (rowp_cells HO33.out i hi).1))
              have HO35 := Lib.hid ho2
              have HPa := Lib.hid (HPp.out.fr hf2 (fun b off h => by cases h; intro e; cases e; exact HNE.out rfl))
              clear HPp
              have HPp := HPa
              clear HPa
              clear hr2 ho2 hf2
              refine HKK2.out _ _ ⟨fun _ => HS3.out, ?_⟩
              clear HKK2 K
              try simp only [Act.put, List.setIfInBounds_toArray]
              try dsimp only [List.getElem_toArray, List.getElem_cons_succ, List.getElem_cons_zero, List.set_cons_zero, List.set_cons_succ]
              refine wpAnyT_one (i := 10) rfl (by kernel_rfl) ?_
              refine wpOp_plain rfl rfl (fun K hK => ?_)
              try simp only [Act.put, List.setIfInBounds_toArray]
              try dsimp only [List.getElem_toArray, List.getElem_cons_succ, List.getElem_cons_zero, List.set_cons_zero, List.set_cons_succ]
              have HKK2 := Lib.hid hK
              clear hK
              obtain ⟨v42, W4, hr5, ho5, hf5⟩ := stepA W0.heap.size v35 _ [p] (some ⟨g37, 0, none⟩) 1 W3 HO35.out HPp.out HS3.out.size HLEN2.out
              refine wp_append_run _ _ rfl _ _ hr5 ?_
              have HS4 := Lib.hid (HS3.out.trans hf5 (fun i hi => .inr (rowp_cells HO35.out i hi).1))
              have HO42 := Lib.hid ho5
              clear hr5 ho5 hf5
              refine HKK2.out _ _ ⟨fun _ => HS4.out, ?_⟩
              clear HKK2 K
              try simp only [Act.put, List.setIfInBounds_toArray]
              try dsimp only [List.getElem_toArray, List.getElem_cons_succ, List.getElem_cons_zero, List.set_cons_zero, List.set_cons_succ]
              refine wpAnyT_one (i := 14) rfl (by kernel_rfl) ?_
              refine wpOp_plain rfl rfl (fun K hK => ?_)
              try simp only [Act.put, List.setIfInBounds_toArray]
              try dsimp only [List.getElem_toArray, List.getElem_cons_succ, List.getElem_cons_zero, List.set_cons_zero, List.set_cons_succ]
              have HKK2 := Lib.hid hK
              clear hK
              obtain ⟨v46, W5, hr6, ho6, hf6⟩ := stepA W0.heap.size v42 _ (o.drop jj) A2 c2 W4 HO42.out (HP2.out W4 HS4.out) HS4.out.size HLEN3.out
              rw [HL2.out] at hr6
              refine wp_append_run _ _ rfl _ _ hr6 ?_
              have HS5 := Lib.hid (HS4.out.trans hf6 (fun i hi => .inr (rowp_cells HO42.out i hi).1))
              have HO46 := Lib.hid (show W5.ownsRow w.heap.size 42 2 v46 (insP o p).length ((insP o p).flatMap encP) by unfold insP; rw [HJ2.out]; exact own_weaken ho6 HFW.out.size)
              clear hr6 ho6 hf6
              refine HKK2.out _ _ ⟨fun _ => HS5.out, ?_⟩
              clear HKK2 K
              try simp only [Act.put, List.setIfInBounds_toArray]
              try dsimp only [List.getElem_toArray, List.getElem_cons_succ, List.getElem_cons_zero, List.set_cons_zero, List.set_cons_succ]
              refine wpAnyT_doneP (by first | rfl | kernel_rfl) _ _ _ ?_
              refine wpAny_take (i := 15) (v := v46) rfl (by kernel_rfl) (by kernel_rfl) (by kernel_rfl) (fun _ _ _ h => h) (.inl ⟨by rfl, fun W' => by go_simp⟩) ?_
              try simp only [Act.put, List.setIfInBounds_toArray]
              try dsimp only [List.getElem_toArray, List.getElem_cons_succ, List.getElem_cons_zero, List.set_cons_zero, List.set_cons_succ]
              refine wpAny_done (by kernel_rfl) ?_ _
              have HFin := Lib.hid (HFW.out.trans HS5.out (fun i hi => hi.elim))
              obtain ⟨aV, nV, cV, rfl⟩ := rowp_shape HO46.out
              go_wp2_with fail
              go_roundw
              case rel => exact ⟨k + 1, by omega, by go_num, HFin.out, by rw [HSt.out]; exact HO46.out⟩
              case measure => simp [intOf]; omega
          · refine wpOp_plain rfl rfl (fun K hK => ?_)
            try simp only [Act.put, List.setIfInBounds_toArray]
            try dsimp only [List.getElem_toArray, List.getElem_cons_succ, List.getElem_cons_zero, List.set_cons_zero, List.set_cons_succ]
            have HKK2 := Lib.hid hK
            clear hK
            obtain ⟨W1, g37, hr4, hp4, hf4, hg37, hlt37⟩ := HST4.out W0
            refine wp_build1 _ rfl _ _ hr4 ?_
            have HS1 := Lib.hid (HSa.out.trans hf4 (fun i hi => hi.elim))
            have HPp := Lib.hid hp4
            have HG37 := Lib.hid (And.intro hg37 hlt37)
            clear hr4 hp4 hf4 hg37 hlt37
            refine HKK2.out _ _ ⟨fun _ => HS1.out, ?_⟩
            clear HKK2 K
            try simp only [Act.put, List.setIfInBounds_toArray]
            try dsimp only [List.getElem_toArray, List.getElem_cons_succ, List.getElem_cons_zero, List.set_cons_zero, List.set_cons_succ]
            refine wpAnyT_one (i := 0) rfl (by kernel_rfl) ?_
            refine wpOp_plain rfl rfl (fun K hK => ?_)
            try simp only [Act.put, List.setIfInBounds_toArray]
            try dsimp only [List.getElem_toArray, List.getElem_cons_succ, List.getElem_cons_zero, List.set_cons_zero, List.set_cons_succ]
            have HKK2 := Lib.hid hK
            clear hK
            obtain ⟨W2, g33, hr0, ho0, hf0, hg33⟩ := step0 W0.heap.size W1 HS1.out.size
            refine wp_build0 rfl _ _ hr0 ?_
            have HS2 := Lib.hid (HS1.out.trans hf0 (fun i hi => hi.elim))
            have HO33 := Lib.hid (show W2.ownsRow W0.heap.size 42 2 (.slice (some ⟨g33, 0, none⟩) 0 0) ([] : List Pr).length (([] : List Pr).flatMap encP) from ho0)
            have HNE := Lib.hid (show g37 ≠ g33 by have := HG37.out; omega)
            have HPa := Lib.hid (HPp.out.frF hf0)
            clear HPp
            have HPp := HPa
            clear HPa
            clear hr0 ho0 hf0 hg33
            refine HKK2.out _ _ ⟨fun _ => HS2.out, ?_⟩
            clear HKK2 K
            try simp only [Act.put, List.setIfInBounds_toArray]
            try dsimp only [List.getElem_toArray, List.getElem_cons_succ, List.getElem_cons_zero, List.set_cons_zero, List.set_cons_succ]
            refine wpAnyT_one (i := 4) rfl (by kernel_rfl) ?_
            refine wpOp_plain rfl rfl (fun K hK => ?_)
            try simp only [Act.put, List.setIfInBounds_toArray]
            try dsimp only [List.getElem_toArray, List.getElem_cons_succ, List.getElem_cons_zero, List.set_cons_zero, List.set_cons_succ]
            have HKK2 := Lib.hid hK
            clear hK
            obtain ⟨v35, W3, hr2, ho2, hf2⟩ := stepA W0.heap.size _ [] (o.take jj) A1 c1 W2 HO33.out (HP1.out W2 HS2.out) HS2.out.size HLEN1.out
            rw [HL1.out] at hr2
            refine wp_append_run _ _ rfl _ _ hr2 ?_
            have HS3 := Lib.hid (HS2.out.trans hf2 (fun i hi => .inr (rowp_cells HO33.out i hi).1))
            have HO35 := Lib.hid ho2
            have HPa := Lib.hid (HPp.out.fr hf2 (fun b off h => by cases h; intro e; cases e; exact HNE.out rfl))
            clear HPp
            have HPp := HPa
            clear HPa
            clear hr2 ho2 hf2
            refine HKK2.out _ _ ⟨fun _ => HS3.out, ?_⟩
            clear HKK2 K
            try simp only [Act.put, List.setIfInBounds_toArray]
            try dsimp only [List.getElem_toArray, List.getElem_cons_succ, List.getElem_cons_zero, List.set_cons_zero, List.set_cons_succ]
            refine wpAnyT_one (i := 10) rfl (by kernel_rfl) ?_
            refine wpOp_plain rfl rfl (fun K hK => ?_)
            try simp only [Act.put, List.setIfInBounds_toArray]
            try dsimp only [List.getElem_toArray, List.getElem_cons_succ, List.getElem_cons_zero, List.set_cons_zero, List.set_cons_succ]
            have HKK2 := Lib.hid hK
            clear hK
            obtain ⟨v42, W4, hr5, ho5, hf5⟩ := stepA W0.heap.size v35 _ [p] (some ⟨g37, 0, none⟩) 1 W3 HO35.out HPp.out HS3.out.size HLEN2.out
            refine wp_append_run _ _ rfl _ _ hr5 ?_
            have HS4 := Lib.hid (HS3.out.trans hf5 (fun i hi => .inr (rowp_cells HO35.out i hi).1))
            have HO42 := Lib.hid ho5
            clear hr5 ho5 hf5
            refine HKK2.out _ _ ⟨fun _ => HS4.out, ?_⟩
            clear HKK2 K
            try simp only [Act.put, List.setIfInBounds_toArray]
            try dsimp only [List.getElem_toArray, List.getElem_cons_succ, List.getElem_cons_zero, List.set_cons_zero, List.set_cons_succ]
            refine wpAnyT_one (i := 14) rfl (by kernel_rfl) ?_
            refine wpOp_plain rfl rfl (fun K hK => ?_)
            try simp only [Act.put, List.setIfInBounds_toArray]
            try dsimp only [List.getElem_toArray, List.getElem_cons_succ, List.getElem_cons_zero, List.set_cons_zero, List.set_cons_succ]
            have HKK2 := Lib.hid hK
            clear hK
            obtain ⟨v46, W5, hr6, ho6, hf6⟩ := stepA W0.heap.size v42 _ (o.drop jj) A2 c2 W4 HO42.out (HP2.out W4 HS4.out) HS4.out.size HLEN3.out
            rw [HL2.out] at hr6
            refine wp_append_run _ _ rfl _ _ hr6 ?_
            have HS5 := Lib.hid (HS4.out.trans hf6 (fun i hi => .inr (rowp_cells HO42.out i hi).1))
            have HO46 := Lib.hid (show W5.ownsRow w.heap.size 42 2 v46 (insP o p).length ((insP o p).flatMap encP) by unfold insP; rw [HJ2.out]; exact own_weaken ho6 HFW.out.size)
            clear hr6 ho6 hf6
            refine HKK2.out _ _ ⟨fun _ => HS5.out, ?_⟩
            clear HKK2 K
            try simp only [Act.put, List.setIfInBounds_toArray]
            try dsimp only [List.getElem_toArray, List.getElem_cons_succ, List.getElem_cons_zero, List.set_cons_zero, List.set_cons_succ]
            refine wpAnyT_doneP (by first | rfl | kernel_rfl) _ _ _ ?_
            refine wpAny_take (i := 15) (v := v46) rfl (by kernel_rfl) (by kernel_rfl) (by kernel_rfl) (fun _ _ _ h => h) (.inl ⟨by rfl, fun W' => by go_simp⟩) ?_
            try simp only [Act.put, List.setIfInBounds_toArray]
            try dsimp only [List.getElem_toArray, List.getElem_cons_succ, List.getElem_cons_zero, List.set_cons_zero, List.set_cons_succ]
            refine wpAny_done (by kernel_rfl) ?_ _
            have HFin := Lib.hid (HFW.out.trans HS5.out (fun i hi => hi.elim))
            obtain ⟨aV, nV, cV, rfl⟩ := rowp_shape HO46.out
            go_wp2_with fail
            go_roundw
            case rel => exact ⟨k + 1, by omega, by go_num, HFin.out, by rw [HSt.out]; exact HO46.out⟩
            case measure => simp [intOf]; omega
        · obtain ⟨j', rfl⟩ : ∃ j', j = j' + 1 := ⟨j - 1, by omega⟩
          have hjo : j' < o.length := by rw [HOL.out]; omega
          rcases HPO.out with h0 | ⟨b2, off2, rfl, hpb2, hb2⟩
          · exact absurd hjo (by rw [h0]; simp)
          obtain ⟨d0, d1⟩ := (hpb2.fr HFQ.out id).cells j' hjo
          obtain ⟨d2, d3⟩ := (hpb2.fr HFQ.out.drew id).cells j' hjo
          have c0 := HC.out _ (HF.out.trans HFQ.out (fun i hi => hi.elim))
          have c1 := HC.out _ (HF.out.trans HFQ.out.drew (fun i hi => hi.elim))
          have hps := posF_step p o j' hjo
          obtain ⟨J, hJ⟩ : ∃ s, s = str (o[j']'hjo).1 := ⟨_, rfl⟩
          rw [← hJ] at d0 d2
          have hw1 : IntKind.i64.wrap (((j' + 1 : Nat) : Int) - 1) = (j' : Int) := by rw [IntWalk.i64_in _ (by omega)]; omega
          have hw2 : IntKind.i64.wrap (((j' : Int) + 1) - 1) = (j' : Int) := by rw [IntWalk.i64_in _ (by omega)]; omega
          have hjk : (j' : Int) < (k : Int) := by omega
          have hpj : (0 : Int) < ((j' : Int) + 1) := by omega
          by_cases hless : Op.bytesLess p.1 (o[j']'hjo).1 = true
          · have t5 : Op.bytesLess K.toList J.toList = true := by rw [HKK.out, hJ, str_toList, str_toList]; exact hless
            have HPS := Lib.hid (show posF p o (j' + 1) = posF p o j' by rw [hps, if_pos hless])
            clear hless hJ hps
            go_wp2_with fail
            go_quiet (fail)
            go_wp2_with fail
            go_roundw
            case rel => exact ⟨j', by omega, rfl, HFQ.out.drewN _, HPF.out.trans HPS.out⟩
            case measure => simp [intOf]
          · have t5 : Op.bytesLess K.toList J.toList = false := by rw [HKK.out, hJ, str_toList, str_toList]; simpa using hless
            have HJ := Lib.hid (show posF p o k = j' + 1 by rw [HPF.out, hps, if_neg hless])
            clear hless hJ hps
            go_wp2_with fail
            go_quiet (fail)
            go_wp2_with fail
            clear d0 d1 d2 d3 c0 c1 hw1 hw2 hjk hpj hpb2 hb2
            obtain ⟨A, hA⟩ : ∃ A : Option Addr, A = some ⟨b2, off2, none⟩ := ⟨_, rfl⟩
            rw [← hA] at HPO ⊢
            refine wp_region_till (fun w' => Fr (fun _ => False) ((wr.drewN nq).drew) w') 14 rfl ?_
            obtain ⟨jj, hjj⟩ : ∃ jj : Nat, jj = j' + 1 := ⟨_, rfl⟩
            generalize hW0 : (wr.drewN nq).drew = W0
            have HJ2 := Lib.hid (show posF p o o.length = jj by rw [HOL.out, hjj]; exact HJ.out)
            have hjk2 : jj ≤ k := by rw [hjj]; omega
            have HFr := Lib.hid (show Fr (fun _ => False) _ W0 by rw [← hW0]; exact (HFQ.out.drewN _).drew)
            have HFW := Lib.hid (HF.out.trans HFr.out (fun i hi => hi.elim))
            have HSa := Lib.hid (Fr.refl (fun _ => False) W0)
            obtain ⟨A1, hA1⟩ : ∃ A' : Option Addr, A' = (if C = 0 then A else A.map (·.add (0 * 2))) := ⟨_, rfl⟩
            obtain ⟨A2, hA2⟩ : ∃ A' : Option Addr, A' = (if C = jj then A else A.map (·.add (jj * 2))) := ⟨_, rfl⟩
            obtain ⟨c1, hc1⟩ : ∃ c, c = C := ⟨_, rfl⟩
            obtain ⟨c2, hc2⟩ : ∃ c, c = C - jj := ⟨_, rfl⟩
            have HT1 := Lib.hid (show ∀ W, (Instr.slice 24 (.slice A k C) none (some (.int .i64 (jj : Int))) none).run Tryz.prog W = .ok (.slice A1 jj c1) W from fun W => by rw [hA1, hc1]; exact slice_to A k C jj (by have := HG.out; omega) HG.out.2 W)
            have HT2 := Lib.hid (show ∀ W, (Instr.slice 24 (.slice A k C) (some (.int .i64 (jj : Int))) none none).run Tryz.prog W = .ok (.slice A2 (k - jj) c2) W from fun W => by rw [hA2, hc2]; exact slice_from A k C jj hjk2 HG.out.1 HG.out.2 W)
            have HL1 := Lib.hid (show (o.take jj).length = jj by rw [List.length_take, HOL.out]; omega)
            have HL2 := Lib.hid (show (o.drop jj).length = k - jj by rw [List.length_drop, HOL.out])
            have HP1 := Lib.hid (show ∀ W, Fr (fun _ => False) W0 W → PSl W A1 (o.take jj) from fun W hW => by rw [hA1]; exact psl_take (HPO.out.frF (HFr.out.trans hW (fun i hi => hi.elim))) (by rw [HOL.out]; exact HG.out.1))
            have HP2 := Lib.hid (show ∀ W, Fr (fun _ => False) W0 W → PSl W A2 (o.drop jj) from fun W hW => by rw [hA2]; exact psl_drop (HPO.out.frF (HFr.out.trans hW (fun i hi => hi.elim))) (by rw [HOL.out]; exact HG.out.1))
            have HLEN1 := Lib.hid (show ([] : List Pr).length + (o.take jj).length ≤ 1000 by rw [HL1.out]; simp; omega)
            have HLEN2 := Lib.hid (show ([] ++ o.take jj).length + [p].length ≤ 1000 by rw [List.nil_append, HL1.out]; simp; omega)
            have HLEN3 := Lib.hid (show ([] ++ o.take jj ++ [p]).length + (o.drop jj).length ≤ 1000 by rw [List.nil_append, List.length_append, HL1.out, HL2.out]; simp; omega)
            have HCL := Lib.hid (show ∀ W, Fr (fun _ => False) W0 W → W.rangeAt b (off + k * 2) [.string K, .string V] from fun W hW => HCW.out W (HFW.out.trans hW (fun i hi => hi.elim)))
            rw [← hjj]
            clear hjj hW0 hA1 hA2 hc1 hc2
            refine wpAnyT_path (i := 1) (p := [10, 4, 3]) (v := .slice A k C) rfl (by kernel_rfl) (by kernel_rfl) (fun _ _ _ h => h) HSa.out (.inl ⟨by rfl, fun W' hW => by clear hW; go_simp⟩) ?_
            try simp only [Act.put, List.setIfInBounds_toArray]
            try dsimp only [List.getElem_toArray, List.getElem_cons_succ, List.getElem_cons_zero, List.set_cons_zero, List.set_cons_succ]
            refine wpAnyT_path (i := 2) (p := [10, 4, 3]) (v := .int .i64 (jj : Int)) rfl (by kernel_rfl) (by kernel_rfl) (fun _ _ _ h => h) HSa.out (.inl ⟨by rfl, fun W' hW => by clear hW; go_simp⟩) ?_
            try simp only [Act.put, List.setIfInBounds_toArray]
            try dsimp only [List.getElem_toArray, List.getElem_cons_succ, List.getElem_cons_zero, List.set_cons_zero, List.set_cons_succ]
            refine wpAnyT_path (i := 3) (p := [10, 4]) (v := .slice A1 jj c1) rfl (by kernel_rfl) (by kernel_rfl) (fun _ _ _ h => h) HSa.out (yieldsIf_plain rfl (fun W' hW => by clear hW; have h := HT1.out W'; simp [execOp, Instr.sliceAt, Act.eval, run_underlying Tryz.underlying24, h])) ?_
            try simp only [Act.put, List.setIfInBounds_toArray]
            try dsimp only [List.getElem_toArray, List.getElem_cons_succ, List.getElem_cons_zero, List.set_cons_zero, List.set_cons_succ]
            refine wpAnyT_path (i := 5) (p := [10, 9, 8, 7]) (v := .slice (some ⟨b, off, none⟩) n cap) rfl (by kernel_rfl) (by kernel_rfl) (fun _ _ _ h => h) HSa.out (.inl ⟨by rfl, fun W' hW => by clear hW; go_simp⟩) ?_
            try simp only [Act.put, List.setIfInBounds_toArray]
            try dsimp only [List.getElem_toArray, List.getElem_cons_succ, List.getElem_cons_zero, List.set_cons_zero, List.set_cons_succ]
            refine wpAnyT_path (i := 6) (p := [10, 9, 8, 7]) (v := .int .i64 (k : Int)) rfl (by kernel_rfl) (by kernel_rfl) (fun _ _ _ h => h) HSa.out (.inl ⟨by rfl, fun W' hW => by clear hW; go_simp⟩) ?_
            try simp only [Act.put, List.setIfInBounds_toArray]
            try dsimp only [List.getElem_toArray, List.getElem_cons_succ, List.getElem_cons_zero, List.set_cons_zero, List.set_cons_succ]
            refine wpAnyT_path (i := 7) (p := [10, 9, 8]) (v := .pointer (some ⟨b, off + k * 2, none⟩)) rfl (by kernel_rfl) (by kernel_rfl) (fun _ _ _ h => h) HSa.out (.inl ⟨by rfl, fun W' hW => by clear hW; go_simp⟩) ?_
            try simp only [Act.put, List.setIfInBounds_toArray]
            try dsimp only [List.getElem_toArray, List.getElem_cons_succ, List.getElem_cons_zero, List.set_cons_zero, List.set_cons_succ]
            refine wpAnyT_path (i := 8) (p := [10, 9]) (v := .agg #[.string K, .string V]) rfl (by kernel_rfl) (by kernel_rfl) (fun _ _ _ h => h) HSa.out (yieldsIf_load rfl 42 (.tmp 39) rfl b (off + k * 2) rfl [.string K, .string V] _ (fun W' hW => HCL.out W' hW) Tryz.underlying42 rfl (by kernel_rfl)) ?_
            try simp only [Act.put, List.setIfInBounds_toArray]
            try dsimp only [List.getElem_toArray, List.getElem_cons_succ, List.getElem_cons_zero, List.set_cons_zero, List.set_cons_succ]
            refine wpAnyT_path (i := 11) (p := [13]) (v := .slice A k C) rfl (by kernel_rfl) (by kernel_rfl) (fun _ _ _ h => h) HSa.out (.inl ⟨by rfl, fun W' hW => by clear hW; go_simp⟩) ?_
            try simp only [Act.put, List.setIfInBounds_toArray]
            try dsimp only [List.getElem_toArray, List.getElem_cons_succ, List.getElem_cons_zero, List.set_cons_zero, List.set_cons_succ]
            refine wpAnyT_path (i := 12) (p := [13]) (v := .int .i64 (jj : Int)) rfl (by kernel_rfl) (by kernel_rfl) (fun _ _ _ h => h) HSa.out (.inl ⟨by rfl, fun W' hW => by clear hW; go_simp⟩) ?_
            try simp only [Act.put, List.setIfInBounds_toArray]
            try dsimp only [List.getElem_toArray, List.getElem_cons_succ, List.getElem_cons_zero, List.set_cons_zero, List.set_cons_succ]
            refine wpAnyT_path (i := 13) (p := []) (v := .slice A2 (k - jj) c2) rfl (by kernel_rfl) (by kernel_rfl) (fun _ _ _ h => h) HSa.out (yieldsIf_plain rfl (fun W' hW => by clear hW; have h := HT2.out W'; simp [execOp, Instr.sliceAt, Act.eval, run_underlying Tryz.underlying24, h])) ?_
            try simp only [Act.put, List.setIfInBounds_toArray]
            try dsimp only [List.getElem_toArray, List.getElem_cons_succ, List.getElem_cons_zero, List.set_cons_zero, List.set_cons_succ]
            refine wpAnyT_two (i := 0) (j := 9) (by kernel_rfl) ?_ ?_
            · refine wpOp_plain rfl rfl (fun K hK => ?_)
              try simp only [Act.put, List.setIfInBounds_toArray]
              try dsimp only [List.getElem_toArray, List.getElem_cons_succ, List.getElem_cons_zero, List.set_cons_zero, List.set_cons_succ]
              have HKK2 := Lib.hid hK
              clear hK
              obtain ⟨W1, g33, hr0, ho0, hf0, hg33⟩ := step0 W0.heap.size W0 HSa.out.size
              refine wp_build0 rfl _ _ hr0 ?_
              have HS1 := Lib.hid (HSa.out.trans hf0 (fun i hi => hi.elim))
              have HO33 := Lib.hid (show W1.ownsRow W0.heap.size 42 2 (.slice (some ⟨g33, 0, none⟩) 0 0) ([] : List Pr).length (([] : List Pr).flatMap encP) from ho0)
              clear hr0 ho0 hf0 hg33
              refine HKK2.out _ _ ⟨fun _ => HS1.out, ?_⟩
              clear HKK2 K
              try simp only [Act.put, List.setIfInBounds_toArray]
              try dsimp only [List.getElem_toArray, List.getElem_cons_succ, List.getElem_cons_zero, List.set_cons_zero, List.set_cons_succ]
              refine wpAnyT_two (i := 4) (j := 9) (by kernel_rfl) ?_ ?_
              · refine wpOp_plain rfl rfl (fun K hK => ?_)
                try simp only [Act.put, List.setIfInBounds_toArray]
                try dsimp only [List.getElem_toArray, List.getElem_cons_succ, List.getElem_cons_zero, List.set_cons_zero, List.set_cons_succ]
                have HKK2 := Lib.hid hK
                clear hK
                obtain ⟨v35, W2, hr2, ho2, hf2⟩ := stepA W0.heap.size _ [] (o.take jj) A1 c1 W1 HO33.out (HP1.out W1 HS1.out) HS1.out.size HLEN1.out
                rw [HL1.out] at hr2
                refine wp_append_run _ _ rfl _ _ hr2 ?_
                have HS2 := Lib.hid (HS1.out.trans hf2 (fun i hi => .inr (rowp_cells HO33.out i hi).1))
                have HO35 := Lib.hid ho2
                clear hr2 ho2 hf2
                refine HKK2.out _ _ ⟨fun _ => HS2.out, ?_⟩
                clear HKK2 K
                try simp only [Act.put, List.setIfInBounds_toArray]
                try dsimp only [List.getElem_toArray, List.getElem_cons_succ, List.getElem_cons_zero, List.set_cons_zero, List.set_cons_succ]
                refine wpAnyT_one (i := 9) rfl (by kernel_rfl) ?_
                refine wpOp_plain rfl rfl (fun K hK => ?_)
                try simp only [Act.put, List.setIfInBounds_toArray]
                try dsimp only [List.getElem_toArray, List.getElem_cons_succ, List.getElem_cons_zero, List.set_cons_zero, List.set_cons_succ]
                have HKK2 := Lib.hid hK
                clear hK
                obtain ⟨W3, g37, hr4, hp4, hf4, hg37, hlt37⟩ := HST4.out W2
                refine wp_build1 _ rfl _ _ hr4 ?_
                have HS3 := Lib.hid (HS2.out.trans hf4 (fun i hi => hi.elim))
                have HPp := Lib.hid hp4
                have HG37 := Lib.hid (And.intro hg37 hlt37)
                have HO35a := Lib.hid (rowp_keep HO35.out hf4 (fun _ _ => id))
                clear HO35
                have HO35 := HO35a
                clear HO35a
                clear hr4 hp4 hf4 hg37 hlt37
                refine HKK2.out _ _ ⟨fun _ => HS3.out, ?_⟩
                clear HKK2 K
                try simp only [Act.put, List.setIfInBounds_toArray]
                try dsimp only [List.getElem_toArray, List.getElem_cons_succ, List.getElem_cons_zero, List.set_cons_zero, List.set_cons_succ]
                refine wpAnyT_one (i := 10) rfl (by kernel_rfl) ?_
                refine wpOp_plain rfl rfl (fun K hK => ?_)
                try simp only [Act.put, List.setIfInBounds_toArray]
                try dsimp only [List.getElem_toArray, List.getElem_cons_succ, List.getElem_cons_zero, List.set_cons_zero, List.set_cons_succ]
                have HKK2 := Lib.hid hK
                clear hK
                obtain ⟨v42, W4, hr5, ho5, hf5⟩ := stepA W0.heap.size v35 _ [p] (some ⟨g37, 0, none⟩) 1 W3 HO35.out HPp.out HS3.out.size HLEN2.out
                refine wp_append_run _ _ rfl _ _ hr5 ?_
                have HS4 := Lib.hid (HS3.out.trans hf5 (fun i hi => .inr (rowp_cells HO35.out i hi).1))
                have HO42 := Lib.hid ho5
                clear hr5 ho5 hf5
                refine HKK2.out _ _ ⟨fun _ => HS4.out, ?_⟩
                clear HKK2 K
                try simp only [Act.put, List.setIfInBounds_toArray]
                try dsimp only [List.getElem_toArray, List.getElem_cons_succ, List.getElem_cons_zero, List.set_cons_zero, List.set_cons_succ]
                refine wpAnyT_one (i := 14) rfl (by kernel_rfl) ?_
                refine wpOp_plain rfl rfl (fun K hK => ?_)
                try simp only [Act.put, List.setIfInBounds_toArray]
                try dsimp only [List.getElem_toArray, List.getElem_cons_succ, List.getElem_cons_zero, List.set_cons_zero, List.set_cons_succ]
                have HKK2 := Lib.hid hK
                clear hK
                obtain ⟨v46, W5, hr6, ho6, hf6⟩ := stepA W0.heap.size v42 _ (o.drop jj) A2 c2 W4 HO42.out (HP2.out W4 HS4.out) HS4.out.size HLEN3.out
                rw [HL2.out] at hr6
                refine wp_append_run _ _ rfl _ _ hr6 ?_
                have HS5 := Lib.hid (HS4.out.trans hf6 (fun i hi => .inr (rowp_cells HO42.out i hi).1))
                have HO46 := Lib.hid (show W5.ownsRow w.heap.size 42 2 v46 (insP o p).length ((insP o p).flatMap encP) by unfold insP; rw [HJ2.out]; exact own_weaken ho6 HFW.out.size)
                clear hr6 ho6 hf6
                refine HKK2.out _ _ ⟨fun _ => HS5.out, ?_⟩
                clear HKK2 K
                try simp only [Act.put, List.setIfInBounds_toArray]
                try dsimp only [List.getElem_toArray, List.getElem_cons_succ, List.getElem_cons_zero, List.set_cons_zero, List.set_cons_succ]
                refine wpAnyT_doneP (by first | rfl | kernel_rfl) _ _ _ ?_
                refine wpAny_take (i := 15) (v := v46) rfl (by kernel_rfl) (by kernel_rfl) (by kernel_rfl) (fun _ _ _ h => h) (.inl ⟨by rfl, fun W' => by go_simp⟩) ?_
                try simp only [Act.put, List.setIfInBounds_toArray]
                try dsimp only [List.getElem_toArray, List.getElem_cons_succ, List.getElem_cons_zero, List.set_cons_zero, List.set_cons_succ]
                refine wpAny_done (by kernel_rfl) ?_ _
                have HFin := Lib.hid (HFW.out.trans HS5.out (fun i hi => hi.elim))
                obtain ⟨aV, nV, cV, rfl⟩ := rowp_shape HO46.out
                go_wp2_with fail
                go_roundw
                case rel => exact ⟨k + 1, by omega, by go_num, HFin.out, by rw [HSt.out]; exact HO46.out⟩
                case measure => simp [intOf]; omega
              · refine wpOp_plain rfl rfl (fun K hK => ?_)
                try simp only [Act.put, List.setIfInBounds_toArray]
                try dsimp only [List.getElem_toArray, List.getElem_cons_succ, List.getElem_cons_zero, List.set_cons_zero, List.set_cons_succ]
                have HKK2 := Lib.hid hK
                clear hK
                obtain ⟨W2, g37, hr4, hp4, hf4, hg37, hlt37⟩ := HST4.out W1
                refine wp_build1 _ rfl _ _ hr4 ?_
                have HS2 := Lib.hid (HS1.out.trans hf4 (fun i hi => hi.elim))
                have HPp := Lib.hid hp4
                have HG37 := Lib.hid (And.intro hg37 hlt37)
                have HO33a := Lib.hid (rowp_keep HO33.out hf4 (fun _ _ => id))
                have HNE := Lib.hid (show g37 ≠ g33 by have h1 := hg37; obtain ⟨_, cs, h2⟩ := rowp_cells HO33.out g33 rfl; have h3 := lt_of_heap h2; omega)
                clear HO33
                have HO33 := HO33a
                clear HO33a
                clear hr4 hp4 hf4 hg37 hlt37
                refine HKK2.out _ _ ⟨fun _ => HS2.out, ?_⟩
                clear HKK2 K
                try simp only [Act.put, List.setIfInBounds_toArray]
                try dsimp only [List.getElem_toArray, List.getElem_cons_succ, List.getElem_cons_zero, List.set_cons_zero, List.set_cons_succ]
                refine wpAnyT_one (i := 4) rfl (by kernel_rfl) ?_
                refine wpOp_plain rfl rfl (fun K hK => ?_)
                try simp only [Act.put, List.setIfInBounds_toArray]
                try dsimp only [List.getElem_toArray, List.getElem_cons_succ, List.getElem_cons_zero, List.set_cons_zero, List.set_cons_succ]
                have HKK2 := Lib.hid hK
                clear hK
                obtain ⟨v35, W3, hr2, ho2, hf2⟩ := stepA W0.heap.size _ [] (o.take jj) A1 c1 W2 HO33.out (HP1.out W2 HS2.out) HS2.out.size HLEN1.out
                rw [HL1.out] at hr2
                refine wp_append_run _ _ rfl _ _ hr2 ?_
                have HS3 := Lib.hid (HS2.out.trans hf2 (fun i hi => .inr (rowp_cells HO33.out i hi).1))
                have HO35 := Lib.hid ho2
                have HPa := Lib.hid (HPp.out.fr hf2 (fun b off h => by cases h; intro e; cases e; exact HNE.out rfl))
                clear HPp
                have HPp := HPa
                clear HPa
                clear hr2 ho2 hf2
                refine HKK2.out _ _ ⟨fun _ => HS3.out, ?_⟩
                clear HKK2 K
                try simp only [Act.put, List.setIfInBounds_toArray]
                try dsimp only [List.getElem_toArray, List.getElem_cons_succ, List.getElem_cons_zero, List.set_cons_zero, List.set_cons_succ]
                refine wpAnyT_one (i := 10) rfl (by kernel_rfl) ?_
                refine wpOp_plain rfl rfl (fun K hK => ?_)
                try simp only [Act.put, List.setIfInBounds_toArray]
                try dsimp only [List.getElem_toArray, List.getElem_cons_succ, List.getElem_cons_zero, List.set_cons_zero, List.set_cons_succ]
                have HKK2 := Lib.hid hK
                clear hK
                obtain ⟨v42, W4, hr5, ho5, hf5⟩ := stepA W0.heap.size v35 _ [p] (some ⟨g37, 0, none⟩) 1 W3 HO35.out HPp.out HS3.out.size HLEN2.out
                refine wp_append_run _ _ rfl _ _ hr5 ?_
                have HS4 := Lib.hid (HS3.out.trans hf5 (fun i hi => .inr (rowp_cells HO35.out i hi).1))
                have HO42 := Lib.hid ho5
                clear hr5 ho5 hf5
                refine HKK2.out _ _ ⟨fun _ => HS4.out, ?_⟩
                clear HKK2 K
                try simp only [Act.put, List.setIfInBounds_toArray]
                try dsimp only [List.getElem_toArray, List.getElem_cons_succ, List.getElem_cons_zero, List.set_cons_zero, List.set_cons_succ]
                refine wpAnyT_one (i := 14) rfl (by kernel_rfl) ?_
                refine wpOp_plain rfl rfl (fun K hK => ?_)
                try simp only [Act.put, List.setIfInBounds_toArray]
                try dsimp only [List.getElem_toArray, List.getElem_cons_succ, List.getElem_cons_zero, List.set_cons_zero, List.set_cons_succ]
                have HKK2 := Lib.hid hK
                clear hK
                obtain ⟨v46, W5, hr6, ho6, hf6⟩ := stepA W0.heap.size v42 _ (o.drop jj) A2 c2 W4 HO42.out (HP2.out W4 HS4.out) HS4.out.size HLEN3.out
                rw [HL2.out] at hr6
                refine wp_append_run _ _ rfl _ _ hr6 ?_
                have HS5 := Lib.hid (HS4.out.trans hf6 (fun i hi => .inr (rowp_cells HO42.out i hi).1))
                have HO46 := Lib.hid (show W5.ownsRow w.heap.size 42 2 v46 (insP o p).length ((insP o p).flatMap encP) by unfold insP; rw [HJ2.out]; exact own_weaken ho6 HFW.out.size)
                clear hr6 ho6 hf6
                refine HKK2.out _ _ ⟨fun _ => HS5.out, ?_⟩
                clear HKK2 K
                try simp only [Act.put, List.setIfInBounds_toArray]
                try dsimp only [List.getElem_toArray, List.getElem_cons_succ, List.getElem_cons_zero, List.set_cons_zero, List.set_cons_succ]
                refine wpAnyT_doneP (by first | rfl | kernel_rfl) _ _ _ ?_
                refine wpAny_take (i := 15) (v := v46) rfl (by kernel_rfl) (by kernel_rfl) (by kernel_rfl) (fun _ _ _ h => h) (.inl ⟨by rfl, fun W' => by go_simp⟩) ?_
                try simp only [Act.put, List.setIfInBounds_toArray]
                try dsimp only [List.getElem_toArray, List.getElem_cons_succ, List.getElem_cons_zero, List.set_cons_zero, List.set_cons_succ]
                refine wpAny_done (by kernel_rfl) ?_ _
                have HFin := Lib.hid (HFW.out.trans HS5.out (fun i hi => hi.elim))
                obtain ⟨aV, nV, cV, rfl⟩ := rowp_shape HO46.out
                go_wp2_with fail
                go_roundw
                case rel => exact ⟨k + 1, by omega, by go_num, HFin.out, by rw [HSt.out]; exact HO46.out⟩
                case measure => simp [intOf]; omega
            · refine wpOp_plain rfl rfl (fun K hK => ?_)
              try simp only [Act.put, List.setIfInBounds_toArray]
              try dsimp only [List.getElem_toArray, List.getElem_cons_succ, List.getElem_cons_zero, List.set_cons_zero, List.set_cons_succ]
              have HKK2 := Lib.hid hK
              clear hK
              obtain ⟨W1, g37, hr4, hp4, hf4, hg37, hlt37⟩ := HST4.out W0
              refine wp_build1 _ rfl _ _ hr4 ?_
              have HS1 := Lib.hid (HSa.out.trans hf4 (fun i hi => hi.elim))
              have HPp := Lib.hid hp4
              have HG37 := Lib.hid (And.intro hg37 hlt37)
              clear hr4 hp4 hf4 hg37 hlt37
              refine HKK2.out _ _ ⟨fun _ => HS1.out, ?_⟩
              clear HKK2 K
              try simp only [Act.put, List.setIfInBounds_toArray]
              try dsimp only [List.getElem_toArray, List.getElem_cons_succ, List.getElem_cons_zero, List.set_cons_zero, List.set_cons_succ]
              refine wpAnyT_one (i := 0) rfl (by kernel_rfl) ?_
              refine wpOp_plain rfl rfl (fun K hK => ?_)
              try simp only [Act.put, List.setIfInBounds_toArray]
              try dsimp only [List.getElem_toArray, List.getElem_cons_succ, List.getElem_cons_zero, List.set_cons_zero, List.set_cons_succ]
              have HKK2 := Lib.hid hK
              clear hK
              obtain ⟨W2, g33, hr0, ho0, hf0, hg33⟩ := step0 W0.heap.size W1 HS1.out.size
              refine wp_build0 rfl _ _ hr0 ?_
              have HS2 := Lib.hid (HS1.out.trans hf0 (fun i hi => hi.elim))
              have HO33 := Lib.hid (show W2.ownsRow W0.heap.size 42 2 (.slice (some ⟨g33, 0, none⟩) 0 0) ([] : List Pr).length (([] : List Pr).flatMap encP) from ho0)
              have HNE := Lib.hid (show g37 ≠ g33 by have := HG37.out; omega)
              have HPa := Lib.hid (HPp.out.frF hf0)
              clear HPp
              have HPp := HPa
              clear HPa
              clear hr0 ho0 hf0 hg33
              refine HKK2.out _ _ ⟨fun _ => HS2.out, ?_⟩
              clear HKK2 K
              try simp only [Act.put, List.setIfInBounds_toArray]
              try dsimp only [List.getElem_toArray, List.getElem_cons_succ, List.getElem_cons_zero, List.set_cons_zero, List.set_cons_succ]
              refine wpAnyT_one (i := 4) rfl (by kernel_rfl) ?_
              refine wpOp_plain rfl rfl (fun K hK => ?_)
              try simp only [Act.put, List.setIfInBounds_toArray]
              try dsimp only [List.getElem_toArray, List.getElem_cons_succ, List.getElem_cons_zero, List.set_cons_zero, List.set_cons_succ]
              have HKK2 := Lib.hid hK
              clear hK
              obtain ⟨v35, W3, hr2, ho2, hf2⟩ := stepA W0.heap.size _ [] (o.take jj) A1 c1 W2 HO33.out (HP1.out W2 HS2.out) HS2.out.size HLEN1.out
              rw [HL1.out] at hr2
              refine wp_append_run _ _ rfl _ _ hr2 ?_
              have HS3 := Lib.hid (HS2.out.trans hf2 (fun i hi => .inr (rowp_cells HO33.out i hi).1))
              have HO35 := Lib.hid ho2
              have HPa := Lib.hid (HPp.out.fr hf2 (fun b off h => by cases h; intro e; cases e; exact HNE.out rfl))
              clear HPp
              have HPp := HPa
              clear HPa
              clear hr2 ho2 hf2
              refine HKK2.out _ _ ⟨fun _ => HS3.out, ?_⟩
              clear HKK2 K
              try simp only [Act.put, List.setIfInBounds_toArray]
              try dsimp only [List.getElem_toArray, List.getElem_cons_succ, List.getElem_cons_zero, List.set_cons_zero, List.set_cons_succ]
              refine wpAnyT_one (i := 10) rfl (by kernel_rfl) ?_
              refine wpOp_plain rfl rfl (fun K hK => ?_)
              try simp only [Act.put, List.setIfInBounds_toArray]
              try dsimp only [List.getElem_toArray, List.getElem_cons_succ, List.getElem_cons_zero, List.set_cons_zero, List.set_cons_succ]
              have HKK2 := Lib.hid hK
              clear hK
              obtain ⟨v42, W4, hr5, ho5, hf5⟩ := stepA W0.heap.size v35 _ [p] (some ⟨g37, 0, none⟩) 1 W3 HO35.out HPp.out HS3.out.size HLEN2.out
              refine wp_append_run _ _ rfl _ _ hr5 ?_
              have HS4 := Lib.hid (HS3.out.trans hf5 (fun i hi => .inr (rowp_cells HO35.out i hi).1))
              have HO42 := Lib.hid ho5
              clear hr5 ho5 hf5
              refine HKK2.out _ _ ⟨fun _ => HS4.out, ?_⟩
              clear HKK2 K
              try simp only [Act.put, List.setIfInBounds_toArray]
              try dsimp only [List.getElem_toArray, List.getElem_cons_succ, List.getElem_cons_zero, List.set_cons_zero, List.set_cons_succ]
              refine wpAnyT_one (i := 14) rfl (by kernel_rfl) ?_
              refine wpOp_plain rfl rfl (fun K hK => ?_)
              try simp only [Act.put, List.setIfInBounds_toArray]
              try dsimp only [List.getElem_toArray, List.getElem_cons_succ, List.getElem_cons_zero, List.set_cons_zero, List.set_cons_succ]
              have HKK2 := Lib.hid hK
              clear hK
              obtain ⟨v46, W5, hr6, ho6, hf6⟩ := stepA W0.heap.size v42 _ (o.drop jj) A2 c2 W4 HO42.out (HP2.out W4 HS4.out) HS4.out.size HLEN3.out
              rw [HL2.out] at hr6
              refine wp_append_run _ _ rfl _ _ hr6 ?_
              have HS5 := Lib.hid (HS4.out.trans hf6 (fun i hi => .inr (rowp_cells HO42.out i hi).1))
              have HO46 := Lib.hid (show W5.ownsRow w.heap.size 42 2 v46 (insP o p).length ((insP o p).flatMap encP) by unfold insP; rw [HJ2.out]; exact own_weaken ho6 HFW.out.size)
              clear hr6 ho6 hf6
              refine HKK2.out _ _ ⟨fun _ => HS5.out, ?_⟩
              clear HKK2 K
              try simp only [Act.put, List.setIfInBounds_toArray]
              try dsimp only [List.getElem_toArray, List.getElem_cons_succ, List.getElem_cons_zero, List.set_cons_zero, List.set_cons_succ]
              refine wpAnyT_doneP (by first | rfl | kernel_rfl) _ _ _ ?_
              refine wpAny_take (i := 15) (v := v46) rfl (by kernel_rfl) (by kernel_rfl) (by kernel_rfl) (fun _ _ _ h => h) (.inl ⟨by rfl, fun W' => by go_simp⟩) ?_
              try simp only [Act.put, List.setIfInBounds_toArray]
              try dsimp only [List.getElem_toArray, List.getElem_cons_succ, List.getElem_cons_zero, List.set_cons_zero, List.set_cons_succ]
              refine wpAny_done (by kernel_rfl) ?_ _
              have HFin := Lib.hid (HFW.out.trans HS5.out (fun i hi => hi.elim))
              obtain ⟨aV, nV, cV, rfl⟩ := rowp_shape HO46.out
              go_wp2_with fail
              go_roundw
              case rel => exact ⟨k + 1, by omega, by go_num, HFin.out, by rw [HSt.out]; exact HO46.out⟩
              case measure => simp [intOf]; omega
    · obtain rfl : k = n := by omega
      have hge : ¬ (k : Int) < (k : Int) := by omega
      have hpv := pv_of_own hown
      rw [show l.take k = l by rw [HN.out.1]; exact List.take_of_length_le (Nat.le_refl _)] at hpv
      have HPV := Lib.hid hpv
      clear hown hfr hlt hpv
      go_wp2_with fail
      go_ret
      exact ⟨_, rfl, HPV.out, HF.out⟩
end Go.Proofs.YtcchhfkmhbjdmaaGreat
