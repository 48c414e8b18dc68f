/- DiskLasts: the walk. -/
import Derived.Test.YthlngbdbmnnnaaaQd
set_option linter.unusedVariables false
set_option pp.deepTerms true
set_option pp.maxSteps 100000
set_option linter.unusedSimpArgs false
namespace Go.Proofs.Ythlngbdbmnnnaaa
open Go.RowKit Go.ChangeShapes Go.WideShapes
set_option maxRecDepth 20000 in
set_option maxHeartbeats 40000000 in
theorem lasts_walk (A1 : Option Addr) (l1 : List S33) (cap1 : Nat) (A2 : Option Addr) (l2 : List S33) (cap2 : Nat) (keep torn : Int) (hk0 : 0 ≤ keep) (hk1 : keep ≤ 18446744073709551615) (w : World)
    (hr1 : SlR w A1 6 actCells l1) (hc1 : l1.length ≤ cap1) (hl1 : l1.length ≤ 9223372036854775807) (hr2 : SlR w A2 6 actCells l2) (hc2 : l2.length ≤ cap2) (hl2 : l2.length ≤ 9223372036854775807) :
    Calls Try.prog 3 #[.slice A1 l1.length cap1, .slice A2 l2.length cap2, .int .u64 keep, .int .i64 torn] w fun e w' => e = .returned (.bool true) ∧ Fr (fun _ => False) w w' := by
  have HR1 := Lib.hid hr1
  have HR2 := Lib.hid hr2
  have HC := Lib.hid (show (l1.length ≤ cap1 ∧ l1.length ≤ 9223372036854775807) ∧ l2.length ≤ cap2 ∧ l2.length ≤ 9223372036854775807 from ⟨⟨hc1, hl1⟩, hc2, hl2⟩)
  have HFEW1 := Lib.hid (fun (w' : World) (hf : Fr (fun _ => False) w w') => few_calls hr1 hf hc1 hl1)
  have HFEW2 := Lib.hid (fun (w' : World) (hf : Fr (fun _ => False) w w') => few_calls hr2 hf hc2 hl2)
  clear hr1 hr2 hc1 hl1 hc2 hl2
  obtain ⟨m1, hm1⟩ : ∃ m, m = l1.length := ⟨_, rfl⟩
  obtain ⟨m2, hm2⟩ : ∃ m, m = l2.length := ⟨_, rfl⟩
  rw [← hm1] at HFEW1 ⊢
  rw [← hm2] at HFEW2 ⊢
  have HM1 := Lib.hid hm1
  have HM2 := Lib.hid hm2
  clear hm1 hm2
  go_enter Try.func3, Try.ntmps3
  go_wp2_with fail
  refine (awake_true _).mono ?_
  rintro e w1 ⟨rfl, hf⟩
  have HF1 := Lib.hid hf
  clear hf
  go_wp2_with fail
  refine (HFEW1.out _ HF1.out).mono ?_
  rintro e w2 ⟨b1, rfl, hb1, hf⟩
  have HF2 := Lib.hid hf
  clear hf HFEW1
  cases b1
  · go_wp2_with fail
    go_ret
    exact ⟨rfl, HF2.out⟩
  · have hm1 := hb1 rfl
    clear hb1
    go_wp2_with fail
    refine (HFEW2.out _ HF2.out).mono ?_
    rintro e w3 ⟨b2, rfl, hb2, hf⟩
    have HF3 := Lib.hid hf
    clear hf HFEW2 HF2 HF1
    cases b2
    · go_wp2_with fail
      go_ret
      exact ⟨rfl, HF3.out⟩
    · have hm2 := hb2 rfl
      clear hb2
      go_wp2_with fail
      refine (onp_new 4 _ (by omega) (by omega)).mono ?_
      rintro e w4 ⟨g, rfl, ho, hf⟩
      have HO := Lib.hid ho
      have HF34 := Lib.hid hf
      clear ho hf
      go_wp2_with fail
      go_loopw [11] (fun x wr => ∃ (i : Nat) (D : Dk), i ≤ m1 ∧ x = .int .i64 i ∧ OnP (fun i => i < w3.heap.size) wr g D ∧ Calm (2 * i) D ∧ Fr (fun _ => False) w3 wr) (fun v _ => m1 - (intOf v).toNat)
      case atStart => exact ⟨0, _, Nat.zero_le _, rfl, HO.out, calm_new, HF34.out⟩
      case round =>
        obtain ⟨i, D, hi, rfl, hd, hC, hf⟩ := hrel
        have HD := Lib.hid hd
        have HCa := Lib.hid hC
        have HFr := Lib.hid hf
        clear hd hC hf
        by_cases hlt : i < m1
        · obtain ⟨⟨kd, pl, dt, ca, ck, ct⟩, hx⟩ : ∃ x, l1[i]? = some x := ⟨_, List.getElem?_eq_getElem (by have := HM1.out; omega)⟩
          obtain ⟨b, off, hA, hrg⟩ := HR1.out i _ hx
          have HRG := Lib.hid (show wr.rangeAt b (off + i * 6) [.int .i64 kd, .int .i64 pl, .string dt, .int .i64 ca, .int .u64 ck, .int .i64 ct] from fun j y hj => HFr.out.cell (HF3.out.cell (hrg j y hj) id) id)
          subst hA
          clear hx hrg
          have y0 : wr.cell? ⟨b, off + i * 6, none⟩ = some (.int .i64 kd) := by have := HRG.out 0 _ rfl; simpa using this
          have y1 : wr.cell? ⟨b, off + i * 6 + 1, none⟩ = some (.int .i64 pl) := HRG.out 1 _ rfl
          have y2 : wr.cell? ⟨b, off + i * 6 + 2, none⟩ = some (.string dt) := HRG.out 2 _ rfl
          clear HRG
          by_cases k0 : kd = 0
          · have q0 : (kd == 0) = true := by simpa using k0
            clear k0
            go_wp2_with fail
            have z1 : wr.drew.cell? ⟨b, off + i * 6 + 1, none⟩ = some (.int .i64 pl) := y1
            have z2 : wr.drew.cell? ⟨b, off + i * 6 + 2, none⟩ = some (.string dt) := y2
            have HDd := Lib.hid (onp_keep HD.out ((Fr.refl (fun _ => False) wr).drew) (fun i hi => hi.elim))
            have HFd := Lib.hid (HFr.out.drew)
            refine wp_region_still_tail 11 (by kernel_rfl) (by kernel_rfl) ?_
            simp only [List.take_succ_cons, List.take_zero, List.drop_succ_cons, List.drop_zero]
            change wpStill _ _ wr.drew (fun a' => wpList _ _ _ _ a' wr.drew) _ _
            generalize wr.drew = wy at z1 z2 HDd HFd ⊢
            clear y0 y1 y2
            repeat still_step
            refine wpStill_nil ?_
            go_wp2_with fail
            refine (onp_write HDd.out (HCa.out.wd.fine (by omega)) pl dt).mono ?_
            rintro e wz ⟨rfl, ho, hk⟩
            have HDz := Lib.hid ho
            have HFz := Lib.hid (hk.old (fun i hi => hi) HFd.out)
            clear ho hk z1 z2
            go_wp2
            go_roundw
            case rel => exact ⟨i + 1, _, by omega, by go_num, HDz.out, HCa.out.next pl _, HFz.out⟩
            case measure => simp [intOf]; omega
          · have q0 : (kd == 0) = false := by simpa using k0
            clear k0
            go_wp2_with fail
            go_roundw
            case rel => exact ⟨i + 1, _, by omega, by go_num, HD.out, ⟨wd_mono HCa.out.wd (by omega), HCa.out.cut, HCa.out.up⟩, HFr.out⟩
            case measure => simp [intOf]; omega
        · go_wp2_with fail
          obtain ⟨hfe, hfc, hfw⟩ := HCa.out.flush
          refine (onp_flush HD.out (HCa.out.wd.fine (by omega))).mono ?_
          rintro e w5 ⟨rfl, ho, hk⟩
          rw [hfe]
          have HCb := Lib.hid hfc
          have HWn := Lib.hid hfw
          have HD5 := Lib.hid ho
          have HF5 := Lib.hid (hk.old (fun i hi => hi) HFr.out)
          have hi400 : 2 * i + 1 ≤ 401 := by omega
          clear ho hk hfe hfc hfw HD HFr HCa
          generalize D.flush = E at HCb HWn HD5
          go_wp2_with fail
          refine (onp_image HD5.out).mono ?_
          rintro e w6 ⟨rfl, rfl⟩
          go_wp2
          have hM0 := may_new (base := w3.heap.size) (w := w5) HF5.out.size
          have hoT := onp_mono (onp_alloc HD5.out (.cells #[.slice none 0 0, .slice none 0 0, .slice none 0 0, .slice none 0 0] 38)) (Pr' := fun i => i < w3.heap.size ∨ mayBlk w5.heap.size (fun _ => .slice none 0 0) i) (fun i hi => by
            rcases hi with hi | hi | ⟨p, _, hi⟩
            · exact .inl hi
            · exact .inr hi
            · simp [Value.ownBlock] at hi)
          have hFT : Fr (fun _ => False) w3 (w5.alloc (.cells #[.slice none 0 0, .slice none 0 0, .slice none 0 0, .slice none 0 0] 38)) := HF5.out.alloc _
          generalize w5.alloc (.cells #[.slice none 0 0, .slice none 0 0, .slice none 0 0, .slice none 0 0] 38) = w6 at hM0 hoT hFT ⊢
          obtain ⟨T, hTd⟩ : ∃ T, T = w5.heap.size := ⟨_, rfl⟩
          rw [← hTd] at hM0 hoT ⊢
          clear hTd HD5 HF5
          have HM0 := Lib.hid hM0
          have HoT := Lib.hid hoT
          have HFT := Lib.hid hFT
          clear hM0 hoT hFT
          obtain ⟨c0, hc0⟩ : ∃ c0, c0 = 2 * i + 1 := ⟨_, rfl⟩
          rw [← hc0] at HCb hi400
          clear hc0
          go_loopw [14] (fun x wr => ∃ (j : Nat) (D : Dk) (v : Nat → Value), j ≤ m2 ∧ x = .int .i64 j ∧ Calm (c0 + 2 * j) D ∧ D.lasts = E.lasts ∧ May w3.heap.size wr T v (fun p => mays D.wait (p : Int)) ∧ OnP (fun i => i < w3.heap.size ∨ mayBlk T v i) wr g D ∧ Fr (fun _ => False) w3 wr) (fun v _ => m2 - (intOf v).toNat)
          case atStart =>
            refine ⟨0, E, _, Nat.zero_le _, rfl, HCb.out, rfl, ?_, HoT.out, HFT.out⟩
            rw [HWn.out]; exact HM0.out
          case round =>
            obtain ⟨j, D, v, hj, rfl, hC, hL, hM, hO, hf⟩ := hrel
            have HCc := Lib.hid hC
            have HL := Lib.hid hL
            have HM := Lib.hid hM
            have HO := Lib.hid hO
            have HFr := Lib.hid hf
            clear hC hL hM hO hf
            by_cases hlt2 : j < m2
            · obtain ⟨⟨kd, pl, dt, ca, ck, ct⟩, hx⟩ : ∃ x, l2[j]? = some x := ⟨_, List.getElem?_eq_getElem (by have := HM2.out; omega)⟩
              obtain ⟨b, off, hA, hrg⟩ := HR2.out j _ hx
              have HRG := Lib.hid (show wr.rangeAt b (off + j * 6) [.int .i64 kd, .int .i64 pl, .string dt, .int .i64 ca, .int .u64 ck, .int .i64 ct] from fun q y hq => HFr.out.cell (HF3.out.cell (hrg q y hq) id) id)
              subst hA
              clear hx hrg
              have HLr := Lib.hid (show (Try.prog.info? 33).map (·.size) = some ([.int .i64 kd, .int .i64 pl, .string dt, .int .i64 ca, .int .u64 ck, .int .i64 ct] : List Value).length by kernel_rfl)
              have hN := heap_alloc_new wr (.cells #[.int .i64 kd, .int .i64 pl, .string dt, .int .i64 ca, .int .u64 ck, .int .i64 ct] 33)
              have hfa : Fr (fun _ => False) wr (wr.alloc (.cells #[.int .i64 kd, .int .i64 pl, .string dt, .int .i64 ca, .int .u64 ck, .int .i64 ct] 33)) := (Fr.refl _ _).alloc _
              have HNa := Lib.hid hN
              have HMa := Lib.hid (HM.out.kept (fun i hi => hfa.block i (HM.out.lt i hi).1 id))
              have HOa := Lib.hid (onp_alloc HO.out (.cells #[.int .i64 kd, .int .i64 pl, .string dt, .int .i64 ca, .int .u64 ck, .int .i64 ct] 33))
              have HFa := Lib.hid (HFr.out.alloc (.cells #[.int .i64 kd, .int .i64 pl, .string dt, .int .i64 ca, .int .u64 ck, .int .i64 ct] 33))
              have y0 : (wr.alloc (.cells #[.int .i64 kd, .int .i64 pl, .string dt, .int .i64 ca, .int .u64 ck, .int .i64 ct] 33)).cell? ⟨wr.heap.size, 0, none⟩ = some (.int .i64 kd) := (cell_of_row _ wr.heap.size 0 _ _ _ hN).trans rfl
              have y1 : (wr.alloc (.cells #[.int .i64 kd, .int .i64 pl, .string dt, .int .i64 ca, .int .u64 ck, .int .i64 ct] 33)).cell? ⟨wr.heap.size, 1, none⟩ = some (.int .i64 pl) := (cell_of_row _ wr.heap.size 1 _ _ _ hN).trans rfl
              have y2 : (wr.alloc (.cells #[.int .i64 kd, .int .i64 pl, .string dt, .int .i64 ca, .int .u64 ck, .int .i64 ct] 33)).cell? ⟨wr.heap.size, 2, none⟩ = some (.string dt) := (cell_of_row _ wr.heap.size 2 _ _ _ hN).trans rfl
              have hNge : w3.heap.size ≤ wr.heap.size := HFr.out.size
              clear hN hfa HM HO HFr
              by_cases k0 : kd = 0
              · have q0 : (kd == 0) = true := by simpa using k0
                clear k0
                go_wp2_with (with_reducible refine wpList_load_mid (op := ⟨some 80, _, _, _, _, _⟩) rfl 33 _ rfl b (off + j * 6) rfl [.int .i64 kd, .int .i64 pl, .string dt, .int .i64 ca, .int .u64 ck, .int .i64 ct] _ HRG.out Try.underlying33 rfl HLr.out ?_)
                refine (onp_write HOa.out (HCc.out.wd.fine (by omega)) pl dt).mono ?_
                rintro e wn ⟨rfl, ho, hk⟩
                have HNn := Lib.hid (hk.heap HNa.out (.inr rfl))
                have HMn := Lib.hid (HMa.out.kept (fun i hi => hk.block i (.inl (.inr hi))))
                have HFn := Lib.hid (hk.old (fun i hi => .inl (.inl hi)) HFa.out)
                have HCn := Lib.hid (HCc.out.next pl dt.data.toList)
                have HLn := Lib.hid ((HCc.out.lasts pl dt.data.toList).trans HL.out)
                have HOn := Lib.hid ho
                clear ho hk HNa HMa HFa HOa y0 y1 y2
                obtain ⟨N, hNd⟩ : ∃ N, N = wr.heap.size := ⟨_, rfl⟩
                rw [← hNd] at HNn HOn hNge ⊢
                clear hNd
                have y1 : wn.cell? ⟨N, 1, none⟩ = some (.int .i64 pl) := (cell_of_row wn N 1 _ _ _ HNn.out).trans rfl
                rcases HCc.out.write pl dt.data.toList with ⟨he, h0, h4, hw, hrd, has⟩ | ⟨he, hw⟩
                · rw [he]
                  have HMS := Lib.hid (show ∀ p : Int, mays (D.write pl dt.data.toList).wait p = if pl = p then mays D.wait p ++ [Dk.fill dt.data.toList] else mays D.wait p from fun p => by rw [hw]; exact mays_push _ _ p)
                  have HRD := Lib.hid hrd
                  have HAS := Lib.hid has
                  clear he hw hrd has
                  generalize D.write pl dt.data.toList = D1 at HCn HLn HOn HMS HRD HAS
                  go_wp2_with fail
                  refine (onp_read HOn.out (HCn.out.wd.fine (by omega)) pl).mono ?_
                  rintro e w' ⟨rfl, rfl⟩
                  rw [HRD.out, HAS.out]
                  go_wp2_with fail
                  obtain ⟨p, rfl⟩ : ∃ p : Nat, pl = p := ⟨pl.toNat, by omega⟩
                  have hp4 : p < 4 := by omega
                  have hvp : wn.cell? ⟨T, p, none⟩ = some (v p) := (cell_of_row wn T p _ _ _ HMn.out.row).trans (by
                    have : p = 0 ∨ p = 1 ∨ p = 2 ∨ p = 3 := by omega
                    rcases this with rfl | rfl | rfl | rfl <;> rfl)
                  have hp0 : (0 : Int) ≤ (p : Int) := by omega
                  have hp5 : (p : Int) < 4 := by omega
                  refine wp_region_till (fun W => W.cell? ⟨N, 1, none⟩ = some (.int .i64 p) ∧ W.cell? ⟨T, p, none⟩ = some (v p)) 9 (by kernel_rfl) ?_
                  have HS := Lib.hid (show wn.drew.cell? ⟨N, 1, none⟩ = some (.int .i64 p) ∧ wn.drew.cell? ⟨T, p, none⟩ = some (v p) from ⟨y1, hvp⟩)
                  have hdf : Fr (fun _ => False) wn wn.drew := (Fr.refl _ _).drew
                  have HMd := Lib.hid (HMn.out.kept (w' := wn.drew) (fun i hi => hdf.block i (HMn.out.lt i hi).1 id))
                  have HOd := Lib.hid (onp_keep HOn.out hdf (fun i hi => hi.elim))
                  have HFd := Lib.hid (HFn.out.drew)
                  have HNd := Lib.hid (hdf.heap HNn.out id)
                  generalize wn.drew = W1 at HS HMd HOd HFd HNd ⊢
                  clear hdf y1 hvp HMn HOn HFn HNn
                  refine wpAnyT_take (i := 0) (n := 12) (v := .pointer (some ⟨N, 1, none⟩)) rfl (by kernel_rfl) (fun _ _ _ h => h) HS.out (yieldsIf_plain rfl (fun W hW => by have h1 := hW.1; clear hW; go_simp)) ?_
                  simp only [List.getElem_toArray, List.getElem_cons_succ, List.getElem_cons_zero, Act.put, List.setIfInBounds_toArray, List.set_cons_zero, List.set_cons_succ]
                  refine wpAnyT_take (i := 1) (n := 12) (v := .int .i64 p) rfl (by kernel_rfl) (fun _ _ _ h => h) HS.out (yieldsIf_plain rfl (fun W hW => by have h1 := hW.1; clear hW; go_simp)) ?_
                  simp only [List.getElem_toArray, List.getElem_cons_succ, List.getElem_cons_zero, Act.put, List.setIfInBounds_toArray, List.set_cons_zero, List.set_cons_succ]
                  refine wpAnyT_take (i := 2) (n := 12) (v := .pointer (some ⟨N, 1, none⟩)) rfl (by kernel_rfl) (fun _ _ _ h => h) HS.out (yieldsIf_plain rfl (fun W hW => by have h1 := hW.1; clear hW; go_simp)) ?_
                  simp only [List.getElem_toArray, List.getElem_cons_succ, List.getElem_cons_zero, Act.put, List.setIfInBounds_toArray, List.set_cons_zero, List.set_cons_succ]
                  refine wpAnyT_take (i := 3) (n := 12) (v := .int .i64 p) rfl (by kernel_rfl) (fun _ _ _ h => h) HS.out (yieldsIf_plain rfl (fun W hW => by have h1 := hW.1; clear hW; go_simp)) ?_
                  simp only [List.getElem_toArray, List.getElem_cons_succ, List.getElem_cons_zero, Act.put, List.setIfInBounds_toArray, List.set_cons_zero, List.set_cons_succ]
                  refine wpAnyT_take (i := 4) (n := 12) (v := .pointer (some ⟨T, p, none⟩)) rfl (by kernel_rfl) (fun _ _ _ h => h) HS.out (yieldsIf_plain rfl (fun W hW => by have h1 := hW.1; clear hW; go_simp)) ?_
                  simp only [List.getElem_toArray, List.getElem_cons_succ, List.getElem_cons_zero, Act.put, List.setIfInBounds_toArray, List.set_cons_zero, List.set_cons_succ]
                  refine wpAnyT_take (i := 5) (n := 12) (v := v p) rfl (by kernel_rfl) (fun _ _ _ h => h) HS.out (yieldsIf_plain rfl (fun W hW => by have h1 := hW.2; clear hW; go_simp)) ?_
                  simp only [List.getElem_toArray, List.getElem_cons_succ, List.getElem_cons_zero, Act.put, List.setIfInBounds_toArray, List.set_cons_zero, List.set_cons_succ]
                  refine wpAnyT_take (i := 6) (n := 12) (v := .string (str (Dk.fill dt.data.toList))) rfl (by kernel_rfl) (fun _ _ _ h => h) HS.out (yieldsIf_plain rfl (fun W hW => by clear hW; go_simp)) ?_
                  simp only [List.getElem_toArray, List.getElem_cons_succ, List.getElem_cons_zero, Act.put, List.setIfInBounds_toArray, List.set_cons_zero, List.set_cons_succ]
                  have hbB : Fr (fun _ => False) W1 (W1.alloc (.cells #[.string (str (Dk.fill dt.data.toList))] 9)) := (Fr.refl _ _).alloc _
                  have HN2 := Lib.hid (heap_alloc_new W1 (.cells #[.string (str (Dk.fill dt.data.toList))] 9))
                  have HS2 := Lib.hid (show (W1.alloc (.cells #[.string (str (Dk.fill dt.data.toList))] 9)).cell? ⟨N, 1, none⟩ = some (.int .i64 p) ∧ (W1.alloc (.cells #[.string (str (Dk.fill dt.data.toList))] 9)).cell? ⟨T, p, none⟩ = some (v p) from ⟨hbB.cell HS.out.1 id, hbB.cell HS.out.2 id⟩)
                  have HMe := Lib.hid (HMd.out.kept (fun i hi => hbB.block i (HMd.out.lt i hi).1 id))
                  have HOe := Lib.hid (onp_keep HOd.out hbB (fun i hi => hi.elim))
                  have HFe := Lib.hid (HFd.out.alloc (.cells #[.string (str (Dk.fill dt.data.toList))] 9))
                  have HNe := Lib.hid (hbB.heap HNd.out id)
                  refine wpAnyT_one (i := 7) rfl (by kernel_rfl) (wpOp_plain rfl rfl (fun K hK => ?_))
                  simp only [List.getElem_toArray, List.getElem_cons_succ, List.getElem_cons_zero]
                  refine wp_buildSlice_str 37 (.tmp 106) rfl 9 (str (Dk.fill dt.data.toList)) rfl Try.underlying37 (by kernel_rfl) ?_
                  refine hK _ _ ⟨fun _ => HS2.out, ?_⟩
                  clear hK K
                  simp only [List.getElem_toArray, List.getElem_cons_succ, List.getElem_cons_zero, Act.put, List.setIfInBounds_toArray, List.set_cons_zero, List.set_cons_succ]
                  clear hbB HS HMd HOd HFd HNd
                  obtain ⟨B, hB⟩ : ∃ B, B = W1.heap.size := ⟨_, rfl⟩
                  generalize W1.alloc (.cells #[.string (str (Dk.fill dt.data.toList))] 9) = W2 at HN2 HS2 HMe HOe HFe HNe ⊢
                  rw [← hB] at HN2 ⊢
                  clear hB W1
                  have hi0 := (⟨_, rfl⟩ : ∃ i0, Try.prog.info? 9 = some i0)
                  obtain ⟨i0, hi0⟩ := hi0
                  have hz0 : (Try.prog.info? 9).map (fun i => (i.zero, i.size, i.bytes)) = some (some (.string ⟨#[]⟩), 1, 16) := by kernel_rfl
                  rw [hi0] at hz0
                  simp only [Option.map_some, Option.some.injEq, Prod.mk.injEq] at hz0
                  have hnews : ∀ j u, ([.string (str (Dk.fill dt.data.toList))] : List Value)[j]? = some u → W2.cell? ((⟨B, 0, none⟩ : Addr).add j) = some u := fun j u hj => by
                    rw [Addr.add_mid, Nat.zero_add, cell_of_row W2 B j _ _ _ HN2.out]; simpa using hj
                  have hlen : (mays D.wait (p : Int)).length ≤ 1000 := by have := mays_le HCc.out (p : Int); omega
                  refine wpAnyT_one (i := 8) rfl (by kernel_rfl) (wpOp_plain rfl rfl (fun K hK => ?_))
                  simp only [List.getElem_toArray, List.getElem_cons_succ, List.getElem_cons_zero]
                  refine wp_append_lies W2 (.tmp 105) (.tmp 107) 37 rfl w3.heap.size 9 i0 (.string ⟨#[]⟩) 1 16 Try.underlying37 hi0 hz0.1 hz0.2.1 hz0.2.2 rfl (by omega) (v p) (mays D.wait (p : Int)).length (strs (mays D.wait (p : Int))) rfl (HMe.out.own p hp4) ⟨B, 0, none⟩ 1 1 [.string (str (Dk.fill dt.data.toList))] rfl rfl hnews (by simp [Value.oneCell']) (by omega) (by have : maxLen = 9223372036854775807 := rfl; omega) (by omega) HFe.out.size W2.heap.size rfl ?_
                  intro g' cap W3 hown hgrow hat hlt3
                  have hneN : some N ≠ (v p).ownBlock := fun e => by
                    obtain ⟨_, _, cs, hc⟩ := own_type (HMe.out.own p hp4) e.symm
                    have := HNe.out; rw [hc] at this; simp at this
                  have hneT : some T ≠ (v p).ownBlock := fun e => HMe.out.ne hp4 e.symm rfl
                  refine hK _ _ ⟨fun _ => ⟨hgrow.cell HS2.out.1 hneN, hgrow.cell HS2.out.2 hneT⟩, ?_⟩
                  clear hK K
                  simp only [List.getElem_toArray, List.getElem_cons_succ, List.getElem_cons_zero, Act.put, List.setIfInBounds_toArray, List.set_cons_zero, List.set_cons_succ]
                  refine wpAnyT_of_any trivial [9, 10] _ _ _ _ (by kernel_rfl) (by simp) (.inr rfl) ?_
                  simp only [List.filterMap_cons, List.filterMap_nil, List.getElem?_toArray, List.getElem?_cons_zero, List.getElem?_cons_succ]
                  have hTlt := lt_of_heap HMe.out.row
                  have hT3 : W3.heap[T]? = some (.cells #[v 0, v 1, v 2, v 3] 38 (0, 0)) := (hgrow.block T hTlt hneT).trans HMe.out.row
                  have hc1 : W3.cell? ⟨T, p, none⟩ = some (v p) := hgrow.cell HS2.out.2 hneT
                  have hz1 : W3.frozen? ⟨T, p, none⟩ = false := frozen_of_row W3 T p _ _ hT3
                  have HM4 := Lib.hid (HMe.out.grown hp4 (s := Dk.fill dt.data.toList) (H := W2.heap.size) hown (fun k hk hne => hgrow.block k hk hne) hat (Nat.le_refl _))
                  have hfr : Fr (mayBlk T v) W2 (W3.setCell ⟨T, p, none⟩ (.slice (some ⟨g', 0, none⟩) ((mays D.wait (p : Int)).length + 1) cap)) := ((Fr.refl _ W2).grown hgrow (fun k hk => .inl (.inr ⟨p, hp4, hk⟩))).setCell _ _ (.inl (.inl rfl))
                  have hmb : ∀ i, mayBlk T (fun q => if q = p then .slice (some ⟨g', 0, none⟩) ((mays D.wait (p : Int)).length + 1) cap else v q) i → mayBlk T v i ∨ W2.heap.size ≤ i := by
                    rintro i (rfl | ⟨q, hq, hi⟩)
                    · exact .inl (.inl rfl)
                    · by_cases e : q = p
                      · simp [e, Value.ownBlock] at hi
                        subst hi
                        rcases hat with h1 | h1
                        · exact .inl (.inr ⟨p, hp4, h1⟩)
                        · exact .inr (by omega)
                      · simp only [e, if_false] at hi
                        exact .inl (.inr ⟨q, hq, hi⟩)
                  have HO4 := Lib.hid (onp_grown (onp_mono HOe.out (fun i hi => by
                    rcases hi with hi | hi | rfl
                    · exact .inl (.inl hi)
                    · exact .inl (.inr hi)
                    · exact .inr rfl)) hfr hmb (fun i hi => (HM4.out.lt i hi).1))
                  have HF4 := Lib.hid (show Fr (fun _ => False) w3 (W3.setCell ⟨T, p, none⟩ (.slice (some ⟨g', 0, none⟩) ((mays D.wait (p : Int)).length + 1) cap)) from (HFe.out.grown hgrow (fun k hk => .inr (own_type (HMe.out.own p hp4) hk).1)).setCell _ _ (.inr HMe.out.ge))
                  have HMSf := Lib.hid (show (fun q : Nat => mays D1.wait (q : Int)) = (fun q : Nat => if q = p then mays D.wait (p : Int) ++ [Dk.fill dt.data.toList] else mays D.wait (q : Int)) from funext fun q => by
                    rw [HMS.out (q : Int)]
                    by_cases e : q = p
                    · subst e; simp
                    · have e2 : ¬ ((p : Int) = q) := by omega
                      simp [e, e2])
                  clear hown hgrow hat hlt3 hfr hmb hneN hneT hT3 hTlt HMe HOe HFe HNe HS2 HN2 hnews hz0 hi0
                  go_wp2_with fail
                  go_roundw
                  case rel => exact ⟨j + 1, D1, _, by omega, by go_num, (show c0 + 2 * (j + 1) = c0 + 2 * j + 2 by omega) ▸ HCn.out, HLn.out, by rw [HMSf.out]; exact HM4.out, HO4.out, HF4.out⟩
                  case measure => simp [intOf]; omega
                · have q1 : (D.writeE pl dt.data.toList == 0) = false := by simpa using he
                  rw [hw] at HOn
                  clear he hw HCn HLn
                  go_wp2
                  go_roundw
                  case rel => exact ⟨j + 1, D, v, by omega, by go_num, ⟨wd_mono HCc.out.wd (by omega), HCc.out.cut, HCc.out.up⟩, HL.out, HMn.out, onp_mono HOn.out (fun i hi => .inl hi), HFn.out⟩
                  case measure => simp [intOf]; omega
              · have q0 : (kd == 0) = false := by simpa using k0
                clear k0
                go_wp2_with (with_reducible refine wpList_load_mid (op := ⟨some 80, _, _, _, _, _⟩) rfl 33 _ rfl b (off + j * 6) rfl [.int .i64 kd, .int .i64 pl, .string dt, .int .i64 ca, .int .u64 ck, .int .i64 ct] _ HRG.out Try.underlying33 rfl HLr.out ?_)
                go_roundw
                case rel => exact ⟨j + 1, D, v, by omega, by go_num, ⟨wd_mono HCc.out.wd (by omega), HCc.out.cut, HCc.out.up⟩, HL.out, HMa.out, onp_mono HOa.out (fun i hi => .inl hi), HFa.out⟩
                case measure => simp [intOf]; omega
            · go_wp2_with fail
              refine (onp_image HO.out).mono ?_
              rintro e w' ⟨rfl, rfl⟩
              rw [HL.out]
              go_wp2_with fail
              refine (onp_crash HO.out (HCc.out.wd.fine (by omega)) keep torn hk0 hk1).mono ?_
              rintro e wc ⟨rfl, ho, hk⟩
              have HOc := Lib.hid ho
              have HMc := Lib.hid (HM.out.kept (fun i hi => hk.block i (.inr hi)))
              have HFc := Lib.hid (hk.old (fun i hi => .inl hi) HFr.out)
              clear ho hk
              go_wp2_with fail
              refine (onp_image HOc.out).mono ?_
              rintro e w' ⟨rfl, rfl⟩
              have HBY := Lib.hid (show ∀ (i : Nat) (h0 : i < (str E.lasts).size) (h1 : i < (str (D.crash keep torn).lasts).size), (str (D.crash keep torn).lasts)[i]'h1 = (str E.lasts)[i]'h0 ∨ ∃ (k : Nat) (s : List UInt8), (mays D.wait ((i / 64 : Nat) : Int))[k]? = some s ∧ ∃ h2 : i % 64 < (str s).size, (str (D.crash keep torn).lasts)[i]'h1 = (str s)[i % 64]'h2 from by
                rw [← HL.out]; exact HCc.out.byte keep torn)
              have HB0 := Lib.hid (show keep = 0 → ∀ (i : Nat) (h0 : i < (str E.lasts).size) (h1 : i < (str (D.crash keep torn).lasts).size), (str (D.crash keep torn).lasts)[i]'h1 = (str E.lasts)[i]'h0 from by
                rw [← HL.out]; rintro rfl; exact HCc.out.byte0 torn)
              have HSZ := Lib.hid (show (str E.lasts).size = 256 ∧ (str (D.crash keep torn).lasts).size = 256 from by rw [← HL.out]; exact HCc.out.sizes keep torn)
              have HLN := Lib.hid (fun (p : Nat) => mays_len HCc.out (p : Int))
              have HLE := Lib.hid (fun (p : Nat) => mays_le HCc.out (p : Int))
              obtain ⟨im1, him1⟩ : ∃ im, im = str (D.crash keep torn).lasts := ⟨_, rfl⟩
              obtain ⟨im0, him0⟩ : ∃ im, im = str E.lasts := ⟨_, rfl⟩
              obtain ⟨ms, hms⟩ : ∃ ms, ms = fun p : Nat => mays D.wait (p : Int) := ⟨_, rfl⟩
              have hms2 : ∀ p : Nat, mays D.wait (p : Int) = ms p := fun p => by rw [hms]
              rw [← him1, ← him0] at HBY HB0 HSZ
              rw [← him1, ← him0]
              rw [← hms] at HMc
              simp only [hms2] at HBY HLN HLE
              clear him1 him0 hms hms2 HOc HO HM HL HCc HFr
              go_wp2
              go_loopw [19, 20, 21] (fun x _ _ wr => ∃ i : Nat, i ≤ 256 ∧ x = .int .i64 i ∧ May w3.heap.size wr T v ms ∧ Fr (fun _ => False) w3 wr) (fun x _ _ _ => 256 - (intOf x).toNat)
              case atStart => exact ⟨0, Nat.zero_le _, rfl, HMc.out, HFc.out⟩
              case round =>
                obtain ⟨i, hi, rfl, hM, hf⟩ := hrel
                have HM := Lib.hid hM
                have HFr := Lib.hid hf
                clear hM hf
                by_cases hlt3 : i < 256
                · have h0 : i < im0.size := by have := HSZ.out.1; omega
                  have h1 : i < im1.size := by have := HSZ.out.2; omega
                  have hw1 : IntKind.i64.wrap ((i : Int) / 64) = (i : Int) / 64 := by rw [IntKind.wrap_i64]; omega
                  have hb1 : (0 : Int) ≤ (i : Int) / 64 := by omega
                  have hb2 : (i : Int) / 64 < 4 := by omega
                  have hb3 : ((i : Int) / 64).toNat = i / 64 := by omega
                  have hb4 : (0 : Int) ≤ (i : Int) % 64 := by omega
                  have hb5 : ((i : Int) % 64).toNat = i % 64 := by omega
                  have hw2 : IntKind.i64.wrap ((i : Int) % 64) = (i : Int) % 64 := by rw [IntKind.wrap_i64]; omega
                  obtain ⟨b0, ht⟩ : ∃ b0, (((im1[i]'h1).toNat : Int) == ((im0[i]'h0).toNat : Int)) = b0 := ⟨_, rfl⟩
                  go_wp2
                  go_quiet (fail)
                  have HMq := Lib.hid (HM.out.kept (w' := wr.drewN nq) (fun i hi => rfl))
                  have HFq := Lib.hid (HFr.out.drewN nq)
                  generalize wr.drewN nq = wq at HMq HFq ⊢
                  clear HM HFr
                  obtain ⟨A, cap, hv, hcap, hnil, _⟩ := HMq.out.look (i / 64) (by omega)
                  have HV := Lib.hid hv
                  have HNIL := Lib.hid hnil
                  have hn1 := HLE.out (i / 64)
                  obtain ⟨n, hn⟩ : ∃ n, n = (ms (i / 64)).length := ⟨_, rfl⟩
                  rw [← hn] at HV hcap hn1
                  have HN := Lib.hid hn
                  clear hv hn hnil
                  go_wp2
                  go_loopw [20, 21] (fun x y wr => ∃ (k : Nat) (b : Bool), k ≤ n ∧ x = .bool b ∧ y = .int .i64 k ∧ ((b0 = true → b = true) ∧ ∀ (k' : Nat) (s : List UInt8), k' < k → (ms (i / 64))[k']? = some s → ∀ h2 : i % 64 < (str s).size, im1[i]'h1 = (str s)[i % 64]'h2 → b = true) ∧ May w3.heap.size wr T v ms ∧ Fr (fun _ => False) w3 wr) (fun _ y _ => n - (intOf y).toNat)
                  case atStart => exact ⟨0, b0, Nat.zero_le _, rfl, rfl, ⟨id, fun k' s hk => by omega⟩, HMq.out, HFq.out⟩
                  case round =>
                    obtain ⟨k, b, hk, rfl, rfl, hinv, hM, hf⟩ := hrel
                    have HI := Lib.hid hinv
                    have HM := Lib.hid hM
                    have HFr := Lib.hid hf
                    clear hinv hM hf
                    by_cases hlt4 : k < n
                    · obtain ⟨s, hs⟩ : ∃ s, (ms (i / 64))[k]? = some s := ⟨_, List.getElem?_eq_getElem (by have := HN.out; omega)⟩
                      obtain ⟨bb, hA⟩ : ∃ b, A = some ⟨b, 0, none⟩ := by
                        rcases HNIL.out with h | h
                        · rw [h] at hs; simp at hs
                        · exact h
                      have hv : v (i / 64) = .slice (some ⟨bb, 0, none⟩) n cap := by rw [HV.out, hA]
                      have hcT : wr.cell? ⟨T, i / 64, none⟩ = some (.slice (some ⟨bb, 0, none⟩) n cap) := (HM.out.cell (i / 64) (by omega)).trans (by rw [hv])
                      have hcS : wr.cell? ⟨bb, k, none⟩ = some (.string (str s)) := HM.out.at (by omega) hv hs
                      have h2 : i % 64 < (str s).size := by
                        obtain ⟨hk3, e⟩ := List.getElem?_eq_some_iff.mp hs
                        have := HLN.out (i / 64) s (e ▸ List.getElem_mem hk3)
                        rw [str_size]; omega
                      have HS := Lib.hid hs
                      have hb6 : (i : Int) % 64 < ((str s).size : Int) := by omega
                      obtain ⟨b1, ht1⟩ : ∃ b, (((im1[i]'h1).toNat : Int) == (((str s)[i % 64]'h2).toNat : Int)) = b := ⟨_, rfl⟩
                      clear hs hA hv
                      have HMk := fun nq => Lib.hid (HM.out.kept (w' := wr.drewN nq) (fun i hi => rfl))
                      have HFk := fun nq => Lib.hid (HFr.out.drewN nq)
                      have HMk := Lib.hid HMk
                      have HFk := Lib.hid HFk
                      cases b
                      · go_wp2
                        go_quiet (fail)
                        go_wp2
                        go_roundw
                        case rel =>
                          refine ⟨k + 1, b1, by omega, rfl, by go_num, ⟨fun hb => absurd (HI.out.1 hb) (by decide), fun k' s' hk' hs' h3 he => ?_⟩, (HMk.out nq).out, (HFk.out nq).out⟩
                          by_cases e : k' = k
                          · subst e
                            obtain rfl := Option.some.inj (hs'.symm.trans HS.out)
                            rw [← ht1, he]; simp
                          · exact absurd (HI.out.2 k' s' (by omega) hs' h3 he) (by decide)
                        case measure => simp [intOf]; omega
                      · go_wp2
                        go_quiet (fail)
                        go_wp2
                        go_roundw
                        case rel => exact ⟨k + 1, true, by omega, rfl, by go_num, ⟨fun _ => rfl, fun _ _ _ _ _ _ => rfl⟩, (HMk.out nq).out, (HFk.out nq).out⟩
                        case measure => simp [intOf]; omega
                    · have hcT : wr.cell? ⟨T, i / 64, none⟩ = some (.slice A n cap) := (HM.out.cell (i / 64) (by omega)).trans (by rw [HV.out])
                      obtain rfl : b = true := by
                        rcases HBY.out i h0 h1 with h | ⟨k', s, hs, h2, h⟩
                        · exact HI.out.1 (by rw [← ht, h]; simp)
                        · have hk3 := (List.getElem?_eq_some_iff.mp hs).1
                          exact HI.out.2 k' s (by have := HN.out; omega) hs h2 h
                      have HMk := Lib.hid (fun nq => HM.out.kept (w' := wr.drewN nq) (fun i hi => rfl))
                      have HFk := Lib.hid (fun nq => HFr.out.drewN nq)
                      by_cases hkp : keep = 0
                      · have hq1 : (keep == 0) = true := by simpa using hkp
                        have hq2 : (((im1[i]'h1).toNat : Int) != ((im0[i]'h0).toNat : Int)) = false := by rw [HB0.out hkp i h0 h1]; simp
                        clear hkp
                        go_wp2
                        go_quiet (fail)
                        go_wp2
                        go_roundw
                        case rel => exact ⟨i + 1, by omega, by go_num, HMk.out nq, HFk.out nq⟩
                        case measure => simp [intOf]; omega
                      · have hq1 : (keep == 0) = false := by simpa using hkp
                        clear hkp
                        go_wp2
                        go_quiet (fail)
                        go_wp2
                        go_roundw
                        case rel => exact ⟨i + 1, by omega, by go_num, HMk.out nq, HFk.out nq⟩
                        case measure => simp [intOf]; omega
                · have hs1 := HSZ.out.2
                  go_wp2
                  go_ret
                  exact ⟨rfl, HF3.out.trans HFr.out (fun i hi => hi.elim)⟩
end Go.Proofs.Ythlngbdbmnnnaaa
