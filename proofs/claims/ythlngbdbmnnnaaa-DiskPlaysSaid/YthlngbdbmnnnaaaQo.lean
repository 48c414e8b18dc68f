/- DiskPlays: the walk (no printed text). -/
import Derived.Test.YthlngbdbmnnnaaaQn
set_option linter.unusedVariables false
set_option linter.unusedSimpArgs false
namespace Go.Proofs.Ythlngbdbmnnnaaa
open Go.RowKit
set_option maxRecDepth 20000 in
set_option maxHeartbeats 40000000 in
theorem plays_walk (size : Int) (A : Option Addr) (l : List S33) (cap : Nat) (w : World) (hr : SlR w A 6 actCells l) (hwf : ∀ x ∈ l, 0 ≤ x.f3.f1 ∧ x.f3.f1 ≤ 18446744073709551615) (hcap : l.length ≤ cap) (hl : l.length ≤ 9223372036854775807) :
    Calls Try.prog 5 #[.int .i64 size, .slice A l.length cap] w fun e w' => e = .returned (.bool true) ∧ Fr (fun _ => False) w w' := by
  have HR := Lib.hid hr
  have HWF := Lib.hid hwf
  clear hr hwf
  have HC := Lib.hid hcap
  have HL := Lib.hid hl
  clear hcap hl
  obtain ⟨m, hm⟩ : ∃ m, m = l.length := ⟨_, rfl⟩
  have HM := Lib.hid hm
  rw [← hm]
  clear hm
  go_enter Try.func5, Try.ntmps5
  go_wp2_with fail
  refine (awake_true _).mono ?_
  rintro e w1 ⟨rfl, hf⟩
  have HF1 := Lib.hid hf
  clear hf
  have hfew : Calls Try.prog 11 #[.slice A m cap] w1 fun e w' => ∃ b : Bool, e = .returned (.bool b) ∧ (b = true → m ≤ 200) ∧ Fr (fun _ => False) w w' := by
    rw [HM.out]; exact few_calls HR.out HF1.out HC.out HL.out
  have HFEW := Lib.hid hfew
  clear hfew
  go_wp2_with fail
  refine HFEW.out.mono ?_
  rintro e w2 ⟨bf, rfl, hlen, hf⟩
  have HF2 := Lib.hid hf
  clear hf HFEW
  cases bf
  · go_wp2_with fail
    go_ret
    exact ⟨rfl, HF2.out⟩
  · have hm200 := hlen rfl
    clear hlen
    by_cases hs : size > 60 ∧ size ≤ 4096
    · go_wp2_with fail
      go_ret
      exact ⟨rfl, HF2.out⟩
    · by_cases hs0 : size < 1 ∨ 4096 < size
      · have HS0 := Lib.hid hs0
        clear hs
        rcases hs0 with hs0 | hs0
        · go_wp2_with fail
          refine (new_no _ _ HS0.out).mono ?_
          rintro e w3 ⟨rfl, rfl⟩
          go_wp2_with fail
          go_ret
          exact ⟨rfl, HF2.out⟩
        · go_wp2_with fail
          refine (new_no _ _ HS0.out).mono ?_
          rintro e w3 ⟨rfl, rfl⟩
          go_wp2_with fail
          go_ret
          exact ⟨rfl, HF2.out⟩
      · have h1 : 1 ≤ size := by omega
        have h60 : size ≤ 60 := by omega
        clear hs hs0
        obtain ⟨n, rfl⟩ : ∃ n : Nat, size = n := ⟨size.toNat, by omega⟩
        go_wp2_with fail
        refine (onp_new n _ (by omega) (by omega)).mono ?_
        rintro e w3 ⟨g, rfl, ho, hf⟩
        have HO := Lib.hid ho
        have HF3 := Lib.hid (HF2.out.trans hf (fun i hi => hi.elim))
        have HF23 := Lib.hid hf
        clear ho hf
        go_wp2_with fail
        refine (refnew_calls n (by omega) w3).mono ?_
        rintro e w4 ⟨u, rfl, hr, hf4, hy⟩
        have hd := duo_new (D := Dk.new n) HO.out HF23.out hr hf4 (fun b hb => by rcases hb with hb | hb; exact hy b hb; cases hb)
        clear hr hf4 hy
        have HD := Lib.hid hd
        obtain ⟨Au, au, cu, _, _, _, hu, _⟩ := duo_sl hd
        subst hu
        unfold refRow
        clear hd
        go_wp2
        have hd := HD.out.alloc (.cells (refRow (Dk.new n) (.slice Au au cu) (.slice none 0 0)) 48)
        have hm := heap_alloc_new w4 (.cells (refRow (Dk.new n) (.slice Au au cu) (.slice none 0 0)) 48)
        have hge : w2.heap.size ≤ w4.heap.size := HD.out.fr.size
        generalize hw5 : w4.alloc _ = w5
        have hw5' : w4.alloc (.cells (refRow (Dk.new n) (.slice Au au cu) (.slice none 0 0)) 48) = w5 := hw5
        rw [hw5'] at hd hm
        clear hw5 hw5'
        obtain ⟨M, hM⟩ : ∃ M, M = w4.heap.size := ⟨_, rfl⟩
        rw [← hM] at hd hm hge ⊢
        clear hM
        have HD5 := Lib.hid hd
        have HM5 := Lib.hid hm
        clear hd hm HD
        go_loopw [8] (fun x wr => ∃ (i : Nat) (D : Dk) (u v : Value), i ≤ m ∧ x = .int .i64 i ∧ Duo (fun i => False ∨ i = M) w2 wr g D D u v ∧ Wd n (2 * i) D ∧ wr.heap[M]? = some (.cells (refRow D u v) 48 (0, 0))) (fun v _ => m - (intOf v).toNat)
        case atStart => exact ⟨0, _, _, _, Nat.zero_le _, rfl, HD5.out, wd_new n, HM5.out⟩
        case round =>
          obtain ⟨i, D, u1, v1, hi, rfl, hd, hW, hm⟩ := hrel
          have HD := Lib.hid hd
          have HW := Lib.hid hW
          have HMm := Lib.hid hm
          clear hd hW hm
          by_cases hlt : i < m
          · obtain ⟨⟨kd, pl, dt, ca, ck, ct⟩, hx⟩ : ∃ x, l[i]? = some x := ⟨_, List.getElem?_eq_getElem (by have := HM.out; omega)⟩
            have HX := Lib.hid (HWF.out _ (List.mem_of_getElem? hx))
            obtain ⟨b, off, hA, hrg⟩ := HR.out i _ hx
            have HRG := Lib.hid (show wr.rangeAt b (off + i * 6) [.int .i64 kd, .int .i64 pl, .string dt, .int .i64 ca, .int .u64 ck, .int .i64 ct] from fun j y hj => HD.out.fr.cell (HF2.out.cell (hrg j y hj) id) id)
            subst hA
            clear hx hrg
            obtain ⟨A1, a1, c1, A2, a2, c2, rfl, rfl⟩ := duo_sl HD.out
            have HLr := Lib.hid (show (Try.prog.info? 33).map (·.size) = some ([.int .i64 kd, .int .i64 pl, .string dt, .int .i64 ca, .int .u64 ck, .int .i64 ct] : List Value).length by kernel_rfl)
            have hd := HD.out.alloc (.cells #[.int .i64 kd, .int .i64 pl, .string dt, .int .i64 ca, .int .u64 ck, .int .i64 ct] 33)
            have hN := heap_alloc_new wr (.cells #[.int .i64 kd, .int .i64 pl, .string dt, .int .i64 ca, .int .u64 ck, .int .i64 ct] 33)
            have hm : (wr.alloc (.cells #[.int .i64 kd, .int .i64 pl, .string dt, .int .i64 ca, .int .u64 ck, .int .i64 ct] 33)).heap[M]? = some (.cells (refRow D (.slice A1 a1 c1) (.slice A2 a2 c2)) 48 (0, 0)) := ((Fr.refl (fun _ => False) _).alloc _).heap HMm.out id
            have hMlt : M < wr.heap.size := HD.out.zl M (.inr rfl)
            have HDa := Lib.hid hd
            have HNa := Lib.hid hN
            have HMa := Lib.hid hm
            clear hd hN hm
            obtain ⟨hck0, hck1⟩ : 0 ≤ ck ∧ ck ≤ 18446744073709551615 := HX.out
            have HW1 := Lib.hid (show Wd n (2 * i + 2) D from wd_mono HW.out (by omega))
            by_cases k0 : kd = 0
            · have q0 : (kd == 0) = true := by simpa using k0
              clear k0
              have hc0 := HNa
              have y0 : (wr.alloc (.cells #[.int .i64 kd, .int .i64 pl, .string dt, .int .i64 ca, .int .u64 ck, .int .i64 ct] 33)).cell? ⟨wr.heap.size, 0, none⟩ = some (.int .i64 kd) := (cell_of_row (wr.alloc (.cells #[.int .i64 kd, .int .i64 pl, .string dt, .int .i64 ca, .int .u64 ck, .int .i64 ct] 33)) wr.heap.size 0 _ _ _ HNa.out).trans rfl
              have y1 : (wr.alloc (.cells #[.int .i64 kd, .int .i64 pl, .string dt, .int .i64 ca, .int .u64 ck, .int .i64 ct] 33)).cell? ⟨wr.heap.size, 1, none⟩ = some (.int .i64 pl) := (cell_of_row (wr.alloc (.cells #[.int .i64 kd, .int .i64 pl, .string dt, .int .i64 ca, .int .u64 ck, .int .i64 ct] 33)) wr.heap.size 1 _ _ _ HNa.out).trans rfl
              have y2 : (wr.alloc (.cells #[.int .i64 kd, .int .i64 pl, .string dt, .int .i64 ca, .int .u64 ck, .int .i64 ct] 33)).cell? ⟨wr.heap.size, 2, none⟩ = some (.string dt) := (cell_of_row (wr.alloc (.cells #[.int .i64 kd, .int .i64 pl, .string dt, .int .i64 ca, .int .u64 ck, .int .i64 ct] 33)) wr.heap.size 2 _ _ _ HNa.out).trans rfl
              go_wp2_with (with_reducible refine wpList_load_mid (op := ⟨some 63, _, _, _, _, _⟩) rfl 33 _ rfl b (off + i * 6) rfl [.int .i64 kd, .int .i64 pl, .string dt, .int .i64 ca, .int .u64 ck, .int .i64 ct] _ HRG.out Try.underlying33 rfl HLr.out ?_)
              refine (duo_write HDa.out (HW1.out.fine (by omega)) pl dt).mono ?_
              rintro e wn ⟨rfl, hd, hz⟩
              have HDn := Lib.hid hd
              have HNn := Lib.hid (hz _ _ (.inr rfl) HNa.out)
              have HMn := Lib.hid (hz M _ (.inl (.inr rfl)) HMa.out)
              clear hd hz hc0 y0 y1 y2 HDa HNa HMa
              generalize wr.heap.size = N at HDn HNn hMlt ⊢
              have y1 : wn.cell? ⟨N, 1, none⟩ = some (.int .i64 pl) := (cell_of_row wn N 1 _ _ _ HNn.out).trans rfl
              have y2 : wn.cell? ⟨N, 2, none⟩ = some (.string dt) := (cell_of_row wn N 2 _ _ _ HNn.out).trans rfl
              have d0 : wn.cell? ⟨M, 0, none⟩ = some (.slice A1 a1 c1) := (cell_of_row wn M 0 _ _ _ HMn.out).trans rfl
              have d1 : wn.cell? ⟨M, 1, none⟩ = some (.slice A2 a2 c2) := (cell_of_row wn M 1 _ _ _ HMn.out).trans rfl
              have d2 : wn.cell? ⟨M, 2, none⟩ = some (.int .i64 D.cutAt) := (cell_of_row wn M 2 _ _ _ HMn.out).trans rfl
              have d3 : wn.cell? ⟨M, 3, none⟩ = some (.int .u64 D.keep) := (cell_of_row wn M 3 _ _ _ HMn.out).trans rfl
              have d4 : wn.cell? ⟨M, 4, none⟩ = some (.int .i64 D.torn) := (cell_of_row wn M 4 _ _ _ HMn.out).trans rfl
              have d5 : wn.cell? ⟨M, 5, none⟩ = some (.int .i64 D.count) := (cell_of_row wn M 5 _ _ _ HMn.out).trans rfl
              have d6 : wn.cell? ⟨M, 6, none⟩ = some (.bool D.down) := (cell_of_row wn M 6 _ _ _ HMn.out).trans rfl
              go_wp2_with fail
              refine (duo_put HDn.out HW.out (by omega) (by omega) pl dt).mono ?_
              rintro e wp ⟨u', v', rfl, hd, hz⟩
              obtain ⟨A3, a3, c3, A4, a4, c4, rfl, rfl⟩ := duo_sl hd
              have HDp := Lib.hid hd
              have HMp := Lib.hid (hz M _ (.inl (.inr rfl)) HMn.out)
              clear hd hz HDn HNn HMn y1 y2 d0 d1 d2 d3 d4 d5 d6
              have HW2 := Lib.hid (wd_write HW.out pl dt.data.toList)
              generalize D.write pl dt.data.toList = D1 at HDp HW2 ⊢
              simp only [refRow]
              have d0 : wp.cell? ⟨M, 0, none⟩ = some (.slice A1 a1 c1) := (cell_of_row wp M 0 _ _ _ HMp.out).trans rfl
              have d1 : wp.cell? ⟨M, 1, none⟩ = some (.slice A2 a2 c2) := (cell_of_row wp M 1 _ _ _ HMp.out).trans rfl
              have d2 : wp.cell? ⟨M, 2, none⟩ = some (.int .i64 D.cutAt) := (cell_of_row wp M 2 _ _ _ HMp.out).trans rfl
              have d3 : wp.cell? ⟨M, 3, none⟩ = some (.int .u64 D.keep) := (cell_of_row wp M 3 _ _ _ HMp.out).trans rfl
              have d4 : wp.cell? ⟨M, 4, none⟩ = some (.int .i64 D.torn) := (cell_of_row wp M 4 _ _ _ HMp.out).trans rfl
              have d5 : wp.cell? ⟨M, 5, none⟩ = some (.int .i64 D.count) := (cell_of_row wp M 5 _ _ _ HMp.out).trans rfl
              have d6 : wp.cell? ⟨M, 6, none⟩ = some (.bool D.down) := (cell_of_row wp M 6 _ _ _ HMp.out).trans rfl
              have z0 : wp.frozen? ⟨M, 0, none⟩ = false := frozen_of_row wp M 0 _ _ HMp.out
              have z1 : wp.frozen? ⟨M, 1, none⟩ = false := frozen_of_row wp M 1 _ _ HMp.out
              have z2 : wp.frozen? ⟨M, 2, none⟩ = false := frozen_of_row wp M 2 _ _ HMp.out
              have z3 : wp.frozen? ⟨M, 3, none⟩ = false := frozen_of_row wp M 3 _ _ HMp.out
              have z4 : wp.frozen? ⟨M, 4, none⟩ = false := frozen_of_row wp M 4 _ _ HMp.out
              have z5 : wp.frozen? ⟨M, 5, none⟩ = false := frozen_of_row wp M 5 _ _ HMp.out
              have z6 : wp.frozen? ⟨M, 6, none⟩ = false := frozen_of_row wp M 6 _ _ HMp.out
              go_wp2
              clear d0 z0 d1 z1 d2 z2 d3 z3 d4 z4 d5 z5 d6 z6
              obtain ⟨wx, hwx'⟩ : ∃ x, x = put7 wp M (.slice A3 a3 c3) (.slice A4 a4 c4) (.int .i64 D1.cutAt) (.int .u64 D1.keep) (.int .i64 D1.torn) (.int .i64 D1.count) (.bool D1.down) := ⟨_, rfl⟩
              change Code.wp _ _ _ _ (put7 wp M (.slice A3 a3 c3) (.slice A4 a4 c4) (.int .i64 D1.cutAt) (.int .u64 D1.keep) (.int .i64 D1.torn) (.int .i64 D1.count) (.bool D1.down))
              rw [← hwx']
              have hmv := put7_fr wp M (.slice A3 a3 c3) (.slice A4 a4 c4) (.int .i64 D1.cutAt) (.int .u64 D1.keep) (.int .i64 D1.torn) (.int .i64 D1.count) (.bool D1.down)
              have hmh := put7_heap HMp.out (.slice A3 a3 c3) (.slice A4 a4 c4) (.int .i64 D1.cutAt) (.int .u64 D1.keep) (.int .i64 D1.torn) (.int .i64 D1.count) (.bool D1.down)
              rw [← hwx'] at hmv hmh
              clear hwx'
              have HDx := Lib.hid (HDp.out.move hmv (fun i hi => .inl (.inr hi)))
              have HMx := Lib.hid (show wx.heap[M]? = some (.cells (refRow (D1) (.slice A3 a3 c3) (.slice A4 a4 c4)) 48 (0, 0)) from hmh)
              clear hmv hmh HDp HMp
              refine wp_region_still_tail 20 (by kernel_rfl) (by kernel_rfl) ?_
              simp only [List.take_succ_cons, List.take_zero, List.drop_succ_cons, List.drop_zero]
              change wpStill _ _ wx.drew (fun a' => wpList _ _ _ _ a' wx.drew) _ _
              have hdr := duo_zk HDx.out ((Fr.refl (fun _ => False) wx).drew)
              have HDb := Lib.hid hdr.1
              have HMb := Lib.hid (hdr.2 M _ (.inl (.inr rfl)) HMx.out)
              clear hdr
              generalize wx.drew = wy at HDb HMb ⊢
              have d6 : wy.cell? ⟨M, 6, none⟩ = some (.bool D1.down) := (cell_of_row wy M 6 _ _ _ HMb.out).trans rfl
              have d0 : wy.cell? ⟨M, 0, none⟩ = some (.slice A3 a3 c3) := (cell_of_row wy M 0 _ _ _ HMb.out).trans rfl
              have d1 : wy.cell? ⟨M, 1, none⟩ = some (.slice A4 a4 c4) := (cell_of_row wy M 1 _ _ _ HMb.out).trans rfl
              have d2 : wy.cell? ⟨M, 2, none⟩ = some (.int .i64 D1.cutAt) := (cell_of_row wy M 2 _ _ _ HMb.out).trans rfl
              have d3 : wy.cell? ⟨M, 3, none⟩ = some (.int .u64 D1.keep) := (cell_of_row wy M 3 _ _ _ HMb.out).trans rfl
              have d4 : wy.cell? ⟨M, 4, none⟩ = some (.int .i64 D1.torn) := (cell_of_row wy M 4 _ _ _ HMb.out).trans rfl
              have d5 : wy.cell? ⟨M, 5, none⟩ = some (.int .i64 D1.count) := (cell_of_row wy M 5 _ _ _ HMb.out).trans rfl
              repeat still_step
              still_call ((onp_down HDb.out.on).mono (fun e w' h => ⟨h.1, h.2.symm⟩))
              repeat still_step
              still_call ((onp_size HDb.out.on).mono (fun e w' h => ⟨by rw [h.1, HW2.out.nn], h.2.symm⟩))
              repeat still_step
              still_call ((onp_image HDb.out.on).mono (fun e w' h => ⟨h.1, h.2.symm⟩))
              repeat still_step
              refine wpStill_nil ?_
              go_wp2_with fail
              refine (duo_rimage HDb.out HW2.out (by omega)).mono ?_
              rintro e wz ⟨rfl, hd, hz⟩
              have HDc := Lib.hid (hd.less (Z' := fun i => False ∨ i = M) (fun i hi => .inl hi))
              have HMc := Lib.hid (hz M _ (.inl (.inr rfl)) HMb.out)
              clear hd hz d0 d1 d2 d3 d4 d5 d6
              go_wp2
              go_roundw
              case rel => exact ⟨i + 1, _, _, _, by omega, by go_num, HDc.out, HW2.out, HMc.out⟩
              case measure => simp [intOf]; omega
            · skip
              by_cases k1 : kd = 1
              · have q0 : (kd == 0) = false := by simpa using k0
                have q1 : (kd == 1) = true := by simpa using k1
                clear k0 k1
                have hc0 := HNa
                have y0 : (wr.alloc (.cells #[.int .i64 kd, .int .i64 pl, .string dt, .int .i64 ca, .int .u64 ck, .int .i64 ct] 33)).cell? ⟨wr.heap.size, 0, none⟩ = some (.int .i64 kd) := (cell_of_row (wr.alloc (.cells #[.int .i64 kd, .int .i64 pl, .string dt, .int .i64 ca, .int .u64 ck, .int .i64 ct] 33)) wr.heap.size 0 _ _ _ HNa.out).trans rfl
                have y1 : (wr.alloc (.cells #[.int .i64 kd, .int .i64 pl, .string dt, .int .i64 ca, .int .u64 ck, .int .i64 ct] 33)).cell? ⟨wr.heap.size, 1, none⟩ = some (.int .i64 pl) := (cell_of_row (wr.alloc (.cells #[.int .i64 kd, .int .i64 pl, .string dt, .int .i64 ca, .int .u64 ck, .int .i64 ct] 33)) wr.heap.size 1 _ _ _ HNa.out).trans rfl
                go_wp2_with (with_reducible refine wpList_load_mid (op := ⟨some 63, _, _, _, _, _⟩) rfl 33 _ rfl b (off + i * 6) rfl [.int .i64 kd, .int .i64 pl, .string dt, .int .i64 ca, .int .u64 ck, .int .i64 ct] _ HRG.out Try.underlying33 rfl HLr.out ?_)
                refine (onp_read HDa.out.on (HW1.out.fine (by omega)) pl).mono ?_
                rintro e wn ⟨rfl, rfl⟩
                generalize hwx : wr.alloc _ = wx
                have hwx' : wr.alloc (.cells #[.int .i64 kd, .int .i64 pl, .string dt, .int .i64 ca, .int .u64 ck, .int .i64 ct] 33) = wx := hwx
                rw [hwx'] at HDa HNa HMa
                clear hwx hwx' hc0 y0 y1
                generalize wr.heap.size = N at HDa HNa hMlt ⊢
                have y1 : wx.cell? ⟨N, 1, none⟩ = some (.int .i64 pl) := (cell_of_row wx N 1 _ _ _ HNa.out).trans rfl
                have d0 : wx.cell? ⟨M, 0, none⟩ = some (.slice A1 a1 c1) := (cell_of_row wx M 0 _ _ _ HMa.out).trans rfl
                have d1 : wx.cell? ⟨M, 1, none⟩ = some (.slice A2 a2 c2) := (cell_of_row wx M 1 _ _ _ HMa.out).trans rfl
                have d2 : wx.cell? ⟨M, 2, none⟩ = some (.int .i64 D.cutAt) := (cell_of_row wx M 2 _ _ _ HMa.out).trans rfl
                have d3 : wx.cell? ⟨M, 3, none⟩ = some (.int .u64 D.keep) := (cell_of_row wx M 3 _ _ _ HMa.out).trans rfl
                have d4 : wx.cell? ⟨M, 4, none⟩ = some (.int .i64 D.torn) := (cell_of_row wx M 4 _ _ _ HMa.out).trans rfl
                have d5 : wx.cell? ⟨M, 5, none⟩ = some (.int .i64 D.count) := (cell_of_row wx M 5 _ _ _ HMa.out).trans rfl
                have d6 : wx.cell? ⟨M, 6, none⟩ = some (.bool D.down) := (cell_of_row wx M 6 _ _ _ HMa.out).trans rfl
                go_wp2_with fail
                refine (duo_rread HDa.out HW1.out (by omega) (by omega) pl).mono ?_
                rintro e wq ⟨rfl, hd, hz⟩
                have HDq := Lib.hid hd
                have HMq := Lib.hid (hz M _ (.inl (.inr rfl)) HMa.out)
                clear hd hz HDa HMa HNa y1 d0 d1 d2 d3 d4 d5 d6
                go_wp2
                refine wp_region_still_tail 20 (by kernel_rfl) (by kernel_rfl) ?_
                simp only [List.take_succ_cons, List.take_zero, List.drop_succ_cons, List.drop_zero]
                change wpStill _ _ wq.drew (fun a' => wpList _ _ _ _ a' wq.drew) _ _
                have hdr := duo_zk HDq.out ((Fr.refl (fun _ => False) wq).drew)
                have HDb := Lib.hid hdr.1
                have HMb := Lib.hid (hdr.2 M _ (.inl (.inr rfl)) HMq.out)
                clear hdr
                generalize wq.drew = wy at HDb HMb ⊢
                have d6 : wy.cell? ⟨M, 6, none⟩ = some (.bool D.down) := (cell_of_row wy M 6 _ _ _ HMb.out).trans rfl
                have d0 : wy.cell? ⟨M, 0, none⟩ = some (.slice A1 a1 c1) := (cell_of_row wy M 0 _ _ _ HMb.out).trans rfl
                have d1 : wy.cell? ⟨M, 1, none⟩ = some (.slice A2 a2 c2) := (cell_of_row wy M 1 _ _ _ HMb.out).trans rfl
                have d2 : wy.cell? ⟨M, 2, none⟩ = some (.int .i64 D.cutAt) := (cell_of_row wy M 2 _ _ _ HMb.out).trans rfl
                have d3 : wy.cell? ⟨M, 3, none⟩ = some (.int .u64 D.keep) := (cell_of_row wy M 3 _ _ _ HMb.out).trans rfl
                have d4 : wy.cell? ⟨M, 4, none⟩ = some (.int .i64 D.torn) := (cell_of_row wy M 4 _ _ _ HMb.out).trans rfl
                have d5 : wy.cell? ⟨M, 5, none⟩ = some (.int .i64 D.count) := (cell_of_row wy M 5 _ _ _ HMb.out).trans rfl
                repeat still_step
                still_call ((onp_down HDb.out.on).mono (fun e w' h => ⟨h.1, h.2.symm⟩))
                repeat still_step
                still_call ((onp_size HDb.out.on).mono (fun e w' h => ⟨by rw [h.1, HW1.out.nn], h.2.symm⟩))
                repeat still_step
                still_call ((onp_image HDb.out.on).mono (fun e w' h => ⟨h.1, h.2.symm⟩))
                repeat still_step
                refine wpStill_nil ?_
                go_wp2_with fail
                refine (duo_rimage HDb.out HW1.out (by omega)).mono ?_
                rintro e wz ⟨rfl, hd, hz⟩
                have HDc := Lib.hid (hd.less (Z' := fun i => False ∨ i = M) (fun i hi => .inl hi))
                have HMc := Lib.hid (hz M _ (.inl (.inr rfl)) HMb.out)
                clear hd hz d0 d1 d2 d3 d4 d5 d6
                go_wp2
                go_roundw
                case rel => exact ⟨i + 1, _, _, _, by omega, by go_num, HDc.out, HW1.out, HMc.out⟩
                case measure => simp [intOf]; omega
              · skip
                by_cases k2 : kd = 2
                · have q0 : (kd == 0) = false := by simpa using k0
                  have q1 : (kd == 1) = false := by simpa using k1
                  have q2 : (kd == 2) = true := by simpa using k2
                  clear k0 k1 k2
                  have hc0 := HNa
                  have y0 : (wr.alloc (.cells #[.int .i64 kd, .int .i64 pl, .string dt, .int .i64 ca, .int .u64 ck, .int .i64 ct] 33)).cell? ⟨wr.heap.size, 0, none⟩ = some (.int .i64 kd) := (cell_of_row (wr.alloc (.cells #[.int .i64 kd, .int .i64 pl, .string dt, .int .i64 ca, .int .u64 ck, .int .i64 ct] 33)) wr.heap.size 0 _ _ _ HNa.out).trans rfl
                  go_wp2_with (with_reducible refine wpList_load_mid (op := ⟨some 63, _, _, _, _, _⟩) rfl 33 _ rfl b (off + i * 6) rfl [.int .i64 kd, .int .i64 pl, .string dt, .int .i64 ca, .int .u64 ck, .int .i64 ct] _ HRG.out Try.underlying33 rfl HLr.out ?_)
                  refine (duo_flush HDa.out (HW1.out.fine (by omega))).mono ?_
                  rintro e wn ⟨rfl, hd, hz⟩
                  have HDn := Lib.hid hd
                  have HNn := Lib.hid (hz _ _ (.inr rfl) HNa.out)
                  have HMn := Lib.hid (hz M _ (.inl (.inr rfl)) HMa.out)
                  clear hd hz hc0 y0 HDa HNa HMa
                  generalize wr.heap.size = N at HDn HNn hMlt ⊢
                  have d0 : wn.cell? ⟨M, 0, none⟩ = some (.slice A1 a1 c1) := (cell_of_row wn M 0 _ _ _ HMn.out).trans rfl
                  have d1 : wn.cell? ⟨M, 1, none⟩ = some (.slice A2 a2 c2) := (cell_of_row wn M 1 _ _ _ HMn.out).trans rfl
                  have d2 : wn.cell? ⟨M, 2, none⟩ = some (.int .i64 D.cutAt) := (cell_of_row wn M 2 _ _ _ HMn.out).trans rfl
                  have d3 : wn.cell? ⟨M, 3, none⟩ = some (.int .u64 D.keep) := (cell_of_row wn M 3 _ _ _ HMn.out).trans rfl
                  have d4 : wn.cell? ⟨M, 4, none⟩ = some (.int .i64 D.torn) := (cell_of_row wn M 4 _ _ _ HMn.out).trans rfl
                  have d5 : wn.cell? ⟨M, 5, none⟩ = some (.int .i64 D.count) := (cell_of_row wn M 5 _ _ _ HMn.out).trans rfl
                  have d6 : wn.cell? ⟨M, 6, none⟩ = some (.bool D.down) := (cell_of_row wn M 6 _ _ _ HMn.out).trans rfl
                  go_wp2_with fail
                  refine (duo_rflush HDn.out HW.out (by omega) (by omega)).mono ?_
                  rintro e wp ⟨u', v', rfl, hd, hz⟩
                  obtain ⟨A3, a3, c3, A4, a4, c4, rfl, rfl⟩ := duo_sl hd
                  have HDp := Lib.hid hd
                  have HMp := Lib.hid (hz M _ (.inl (.inr rfl)) HMn.out)
                  clear hd hz HDn HNn HMn  d0 d1 d2 d3 d4 d5 d6
                  have HW2 := Lib.hid (wd_mono (wd_flush HW.out) (by omega : 2 * i + 1 ≤ 2 * i + 2))
                  generalize D.flush = D1 at HDp HW2 ⊢
                  simp only [refRow]
                  have d0 : wp.cell? ⟨M, 0, none⟩ = some (.slice A1 a1 c1) := (cell_of_row wp M 0 _ _ _ HMp.out).trans rfl
                  have d1 : wp.cell? ⟨M, 1, none⟩ = some (.slice A2 a2 c2) := (cell_of_row wp M 1 _ _ _ HMp.out).trans rfl
                  have d2 : wp.cell? ⟨M, 2, none⟩ = some (.int .i64 D.cutAt) := (cell_of_row wp M 2 _ _ _ HMp.out).trans rfl
                  have d3 : wp.cell? ⟨M, 3, none⟩ = some (.int .u64 D.keep) := (cell_of_row wp M 3 _ _ _ HMp.out).trans rfl
                  have d4 : wp.cell? ⟨M, 4, none⟩ = some (.int .i64 D.torn) := (cell_of_row wp M 4 _ _ _ HMp.out).trans rfl
                  have d5 : wp.cell? ⟨M, 5, none⟩ = some (.int .i64 D.count) := (cell_of_row wp M 5 _ _ _ HMp.out).trans rfl
                  have d6 : wp.cell? ⟨M, 6, none⟩ = some (.bool D.down) := (cell_of_row wp M 6 _ _ _ HMp.out).trans rfl
                  have z0 : wp.frozen? ⟨M, 0, none⟩ = false := frozen_of_row wp M 0 _ _ HMp.out
                  have z1 : wp.frozen? ⟨M, 1, none⟩ = false := frozen_of_row wp M 1 _ _ HMp.out
                  have z2 : wp.frozen? ⟨M, 2, none⟩ = false := frozen_of_row wp M 2 _ _ HMp.out
                  have z3 : wp.frozen? ⟨M, 3, none⟩ = false := frozen_of_row wp M 3 _ _ HMp.out
                  have z4 : wp.frozen? ⟨M, 4, none⟩ = false := frozen_of_row wp M 4 _ _ HMp.out
                  have z5 : wp.frozen? ⟨M, 5, none⟩ = false := frozen_of_row wp M 5 _ _ HMp.out
                  have z6 : wp.frozen? ⟨M, 6, none⟩ = false := frozen_of_row wp M 6 _ _ HMp.out
                  go_wp2
                  clear d0 z0 d1 z1 d2 z2 d3 z3 d4 z4 d5 z5 d6 z6
                  obtain ⟨wx, hwx'⟩ : ∃ x, x = put7 wp M (.slice A3 a3 c3) (.slice A4 a4 c4) (.int .i64 D1.cutAt) (.int .u64 D1.keep) (.int .i64 D1.torn) (.int .i64 D1.count) (.bool D1.down) := ⟨_, rfl⟩
                  change Code.wp _ _ _ _ (put7 wp M (.slice A3 a3 c3) (.slice A4 a4 c4) (.int .i64 D1.cutAt) (.int .u64 D1.keep) (.int .i64 D1.torn) (.int .i64 D1.count) (.bool D1.down))
                  rw [← hwx']
                  have hmv := put7_fr wp M (.slice A3 a3 c3) (.slice A4 a4 c4) (.int .i64 D1.cutAt) (.int .u64 D1.keep) (.int .i64 D1.torn) (.int .i64 D1.count) (.bool D1.down)
                  have hmh := put7_heap HMp.out (.slice A3 a3 c3) (.slice A4 a4 c4) (.int .i64 D1.cutAt) (.int .u64 D1.keep) (.int .i64 D1.torn) (.int .i64 D1.count) (.bool D1.down)
                  rw [← hwx'] at hmv hmh
                  clear hwx'
                  have HDx := Lib.hid (HDp.out.move hmv (fun i hi => .inl (.inr hi)))
                  have HMx := Lib.hid (show wx.heap[M]? = some (.cells (refRow (D1) (.slice A3 a3 c3) (.slice A4 a4 c4)) 48 (0, 0)) from hmh)
                  clear hmv hmh HDp HMp
                  refine wp_region_still_tail 20 (by kernel_rfl) (by kernel_rfl) ?_
                  simp only [List.take_succ_cons, List.take_zero, List.drop_succ_cons, List.drop_zero]
                  change wpStill _ _ wx.drew (fun a' => wpList _ _ _ _ a' wx.drew) _ _
                  have hdr := duo_zk HDx.out ((Fr.refl (fun _ => False) wx).drew)
                  have HDb := Lib.hid hdr.1
                  have HMb := Lib.hid (hdr.2 M _ (.inl (.inr rfl)) HMx.out)
                  clear hdr
                  generalize wx.drew = wy at HDb HMb ⊢
                  have d6 : wy.cell? ⟨M, 6, none⟩ = some (.bool D1.down) := (cell_of_row wy M 6 _ _ _ HMb.out).trans rfl
                  have d0 : wy.cell? ⟨M, 0, none⟩ = some (.slice A3 a3 c3) := (cell_of_row wy M 0 _ _ _ HMb.out).trans rfl
                  have d1 : wy.cell? ⟨M, 1, none⟩ = some (.slice A4 a4 c4) := (cell_of_row wy M 1 _ _ _ HMb.out).trans rfl
                  have d2 : wy.cell? ⟨M, 2, none⟩ = some (.int .i64 D1.cutAt) := (cell_of_row wy M 2 _ _ _ HMb.out).trans rfl
                  have d3 : wy.cell? ⟨M, 3, none⟩ = some (.int .u64 D1.keep) := (cell_of_row wy M 3 _ _ _ HMb.out).trans rfl
                  have d4 : wy.cell? ⟨M, 4, none⟩ = some (.int .i64 D1.torn) := (cell_of_row wy M 4 _ _ _ HMb.out).trans rfl
                  have d5 : wy.cell? ⟨M, 5, none⟩ = some (.int .i64 D1.count) := (cell_of_row wy M 5 _ _ _ HMb.out).trans rfl
                  repeat still_step
                  still_call ((onp_down HDb.out.on).mono (fun e w' h => ⟨h.1, h.2.symm⟩))
                  repeat still_step
                  still_call ((onp_size HDb.out.on).mono (fun e w' h => ⟨by rw [h.1, HW2.out.nn], h.2.symm⟩))
                  repeat still_step
                  still_call ((onp_image HDb.out.on).mono (fun e w' h => ⟨h.1, h.2.symm⟩))
                  repeat still_step
                  refine wpStill_nil ?_
                  go_wp2_with fail
                  refine (duo_rimage HDb.out HW2.out (by omega)).mono ?_
                  rintro e wz ⟨rfl, hd, hz⟩
                  have HDc := Lib.hid (hd.less (Z' := fun i => False ∨ i = M) (fun i hi => .inl hi))
                  have HMc := Lib.hid (hz M _ (.inl (.inr rfl)) HMb.out)
                  clear hd hz d0 d1 d2 d3 d4 d5 d6
                  go_wp2
                  go_roundw
                  case rel => exact ⟨i + 1, _, _, _, by omega, by go_num, HDc.out, HW2.out, HMc.out⟩
                  case measure => simp [intOf]; omega
                · skip
                  by_cases k3 : kd = 3
                  · have q0 : (kd == 0) = false := by simpa using k0
                    have q1 : (kd == 1) = false := by simpa using k1
                    have q2 : (kd == 2) = false := by simpa using k2
                    have q3 : (kd == 3) = true := by simpa using k3
                    clear k0 k1 k2 k3
                    have hc0 := HNa
                    have y0 : (wr.alloc (.cells #[.int .i64 kd, .int .i64 pl, .string dt, .int .i64 ca, .int .u64 ck, .int .i64 ct] 33)).cell? ⟨wr.heap.size, 0, none⟩ = some (.int .i64 kd) := (cell_of_row (wr.alloc (.cells #[.int .i64 kd, .int .i64 pl, .string dt, .int .i64 ca, .int .u64 ck, .int .i64 ct] 33)) wr.heap.size 0 _ _ _ HNa.out).trans rfl
                    have y3 : (wr.alloc (.cells #[.int .i64 kd, .int .i64 pl, .string dt, .int .i64 ca, .int .u64 ck, .int .i64 ct] 33)).cell? ⟨wr.heap.size, 3, none⟩ = some (.int .i64 ca) := (cell_of_row (wr.alloc (.cells #[.int .i64 kd, .int .i64 pl, .string dt, .int .i64 ca, .int .u64 ck, .int .i64 ct] 33)) wr.heap.size 3 _ _ _ HNa.out).trans rfl
                    have y4 : (wr.alloc (.cells #[.int .i64 kd, .int .i64 pl, .string dt, .int .i64 ca, .int .u64 ck, .int .i64 ct] 33)).cell? ⟨wr.heap.size, 4, none⟩ = some (.int .u64 ck) := (cell_of_row (wr.alloc (.cells #[.int .i64 kd, .int .i64 pl, .string dt, .int .i64 ca, .int .u64 ck, .int .i64 ct] 33)) wr.heap.size 4 _ _ _ HNa.out).trans rfl
                    have y5 : (wr.alloc (.cells #[.int .i64 kd, .int .i64 pl, .string dt, .int .i64 ca, .int .u64 ck, .int .i64 ct] 33)).cell? ⟨wr.heap.size, 5, none⟩ = some (.int .i64 ct) := (cell_of_row (wr.alloc (.cells #[.int .i64 kd, .int .i64 pl, .string dt, .int .i64 ca, .int .u64 ck, .int .i64 ct] 33)) wr.heap.size 5 _ _ _ HNa.out).trans rfl
                    go_wp2_with (with_reducible refine wpList_load_mid (op := ⟨some 63, _, _, _, _, _⟩) rfl 33 _ rfl b (off + i * 6) rfl [.int .i64 kd, .int .i64 pl, .string dt, .int .i64 ca, .int .u64 ck, .int .i64 ct] _ HRG.out Try.underlying33 rfl HLr.out ?_)
                    refine (duo_arm HDa.out ca ck ct).mono ?_
                    rintro e wn ⟨rfl, hd, hz⟩
                    have HDn := Lib.hid hd
                    have HNn := Lib.hid (hz _ _ (.inr rfl) HNa.out)
                    have HMn := Lib.hid (hz M _ (.inl (.inr rfl)) HMa.out)
                    clear hd hz hc0 y0 y3 y4 y5 HDa HNa HMa
                    generalize wr.heap.size = N at HDn HNn hMlt ⊢
                    have y3 : wn.cell? ⟨N, 3, none⟩ = some (.int .i64 ca) := (cell_of_row wn N 3 _ _ _ HNn.out).trans rfl
                    have y4 : wn.cell? ⟨N, 4, none⟩ = some (.int .u64 ck) := (cell_of_row wn N 4 _ _ _ HNn.out).trans rfl
                    have y5 : wn.cell? ⟨N, 5, none⟩ = some (.int .i64 ct) := (cell_of_row wn N 5 _ _ _ HNn.out).trans rfl
                    have d0 : wn.cell? ⟨M, 0, none⟩ = some (.slice A1 a1 c1) := (cell_of_row wn M 0 _ _ _ HMn.out).trans rfl
                    have d1 : wn.cell? ⟨M, 1, none⟩ = some (.slice A2 a2 c2) := (cell_of_row wn M 1 _ _ _ HMn.out).trans rfl
                    have d2 : wn.cell? ⟨M, 2, none⟩ = some (.int .i64 D.cutAt) := (cell_of_row wn M 2 _ _ _ HMn.out).trans rfl
                    have d3 : wn.cell? ⟨M, 3, none⟩ = some (.int .u64 D.keep) := (cell_of_row wn M 3 _ _ _ HMn.out).trans rfl
                    have d4 : wn.cell? ⟨M, 4, none⟩ = some (.int .i64 D.torn) := (cell_of_row wn M 4 _ _ _ HMn.out).trans rfl
                    have d5 : wn.cell? ⟨M, 5, none⟩ = some (.int .i64 D.count) := (cell_of_row wn M 5 _ _ _ HMn.out).trans rfl
                    have d6 : wn.cell? ⟨M, 6, none⟩ = some (.bool D.down) := (cell_of_row wn M 6 _ _ _ HMn.out).trans rfl
                    go_wp2_with fail
                    refine (duo_rarm HDn.out ca ck ct).mono ?_
                    rintro e wp ⟨rfl, hd, hz⟩
                    have HDp := Lib.hid hd
                    have HMp := Lib.hid (hz M _ (.inl (.inr rfl)) HMn.out)
                    clear hd hz HDn HNn HMn y3 y4 y5 d0 d1 d2 d3 d4 d5 d6
                    have HW2 := Lib.hid (wd_arm HW1.out ca ck ct hck0 hck1)
                    generalize D.arm ca ck ct = D1 at HDp HW2 ⊢
                    simp only [refRow]
                    have d0 : wp.cell? ⟨M, 0, none⟩ = some (.slice A1 a1 c1) := (cell_of_row wp M 0 _ _ _ HMp.out).trans rfl
                    have d1 : wp.cell? ⟨M, 1, none⟩ = some (.slice A2 a2 c2) := (cell_of_row wp M 1 _ _ _ HMp.out).trans rfl
                    have d2 : wp.cell? ⟨M, 2, none⟩ = some (.int .i64 D.cutAt) := (cell_of_row wp M 2 _ _ _ HMp.out).trans rfl
                    have d3 : wp.cell? ⟨M, 3, none⟩ = some (.int .u64 D.keep) := (cell_of_row wp M 3 _ _ _ HMp.out).trans rfl
                    have d4 : wp.cell? ⟨M, 4, none⟩ = some (.int .i64 D.torn) := (cell_of_row wp M 4 _ _ _ HMp.out).trans rfl
                    have d5 : wp.cell? ⟨M, 5, none⟩ = some (.int .i64 D.count) := (cell_of_row wp M 5 _ _ _ HMp.out).trans rfl
                    have d6 : wp.cell? ⟨M, 6, none⟩ = some (.bool D.down) := (cell_of_row wp M 6 _ _ _ HMp.out).trans rfl
                    have z0 : wp.frozen? ⟨M, 0, none⟩ = false := frozen_of_row wp M 0 _ _ HMp.out
                    have z1 : wp.frozen? ⟨M, 1, none⟩ = false := frozen_of_row wp M 1 _ _ HMp.out
                    have z2 : wp.frozen? ⟨M, 2, none⟩ = false := frozen_of_row wp M 2 _ _ HMp.out
                    have z3 : wp.frozen? ⟨M, 3, none⟩ = false := frozen_of_row wp M 3 _ _ HMp.out
                    have z4 : wp.frozen? ⟨M, 4, none⟩ = false := frozen_of_row wp M 4 _ _ HMp.out
                    have z5 : wp.frozen? ⟨M, 5, none⟩ = false := frozen_of_row wp M 5 _ _ HMp.out
                    have z6 : wp.frozen? ⟨M, 6, none⟩ = false := frozen_of_row wp M 6 _ _ HMp.out
                    go_wp2
                    clear d0 z0 d1 z1 d2 z2 d3 z3 d4 z4 d5 z5 d6 z6
                    obtain ⟨wx, hwx'⟩ : ∃ x, x = put7 wp M (.slice A1 a1 c1) (.slice A2 a2 c2) (.int .i64 D1.cutAt) (.int .u64 D1.keep) (.int .i64 D1.torn) (.int .i64 D1.count) (.bool D1.down) := ⟨_, rfl⟩
                    change Code.wp _ _ _ _ (put7 wp M (.slice A1 a1 c1) (.slice A2 a2 c2) (.int .i64 D1.cutAt) (.int .u64 D1.keep) (.int .i64 D1.torn) (.int .i64 D1.count) (.bool D1.down))
                    rw [← hwx']
                    have hmv := put7_fr wp M (.slice A1 a1 c1) (.slice A2 a2 c2) (.int .i64 D1.cutAt) (.int .u64 D1.keep) (.int .i64 D1.torn) (.int .i64 D1.count) (.bool D1.down)
                    have hmh := put7_heap HMp.out (.slice A1 a1 c1) (.slice A2 a2 c2) (.int .i64 D1.cutAt) (.int .u64 D1.keep) (.int .i64 D1.torn) (.int .i64 D1.count) (.bool D1.down)
                    rw [← hwx'] at hmv hmh
                    clear hwx'
                    have HDx := Lib.hid (HDp.out.move hmv (fun i hi => .inl (.inr hi)))
                    have HMx := Lib.hid (show wx.heap[M]? = some (.cells (refRow (D1) (.slice A1 a1 c1) (.slice A2 a2 c2)) 48 (0, 0)) from hmh)
                    clear hmv hmh HDp HMp
                    refine wp_region_still_tail 20 (by kernel_rfl) (by kernel_rfl) ?_
                    simp only [List.take_succ_cons, List.take_zero, List.drop_succ_cons, List.drop_zero]
                    change wpStill _ _ wx.drew (fun a' => wpList _ _ _ _ a' wx.drew) _ _
                    have hdr := duo_zk HDx.out ((Fr.refl (fun _ => False) wx).drew)
                    have HDb := Lib.hid hdr.1
                    have HMb := Lib.hid (hdr.2 M _ (.inl (.inr rfl)) HMx.out)
                    clear hdr
                    generalize wx.drew = wy at HDb HMb ⊢
                    have d6 : wy.cell? ⟨M, 6, none⟩ = some (.bool D1.down) := (cell_of_row wy M 6 _ _ _ HMb.out).trans rfl
                    have d0 : wy.cell? ⟨M, 0, none⟩ = some (.slice A1 a1 c1) := (cell_of_row wy M 0 _ _ _ HMb.out).trans rfl
                    have d1 : wy.cell? ⟨M, 1, none⟩ = some (.slice A2 a2 c2) := (cell_of_row wy M 1 _ _ _ HMb.out).trans rfl
                    have d2 : wy.cell? ⟨M, 2, none⟩ = some (.int .i64 D1.cutAt) := (cell_of_row wy M 2 _ _ _ HMb.out).trans rfl
                    have d3 : wy.cell? ⟨M, 3, none⟩ = some (.int .u64 D1.keep) := (cell_of_row wy M 3 _ _ _ HMb.out).trans rfl
                    have d4 : wy.cell? ⟨M, 4, none⟩ = some (.int .i64 D1.torn) := (cell_of_row wy M 4 _ _ _ HMb.out).trans rfl
                    have d5 : wy.cell? ⟨M, 5, none⟩ = some (.int .i64 D1.count) := (cell_of_row wy M 5 _ _ _ HMb.out).trans rfl
                    repeat still_step
                    still_call ((onp_down HDb.out.on).mono (fun e w' h => ⟨h.1, h.2.symm⟩))
                    repeat still_step
                    still_call ((onp_size HDb.out.on).mono (fun e w' h => ⟨by rw [h.1, HW2.out.nn], h.2.symm⟩))
                    repeat still_step
                    still_call ((onp_image HDb.out.on).mono (fun e w' h => ⟨h.1, h.2.symm⟩))
                    repeat still_step
                    refine wpStill_nil ?_
                    go_wp2_with fail
                    refine (duo_rimage HDb.out HW2.out (by omega)).mono ?_
                    rintro e wz ⟨rfl, hd, hz⟩
                    have HDc := Lib.hid (hd.less (Z' := fun i => False ∨ i = M) (fun i hi => .inl hi))
                    have HMc := Lib.hid (hz M _ (.inl (.inr rfl)) HMb.out)
                    clear hd hz d0 d1 d2 d3 d4 d5 d6
                    go_wp2
                    go_roundw
                    case rel => exact ⟨i + 1, _, _, _, by omega, by go_num, HDc.out, HW2.out, HMc.out⟩
                    case measure => simp [intOf]; omega
                  · skip
                    by_cases k4 : kd = 4
                    · have q0 : (kd == 0) = false := by simpa using k0
                      have q1 : (kd == 1) = false := by simpa using k1
                      have q2 : (kd == 2) = false := by simpa using k2
                      have q3 : (kd == 3) = false := by simpa using k3
                      have q4 : (kd == 4) = true := by simpa using k4
                      clear k0 k1 k2 k3 k4
                      have hc0 := HNa
                      have y0 : (wr.alloc (.cells #[.int .i64 kd, .int .i64 pl, .string dt, .int .i64 ca, .int .u64 ck, .int .i64 ct] 33)).cell? ⟨wr.heap.size, 0, none⟩ = some (.int .i64 kd) := (cell_of_row (wr.alloc (.cells #[.int .i64 kd, .int .i64 pl, .string dt, .int .i64 ca, .int .u64 ck, .int .i64 ct] 33)) wr.heap.size 0 _ _ _ HNa.out).trans rfl
                      have y4 : (wr.alloc (.cells #[.int .i64 kd, .int .i64 pl, .string dt, .int .i64 ca, .int .u64 ck, .int .i64 ct] 33)).cell? ⟨wr.heap.size, 4, none⟩ = some (.int .u64 ck) := (cell_of_row (wr.alloc (.cells #[.int .i64 kd, .int .i64 pl, .string dt, .int .i64 ca, .int .u64 ck, .int .i64 ct] 33)) wr.heap.size 4 _ _ _ HNa.out).trans rfl
                      have y5 : (wr.alloc (.cells #[.int .i64 kd, .int .i64 pl, .string dt, .int .i64 ca, .int .u64 ck, .int .i64 ct] 33)).cell? ⟨wr.heap.size, 5, none⟩ = some (.int .i64 ct) := (cell_of_row (wr.alloc (.cells #[.int .i64 kd, .int .i64 pl, .string dt, .int .i64 ca, .int .u64 ck, .int .i64 ct] 33)) wr.heap.size 5 _ _ _ HNa.out).trans rfl
                      go_wp2_with (with_reducible refine wpList_load_mid (op := ⟨some 63, _, _, _, _, _⟩) rfl 33 _ rfl b (off + i * 6) rfl [.int .i64 kd, .int .i64 pl, .string dt, .int .i64 ca, .int .u64 ck, .int .i64 ct] _ HRG.out Try.underlying33 rfl HLr.out ?_)
                      refine (duo_crash HDa.out (HW1.out.fine (by omega)) ck ct hck0 hck1).mono ?_
                      rintro e wn ⟨rfl, hd, hz⟩
                      have HDn := Lib.hid hd
                      have HNn := Lib.hid (hz _ _ (.inr rfl) HNa.out)
                      have HMn := Lib.hid (hz M _ (.inl (.inr rfl)) HMa.out)
                      clear hd hz hc0 y0 y4 y5 HDa HNa HMa
                      generalize wr.heap.size = N at HDn HNn hMlt ⊢
                      have y4 : wn.cell? ⟨N, 4, none⟩ = some (.int .u64 ck) := (cell_of_row wn N 4 _ _ _ HNn.out).trans rfl
                      have y5 : wn.cell? ⟨N, 5, none⟩ = some (.int .i64 ct) := (cell_of_row wn N 5 _ _ _ HNn.out).trans rfl
                      have d0 : wn.cell? ⟨M, 0, none⟩ = some (.slice A1 a1 c1) := (cell_of_row wn M 0 _ _ _ HMn.out).trans rfl
                      have d1 : wn.cell? ⟨M, 1, none⟩ = some (.slice A2 a2 c2) := (cell_of_row wn M 1 _ _ _ HMn.out).trans rfl
                      have d2 : wn.cell? ⟨M, 2, none⟩ = some (.int .i64 D.cutAt) := (cell_of_row wn M 2 _ _ _ HMn.out).trans rfl
                      have d3 : wn.cell? ⟨M, 3, none⟩ = some (.int .u64 D.keep) := (cell_of_row wn M 3 _ _ _ HMn.out).trans rfl
                      have d4 : wn.cell? ⟨M, 4, none⟩ = some (.int .i64 D.torn) := (cell_of_row wn M 4 _ _ _ HMn.out).trans rfl
                      have d5 : wn.cell? ⟨M, 5, none⟩ = some (.int .i64 D.count) := (cell_of_row wn M 5 _ _ _ HMn.out).trans rfl
                      have d6 : wn.cell? ⟨M, 6, none⟩ = some (.bool D.down) := (cell_of_row wn M 6 _ _ _ HMn.out).trans rfl
                      go_wp2_with fail
                      refine (duo_rcrash HDn.out HW.out (by omega) (by omega) ck ct hck0 hck1).mono ?_
                      rintro e wp ⟨u', v', rfl, hd, hz⟩
                      obtain ⟨A3, a3, c3, A4, a4, c4, rfl, rfl⟩ := duo_sl hd
                      have HDp := Lib.hid hd
                      have HMp := Lib.hid (hz M _ (.inl (.inr rfl)) HMn.out)
                      clear hd hz HDn HNn HMn y4 y5 d0 d1 d2 d3 d4 d5 d6
                      have HW2 := Lib.hid (wd_crash HW1.out ck ct)
                      generalize D.crash ck ct = D1 at HDp HW2 ⊢
                      simp only [refRow]
                      have d0 : wp.cell? ⟨M, 0, none⟩ = some (.slice A1 a1 c1) := (cell_of_row wp M 0 _ _ _ HMp.out).trans rfl
                      have d1 : wp.cell? ⟨M, 1, none⟩ = some (.slice A2 a2 c2) := (cell_of_row wp M 1 _ _ _ HMp.out).trans rfl
                      have d2 : wp.cell? ⟨M, 2, none⟩ = some (.int .i64 D.cutAt) := (cell_of_row wp M 2 _ _ _ HMp.out).trans rfl
                      have d3 : wp.cell? ⟨M, 3, none⟩ = some (.int .u64 D.keep) := (cell_of_row wp M 3 _ _ _ HMp.out).trans rfl
                      have d4 : wp.cell? ⟨M, 4, none⟩ = some (.int .i64 D.torn) := (cell_of_row wp M 4 _ _ _ HMp.out).trans rfl
                      have d5 : wp.cell? ⟨M, 5, none⟩ = some (.int .i64 D.count) := (cell_of_row wp M 5 _ _ _ HMp.out).trans rfl
                      have d6 : wp.cell? ⟨M, 6, none⟩ = some (.bool D.down) := (cell_of_row wp M 6 _ _ _ HMp.out).trans rfl
                      have z0 : wp.frozen? ⟨M, 0, none⟩ = false := frozen_of_row wp M 0 _ _ HMp.out
                      have z1 : wp.frozen? ⟨M, 1, none⟩ = false := frozen_of_row wp M 1 _ _ HMp.out
                      have z2 : wp.frozen? ⟨M, 2, none⟩ = false := frozen_of_row wp M 2 _ _ HMp.out
                      have z3 : wp.frozen? ⟨M, 3, none⟩ = false := frozen_of_row wp M 3 _ _ HMp.out
                      have z4 : wp.frozen? ⟨M, 4, none⟩ = false := frozen_of_row wp M 4 _ _ HMp.out
                      have z5 : wp.frozen? ⟨M, 5, none⟩ = false := frozen_of_row wp M 5 _ _ HMp.out
                      have z6 : wp.frozen? ⟨M, 6, none⟩ = false := frozen_of_row wp M 6 _ _ HMp.out
                      go_wp2
                      clear d0 z0 d1 z1 d2 z2 d3 z3 d4 z4 d5 z5 d6 z6
                      obtain ⟨wx, hwx'⟩ : ∃ x, x = put7 wp M (.slice A3 a3 c3) (.slice A4 a4 c4) (.int .i64 D1.cutAt) (.int .u64 D1.keep) (.int .i64 D1.torn) (.int .i64 D1.count) (.bool D1.down) := ⟨_, rfl⟩
                      change Code.wp _ _ _ _ (put7 wp M (.slice A3 a3 c3) (.slice A4 a4 c4) (.int .i64 D1.cutAt) (.int .u64 D1.keep) (.int .i64 D1.torn) (.int .i64 D1.count) (.bool D1.down))
                      rw [← hwx']
                      have hmv := put7_fr wp M (.slice A3 a3 c3) (.slice A4 a4 c4) (.int .i64 D1.cutAt) (.int .u64 D1.keep) (.int .i64 D1.torn) (.int .i64 D1.count) (.bool D1.down)
                      have hmh := put7_heap HMp.out (.slice A3 a3 c3) (.slice A4 a4 c4) (.int .i64 D1.cutAt) (.int .u64 D1.keep) (.int .i64 D1.torn) (.int .i64 D1.count) (.bool D1.down)
                      rw [← hwx'] at hmv hmh
                      clear hwx'
                      have HDx := Lib.hid (HDp.out.move hmv (fun i hi => .inl (.inr hi)))
                      have HMx := Lib.hid (show wx.heap[M]? = some (.cells (refRow (D1) (.slice A3 a3 c3) (.slice A4 a4 c4)) 48 (0, 0)) from hmh)
                      clear hmv hmh HDp HMp
                      refine wp_region_still_tail 20 (by kernel_rfl) (by kernel_rfl) ?_
                      simp only [List.take_succ_cons, List.take_zero, List.drop_succ_cons, List.drop_zero]
                      change wpStill _ _ wx.drew (fun a' => wpList _ _ _ _ a' wx.drew) _ _
                      have hdr := duo_zk HDx.out ((Fr.refl (fun _ => False) wx).drew)
                      have HDb := Lib.hid hdr.1
                      have HMb := Lib.hid (hdr.2 M _ (.inl (.inr rfl)) HMx.out)
                      clear hdr
                      generalize wx.drew = wy at HDb HMb ⊢
                      have d6 : wy.cell? ⟨M, 6, none⟩ = some (.bool D1.down) := (cell_of_row wy M 6 _ _ _ HMb.out).trans rfl
                      have d0 : wy.cell? ⟨M, 0, none⟩ = some (.slice A3 a3 c3) := (cell_of_row wy M 0 _ _ _ HMb.out).trans rfl
                      have d1 : wy.cell? ⟨M, 1, none⟩ = some (.slice A4 a4 c4) := (cell_of_row wy M 1 _ _ _ HMb.out).trans rfl
                      have d2 : wy.cell? ⟨M, 2, none⟩ = some (.int .i64 D1.cutAt) := (cell_of_row wy M 2 _ _ _ HMb.out).trans rfl
                      have d3 : wy.cell? ⟨M, 3, none⟩ = some (.int .u64 D1.keep) := (cell_of_row wy M 3 _ _ _ HMb.out).trans rfl
                      have d4 : wy.cell? ⟨M, 4, none⟩ = some (.int .i64 D1.torn) := (cell_of_row wy M 4 _ _ _ HMb.out).trans rfl
                      have d5 : wy.cell? ⟨M, 5, none⟩ = some (.int .i64 D1.count) := (cell_of_row wy M 5 _ _ _ HMb.out).trans rfl
                      repeat still_step
                      still_call ((onp_down HDb.out.on).mono (fun e w' h => ⟨h.1, h.2.symm⟩))
                      repeat still_step
                      still_call ((onp_size HDb.out.on).mono (fun e w' h => ⟨by rw [h.1, HW2.out.nn], h.2.symm⟩))
                      repeat still_step
                      still_call ((onp_image HDb.out.on).mono (fun e w' h => ⟨h.1, h.2.symm⟩))
                      repeat still_step
                      refine wpStill_nil ?_
                      go_wp2_with fail
                      refine (duo_rimage HDb.out HW2.out (by omega)).mono ?_
                      rintro e wz ⟨rfl, hd, hz⟩
                      have HDc := Lib.hid (hd.less (Z' := fun i => False ∨ i = M) (fun i hi => .inl hi))
                      have HMc := Lib.hid (hz M _ (.inl (.inr rfl)) HMb.out)
                      clear hd hz d0 d1 d2 d3 d4 d5 d6
                      go_wp2
                      go_roundw
                      case rel => exact ⟨i + 1, _, _, _, by omega, by go_num, HDc.out, HW2.out, HMc.out⟩
                      case measure => simp [intOf]; omega
                    · skip
                      by_cases k5 : kd = 5
                      · have q0 : (kd == 0) = false := by simpa using k0
                        have q1 : (kd == 1) = false := by simpa using k1
                        have q2 : (kd == 2) = false := by simpa using k2
                        have q3 : (kd == 3) = false := by simpa using k3
                        have q4 : (kd == 4) = false := by simpa using k4
                        have q5 : (kd == 5) = true := by simpa using k5
                        clear k0 k1 k2 k3 k4 k5
                        have hc0 := HNa
                        have y0 : (wr.alloc (.cells #[.int .i64 kd, .int .i64 pl, .string dt, .int .i64 ca, .int .u64 ck, .int .i64 ct] 33)).cell? ⟨wr.heap.size, 0, none⟩ = some (.int .i64 kd) := (cell_of_row (wr.alloc (.cells #[.int .i64 kd, .int .i64 pl, .string dt, .int .i64 ca, .int .u64 ck, .int .i64 ct] 33)) wr.heap.size 0 _ _ _ HNa.out).trans rfl
                        go_wp2_with (with_reducible refine wpList_load_mid (op := ⟨some 63, _, _, _, _, _⟩) rfl 33 _ rfl b (off + i * 6) rfl [.int .i64 kd, .int .i64 pl, .string dt, .int .i64 ca, .int .u64 ck, .int .i64 ct] _ HRG.out Try.underlying33 rfl HLr.out ?_)
                        refine (duo_start HDa.out).mono ?_
                        rintro e wn ⟨rfl, hd, hz⟩
                        have HDn := Lib.hid hd
                        have HNn := Lib.hid (hz _ _ (.inr rfl) HNa.out)
                        have HMn := Lib.hid (hz M _ (.inl (.inr rfl)) HMa.out)
                        clear hd hz hc0 y0 HDa HNa HMa
                        generalize wr.heap.size = N at HDn HNn hMlt ⊢
                        have d6 : wn.cell? ⟨M, 6, none⟩ = some (.bool D.down) := (cell_of_row wn M 6 _ _ _ HMn.out).trans rfl
                        have z6 : wn.frozen? ⟨M, 6, none⟩ = false := frozen_of_row wn M 6 _ _ HMn.out
                        go_wp2
                        have hmv : Fr (fun i => i = M) wn (wn.setCell ⟨M, 6, none⟩ (.bool false)) := (Fr.refl _ _).setCell _ _ (.inl rfl)
                        have hmh := heap_setCell_same wn M 6 _ 48 (.bool false) HMn.out
                        generalize wn.setCell ⟨M, 6, none⟩ (.bool false) = wx at hmv hmh ⊢
                        have HDx := Lib.hid ((HDn.out.move hmv (fun i hi => .inl (.inr hi))).recast (E' := D.start) rfl rfl rfl)
                        have HMx := Lib.hid (show wx.heap[M]? = some (.cells (refRow D.start (.slice A1 a1 c1) (.slice A2 a2 c2)) 48 (0, 0)) from hmh)
                        have HW2 := Lib.hid (wd_start HW1.out)
                        clear hmv hmh HDn HMn HNn d6 z6
                        generalize D.start = D1 at HDx HMx HW2 ⊢
                        refine wp_region_still_tail 20 (by kernel_rfl) (by kernel_rfl) ?_
                        simp only [List.take_succ_cons, List.take_zero, List.drop_succ_cons, List.drop_zero]
                        change wpStill _ _ wx.drew (fun a' => wpList _ _ _ _ a' wx.drew) _ _
                        have hdr := duo_zk HDx.out ((Fr.refl (fun _ => False) wx).drew)
                        have HDb := Lib.hid hdr.1
                        have HMb := Lib.hid (hdr.2 M _ (.inl (.inr rfl)) HMx.out)
                        clear hdr
                        generalize wx.drew = wy at HDb HMb ⊢
                        have d6 : wy.cell? ⟨M, 6, none⟩ = some (.bool D1.down) := (cell_of_row wy M 6 _ _ _ HMb.out).trans rfl
                        have d0 : wy.cell? ⟨M, 0, none⟩ = some (.slice A1 a1 c1) := (cell_of_row wy M 0 _ _ _ HMb.out).trans rfl
                        have d1 : wy.cell? ⟨M, 1, none⟩ = some (.slice A2 a2 c2) := (cell_of_row wy M 1 _ _ _ HMb.out).trans rfl
                        have d2 : wy.cell? ⟨M, 2, none⟩ = some (.int .i64 D1.cutAt) := (cell_of_row wy M 2 _ _ _ HMb.out).trans rfl
                        have d3 : wy.cell? ⟨M, 3, none⟩ = some (.int .u64 D1.keep) := (cell_of_row wy M 3 _ _ _ HMb.out).trans rfl
                        have d4 : wy.cell? ⟨M, 4, none⟩ = some (.int .i64 D1.torn) := (cell_of_row wy M 4 _ _ _ HMb.out).trans rfl
                        have d5 : wy.cell? ⟨M, 5, none⟩ = some (.int .i64 D1.count) := (cell_of_row wy M 5 _ _ _ HMb.out).trans rfl
                        repeat still_step
                        still_call ((onp_down HDb.out.on).mono (fun e w' h => ⟨h.1, h.2.symm⟩))
                        repeat still_step
                        still_call ((onp_size HDb.out.on).mono (fun e w' h => ⟨by rw [h.1, HW2.out.nn], h.2.symm⟩))
                        repeat still_step
                        still_call ((onp_image HDb.out.on).mono (fun e w' h => ⟨h.1, h.2.symm⟩))
                        repeat still_step
                        refine wpStill_nil ?_
                        go_wp2_with fail
                        refine (duo_rimage HDb.out HW2.out (by omega)).mono ?_
                        rintro e wz ⟨rfl, hd, hz⟩
                        have HDc := Lib.hid (hd.less (Z' := fun i => False ∨ i = M) (fun i hi => .inl hi))
                        have HMc := Lib.hid (hz M _ (.inl (.inr rfl)) HMb.out)
                        clear hd hz d0 d1 d2 d3 d4 d5 d6
                        go_wp2
                        go_roundw
                        case rel => exact ⟨i + 1, _, _, _, by omega, by go_num, HDc.out, HW2.out, HMc.out⟩
                        case measure => simp [intOf]; omega
                      · have q0 : (kd == 0) = false := by simpa using k0
                        have q1 : (kd == 1) = false := by simpa using k1
                        have q2 : (kd == 2) = false := by simpa using k2
                        have q3 : (kd == 3) = false := by simpa using k3
                        have q4 : (kd == 4) = false := by simpa using k4
                        have q5 : (kd == 5) = false := by simpa using k5
                        clear k0 k1 k2 k3 k4 k5
                        have hc0 := HNa
                        have y0 : (wr.alloc (.cells #[.int .i64 kd, .int .i64 pl, .string dt, .int .i64 ca, .int .u64 ck, .int .i64 ct] 33)).cell? ⟨wr.heap.size, 0, none⟩ = some (.int .i64 kd) := (cell_of_row (wr.alloc (.cells #[.int .i64 kd, .int .i64 pl, .string dt, .int .i64 ca, .int .u64 ck, .int .i64 ct] 33)) wr.heap.size 0 _ _ _ HNa.out).trans rfl
                        clear hc0
                        go_wp2_with (with_reducible refine wpList_load_mid (op := ⟨some 63, _, _, _, _, _⟩) rfl 33 _ rfl b (off + i * 6) rfl [.int .i64 kd, .int .i64 pl, .string dt, .int .i64 ca, .int .u64 ck, .int .i64 ct] _ HRG.out Try.underlying33 rfl HLr.out ?_)
                        generalize hwx : wr.alloc _ = wx
                        have hwx' : wr.alloc (.cells #[.int .i64 kd, .int .i64 pl, .string dt, .int .i64 ca, .int .u64 ck, .int .i64 ct] 33) = wx := hwx
                        rw [hwx'] at HDa HNa HMa
                        clear hwx hwx' y0
                        refine wp_region_still_tail 20 (by kernel_rfl) (by kernel_rfl) ?_
                        simp only [List.take_succ_cons, List.take_zero, List.drop_succ_cons, List.drop_zero]
                        change wpStill _ _ wx.drew (fun a' => wpList _ _ _ _ a' wx.drew) _ _
                        have hdr := duo_zk HDa.out ((Fr.refl (fun _ => False) wx).drew)
                        have HDb := Lib.hid hdr.1
                        have HMb := Lib.hid (hdr.2 M _ (.inl (.inr rfl)) HMa.out)
                        clear hdr
                        generalize wx.drew = wy at HDb HMb ⊢
                        have d6 : wy.cell? ⟨M, 6, none⟩ = some (.bool D.down) := (cell_of_row wy M 6 _ _ _ HMb.out).trans rfl
                        have d0 : wy.cell? ⟨M, 0, none⟩ = some (.slice A1 a1 c1) := (cell_of_row wy M 0 _ _ _ HMb.out).trans rfl
                        have d1 : wy.cell? ⟨M, 1, none⟩ = some (.slice A2 a2 c2) := (cell_of_row wy M 1 _ _ _ HMb.out).trans rfl
                        have d2 : wy.cell? ⟨M, 2, none⟩ = some (.int .i64 D.cutAt) := (cell_of_row wy M 2 _ _ _ HMb.out).trans rfl
                        have d3 : wy.cell? ⟨M, 3, none⟩ = some (.int .u64 D.keep) := (cell_of_row wy M 3 _ _ _ HMb.out).trans rfl
                        have d4 : wy.cell? ⟨M, 4, none⟩ = some (.int .i64 D.torn) := (cell_of_row wy M 4 _ _ _ HMb.out).trans rfl
                        have d5 : wy.cell? ⟨M, 5, none⟩ = some (.int .i64 D.count) := (cell_of_row wy M 5 _ _ _ HMb.out).trans rfl
                        repeat still_step
                        still_call ((onp_down HDb.out.on).mono (fun e w' h => ⟨h.1, h.2.symm⟩))
                        repeat still_step
                        still_call ((onp_size HDb.out.on).mono (fun e w' h => ⟨by rw [h.1, HW1.out.nn], h.2.symm⟩))
                        repeat still_step
                        still_call ((onp_image HDb.out.on).mono (fun e w' h => ⟨h.1, h.2.symm⟩))
                        repeat still_step
                        refine wpStill_nil ?_
                        go_wp2_with fail
                        refine (duo_rimage HDb.out HW1.out (by omega)).mono ?_
                        rintro e wz ⟨rfl, hd, hz⟩
                        have HDc := Lib.hid (hd.less (Z' := fun i => False ∨ i = M) (fun i hi => .inl hi))
                        have HMc := Lib.hid (hz M _ (.inl (.inr rfl)) HMb.out)
                        clear hd hz d0 d1 d2 d3 d4 d5 d6
                        go_wp2
                        go_roundw
                        case rel => exact ⟨i + 1, _, _, _, by omega, by go_num, HDc.out, HW1.out, HMc.out⟩
                        case measure => simp [intOf]; omega
          · go_wp2_with fail
            go_ret
            exact ⟨rfl, HF2.out.trans HD.out.fr (fun i hi => hi.elim)⟩
end Go.Proofs.Ythlngbdbmnnnaaa
