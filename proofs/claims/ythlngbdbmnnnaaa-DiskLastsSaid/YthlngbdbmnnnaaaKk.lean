/- DiskCounts. -/
import Derived.Test.YthlngbdbmnnnaaaKj
import Derived.Test.YthlngbdbmnnnaaaL2
set_option linter.unusedVariables false
set_option linter.unusedSimpArgs false
namespace Go.Proofs.Ythlngbdbmnnnaaa
open Go.RowKit
/-- A disk of two sectors that is on, behind c effects, a cut at a. -/
structure Up (D : Dk) (a : Int) (c : Nat) : Prop where
  dn : D.down = false
  n : D.n = 2
  cut : D.cutAt = a
  ct : D.count = c
  wl : D.wait.length ≤ c
  k0 : 0 ≤ D.keep
  k1 : D.keep ≤ 18446744073709551615
theorem Up.fine {D : Dk} {a : Int} {c : Nat} (h : Up D a c) (hc : c < 1000) : Fine D := ⟨h.k0, h.k1, by have := h.wl; omega, by have := h.ct; omega⟩
theorem Up.asked {D : Dk} {a : Int} {c : Nat} (h : Up D a c) {p : Int} (h0 : 0 ≤ p) (h1 : p < 2) : D.asked p = 0 := by
  unfold Dk.asked
  rw [h.dn, h.n]
  simp; omega
theorem Up.write_ok {D : Dk} {a : Int} {c : Nat} (h : Up D a c) (hne : ¬ a = c + 1) {p : Int} (h0 : 0 ≤ p) (h1 : p < 2) (l : List UInt8) (hl : l.length ≤ 64) : D.writeE p l = 0 ∧ Up (D.write p l) a (c + 1) := by
  have hf : ¬ D.cutAt = D.count + 1 := by rw [h.cut, h.ct]; exact hne
  have hl' : ¬ 64 < l.length := by omega
  have ha := h.asked h0 h1
  constructor
  · simp [Dk.writeE, ha, hl', Dk.failing, hf]
  · have e : D.write p l = { D with wait := D.wait ++ [⟨p, Dk.fill l⟩], count := D.count + 1 } := by
      simp [Dk.write, ha, hl', Dk.counted, hf]
    rw [e]
    exact ⟨h.dn, h.n, h.cut, by show D.count + 1 = _; rw [h.ct]; rfl, by have := h.wl; simp; omega, h.k0, h.k1⟩
theorem Up.write_cut {D : Dk} {a : Int} {c : Nat} (h : Up D a c) (he : a = c + 1) {p : Int} (h0 : 0 ≤ p) (h1 : p < 2) (l : List UInt8) (hl : l.length ≤ 64) : D.writeE p l = 7 ∧ (D.write p l).down = true ∧ Up (D.write p l).start 0 (c + 1) := by
  have hf : D.cutAt = D.count + 1 := by rw [h.cut, h.ct]; exact he
  have hl' : ¬ 64 < l.length := by omega
  have ha := h.asked h0 h1
  refine ⟨by simp [Dk.writeE, ha, hl', Dk.failing, hf], ?_⟩
  have e : D.write p l = ({ D with wait := D.wait ++ [⟨p, Dk.fill l⟩], count := D.count + 1 } : Dk).crash D.keep D.torn := by
    simp [Dk.write, ha, hl', Dk.counted, hf]
  rw [e]
  refine ⟨by simp [Dk.crash, h.dn], ?_⟩
  exact ⟨rfl, by simp [Dk.crash, Dk.start, h.dn, h.n], by simp [Dk.crash, Dk.start, h.dn], by simp [Dk.crash, Dk.start, h.dn, h.ct], by simp [Dk.crash, Dk.start, h.dn], by simp [Dk.crash, Dk.start, h.dn], by simp [Dk.crash, Dk.start, h.dn]⟩
theorem Up.flush_ok {D : Dk} {a : Int} {c : Nat} (h : Up D a c) (hne : ¬ a = c + 1) : D.flushE = 0 ∧ Up D.flush a (c + 1) := by
  have hf : ¬ D.cutAt = D.count + 1 := by rw [h.cut, h.ct]; exact hne
  constructor
  · simp [Dk.flushE, h.dn, Dk.failing, hf]
  · have e : D.flush = { D with lasts := settle (fun _ => 64) 0 D.wait D.lasts, wait := [], count := D.count + 1 } := by
      simp [Dk.flush, h.dn, Dk.failing, hf, Dk.counted]
    rw [e]
    exact ⟨h.dn, h.n, h.cut, by show D.count + 1 = _; rw [h.ct]; rfl, by simp, h.k0, h.k1⟩
theorem Up.flush_cut {D : Dk} {a : Int} {c : Nat} (h : Up D a c) (he : a = c + 1) : D.flushE = 7 ∧ D.flush.down = true ∧ Up D.flush.start 0 (c + 1) := by
  have hf : D.cutAt = D.count + 1 := by rw [h.cut, h.ct]; exact he
  refine ⟨by simp [Dk.flushE, h.dn, Dk.failing, hf], ?_⟩
  have e : D.flush = ({ D with count := D.count + 1 } : Dk).crash D.keep D.torn := by
    simp [Dk.flush, h.dn, Dk.failing, hf, Dk.counted]
  rw [e]
  refine ⟨by simp [Dk.crash, h.dn], ?_⟩
  exact ⟨rfl, by simp [Dk.crash, Dk.start, h.dn, h.n], by simp [Dk.crash, Dk.start, h.dn], by simp [Dk.crash, Dk.start, h.dn, h.ct], by simp [Dk.crash, Dk.start, h.dn], by simp [Dk.crash, Dk.start, h.dn], by simp [Dk.crash, Dk.start, h.dn]⟩
theorem up_new (a k t : Int) (hk0 : 0 ≤ k) (hk1 : k ≤ 18446744073709551615) : Up ((Dk.new 2).arm a k t) (if a < 1 then 0 else a) 0 := by
  unfold Dk.arm
  split
  · exact ⟨rfl, rfl, rfl, rfl, by simp [Dk.new], by simp, by simp⟩
  · exact ⟨rfl, rfl, rfl, rfl, by simp [Dk.new], hk0, hk1⟩
theorem cut_iff (a : Int) (c : Nat) : ((if a < 1 then 0 else a) = (c : Int) + 1) ↔ a = c + 1 := by split <;> omega

theorem on_drewN {w0 w : World} {g : Nat} {D : Dk} (h : On w0 w g D) (n : Nat) : On w0 (w.drewN n) g D := by
  obtain ⟨F, hR, hf, hB⟩ := h
  exact ⟨F, hR.fr ((Fr.refl (fun _ => False) w).drewN n) (fun _ _ => id), hf.drewN n, hB⟩
theorem on_down_q {w0 w : World} {g : Nat} {D : Dk} (h : On w0 w g D) {b : Bool} (hd : D.down = b) (n : Nat) :
    Calls Try.prog 26 #[.pointer (some ⟨g, 0, none⟩)] (w.drewN n) fun e w' => e = .returned (.bool b) ∧ w' = w.drewN n := by
  subst hd
  exact (on_down (on_drewN h n)).mono fun e w' hh => ⟨hh.1, hh.2.symm⟩
set_option maxRecDepth 20000 in
set_option maxHeartbeats 2000000 in
theorem counts_walk (a k t : Int) (hk0 : 0 ≤ k) (hk1 : k ≤ 18446744073709551615) (A : Option Addr) (l : List Bool) (cap : Nat) (w : World) (hr : SlR w A 1 (fun b => [.bool b]) l) (hm : l.length ≤ 60) :
    Calls Try.prog 6 #[.agg #[.int .i64 a, .int .u64 k, .int .i64 t], .slice A l.length cap] w fun e w' => e = .returned (.bool true) ∧ Fr (fun _ => False) w w' := by
  have HR := Lib.hid hr
  obtain ⟨m, hm'⟩ : ∃ m, m = l.length := ⟨_, rfl⟩
  rw [← hm'] at hm ⊢
  have HM := Lib.hid hm'
  clear hr hm'
  have HB := Lib.hid (heap_alloc_new w (.cells #[.int .i64 a, .int .u64 k, .int .i64 t] 31))
  have hf0 : Fr (fun _ => False) w (w.alloc (.cells #[.int .i64 a, .int .u64 k, .int .i64 t] 31)) := (Fr.refl _ _).alloc _
  have HF0 := Lib.hid hf0
  clear hf0
  go_enter Try.func6, Try.ntmps6
  go_wp2_with fail
  generalize hw1 : w.alloc (.cells #[.int .i64 a, .int .u64 k, .int .i64 t] 31) = w1 at HB HF0 ⊢
  clear hw1
  obtain ⟨c, hc⟩ : ∃ c, c = w.heap.size := ⟨_, rfl⟩
  rw [← hc] at HB ⊢
  clear hc
  refine (awake_true _).mono ?_
  rintro e w2 ⟨rfl, hf⟩
  have HF2 := Lib.hid (HF0.out.trans hf (fun i hi => hi.elim))
  have HB2 := Lib.hid (hf.heap HB.out id)
  clear hf HB HF0
  go_wp2_with fail
  refine (on_new 2 _ (by omega) (by omega)).mono ?_
  rintro e w3 ⟨g, rfl, ho⟩
  have HO3 := Lib.hid ho
  have hb3 := ho.fr.heap HB2.out id
  have c0 : w3.cell? ⟨c, 0, none⟩ = some (.int .i64 a) := (cell_of_row w3 c 0 _ _ _ hb3).trans rfl
  have c1 : w3.cell? ⟨c, 1, none⟩ = some (.int .u64 k) := (cell_of_row w3 c 1 _ _ _ hb3).trans rfl
  have c2 : w3.cell? ⟨c, 2, none⟩ = some (.int .i64 t) := (cell_of_row w3 c 2 _ _ _ hb3).trans rfl
  clear ho hb3
  go_wp2_with fail
  refine (on_arm HO3.out a k t).mono ?_
  rintro e w4 ⟨rfl, ho⟩
  have HO4 := Lib.hid ho
  have HU := Lib.hid (up_new a k t hk0 hk1)
  clear ho c0 c1 c2
  go_wp2
  go_loopw [7] (fun v wr => ∃ (i : Nat) (D : Dk), i ≤ m ∧ v = .int .i64 i ∧ On w2 wr g D ∧ Up D (if a < 1 then 0 else a) i) (fun v _ => m - (intOf v).toNat)
  case atStart => exact ⟨0, _, Nat.zero_le _, rfl, HO4.out, HU.out⟩
  case round =>
    obtain ⟨i, D, hi, rfl, hO, hU⟩ := hrel
    have HO := Lib.hid hO
    have HU' := Lib.hid hU
    have d0 : wr.cell? ⟨c, 0, none⟩ = some (.int .i64 a) := (cell_of_row wr c 0 _ _ _ (hO.fr.heap HB2.out id)).trans rfl
    clear hO hU
    by_cases hlt : i < m
    · obtain ⟨x, hx⟩ : ∃ x, l[i]? = some x := ⟨_, List.getElem?_eq_getElem (by have := HM.out; omega)⟩
      obtain ⟨b, off, hA, hrg⟩ := HR.out i x hx
      have hcell : wr.cell? ⟨b, off + i, none⟩ = some (.bool x) := by
        have h1 := hrg 0 _ rfl
        rw [Nat.mul_one, Nat.add_zero] at h1
        exact HO.out.fr.cell (HF2.out.cell h1 id) id
      have HA := Lib.hid hA
      rw [hA]
      clear hx hA hrg
      by_cases hcut : a = i + 1
      · have hq : (a == (i : Int) + 1) = true := by simp [hcut]
        have hq' : (a != (i : Int) + 1) = false := by simp [hcut]
        have HN := Lib.hid (show (if a < 1 then 0 else a) = (i : Int) + 1 from (cut_iff a i).2 hcut)
        clear hcut
        cases x
        · go_wp2_with fail
          have H3 := Lib.hid (HU'.out.write_cut HN.out (show 0 ≤ (i : Int) % 2 by omega) (by omega) [120] (by simp))
          refine (on_write HO.out (HU'.out.fine (by omega)) ((i : Int) % 2) ⟨#[120]⟩).mono ?_
          rintro e wn ⟨rfl, ho⟩
          rw [show D.writeE ((i : Int) % 2) (⟨#[120]⟩ : ByteArray).data.toList = 7 from H3.out.1]
          have HO' := Lib.hid (show On w2 wn g (D.write ((i : Int) % 2) [120]) from ho)
          have HD' := Lib.hid H3.out.2.1
          have HS' := Lib.hid H3.out.2.2
          clear ho H3
          generalize D.write ((i : Int) % 2) [120] = D1 at HO' HD' HS'
          have d1 : wn.cell? ⟨c, 0, none⟩ = some (.int .i64 a) := (cell_of_row wn c 0 _ _ _ (HO'.out.fr.heap HB2.out id)).trans rfl
          clear d0
          go_wp2
          go_quiet ((go_at_call 26; exact Calls.quiet_of_same (on_down_q HO'.out HD'.out _)))
          have HO2 := Lib.hid (on_drewN HO'.out nq)
          go_wp2_with fail
          refine (on_down HO2.out).mono ?_
          rintro e w' ⟨rfl, rfl⟩
          rw [HD'.out]
          go_wp2_with fail
          refine (on_start HO2.out).mono ?_
          rintro e ws ⟨rfl, ho⟩
          have HO4 := Lib.hid ho
          clear ho
          go_wp2
          go_loopw [9] (fun v wr2 => ∃ (j : Nat) (D2 : Dk), j ≤ 5 ∧ v = .int .i64 j ∧ On w2 wr2 g D2 ∧ Up D2 0 (i + 1 + 2 * j)) (fun v _ => 5 - (intOf v).toNat)
          case atStart => exact ⟨0, _, Nat.zero_le _, rfl, HO4.out, HS'.out⟩
          case round =>
            obtain ⟨j, D2, hj, rfl, hO, hU⟩ := hrel
            have HQ := Lib.hid hO
            have HV := Lib.hid hU
            clear hO hU
            by_cases hj5 : j < 5
            · go_wp2_with fail
              have H3 := Lib.hid (HV.out.write_ok (by omega) (show 0 ≤ (0 : Int) by omega) (by omega) [121] (by simp))
              refine (on_write HQ.out (HV.out.fine (by omega)) 0 ⟨#[121]⟩).mono ?_
              rintro e wa ⟨rfl, ho⟩
              rw [show D2.writeE 0 (⟨#[121]⟩ : ByteArray).data.toList = 0 from H3.out.1]
              have HQ1 := Lib.hid (show On w2 wa g (D2.write 0 [121]) from ho)
              have HV1 := Lib.hid H3.out.2
              clear ho H3
              generalize D2.write 0 [121] = D3 at HQ1 HV1
              go_wp2_with fail
              have H3 := Lib.hid (HV1.out.flush_ok (by omega))
              refine (on_flush HQ1.out (HV1.out.fine (by omega))).mono ?_
              rintro e wb ⟨rfl, ho⟩
              rw [H3.out.1]
              have HQ2 := Lib.hid ho
              have HV2 := Lib.hid H3.out.2
              clear ho H3
              generalize D3.flush = D4 at HQ2 HV2
              go_wp2
              go_roundw
              case rel => exact ⟨j + 1, D4, by omega, by go_num, HQ2.out, by have := HV2.out; rwa [show i + 1 + 2 * j + 1 + 1 = i + 1 + 2 * (j + 1) by omega] at this⟩
              case measure => simp [intOf]; omega
            · go_wp2_with fail
              refine (on_down HQ.out).mono ?_
              rintro e w' ⟨rfl, rfl⟩
              rw [HV.out.dn]
              go_wp2
              go_ret
              exact ⟨rfl, HF2.out.trans HQ.out.fr (fun i hi => hi.elim)⟩
        · go_wp2_with fail
          have H3 := Lib.hid (HU'.out.flush_cut HN.out)
          refine (on_flush HO.out (HU'.out.fine (by omega))).mono ?_
          rintro e wn ⟨rfl, ho⟩
          rw [H3.out.1]
          have HO' := Lib.hid ho
          have HD' := Lib.hid H3.out.2.1
          have HS' := Lib.hid H3.out.2.2
          clear ho H3
          generalize D.flush = D1 at HO' HD' HS'
          have d1 : wn.cell? ⟨c, 0, none⟩ = some (.int .i64 a) := (cell_of_row wn c 0 _ _ _ (HO'.out.fr.heap HB2.out id)).trans rfl
          clear d0
          go_wp2
          go_quiet ((go_at_call 26; exact Calls.quiet_of_same (on_down_q HO'.out HD'.out _)))
          have HO2 := Lib.hid (on_drewN HO'.out nq)
          go_wp2_with fail
          refine (on_down HO2.out).mono ?_
          rintro e w' ⟨rfl, rfl⟩
          rw [HD'.out]
          go_wp2_with fail
          refine (on_start HO2.out).mono ?_
          rintro e ws ⟨rfl, ho⟩
          have HO4 := Lib.hid ho
          clear ho
          go_wp2
          go_loopw [9] (fun v wr2 => ∃ (j : Nat) (D2 : Dk), j ≤ 5 ∧ v = .int .i64 j ∧ On w2 wr2 g D2 ∧ Up D2 0 (i + 1 + 2 * j)) (fun v _ => 5 - (intOf v).toNat)
          case atStart => exact ⟨0, _, Nat.zero_le _, rfl, HO4.out, HS'.out⟩
          case round =>
            obtain ⟨j, D2, hj, rfl, hO, hU⟩ := hrel
            have HQ := Lib.hid hO
            have HV := Lib.hid hU
            clear hO hU
            by_cases hj5 : j < 5
            · go_wp2_with fail
              have H3 := Lib.hid (HV.out.write_ok (by omega) (show 0 ≤ (0 : Int) by omega) (by omega) [121] (by simp))
              refine (on_write HQ.out (HV.out.fine (by omega)) 0 ⟨#[121]⟩).mono ?_
              rintro e wa ⟨rfl, ho⟩
              rw [show D2.writeE 0 (⟨#[121]⟩ : ByteArray).data.toList = 0 from H3.out.1]
              have HQ1 := Lib.hid (show On w2 wa g (D2.write 0 [121]) from ho)
              have HV1 := Lib.hid H3.out.2
              clear ho H3
              generalize D2.write 0 [121] = D3 at HQ1 HV1
              go_wp2_with fail
              have H3 := Lib.hid (HV1.out.flush_ok (by omega))
              refine (on_flush HQ1.out (HV1.out.fine (by omega))).mono ?_
              rintro e wb ⟨rfl, ho⟩
              rw [H3.out.1]
              have HQ2 := Lib.hid ho
              have HV2 := Lib.hid H3.out.2
              clear ho H3
              generalize D3.flush = D4 at HQ2 HV2
              go_wp2
              go_roundw
              case rel => exact ⟨j + 1, D4, by omega, by go_num, HQ2.out, by have := HV2.out; rwa [show i + 1 + 2 * j + 1 + 1 = i + 1 + 2 * (j + 1) by omega] at this⟩
              case measure => simp [intOf]; omega
            · go_wp2_with fail
              refine (on_down HQ.out).mono ?_
              rintro e w' ⟨rfl, rfl⟩
              rw [HV.out.dn]
              go_wp2
              go_ret
              exact ⟨rfl, HF2.out.trans HQ.out.fr (fun i hi => hi.elim)⟩
      · have hq : (a == (i : Int) + 1) = false := by simp [hcut]
        have hq' : (a != (i : Int) + 1) = true := by simp [hcut]
        have HN := Lib.hid (show ¬ (if a < 1 then 0 else a) = (i : Int) + 1 from fun h => hcut ((cut_iff a i).1 h))
        clear hcut
        cases x
        · go_wp2_with fail
          have H3 := Lib.hid (HU'.out.write_ok HN.out (show 0 ≤ (i : Int) % 2 by omega) (by omega) [120] (by simp))
          refine (on_write HO.out (HU'.out.fine (by omega)) ((i : Int) % 2) ⟨#[120]⟩).mono ?_
          rintro e wn ⟨rfl, ho⟩
          rw [show D.writeE ((i : Int) % 2) (⟨#[120]⟩ : ByteArray).data.toList = 0 from H3.out.1]
          have HO' := Lib.hid (show On w2 wn g (D.write ((i : Int) % 2) [120]) from ho)
          have HU2 := Lib.hid H3.out.2
          clear ho H3
          generalize D.write ((i : Int) % 2) [120] = D1 at HO' HU2
          have d1 : wn.cell? ⟨c, 0, none⟩ = some (.int .i64 a) := (cell_of_row wn c 0 _ _ _ (HO'.out.fr.heap HB2.out id)).trans rfl
          clear d0
          go_wp2
          go_quiet ((go_at_call 26; exact Calls.quiet_of_same (on_down_q HO'.out HU2.out.dn _)))
          have HO2 := Lib.hid (on_drewN HO'.out nq)
          go_wp2_with (go_at_call 26; refine (on_down HO2.out).mono ?_; rintro e w' ⟨rfl, rfl⟩; rw [HU2.out.dn])
          go_roundw
          case rel => exact ⟨i + 1, D1, by omega, by go_num, HO2.out, HU2.out⟩
          case measure => simp [intOf]; omega
        · go_wp2_with fail
          have H3 := Lib.hid (HU'.out.flush_ok HN.out)
          refine (on_flush HO.out (HU'.out.fine (by omega))).mono ?_
          rintro e wn ⟨rfl, ho⟩
          rw [H3.out.1]
          have HO' := Lib.hid ho
          have HU2 := Lib.hid H3.out.2
          clear ho H3
          generalize D.flush = D1 at HO' HU2
          have d1 : wn.cell? ⟨c, 0, none⟩ = some (.int .i64 a) := (cell_of_row wn c 0 _ _ _ (HO'.out.fr.heap HB2.out id)).trans rfl
          clear d0
          go_wp2
          go_quiet ((go_at_call 26; exact Calls.quiet_of_same (on_down_q HO'.out HU2.out.dn _)))
          have HO2 := Lib.hid (on_drewN HO'.out nq)
          go_wp2_with (go_at_call 26; refine (on_down HO2.out).mono ?_; rintro e w' ⟨rfl, rfl⟩; rw [HU2.out.dn])
          go_roundw
          case rel => exact ⟨i + 1, D1, by omega, by go_num, HO2.out, HU2.out⟩
          case measure => simp [intOf]; omega
    · go_wp2
      go_ret
      exact ⟨rfl, HF2.out.trans HO.out.fr (fun i hi => hi.elim)⟩
end Go.Proofs.Ythlngbdbmnnnaaa
