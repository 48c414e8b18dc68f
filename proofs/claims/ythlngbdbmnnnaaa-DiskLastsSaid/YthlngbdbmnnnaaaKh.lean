/- Read, Flush. -/
import Derived.Test.YthlngbdbmnnnaaaKg
set_option linter.unusedVariables false
set_option linter.unusedSimpArgs false
namespace Go.Proofs.Ythlngbdbmnnnaaa
open Go.RowKit
theorem flush_any {F : Nat → Prop} {w : World} {g : Nat} {D : Dk} (hR : DRep F w g D) (hk0 : 0 ≤ D.keep) (hk1 : D.keep ≤ 18446744073709551615) (hm : D.wait.length ≤ 1000000) (hc : D.count ≤ 1000000) :
    Calls Try.prog 14 #[.pointer (some ⟨g, 0, none⟩)] w (Left F w g D.flush (.int .i64 D.flushE)) := by
  obtain ⟨gl, wv, hg, -⟩ := hR.ex
  have h6 := (dcells hg).c6
  have HR := Lib.hid hR
  clear hg hR
  cases hd : D.down
  · rw [hd] at h6
    cases hf : D.failing
    · have HE := Lib.hid (show D.flush = { D.counted with lasts := settle (fun _ => 64) 0 D.wait D.lasts, wait := [] } by simp [Dk.flush, hd, hf])
      have HV := Lib.hid (show D.flushE = 0 by simp [Dk.flushE, hd, hf])
      have HC := Lib.hid (counted_no (by simpa [Dk.failing] using hf))
      have HF := Lib.hid hf
      have HM := Lib.hid hm
      clear hd hf
      go_enter Try.func14, Try.ntmps14
      go_wp2_with fail
      refine (fails_any HR.out hk0 hk1 hm hc).mono ?_
      rintro e w1 ⟨rfl, hl⟩
      rw [HF.out]
      have HL := Lib.hid hl
      clear hl
      go_wp2_with fail
      obtain ⟨F1, hF1, hfr1, hR1⟩ := HL.out
      rw [HC.out] at hR1
      refine (settle_any_44 hR1 (fun _ => 64) HM.out (fun _ => Nat.le_refl _) (fun i W _ _ => flush1_any i W)).mono ?_
      rintro e w2 ⟨rfl, hR2, hfr2⟩
      have HR2 := Lib.hid hR2
      have HFr := Lib.hid (hfr1.trans hfr2 hF1)
      have HF1 := Lib.hid hF1
      clear hF1 hfr1 hR1 hR2 hfr2
      go_wp2
      go_ret
      rw [HE.out, HV.out, HC.out]
      exact ⟨rfl, F1, HF1.out, HFr.out, HR2.out⟩
    · have HE := Lib.hid (show D.flush = D.counted by simp [Dk.flush, hd, hf])
      have HV := Lib.hid (show D.flushE = 7 by simp [Dk.flushE, hd, hf])
      have HF := Lib.hid hf
      clear hd hf
      go_enter Try.func14, Try.ntmps14
      go_wp2_with fail
      refine (fails_any HR.out hk0 hk1 hm hc).mono ?_
      rintro e w1 ⟨rfl, hl⟩
      rw [HF.out]
      have HL := Lib.hid hl
      clear hl
      go_wp2
      go_ret
      rw [HE.out, HV.out]
      exact ⟨rfl, HL.out⟩
  · rw [hd] at h6
    have HE := Lib.hid (show D.flush = D by simp [Dk.flush, hd])
    have HV := Lib.hid (show D.flushE = 7 by simp [Dk.flushE, hd])
    clear hd
    go_enter Try.func14, Try.ntmps14
    go_wp2
    go_ret
    rw [HE.out, HV.out]
    exact ⟨rfl, F, fun i hi => .inl hi, Fr.refl _ _, HR.out⟩
set_option maxRecDepth 20000 in
theorem read_go {F : Nat → Prop} {w : World} {g gl gw c : Nat} {D : Dk} (hR : DRep F w g D) (p : Nat) (hm : D.wait.length ≤ 1000000) (ha : D.asked p = 0) (hp : p < D.n)
    (hg : w.heap[g]? = some (.cells #[.slice (some ⟨gl, 0, none⟩) (64 * D.n) (64 * D.n), .slice (some ⟨gw, 0, none⟩) D.wait.length c, .int .i64 D.cutAt, .int .u64 D.keep, .int .i64 D.torn, .int .i64 D.count, .bool D.down] 85 (0, 0)))
    (hl : w.heap[gl]? = some (.cells (bcells D.lasts).toArray 5 (0, 0))) (ho : w.ownsRow 0 89 65 (.slice (some ⟨gw, 0, none⟩) D.wait.length c) D.wait.length (D.wait.flatMap wcells)) :
    Calls Try.prog 16 #[.pointer (some ⟨g, 0, none⟩), .int .i64 p] w fun e w' => e = .returned (.tuple #[.string (str (D.read p)), .int .i64 0]) ∧ w = w' := by
  have h0 := (dcells hg).c0
  have h1 := (dcells hg).c1
  obtain ⟨m, hmm⟩ : ∃ m, m = D.wait.length := ⟨_, rfl⟩
  have HM := Lib.hid hmm
  rw [← hmm] at h1 hm
  have HR := Lib.hid hR
  have HO := Lib.hid ho
  have HA := Lib.hid ha
  have HL := Lib.hid hR.len
  have hq : p * 64 < 64 * D.n := by omega
  have hn : D.n ≤ 4096 := hR.most
  have hsec : (D.sector p).length = 64 := by simp [Dk.sector, hR.len]; omega
  have hcv := run_convert_str (P := Try.prog) w 43 5 Try.underlying43 Try.underlying5 gl (p * 64) 64 (64 * D.n - p * 64) (D.sector p) hsec (fun j v hj => by
    refine rangeAt_block hl (p * 64) 64 j v ?_
    rw [← hj, Dk.sector, bcells_take, bcells_drop, Int.toNat_natCast, Nat.mul_comm]) 9 Try.underlying9
  clear hg hl ho ha hmm hR hsec
  go_enter Try.func16, Try.ntmps16
  go_wp2_with (go_at_call 41; refine (asked_any HR.out p).mono ?_; rintro e w' ⟨rfl, rfl⟩; rw [HA.out])
  go_loop [7] (fun v => ∃ z : Int, -1 ≤ z ∧ z < m ∧ v = .int .i64 z ∧ ∀ (j : Nat) (y : Wr), z < j → D.wait[j]? = some y → y.place ≠ p) (fun v => (intOf v + 1).toNat)
  case atStart => exact ⟨(m : Int) - 1, by omega, by omega, rfl, fun j y hj hy => by
    have := (List.getElem?_eq_some_iff.1 hy).1
    have := HM.out; omega⟩
  case round =>
    obtain ⟨z, hz0, hz1, rfl, hno⟩ := hrel
    have HNo := Lib.hid hno
    clear hno
    by_cases hz : z = -1
    · subst hz
      have hl1 : Dk.latest D.wait p = none := Dk.latest_none p _ (fun j y hj => HNo.out j y (by omega) hj)
      have HE := Lib.hid (show D.read p = D.sector p by simp [Dk.read, HA.out, hl1])
      clear hl1
      have hw2 : (0 : Int) ≤ (p : Int) * 64 := by omega
      have hw3 : (p : Int) * 64 ≤ 64 * (D.n : Int) := by omega
      have hw4 : ¬ 64 * D.n = p * 64 := by omega
      have hw5 : (64 : Int) ≤ ((64 * D.n - p * 64 : Nat) : Int) := by omega
      go_wp2
      go_ret2
      rw [HE.out]
      exact ⟨rfl, rfl⟩
    · obtain ⟨i, rfl⟩ : ∃ i : Nat, z = i := ⟨z.toNat, by omega⟩
      have hi : i < m := by omega
      have hiw : i < D.wait.length := by rw [← HM.out]; exact hi
      obtain ⟨x, hx⟩ : ∃ x, D.wait[i]? = some x := ⟨_, List.getElem?_eq_getElem hiw⟩
      have hxm : x ∈ D.wait := List.mem_of_getElem? hx
      obtain ⟨hp0, hp1, hdl⟩ := HR.out.wf x hxm
      have hran : w.rangeAt gw (i * 65) (wcells x) := fun j v hj => by
        have h1 := flat_take wcells 65 D.wait (fun y hy => wcells_length y (HR.out.wf y hy).2.2) i x hx j v hj
        have h2 := HO.out.cells (g := gw) rfl _ v h1
        rw [Addr.add_mid, Nat.zero_add] at h2
        exact h2
      have hcell : w.cell? ⟨gw, i * 65, none⟩ = some (.int .i64 x.place) := by simpa using hran 0 _ rfl
      have hcx := run_convert_str (P := Try.prog) w 43 5 Try.underlying43 Try.underlying5 gw (i * 65 + 1) 64 64 x.data hdl (rangeAt_mid hran _ 1 (fun j v hj => by rw [Nat.add_comm]; simpa [wcells] using hj)) 9 Try.underlying9
      have HX := Lib.hid hx
      clear hran hx hdl hxm
      by_cases hpe : x.place = p
      · have hl1 : Dk.latest D.wait p = some x.data := Dk.latest_some p _ i x HX.out hpe (fun j y hj hy => HNo.out j y (by omega) hy)
        have HE := Lib.hid (show D.read p = x.data by simp [Dk.read, HA.out, hl1])
        have hb : (x.place == (p : Int)) = true := by simp [hpe]
        clear hl1 hpe
        go_wp2
        go_ret2
        rw [HE.out]
        exact ⟨rfl, rfl⟩
      · have hb : (x.place == (p : Int)) = false := by simp [hpe]
        have HP := Lib.hid hpe
        clear hpe
        go_wp2
        go_round
        case rel => exact ⟨(i : Int) - 1, by omega, by omega, rfl, fun j y hj hy => by
          by_cases hji : j = i
          · subst hji
            obtain rfl : x = y := Option.some.inj (HX.out.symm.trans hy)
            exact HP.out
          · exact HNo.out j y (by omega) hy⟩
        case measure => simp [intOf]
set_option maxRecDepth 20000 in
theorem read_nil {F : Nat → Prop} {w : World} {g gl : Nat} {D : Dk} (hR : DRep F w g D) (p : Nat) (ha : D.asked p = 0) (hp : p < D.n) (hw : D.wait = [])
    (hg : w.heap[g]? = some (.cells #[.slice (some ⟨gl, 0, none⟩) (64 * D.n) (64 * D.n), .slice none 0 0, .int .i64 D.cutAt, .int .u64 D.keep, .int .i64 D.torn, .int .i64 D.count, .bool D.down] 85 (0, 0)))
    (hl : w.heap[gl]? = some (.cells (bcells D.lasts).toArray 5 (0, 0))) :
    Calls Try.prog 16 #[.pointer (some ⟨g, 0, none⟩), .int .i64 p] w fun e w' => e = .returned (.tuple #[.string (str (D.read p)), .int .i64 0]) ∧ w = w' := by
  have h0 := (dcells hg).c0
  have h1 := (dcells hg).c1
  have HR := Lib.hid hR
  have HA := Lib.hid ha
  have hq : p * 64 < 64 * D.n := by omega
  have hn : D.n ≤ 4096 := hR.most
  have hsec : (D.sector p).length = 64 := by simp [Dk.sector, hR.len]; omega
  have hcv := run_convert_str (P := Try.prog) w 43 5 Try.underlying43 Try.underlying5 gl (p * 64) 64 (64 * D.n - p * 64) (D.sector p) hsec (fun j v hj => by
    refine rangeAt_block hl (p * 64) 64 j v ?_
    rw [← hj, Dk.sector, bcells_take, bcells_drop, Int.toNat_natCast, Nat.mul_comm]) 9 Try.underlying9
  have HE := Lib.hid (show D.read p = D.sector p by simp [Dk.read, ha, hw, Dk.latest])
  have hw2 : (0 : Int) ≤ (p : Int) * 64 := by omega
  have hw3 : (p : Int) * 64 ≤ 64 * (D.n : Int) := by omega
  have hw4 : ¬ 64 * D.n = p * 64 := by omega
  have hw5 : (64 : Int) ≤ ((64 * D.n - p * 64 : Nat) : Int) := by omega
  clear hg hl ha hR hsec hw
  go_enter Try.func16, Try.ntmps16
  go_wp2_with (go_at_call 41; refine (asked_any HR.out p).mono ?_; rintro e w' ⟨rfl, rfl⟩; rw [HA.out])
  refine wp_loop_rounds 1 ?_
  rw [rounds_succ]
  go_wp2
  go_ret2
  rw [HE.out]
  exact ⟨rfl, rfl⟩
theorem read_any {F : Nat → Prop} {w : World} {g : Nat} {D : Dk} (hR : DRep F w g D) (p : Int) (hm : D.wait.length ≤ 1000000) :
    Calls Try.prog 16 #[.pointer (some ⟨g, 0, none⟩), .int .i64 p] w fun e w' => e = .returned (.tuple #[.string (str (D.read p)), .int .i64 (D.asked p)]) ∧ w = w' := by
  by_cases ha : D.asked p = 0
  · have hp : 0 ≤ p ∧ p < D.n := by
      unfold Dk.asked at ha
      split at ha
      · cases ha
      · split at ha
        · cases ha
        · omega
    obtain ⟨q, rfl⟩ : ∃ q : Nat, p = q := ⟨p.toNat, by omega⟩
    rw [ha]
    obtain ⟨gl, wv, hg, hl, ho, -, -, -⟩ := hR.ex
    rcases wvForm ho with ⟨rfl, h0⟩ | ⟨gw, c, rfl⟩
    · exact read_nil hR q ha (by omega) (List.eq_nil_of_length_eq_zero h0) hg hl
    · exact read_go hR q hm ha (by omega) hg hl ho
  · have he : D.read p = [] := by unfold Dk.read; rw [if_pos ha]
    rw [he]
    have hq : (D.asked p != 0) = true := by simp [ha]
    have HR := Lib.hid hR
    clear hR ha he hm
    go_enter Try.func16, Try.ntmps16
    go_wp2_with (go_at_call 41; refine (asked_any HR.out p).mono ?_; rintro e w' ⟨rfl, rfl⟩)
    go_ret2
    exact ⟨rfl, rfl⟩
end Go.Proofs.Ythlngbdbmnnnaaa
