/- What is undone: the walk. -/
import Derived.Test.YthmpmpepokeedaaKc
set_option linter.unusedVariables false
set_option linter.unusedSimpArgs false
set_option pp.deepTerms true
set_option pp.maxSteps 100000
namespace Go.Proofs.Ythmpmpepokeedaa
open Go.RowKit PLifeUndone Go.Proofs.YthmpmpepokeedaaW.PrintWords
section
variable {P : Program} {ops : Array Oper} {Q : Exit → Act → World → Prop} {md : Region.Mode} {S : World → Prop} {e : Nat}
theorem wpAnyT_two {i j fuel : Nat} {listed : Array Bool} {a : Act} {w : World} (hr : Region.ready md ops listed = [i, j])
    (h1 : wpOp P ops Q i (fun a' w' => Till S e (listed.setIfInBounds i true) w' ∧ wpAnyT P md ops Q S e fuel (listed.setIfInBounds i true) a' w') a w)
    (h2 : wpOp P ops Q j (fun a' w' => Till S e (listed.setIfInBounds j true) w' ∧ wpAnyT P md ops Q S e fuel (listed.setIfInBounds j true) a' w') a w) : wpAnyT P md ops Q S e (fuel + 1) listed a w :=
  ⟨fun h0 => (by rw [hr] at h0; cases h0), fun k hk => (by
    rw [hr] at hk
    simp at hk
    rcases hk with rfl | rfl
    · exact h1
    · exact h2)⟩
end
theorem wp_store_whole {P : Program} {op : Oper} {a : Act} {w : World} {K : Act → World → Prop} {Q : Exit → Act → World → Prop} (ty : TypeId) (x y : Operand) (ho : op.op = .store ty x y) (g : Nat) (t : TypeId) (Z cs : Array Value)
    (hx : a.eval x = .pointer (some ⟨g, 0, none⟩)) (hy : a.eval y = .agg cs) (hg : w.heap[g]? = some (.cells Z t (0, 0))) (hZ : Z.size = cs.size) (hi : (P.info? ty).map (·.size) = some cs.size) (h1 : ∀ v ∈ cs.toList, v.oneCell' = true)
    (h : K (a.put op.dst undef) (w.setRow g cs)) : op.wp P a w K Q := by
  unfold Oper.wp execOp
  simp only [ho, hx, hy, Instr.storeAt, Instr.sureAddr, Sem.run_bind, Sem.run_pure, Result.andThen_ok, run_storeVar_whole g ty t Z cs hg hZ hi h1]
  exact h
theorem lf_set {w : World} {B : Nat} {cs : Array Value} {a b c d : Int} (h : w.heap[B]? = some (.cells cs 23 (0, 0))) : Lf (w.setRow B #[.int .i64 a, .int .i64 b, .int .i64 c, .int .i64 d]) B a b c d := by
  show (w.heap.modify B _)[B]? = _
  simp [Array.getElem?_modify, h]
theorem st_zero (n now v : Int) (i : Nat) : stL n now v i 0 = (1, 0, 0, v) := by rcases i with _ | _ | _ | i <;> rfl
theorem st_three (n now v : Int) (i : Nat) (hi : i < 3) : stL n now v i 3 = (1, 0, 0, v) := by rcases i with _ | _ | _ | i <;> first | rfl | omega
def rowsV (n : Int) : List Value := [.int .i64 2, .int .i64 0, .int .i64 1, .int .i64 0, .int .i64 7, .int .i64 0, .int .i64 3, .int .i64 n, .int .i64 4, .int .i64 0, .int .i64 1, .int .i64 0, .int .i64 6, .int .i64 n, .int .i64 7, .int .i64 0, .int .i64 6, .int .i64 0]
theorem rowsV_at (n : Int) (i k : Nat) (hi : i < 3) (hk : k < 3) (j : Nat) (v : Value) (hj : ([.int .i64 (evL n i k).1, .int .i64 (evL n i k).2] : List Value)[j]? = some v) : (rowsV n)[i * 6 + k * 2 + j]? = some v := by
  have ei : i = 0 ∨ i = 1 ∨ i = 2 := by omega
  have ek : k = 0 ∨ k = 1 ∨ k = 2 := by omega
  have ej : j = 0 ∨ j = 1 := by
    have := (List.getElem?_eq_some_iff.1 hj).1
    simp at this; omega
  rcases ei with rfl | rfl | rfl <;> rcases ek with rfl | rfl | rfl <;> rcases ej with rfl | rfl <;> simpa [evL, rowsV] using hj
set_option maxRecDepth 20000 in
set_option maxHeartbeats 8000000 in
theorem undone_main (n now vs : Int) (hn0 : 1 ≤ n) (hn1 : n ≤ 1000) (ht0 : 0 ≤ now) (ht1 : now ≤ 549755813888) (hv0 : 1 ≤ vs) (hv1 : vs ≤ 8) (w : World) :
    Calls Try.prog 3 #[.agg #[.int .i64 1, .int .i64 0, .int .i64 0, .int .i64 vs], .int .i64 n, .int .i64 now] w fun e w' => e = .returned (.bool true) ∧ Fr (fun _ => False) w w' := by
  have HV := Lib.hid (show 1 ≤ vs ∧ vs ≤ 8 from ⟨hv0, hv1⟩)
  clear hv0 hv1
  have g1 : ¬ n < 1 := by omega
  have g2 : ¬ 1000 < n := by omega
  have g3 : ¬ now < 0 := by omega
  have g4 : ¬ 549755813888 < now := by omega
  go_enter Try.func3, Try.ntmps3
  go_wp2_with fail
  refine (awake_true _).mono ?_
  rintro e w1 ⟨rfl, h1⟩
  have L1 : Lf w1 w.heap.size 1 0 0 vs := h1.heap (heap_alloc_new w _) id
  have HF1 := Lib.hid (((Fr.refl (fun _ => False) w).alloc _).trans h1 (fun i hi => hi.elim))
  have hbw : w.heap.size ≤ w.heap.size := Nat.le_refl _
  obtain ⟨bl, hbl⟩ : ∃ x, x = w.heap.size := ⟨_, rfl⟩
  rw [← hbl] at L1 ⊢
  have c0 := L1.c0
  have c1 := L1.c1
  have c2 := L1.c2
  have c3 := L1.c3
  have HL1 := Lib.hid L1
  clear L1 h1 hbl hbw
  go_wp2_with fail
  refine (right_calls 1 0 0 vs true (right_yes 1 0 0 vs (by omega) (by omega) (by omega) (by omega) (by omega) (by omega) (.inr rfl) HV.out.1 HV.out.2) _).mono ?_
  rintro e w2 ⟨rfl, h2⟩
  have HL2 := Lib.hid (HL1.out.fr h2 id)
  have HF2 := Lib.hid (HF1.out.trans h2 (fun i hi => hi.elim))
  clear h2 c0 c1 c2 c3 HL1 HF1
  have c0 := HL2.out.c0
  have c1 := HL2.out.c1
  have c2 := HL2.out.c2
  have c3 := HL2.out.c3
  go_wp2_with fail
  have hlit : (#[.int .i64 2, .int .i64 0, .int .i64 1, .int .i64 0, .int .i64 7, .int .i64 0, .int .i64 3, .int .i64 n, .int .i64 4, .int .i64 0, .int .i64 1, .int .i64 0, .int .i64 6, .int .i64 n, .int .i64 7, .int .i64 0, .int .i64 6, .int .i64 0] : Array Value) = (rowsV n).toArray := rfl
  rw [hlit]
  have HL3 := Lib.hid (show Lf (w2.alloc (.cells (rowsV n).toArray 29)) bl 1 0 0 vs from ((Fr.refl (fun _ => False) _).alloc _).heap HL2.out id)
  have HR3 := Lib.hid (heap_alloc_new w2 (.cells (rowsV n).toArray 29))
  have HF3 := Lib.hid (HF2.out.alloc (.cells (rowsV n).toArray 29))
  have hblr : bl < w2.heap.size := lt_of_heap HL2.out
  generalize w2.alloc (.cells (rowsV n).toArray 29) = w3 at HL3 HR3 HF3 ⊢
  obtain ⟨rb, hrb⟩ : ∃ x, x = w2.heap.size := ⟨_, rfl⟩
  rw [← hrb] at HR3 hblr ⊢
  generalize (rowsV n).toArray = G9
  clear hrb hlit c0 c1 c2 c3 HL2 HF2
  go_loopw [8] (fun v wr => ∃ i : Nat, i ≤ 3 ∧ v = .int .i64 i ∧ Lf wr bl 1 0 0 vs ∧ wr.heap[rb]? = some (.cells (rowsV n).toArray 29 (0, 0)) ∧ Fr (fun _ => False) w wr) (fun v _ => 3 - (intOf v).toNat)
  case atStart => exact ⟨0, Nat.zero_le _, rfl, HL3.out, HR3.out, HF3.out⟩
  case round =>
    obtain ⟨i, hi, rfl, hL, hR, hf⟩ := hrel
    have HL := Lib.hid hL
    have HR := Lib.hid hR
    have HF := Lib.hid hf
    clear hL hR hf HL3 HR3 HF3
    by_cases hlt : i < 3
    · have c0 := HL.out.c0
      have c1 := HL.out.c1
      have c2 := HL.out.c2
      have c3 := HL.out.c3
      have hi3 : decide ((i : Int) < 3) = true := decide_eq_true (by omega)
      go_wp2_with fail
      have HLm := Lib.hid (show Lf (wr.alloc (.cells #[.int .i64 1, .int .i64 0, .int .i64 0, .int .i64 vs] 23)) bl 1 0 0 vs from ((Fr.refl (fun _ => False) _).alloc _).heap HL.out id)
      have HRm := Lib.hid (show (wr.alloc (.cells #[.int .i64 1, .int .i64 0, .int .i64 0, .int .i64 vs] 23)).heap[rb]? = some (.cells (rowsV n).toArray 29 (0, 0)) from ((Fr.refl (fun _ => False) _).alloc _).heap HR.out id)
      have HMm := Lib.hid (show Lf (wr.alloc (.cells #[.int .i64 1, .int .i64 0, .int .i64 0, .int .i64 vs] 23)) wr.heap.size 1 0 0 vs from heap_alloc_new wr _)
      have HFm := Lib.hid (HF.out.alloc (.cells #[.int .i64 1, .int .i64 0, .int .i64 0, .int .i64 vs] 23))
      have hbml : bl < wr.heap.size := lt_of_heap HL.out
      have hbmr : rb < wr.heap.size := lt_of_heap HR.out
      have hbmw : w.heap.size ≤ wr.heap.size := HF.out.size
      generalize wr.alloc (.cells #[.int .i64 1, .int .i64 0, .int .i64 0, .int .i64 vs] 23) = w4 at HLm HRm HMm HFm ⊢
      obtain ⟨bm, hbm⟩ : ∃ x, x = wr.heap.size := ⟨_, rfl⟩
      rw [← hbm] at HMm hbml hbmr hbmw ⊢
      clear hbm c0 c1 c2 c3 HL HR HF
      go_loopw [10] (fun v wr => ∃ k : Nat, k ≤ 3 ∧ v = .int .i64 k ∧ Lf wr bl 1 0 0 vs ∧ wr.heap[rb]? = some (.cells (rowsV n).toArray 29 (0, 0)) ∧ Lf wr bm (stL n now vs i k).1 (stL n now vs i k).2.1 (stL n now vs i k).2.2.1 (stL n now vs i k).2.2.2 ∧ Fr (fun _ => False) w wr) (fun v _ => 3 - (intOf v).toNat)
      case atStart => exact ⟨0, Nat.zero_le _, rfl, HLm.out, HRm.out, by rw [st_zero]; exact HMm.out, HFm.out⟩
      case round =>
        obtain ⟨k, hk, rfl, hL, hR, hM, hf⟩ := hrel
        have HL := Lib.hid hL
        have HR := Lib.hid hR
        have HM := Lib.hid hM
        have HF := Lib.hid hf
        clear hL hR hM hf HLm HRm HMm HFm
        by_cases hlk : k < 3
        · have HST0 := Lib.hid (step_at n now vs hn0 hn1 ht0 ht1 HV.out.1 HV.out.2 i k hlt hlk)
          have hrg : ∀ j v, ([.int .i64 (evL n i k).1, .int .i64 (evL n i k).2] : List Value)[j]? = some v → wr.cell? ⟨rb, i * 6 + k * 2 + j, none⟩ = some v := fun j v hj => by
            rw [cell_of_row wr rb _ _ _ _ HR.out]
            simpa using rowsV_at n i k hlt hlk j v hj
          have HRG := Lib.hid hrg
          clear hrg
          obtain ⟨⟨s0, s1, s2, s3⟩, hs⟩ : ∃ x, x = stL n now vs i k := ⟨_, rfl⟩
          obtain ⟨⟨r0, r1, r2, r3⟩, hr⟩ : ∃ x, x = stL n now vs i (k + 1) := ⟨_, rfl⟩
          obtain ⟨⟨kd, nn⟩, hev⟩ : ∃ x, x = evL n i k := ⟨_, rfl⟩
          rw [← hs, ← hr, ← hev] at HST0
          rw [← hs] at HM
          rw [← hev] at HRG
          have HST := Lib.hid (show StepR s0 s1 s2 s3 kd nn (now + (k : Int)) r0 r1 r2 r3 0 from HST0.out)
          have HNX := Lib.hid hr.symm
          clear hs hr hev HST0
          have hw1 : IntKind.i64.wrap (now + (k : Int)) = now + (k : Int) := IntWalk.i64_in _ (by omega)
          have hk3 : (k : Int) < 3 := by omega
          have hi4 : (i : Int) < 3 := by omega
          go_wp2
          refine wp_region_till (fun W => Lf W bm s0 s1 s2 s3 ∧ W.rangeAt rb (i * 6 + k * 2) [.int .i64 kd, .int .i64 nn]) 15 (by kernel_rfl) ?_
          have HS := Lib.hid (show Lf wr.drew bm s0 s1 s2 s3 ∧ wr.drew.rangeAt rb (i * 6 + k * 2) [.int .i64 kd, .int .i64 nn] from ⟨HM.out, fun j v hj => HRG.out j v hj⟩)
          have HLd := Lib.hid (show Lf wr.drew bl 1 0 0 vs from HL.out)
          have HRd := Lib.hid (show wr.drew.heap[rb]? = some (.cells (rowsV n).toArray 29 (0, 0)) from HR.out)
          have HFd := Lib.hid (HF.out.drew)
          generalize wr.drew = wd at HS HLd HRd HFd ⊢
          clear HL HR HM HF HRG
          refine wpAnyT_take (i := 0) (n := 16) (v := .agg #[.int .i64 s0, .int .i64 s1, .int .i64 s2, .int .i64 s3]) rfl (by kernel_rfl) (fun _ _ _ h => h) HS.out (yieldsIf_load rfl 23 (.tmp 9) rfl bm 0 rfl [.int .i64 s0, .int .i64 s1, .int .i64 s2, .int .i64 s3] _ (fun W hW j v hj => by rw [Nat.zero_add, cell_of_row W bm j _ _ _ hW.1]; simpa using hj) Try.underlying23 rfl (by kernel_rfl)) ?_
          simp only [List.getElem_toArray, List.getElem_cons_succ, List.getElem_cons_zero, Act.put, List.setIfInBounds_toArray, List.set_cons_zero, List.set_cons_succ]
          refine wpAnyT_take (i := 1) (n := 16) (v := .int .i64 i) rfl (by kernel_rfl) (fun _ _ _ h => h) HS.out (yieldsIf_plain rfl (fun W hW => by clear hW; go_simp)) ?_
          simp only [List.getElem_toArray, List.getElem_cons_succ, List.getElem_cons_zero, Act.put, List.setIfInBounds_toArray, List.set_cons_zero, List.set_cons_succ]
          refine wpAnyT_take (i := 2) (n := 16) (v := .int .i64 k) rfl (by kernel_rfl) (fun _ _ _ h => h) HS.out (yieldsIf_plain rfl (fun W hW => by clear hW; go_simp)) ?_
          simp only [List.getElem_toArray, List.getElem_cons_succ, List.getElem_cons_zero, Act.put, List.setIfInBounds_toArray, List.set_cons_zero, List.set_cons_succ]
          refine wpAnyT_take (i := 3) (n := 16) (v := .pointer (some ⟨rb, i * 6, none⟩)) rfl (by kernel_rfl) (fun _ _ _ h => h) HS.out (yieldsIf_plain rfl (fun W hW => by clear hW; go_simp)) ?_
          simp only [List.getElem_toArray, List.getElem_cons_succ, List.getElem_cons_zero, Act.put, List.setIfInBounds_toArray, List.set_cons_zero, List.set_cons_succ]
          refine wpAnyT_take (i := 4) (n := 16) (v := .pointer (some ⟨rb, i * 6 + k * 2, none⟩)) rfl (by kernel_rfl) (fun _ _ _ h => h) HS.out (yieldsIf_plain rfl (fun W hW => by clear hW; go_simp)) ?_
          simp only [List.getElem_toArray, List.getElem_cons_succ, List.getElem_cons_zero, Act.put, List.setIfInBounds_toArray, List.set_cons_zero, List.set_cons_succ]
          refine wpAnyT_take (i := 5) (n := 16) (v := .agg #[.int .i64 kd, .int .i64 nn]) rfl (by kernel_rfl) (fun _ _ _ h => h) HS.out (yieldsIf_load rfl 27 (.tmp 73) rfl rb (i * 6 + k * 2) rfl [.int .i64 kd, .int .i64 nn] _ (fun W hW j v hj => hW.2 j v hj) Try.underlying27 rfl (by kernel_rfl)) ?_
          simp only [List.getElem_toArray, List.getElem_cons_succ, List.getElem_cons_zero, Act.put, List.setIfInBounds_toArray, List.set_cons_zero, List.set_cons_succ]
          refine wpAnyT_take (i := 6) (n := 16) (v := .int .i64 now) rfl (by kernel_rfl) (fun _ _ _ h => h) HS.out (yieldsIf_plain rfl (fun W hW => by clear hW; go_simp)) ?_
          simp only [List.getElem_toArray, List.getElem_cons_succ, List.getElem_cons_zero, Act.put, List.setIfInBounds_toArray, List.set_cons_zero, List.set_cons_succ]
          refine wpAnyT_take (i := 7) (n := 16) (v := .int .i64 k) rfl (by kernel_rfl) (fun _ _ _ h => h) HS.out (yieldsIf_plain rfl (fun W hW => by clear hW; go_simp)) ?_
          simp only [List.getElem_toArray, List.getElem_cons_succ, List.getElem_cons_zero, Act.put, List.setIfInBounds_toArray, List.set_cons_zero, List.set_cons_succ]
          refine wpAnyT_take (i := 8) (n := 16) (v := .int .i64 (now + k)) rfl (by kernel_rfl) (fun _ _ _ h => h) HS.out (yieldsIf_plain rfl (fun W hW => by clear hW; go_simp)) ?_
          simp only [List.getElem_toArray, List.getElem_cons_succ, List.getElem_cons_zero, Act.put, List.setIfInBounds_toArray, List.set_cons_zero, List.set_cons_succ]
          refine wpAnyT_two (i := 9) (j := 13) (by kernel_rfl) ?_ ?_
          · refine wpOp_plain rfl rfl (fun K hK => ?_)
            simp only [List.getElem_toArray, List.getElem_cons_succ, List.getElem_cons_zero, Act.put, List.setIfInBounds_toArray, List.set_cons_zero, List.set_cons_succ]
            have HK := Lib.hid hK
            clear hK
            go_wp2_with fail
            refine (step_calls 10 s0 s1 s2 s3 kd nn (now + k) r0 r1 r2 r3 0 HST.out _).mono ?_
            rintro e w5 ⟨rfl, h5⟩
            refine HK.out _ _ ⟨fun _ => ⟨HS.out.1.fr h5 id, fun j v hj => h5.cell (HS.out.2 j v hj) id⟩, ?_⟩
            clear HK K
            try simp only [List.getElem_toArray, List.getElem_cons_succ, List.getElem_cons_zero, Act.put, List.setIfInBounds_toArray, List.set_cons_zero, List.set_cons_succ]
            have HS5 := Lib.hid (show Lf w5 bm s0 s1 s2 s3 ∧ w5.rangeAt rb (i * 6 + k * 2) [.int .i64 kd, .int .i64 nn] from ⟨HS.out.1.fr h5 id, fun j v hj => h5.cell (HS.out.2 j v hj) id⟩)
            have HL5 := Lib.hid (HLd.out.fr h5 id)
            have HR5 := Lib.hid (h5.heap HRd.out id)
            have HF5 := Lib.hid (HFd.out.trans h5 (fun i hi => hi.elim))
            clear HS HLd HRd HFd h5
            have HS := HS5
            clear HS5
            refine wpAnyT_take (i := 10) (n := 16) (v := .tuple #[.agg #[.int .i64 r0, .int .i64 r1, .int .i64 r2, .int .i64 r3], .int .i64 0]) rfl (by kernel_rfl) (fun _ _ _ h => h) HS.out (yieldsIf_plain rfl (fun W hW => by clear hW; go_simp)) ?_
            simp only [List.getElem_toArray, List.getElem_cons_succ, List.getElem_cons_zero, Act.put, List.setIfInBounds_toArray, List.set_cons_zero, List.set_cons_succ]
            refine wpAnyT_take (i := 11) (n := 16) (v := .agg #[.int .i64 r0, .int .i64 r1, .int .i64 r2, .int .i64 r3]) rfl (by kernel_rfl) (fun _ _ _ h => h) HS.out (yieldsIf_plain rfl (fun W hW => by clear hW; go_simp)) ?_
            simp only [List.getElem_toArray, List.getElem_cons_succ, List.getElem_cons_zero, Act.put, List.setIfInBounds_toArray, List.set_cons_zero, List.set_cons_succ]
            refine wpAnyT_take (i := 12) (n := 16) (v := .int .i64 0) rfl (by kernel_rfl) (fun _ _ _ h => h) HS.out (yieldsIf_plain rfl (fun W hW => by clear hW; go_simp)) ?_
            simp only [List.getElem_toArray, List.getElem_cons_succ, List.getElem_cons_zero, Act.put, List.setIfInBounds_toArray, List.set_cons_zero, List.set_cons_succ]
            refine wpAnyT_one (i := 13) rfl (by kernel_rfl) (wpOp_plain rfl rfl (fun K hK => ?_))
            simp only [List.getElem_toArray, List.getElem_cons_succ, List.getElem_cons_zero, Act.put, List.setIfInBounds_toArray, List.set_cons_zero, List.set_cons_succ]
            have HK := Lib.hid hK
            clear hK
            go_wp2_with fail
            refine HK.out _ _ ⟨fun _ => ⟨((Fr.refl (fun _ => False) _).alloc _).heap HS.out.1 id, fun j v hj => ((Fr.refl (fun _ => False) _).alloc _).cell (HS.out.2 j v hj) id⟩, ?_⟩
            clear HK K
            try simp only [List.getElem_toArray, List.getElem_cons_succ, List.getElem_cons_zero, Act.put, List.setIfInBounds_toArray, List.set_cons_zero, List.set_cons_succ]
            have hfa : Fr (fun _ => False) w5 (w5.alloc (.cells #[.int .i64 r0, .int .i64 r1, .int .i64 r2, .int .i64 r3] 23)) := (Fr.refl _ _).alloc _
            refine wpAnyT_one (i := 14) rfl (by kernel_rfl) (wpOp_plain rfl rfl (fun K hK => ?_))
            simp only [List.getElem_toArray, List.getElem_cons_succ, List.getElem_cons_zero, Act.put, List.setIfInBounds_toArray, List.set_cons_zero, List.set_cons_succ]
            have HK := Lib.hid hK
            clear hK
            go_wp2_with fail
            refine HK.out _ _ ⟨fun _ => ⟨hfa.heap HS.out.1 id, fun j v hj => hfa.cell (HS.out.2 j v hj) id⟩, ?_⟩
            clear HK K
            try simp only [List.getElem_toArray, List.getElem_cons_succ, List.getElem_cons_zero, Act.put, List.setIfInBounds_toArray, List.set_cons_zero, List.set_cons_succ]
            refine wpAnyT_of_any trivial [15] _ _ _ _ (by kernel_rfl) (by simp) (.inr rfl) ?_
            simp only [List.filterMap_cons, List.filterMap_nil, List.getElem?_toArray, List.getElem?_cons_zero, List.getElem?_cons_succ]
            have HMb := Lib.hid (show (w5.alloc (.cells #[.int .i64 r0, .int .i64 r1, .int .i64 r2, .int .i64 r3] 23)).heap[bm]? = some (.cells #[.int .i64 s0, .int .i64 s1, .int .i64 s2, .int .i64 s3] 23 (0, 0)) from hfa.heap HS.out.1 id)
            have HL6 := Lib.hid (show Lf ((w5.alloc (.cells #[.int .i64 r0, .int .i64 r1, .int .i64 r2, .int .i64 r3] 23)).setRow bm #[.int .i64 r0, .int .i64 r1, .int .i64 r2, .int .i64 r3]) bl 1 0 0 vs from (setRow_other _ bm bl _ (by omega)).trans (hfa.heap HL5.out id))
            have HR6 := Lib.hid (show ((w5.alloc (.cells #[.int .i64 r0, .int .i64 r1, .int .i64 r2, .int .i64 r3] 23)).setRow bm #[.int .i64 r0, .int .i64 r1, .int .i64 r2, .int .i64 r3]).heap[rb]? = some (.cells (rowsV n).toArray 29 (0, 0)) from (setRow_other _ bm rb _ (by omega)).trans (hfa.heap HR5.out id))
            have HM6 := Lib.hid (show Lf ((w5.alloc (.cells #[.int .i64 r0, .int .i64 r1, .int .i64 r2, .int .i64 r3] 23)).setRow bm #[.int .i64 r0, .int .i64 r1, .int .i64 r2, .int .i64 r3]) bm r0 r1 r2 r3 from lf_set HMb.out)
            have HF6 := Lib.hid ((HF5.out.trans hfa (fun i hi => hi.elim)).setRow bm #[.int .i64 r0, .int .i64 r1, .int .i64 r2, .int .i64 r3] (.inr hbmw))
            clear hfa HL5 HR5 HF5
            go_wp2_with (with_reducible refine wpList_store_whole (op := ⟨none, .store 23 _ _, _, _, _, _⟩) rfl 23 _ _ rfl bm 23 #[.int .i64 s0, .int .i64 s1, .int .i64 s2, .int .i64 s3] #[.int .i64 r0, .int .i64 r1, .int .i64 r2, .int .i64 r3] rfl rfl HMb.out rfl (by kernel_rfl) (by simp [Value.oneCell']) ?_)
            go_roundw
            case rel => exact ⟨k + 1, by omega, by go_num, HL6.out, HR6.out, by rw [HNX.out]; exact HM6.out, HF6.out⟩
            case measure => simp [intOf]; omega
          · refine wpOp_plain rfl rfl (fun K hK => ?_)
            simp only [List.getElem_toArray, List.getElem_cons_succ, List.getElem_cons_zero, Act.put, List.setIfInBounds_toArray, List.set_cons_zero, List.set_cons_succ]
            have HK := Lib.hid hK
            clear hK
            go_wp2_with fail
            have hfa : Fr (fun _ => False) wd (wd.alloc (.cells #[.int .i64 0, .int .i64 0, .int .i64 0, .int .i64 0] 23)) := (Fr.refl _ _).alloc _
            have HSa := Lib.hid (show Lf (wd.alloc (.cells #[.int .i64 0, .int .i64 0, .int .i64 0, .int .i64 0] 23)) bm s0 s1 s2 s3 ∧ (wd.alloc (.cells #[.int .i64 0, .int .i64 0, .int .i64 0, .int .i64 0] 23)).rangeAt rb (i * 6 + k * 2) [.int .i64 kd, .int .i64 nn] from ⟨HS.out.1.fr hfa id, fun j v hj => hfa.cell (HS.out.2 j v hj) id⟩)
            refine HK.out _ _ ⟨fun _ => HSa.out, ?_⟩
            clear HK K
            try simp only [List.getElem_toArray, List.getElem_cons_succ, List.getElem_cons_zero, Act.put, List.setIfInBounds_toArray, List.set_cons_zero, List.set_cons_succ]
            have HLa := Lib.hid (HLd.out.fr hfa id)
            have HRa := Lib.hid (hfa.heap HRd.out id)
            have HFa := Lib.hid (HFd.out.trans hfa (fun i hi => hi.elim))
            have HNa := Lib.hid (heap_alloc_new wd (.cells #[.int .i64 0, .int .i64 0, .int .i64 0, .int .i64 0] 23))
            have hNb : bm < wd.heap.size := lt_of_heap HS.out.1
            have hNr : rb < wd.heap.size := lt_of_heap HRd.out
            have hNl : bl < wd.heap.size := lt_of_heap HLd.out
            have hNw : w.heap.size ≤ wd.heap.size := HFd.out.size
            obtain ⟨N, hN⟩ : ∃ N, N = wd.heap.size := ⟨_, rfl⟩
            generalize wd.alloc (.cells #[.int .i64 0, .int .i64 0, .int .i64 0, .int .i64 0] 23) = wa at HSa HLa HRa HFa HNa hfa ⊢
            rw [← hN] at HNa hNb hNr hNl hNw ⊢
            clear hN HS HLd HRd HFd hfa
            refine wpAnyT_one (i := 9) rfl (by kernel_rfl) (wpOp_plain rfl rfl (fun K hK => ?_))
            simp only [List.getElem_toArray, List.getElem_cons_succ, List.getElem_cons_zero, Act.put, List.setIfInBounds_toArray, List.set_cons_zero, List.set_cons_succ]
            have HK := Lib.hid hK
            clear hK
            go_wp2_with fail
            refine (step_calls 10 s0 s1 s2 s3 kd nn (now + k) r0 r1 r2 r3 0 HST.out _).mono ?_
            rintro e w5 ⟨rfl, h5⟩
            refine HK.out _ _ ⟨fun _ => ⟨HSa.out.1.fr h5 id, fun j v hj => h5.cell (HSa.out.2 j v hj) id⟩, ?_⟩
            clear HK K
            try simp only [List.getElem_toArray, List.getElem_cons_succ, List.getElem_cons_zero, Act.put, List.setIfInBounds_toArray, List.set_cons_zero, List.set_cons_succ]
            have HS := Lib.hid (show Lf w5 bm s0 s1 s2 s3 ∧ w5.rangeAt rb (i * 6 + k * 2) [.int .i64 kd, .int .i64 nn] from ⟨HSa.out.1.fr h5 id, fun j v hj => h5.cell (HSa.out.2 j v hj) id⟩)
            have HL5 := Lib.hid (HLa.out.fr h5 id)
            have HR5 := Lib.hid (h5.heap HRa.out id)
            have HF5 := Lib.hid (HFa.out.trans h5 (fun i hi => hi.elim))
            have HN5 := Lib.hid (show w5.heap[N]? = some (.cells #[.int .i64 0, .int .i64 0, .int .i64 0, .int .i64 0] 23 (0, 0)) from h5.heap HNa.out id)
            clear HSa HLa HRa HFa HNa h5
            refine wpAnyT_take (i := 10) (n := 16) (v := .tuple #[.agg #[.int .i64 r0, .int .i64 r1, .int .i64 r2, .int .i64 r3], .int .i64 0]) rfl (by kernel_rfl) (fun _ _ _ h => h) HS.out (yieldsIf_plain rfl (fun W hW => by clear hW; go_simp)) ?_
            simp only [List.getElem_toArray, List.getElem_cons_succ, List.getElem_cons_zero, Act.put, List.setIfInBounds_toArray, List.set_cons_zero, List.set_cons_succ]
            refine wpAnyT_take (i := 11) (n := 16) (v := .agg #[.int .i64 r0, .int .i64 r1, .int .i64 r2, .int .i64 r3]) rfl (by kernel_rfl) (fun _ _ _ h => h) HS.out (yieldsIf_plain rfl (fun W hW => by clear hW; go_simp)) ?_
            simp only [List.getElem_toArray, List.getElem_cons_succ, List.getElem_cons_zero, Act.put, List.setIfInBounds_toArray, List.set_cons_zero, List.set_cons_succ]
            refine wpAnyT_take (i := 12) (n := 16) (v := .int .i64 0) rfl (by kernel_rfl) (fun _ _ _ h => h) HS.out (yieldsIf_plain rfl (fun W hW => by clear hW; go_simp)) ?_
            simp only [List.getElem_toArray, List.getElem_cons_succ, List.getElem_cons_zero, Act.put, List.setIfInBounds_toArray, List.set_cons_zero, List.set_cons_succ]
            have hfa : Fr (fun i => i = N) w5 (w5.setRow N #[.int .i64 r0, .int .i64 r1, .int .i64 r2, .int .i64 r3]) := (Fr.refl _ _).setRow _ _ (.inl rfl)
            refine wpAnyT_one (i := 14) rfl (by kernel_rfl) (wpOp_plain rfl rfl (fun K hK => ?_))
            simp only [List.getElem_toArray, List.getElem_cons_succ, List.getElem_cons_zero, Act.put, List.setIfInBounds_toArray, List.set_cons_zero, List.set_cons_succ]
            have HK := Lib.hid hK
            clear hK
            refine wp_store_whole 23 _ _ rfl N 23 #[.int .i64 0, .int .i64 0, .int .i64 0, .int .i64 0] #[.int .i64 r0, .int .i64 r1, .int .i64 r2, .int .i64 r3] rfl rfl HN5.out rfl (by kernel_rfl) (by simp [Value.oneCell']) ?_
            refine HK.out _ _ ⟨fun _ => ⟨hfa.heap HS.out.1 (show ¬ bm = N by omega), fun j v hj => hfa.cell (HS.out.2 j v hj) (show ¬ rb = N by omega)⟩, ?_⟩
            clear HK K
            try simp only [List.getElem_toArray, List.getElem_cons_succ, List.getElem_cons_zero, Act.put, List.setIfInBounds_toArray, List.set_cons_zero, List.set_cons_succ]
            refine wpAnyT_of_any trivial [15] _ _ _ _ (by kernel_rfl) (by simp) (.inr rfl) ?_
            simp only [List.filterMap_cons, List.filterMap_nil, List.getElem?_toArray, List.getElem?_cons_zero, List.getElem?_cons_succ]
            clear hfa
            have hl6 : Lf (w5.setRow N #[.int .i64 r0, .int .i64 r1, .int .i64 r2, .int .i64 r3]) N r0 r1 r2 r3 := lf_set HN5.out
            have n0 := hl6.c0
            have n1 := hl6.c1
            have n2 := hl6.c2
            have n3 := hl6.c3
            have HMb := Lib.hid (show (w5.setRow N #[.int .i64 r0, .int .i64 r1, .int .i64 r2, .int .i64 r3]).heap[bm]? = some (.cells #[.int .i64 s0, .int .i64 s1, .int .i64 s2, .int .i64 s3] 23 (0, 0)) from (setRow_other _ N bm _ (by omega)).trans HS.out.1)
            have HL6 := Lib.hid (show Lf ((w5.setRow N #[.int .i64 r0, .int .i64 r1, .int .i64 r2, .int .i64 r3]).setRow bm #[.int .i64 r0, .int .i64 r1, .int .i64 r2, .int .i64 r3]) bl 1 0 0 vs from (setRow_other _ bm bl _ (by omega)).trans ((setRow_other _ N bl _ (by omega)).trans HL5.out))
            have HR6 := Lib.hid (show ((w5.setRow N #[.int .i64 r0, .int .i64 r1, .int .i64 r2, .int .i64 r3]).setRow bm #[.int .i64 r0, .int .i64 r1, .int .i64 r2, .int .i64 r3]).heap[rb]? = some (.cells (rowsV n).toArray 29 (0, 0)) from (setRow_other _ bm rb _ (by omega)).trans ((setRow_other _ N rb _ (by omega)).trans HR5.out))
            have HM6 := Lib.hid (show Lf ((w5.setRow N #[.int .i64 r0, .int .i64 r1, .int .i64 r2, .int .i64 r3]).setRow bm #[.int .i64 r0, .int .i64 r1, .int .i64 r2, .int .i64 r3]) bm r0 r1 r2 r3 from lf_set HMb.out)
            have HF6 := Lib.hid ((HF5.out.setRow N #[.int .i64 r0, .int .i64 r1, .int .i64 r2, .int .i64 r3] (.inr hNw)).setRow bm #[.int .i64 r0, .int .i64 r1, .int .i64 r2, .int .i64 r3] (.inr hbmw))
            clear hl6 HL5 HR5 HF5
            go_wp2_with (with_reducible refine wpList_store_whole (op := ⟨none, .store 23 _ _, _, _, _, _⟩) rfl 23 _ _ rfl bm 23 #[.int .i64 s0, .int .i64 s1, .int .i64 s2, .int .i64 s3] #[.int .i64 r0, .int .i64 r1, .int .i64 r2, .int .i64 r3] rfl rfl HMb.out rfl (by kernel_rfl) (by simp [Value.oneCell']) ?_)
            go_roundw
            case rel => exact ⟨k + 1, by omega, by go_num, HL6.out, HR6.out, by rw [HNX.out]; exact HM6.out, HF6.out⟩
            case measure => simp [intOf]; omega
        · have hk3 : k = 3 := by omega
          rw [hk3, st_three _ _ _ _ hlt] at HM
          clear hk3
          have m0 := HM.out.c0
          have m1 := HM.out.c1
          have m2 := HM.out.c2
          have m3 := HM.out.c3
          have c0 := HL.out.c0
          have c1 := HL.out.c1
          have c2 := HL.out.c2
          have c3 := HL.out.c3
          go_wp2
          go_roundw
          case rel => exact ⟨i + 1, by omega, by go_num, HL.out, HR.out, HF.out⟩
          case measure => simp [intOf]; omega
    · go_wp2
      go_ret
      exact ⟨rfl, HF.out⟩
end Go.Proofs.Ythmpmpepokeedaa
