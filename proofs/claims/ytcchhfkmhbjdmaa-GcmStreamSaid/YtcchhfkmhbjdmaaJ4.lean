/- The digest's press: the second loop. -/
import Derived.Test.YtcchhfkmhbjdmaaJ3
set_option linter.unusedVariables false
set_option linter.unusedSimpArgs false
set_option pp.deepTerms true
set_option pp.maxSteps 100000
namespace Go.Proofs.Ytcchhfkmhbjdmaa
open Go.RowKit
set_option maxRecDepth 100000 in
set_option maxHeartbeats 16000000 in
theorem press_l2 (u5 u23 u24 u25 u26 u27 u28 u29 u30 u31 u32 u33 u34 u35 u36 u37 u38 u39 u40 u41 u42 u43 u44 u45 u46 u47 u48 u49 u50 u51 u52 u53 u54 u55 u56 : Value) (T B : Nat) (b : List UInt8) (w : World) (hB : w.heap[B]? = some (.cells (wcells (sws b 16 ++ List.replicate 48 0) ++ []).toArray 115 (0, 0))) (Q0 : Exit → Act → World → Prop)
    (hexit : ∀ (u5 u7 u8 u23 u24 u25 u26 u27 u28 u29 u30 u31 u32 u33 u34 u35 u36 u37 u38 u39 u40 u41 u42 u43 u44 u45 u46 u47 u48 u49 u50 u51 u52 u53 u54 u55 u56 u57 u58 u59 u60 u61 u62 u63 u64 u65 u66 u67 u68 u69 u70 u71 u72 u73 u74 u75 u76 u77 u78 u79 u80 u81 u82 u83 u84 u85 u86 u87 u88 u89 u90 u91 u92 u93 u94 u95 u96 u97 : Value) (w' : World), w'.heap[B]? = some (.cells (wcells (sws b 64) ++ []).toArray 115 (0, 0)) → Fr (fun i => i = B) w w' → Q0 (.exit 2) ⟨(.pointer (some ⟨T, 0, none⟩) :: .string (str b) :: undef :: undef :: .pointer (some ⟨B, 0, none⟩) :: u5 :: .int .i64 (64) :: u7 :: u8 :: undef :: undef :: undef :: undef :: undef :: undef :: undef :: undef :: undef :: undef :: undef :: undef :: undef :: .int .i64 (16) :: u23 :: u24 :: u25 :: u26 :: u27 :: u28 :: u29 :: u30 :: u31 :: u32 :: u33 :: u34 :: u35 :: u36 :: u37 :: u38 :: u39 :: u40 :: u41 :: u42 :: u43 :: u44 :: u45 :: u46 :: u47 :: u48 :: u49 :: u50 :: u51 :: u52 :: u53 :: u54 :: u55 :: u56 :: u57 :: u58 :: u59 :: u60 :: u61 :: u62 :: u63 :: u64 :: u65 :: u66 :: u67 :: u68 :: u69 :: u70 :: u71 :: u72 :: u73 :: u74 :: u75 :: u76 :: u77 :: u78 :: u79 :: u80 :: u81 :: u82 :: u83 :: u84 :: u85 :: u86 :: u87 :: u88 :: u89 :: u90 :: u91 :: u92 :: u93 :: u94 :: u95 :: u96 :: u97 :: undef :: undef :: undef :: undef :: undef :: undef :: undef :: undef :: undef :: undef :: undef :: undef :: undef :: undef :: undef :: undef :: undef :: undef :: undef :: undef :: undef :: undef :: undef :: undef :: undef :: undef :: undef :: undef :: undef :: undef :: undef :: undef :: undef :: undef :: undef :: undef :: undef :: undef :: undef :: undef :: undef :: undef :: undef :: undef :: undef :: undef :: undef :: undef :: undef :: undef :: undef :: undef :: undef :: undef :: undef :: undef :: undef :: undef :: undef :: undef :: undef :: undef :: undef :: undef :: undef :: undef :: undef :: undef :: undef :: undef :: undef :: undef :: undef :: undef :: undef :: undef :: undef :: undef :: undef :: undef :: undef :: undef :: undef :: undef :: undef :: undef :: undef :: undef :: undef :: undef :: undef :: undef :: undef :: undef :: undef :: undef :: undef :: undef :: undef :: undef :: undef :: undef :: undef :: undef :: undef :: undef :: undef :: undef :: undef :: undef :: undef :: undef :: undef :: undef :: undef :: undef :: undef :: undef :: undef :: undef :: undef :: undef :: undef :: undef :: undef :: undef :: undef :: undef :: undef :: undef :: []).toArray, []⟩ w') :
    Code.wp Try.prog (Code.loop (pb 1)) Q0 ⟨(.pointer (some ⟨T, 0, none⟩) :: .string (str b) :: undef :: undef :: .pointer (some ⟨B, 0, none⟩) :: u5 :: .int .i64 (16) :: undef :: undef :: undef :: undef :: undef :: undef :: undef :: undef :: undef :: undef :: undef :: undef :: undef :: undef :: undef :: .int .i64 (16) :: u23 :: u24 :: u25 :: u26 :: u27 :: u28 :: u29 :: u30 :: u31 :: u32 :: u33 :: u34 :: u35 :: u36 :: u37 :: u38 :: u39 :: u40 :: u41 :: u42 :: u43 :: u44 :: u45 :: u46 :: u47 :: u48 :: u49 :: u50 :: u51 :: u52 :: u53 :: u54 :: u55 :: u56 :: undef :: undef :: undef :: undef :: undef :: undef :: undef :: undef :: undef :: undef :: undef :: undef :: undef :: undef :: undef :: undef :: undef :: undef :: undef :: undef :: undef :: undef :: undef :: undef :: undef :: undef :: undef :: undef :: undef :: undef :: undef :: undef :: undef :: undef :: undef :: undef :: undef :: undef :: undef :: undef :: undef :: undef :: undef :: undef :: undef :: undef :: undef :: undef :: undef :: undef :: undef :: undef :: undef :: undef :: undef :: undef :: undef :: undef :: undef :: undef :: undef :: undef :: undef :: undef :: undef :: undef :: undef :: undef :: undef :: undef :: undef :: undef :: undef :: undef :: undef :: undef :: undef :: undef :: undef :: undef :: undef :: undef :: undef :: undef :: undef :: undef :: undef :: undef :: undef :: undef :: undef :: undef :: undef :: undef :: undef :: undef :: undef :: undef :: undef :: undef :: undef :: undef :: undef :: undef :: undef :: undef :: undef :: undef :: undef :: undef :: undef :: undef :: undef :: undef :: undef :: undef :: undef :: undef :: undef :: undef :: undef :: undef :: undef :: undef :: undef :: undef :: undef :: undef :: undef :: undef :: undef :: undef :: undef :: undef :: undef :: undef :: undef :: undef :: undef :: undef :: undef :: undef :: undef :: undef :: undef :: undef :: undef :: undef :: undef :: undef :: undef :: undef :: undef :: undef :: undef :: undef :: undef :: undef :: undef :: undef :: undef :: undef :: undef :: undef :: undef :: undef :: undef :: undef :: undef :: undef :: undef :: []).toArray, []⟩ w := by
  have HB0 := Lib.hid hB
  have HX := Lib.hid hexit
  clear hB hexit
  conv => arg 2; arg 1; whnf
  go_loopw [6] (fun v wr => ∃ i : Nat, 16 ≤ i ∧ i ≤ 64 ∧ v = .int .i64 i ∧ wr.heap[B]? = some (.cells (wcells (sws b i ++ List.replicate (64 - i) 0) ++ []).toArray 115 (0, 0)) ∧ Fr (fun i => i = B) w wr) (fun v _ => 64 - (intOf v).toNat)
  case atStart => exact ⟨16, Nat.le_refl _, by omega, rfl, HB0.out, Fr.refl _ _⟩
  case round =>
    obtain ⟨i, hi16, hi, rfl, hBl, hf⟩ := hrel
    have HB := Lib.hid hBl
    have HF := Lib.hid hf
    clear hBl hf HB0
    by_cases hlt : i < 64
    · have hx64 : (i : Int) < 64 := by omega
      obtain ⟨m15, hm15⟩ : ∃ n, n = i - 15 := ⟨_, rfl⟩
      obtain ⟨x15, hx15⟩ : ∃ x, x = (sws b i).getD (i - 15) 0 := ⟨_, rfl⟩
      have hw15 : IntKind.i64.wrap ((i : Int) - 15) = (m15 : Int) := by rw [IntWalk.i64_in _ (by omega)]; omega
      have l15 : (m15 : Int) < 64 := by omega
      have c15 : wr.cell? ⟨B, m15, none⟩ = some (.int .u32 (x15.toNat : Int)) := wcells_cell HB.out m15 _ (by rw [hx15, hm15]; exact sws_old b i _ (by omega) (by omega))
      have d15 : wr.drew.cell? ⟨B, m15, none⟩ = some (.int .u32 (x15.toNat : Int)) := c15
      have g15 : wr.drew.drew.cell? ⟨B, m15, none⟩ = some (.int .u32 (x15.toNat : Int)) := c15
      obtain ⟨m2, hm2⟩ : ∃ n, n = i - 2 := ⟨_, rfl⟩
      obtain ⟨x2, hx2⟩ : ∃ x, x = (sws b i).getD (i - 2) 0 := ⟨_, rfl⟩
      have hw2 : IntKind.i64.wrap ((i : Int) - 2) = (m2 : Int) := by rw [IntWalk.i64_in _ (by omega)]; omega
      have l2 : (m2 : Int) < 64 := by omega
      have c2 : wr.cell? ⟨B, m2, none⟩ = some (.int .u32 (x2.toNat : Int)) := wcells_cell HB.out m2 _ (by rw [hx2, hm2]; exact sws_old b i _ (by omega) (by omega))
      have d2 : wr.drew.cell? ⟨B, m2, none⟩ = some (.int .u32 (x2.toNat : Int)) := c2
      have g2 : wr.drew.drew.cell? ⟨B, m2, none⟩ = some (.int .u32 (x2.toNat : Int)) := c2
      obtain ⟨m16, hm16⟩ : ∃ n, n = i - 16 := ⟨_, rfl⟩
      obtain ⟨x16, hx16⟩ : ∃ x, x = (sws b i).getD (i - 16) 0 := ⟨_, rfl⟩
      have hw16 : IntKind.i64.wrap ((i : Int) - 16) = (m16 : Int) := by rw [IntWalk.i64_in _ (by omega)]; omega
      have l16 : (m16 : Int) < 64 := by omega
      have c16 : wr.cell? ⟨B, m16, none⟩ = some (.int .u32 (x16.toNat : Int)) := wcells_cell HB.out m16 _ (by rw [hx16, hm16]; exact sws_old b i _ (by omega) (by omega))
      have d16 : wr.drew.cell? ⟨B, m16, none⟩ = some (.int .u32 (x16.toNat : Int)) := c16
      have g16 : wr.drew.drew.cell? ⟨B, m16, none⟩ = some (.int .u32 (x16.toNat : Int)) := c16
      obtain ⟨m7, hm7⟩ : ∃ n, n = i - 7 := ⟨_, rfl⟩
      obtain ⟨x7, hx7⟩ : ∃ x, x = (sws b i).getD (i - 7) 0 := ⟨_, rfl⟩
      have hw7 : IntKind.i64.wrap ((i : Int) - 7) = (m7 : Int) := by rw [IntWalk.i64_in _ (by omega)]; omega
      have l7 : (m7 : Int) < 64 := by omega
      have c7 : wr.cell? ⟨B, m7, none⟩ = some (.int .u32 (x7.toNat : Int)) := wcells_cell HB.out m7 _ (by rw [hx7, hm7]; exact sws_old b i _ (by omega) (by omega))
      have d7 : wr.drew.cell? ⟨B, m7, none⟩ = some (.int .u32 (x7.toNat : Int)) := c7
      have g7 : wr.drew.drew.cell? ⟨B, m7, none⟩ = some (.int .u32 (x7.toNat : Int)) := c7
      obtain ⟨s3, hs3⟩ : ∃ z, z = x15 >>> 3 := ⟨_, rfl⟩
      obtain ⟨s10, hs10⟩ : ∃ z, z = x2 >>> 10 := ⟨_, rfl⟩
      have es3 : (x15.toNat : Int) / 8 = (s3.toNat : Int) := by rw [hs3]; exact shr_u32 x15 3 3 rfl (by omega)
      have es10 : (x2.toNat : Int) / 1024 = (s10.toNat : Int) := by rw [hs10]; exact shr_u32 x2 10 10 rfl (by omega)
      obtain ⟨r7, hr7⟩ : ∃ z, z = rr x15 7 := ⟨_, rfl⟩
      have HR7 := Lib.hid (show ∀ w, Calls Try.prog 108 #[.int .u32 (x15.toNat : Int), .int .i64 (-7)] w fun e w' => e = .returned (.int .u32 (r7.toNat : Int)) ∧ w' = w from fun w => by rw [hr7]; exact (rotr7_calls x15 w).mono fun e w' h => ⟨h.1, h.2.symm⟩)
      obtain ⟨r18, hr18⟩ : ∃ z, z = rr x15 18 := ⟨_, rfl⟩
      have HR18 := Lib.hid (show ∀ w, Calls Try.prog 108 #[.int .u32 (x15.toNat : Int), .int .i64 (-18)] w fun e w' => e = .returned (.int .u32 (r18.toNat : Int)) ∧ w' = w from fun w => by rw [hr18]; exact (rotr18_calls x15 w).mono fun e w' h => ⟨h.1, h.2.symm⟩)
      obtain ⟨r17, hr17⟩ : ∃ z, z = rr x2 17 := ⟨_, rfl⟩
      have HR17 := Lib.hid (show ∀ w, Calls Try.prog 108 #[.int .u32 (x2.toNat : Int), .int .i64 (-17)] w fun e w' => e = .returned (.int .u32 (r17.toNat : Int)) ∧ w' = w from fun w => by rw [hr17]; exact (rotr17_calls x2 w).mono fun e w' h => ⟨h.1, h.2.symm⟩)
      obtain ⟨r19, hr19⟩ : ∃ z, z = rr x2 19 := ⟨_, rfl⟩
      have HR19 := Lib.hid (show ∀ w, Calls Try.prog 108 #[.int .u32 (x2.toNat : Int), .int .i64 (-19)] w fun e w' => e = .returned (.int .u32 (r19.toNat : Int)) ∧ w' = w from fun w => by rw [hr19]; exact (rotr19_calls x2 w).mono fun e w' h => ⟨h.1, h.2.symm⟩)
      obtain ⟨p1, hp1⟩ : ∃ z, z = r7 ^^^ r18 := ⟨_, rfl⟩
      have ep1 : bits .xor .u32 (r7.toNat : Int) (r18.toNat : Int) = (p1.toNat : Int) := by rw [hp1]; exact xor_u32 _ _
      obtain ⟨p2, hp2⟩ : ∃ z, z = p1 ^^^ s3 := ⟨_, rfl⟩
      have ep2 : bits .xor .u32 (p1.toNat : Int) (s3.toNat : Int) = (p2.toNat : Int) := by rw [hp2]; exact xor_u32 _ _
      obtain ⟨t1, ht1⟩ : ∃ z, z = x16 + p2 := ⟨_, rfl⟩
      have et1 : IntKind.u32.wrap ((x16.toNat : Int) + (p2.toNat : Int)) = (t1.toNat : Int) := by rw [ht1]; exact addw_u32 _ _
      have ft1 : ((x16.toNat : Int) + (p2.toNat : Int)) % 4294967296 = (t1.toNat : Int) := by rw [ht1]; exact add_u32 _ _
      obtain ⟨t2, ht2⟩ : ∃ z, z = t1 + x7 := ⟨_, rfl⟩
      have et2 : IntKind.u32.wrap ((t1.toNat : Int) + (x7.toNat : Int)) = (t2.toNat : Int) := by rw [ht2]; exact addw_u32 _ _
      have ft2 : ((t1.toNat : Int) + (x7.toNat : Int)) % 4294967296 = (t2.toNat : Int) := by rw [ht2]; exact add_u32 _ _
      obtain ⟨q1, hq1⟩ : ∃ z, z = r17 ^^^ r19 := ⟨_, rfl⟩
      have eq1 : bits .xor .u32 (r17.toNat : Int) (r19.toNat : Int) = (q1.toNat : Int) := by rw [hq1]; exact xor_u32 _ _
      obtain ⟨q2, hq2⟩ : ∃ z, z = q1 ^^^ s10 := ⟨_, rfl⟩
      have eq2 : bits .xor .u32 (q1.toNat : Int) (s10.toNat : Int) = (q2.toNat : Int) := by rw [hq2]; exact xor_u32 _ _
      obtain ⟨z3, hz3⟩ : ∃ z, z = t2 + q2 := ⟨_, rfl⟩
      have ez3 : IntKind.u32.wrap ((t2.toNat : Int) + (q2.toNat : Int)) = (z3.toNat : Int) := by rw [hz3]; exact addw_u32 _ _
      have fz3 : ((t2.toNat : Int) + (q2.toNat : Int)) % 4294967296 = (z3.toNat : Int) := by rw [hz3]; exact add_u32 _ _
      have hv : nextW b (sws b i) i = z3 := by
        unfold nextW sg0 sg1
        rw [if_neg (by omega), ← hx16, ← hx15, ← hx7, ← hx2, hz3, ht2, ht1, hq2, hq1, hp2, hp1, hr7, hr18, hr17, hr19, hs3, hs10]
      have c9 : wr.drew.drew.cell? ⟨B, i, none⟩ = some (.int .u32 (((sws b i ++ List.replicate (64 - i) 0).getD i 0).toNat : Int)) := wcells_cell (w := wr.drew.drew) HB.out i _ (sws_at b i (by omega))
      have hz' : wr.drew.drew.frozen? ⟨B, i, none⟩ = false := frozen_of_row wr _ _ _ _ HB.out
      have HB1 := Lib.hid (show (wr.drew.drew.setCell ⟨B, i, none⟩ (.int .u32 (z3.toNat : Int))).heap[B]? = some (.cells (wcells (sws b (i + 1) ++ List.replicate (64 - (i + 1)) 0) ++ []).toArray 115 (0, 0)) by
        have h := wcells_set (w := wr.drew.drew) HB.out i (by rw [sws_len b i (by omega)]; omega) z3
        rw [← hv, sws_step b i (by omega), hv] at h
        exact h)
      have HF1 := Lib.hid (HF.out.drew.drew.setCell ⟨B, i, none⟩ (.int .u32 (z3.toNat : Int)) (.inl rfl))
      have bbs3 := s3.toNat_lt
      have bbs10 := s10.toNat_lt
      have bbr7 := r7.toNat_lt
      have bbr18 := r18.toNat_lt
      have bbr17 := r17.toNat_lt
      have bbr19 := r19.toNat_lt
      have bbp1 := p1.toNat_lt
      have bbp2 := p2.toNat_lt
      have bbt1 := t1.toNat_lt
      have bbt2 := t2.toNat_lt
      have bbq1 := q1.toNat_lt
      have bbq2 := q2.toNat_lt
      have bbz3 := z3.toNat_lt
      have bbx15 := x15.toNat_lt
      have bbx2 := x2.toNat_lt
      have bbx16 := x16.toNat_lt
      have bbx7 := x7.toNat_lt
      clear hs3 hs10 hr7 hr18 hr17 hr19 hp1 hp2 ht1 ht2 hq1 hq2 hz3 hx15 hx2 hx16 hx7 hm15 hm2 hm16 hm7 hv
      go_wp2
      refine wp_region_still_tail 9 (by kernel_rfl) (by kernel_rfl) ?_
      simp only [List.take_succ_cons, List.take_zero, List.drop_succ_cons, List.drop_zero]
      change wpStill _ _ wr.drew (fun a' => wpList _ _ _ _ a' wr.drew) _ _
      repeat still_step
      refine wpStill_nil ?_
      go_wp2
      refine wp_region_still_tail 29 (by kernel_rfl) (by kernel_rfl) ?_
      simp only [List.take_succ_cons, List.take_zero, List.drop_succ_cons, List.drop_zero]
      change wpStill _ _ wr.drew.drew (fun a' => wpList _ _ _ _ a' wr.drew.drew) _ _
      repeat still_step
      still_call (HR7.out _)
      repeat still_step
      still_call (HR18.out _)
      repeat still_step
      still_call (HR17.out _)
      repeat still_step
      still_call (HR19.out _)
      repeat still_step
      refine wpStill_nil ?_
      go_wp2
      go_roundw
      case rel => exact ⟨i + 1, by omega, by omega, by go_num, HB1.out, HF1.out⟩
      case measure => simp [intOf]; omega
    · have h64 : i = 64 := by omega
      subst h64
      have HBz := Lib.hid (show wr.heap[B]? = some (.cells (wcells (sws b 64) ++ []).toArray 115 (0, 0)) by have := HB.out; simpa using this)
      go_wp2
      exact HX.out _ _ _ _ _ _ _ _ _ _ _ _ _ _ _ _ _ _ _ _ _ _ _ _ _ _ _ _ _ _ _ _ _ _ _ _ _ _ _ _ _ _ _ _ _ _ _ _ _ _ _ _ _ _ _ _ _ _ _ _ _ _ _ _ _ _ _ _ _ _ _ _ _ _ _ _ _ _ _ HBz.out HF.out
end Go.Proofs.Ytcchhfkmhbjdmaa
