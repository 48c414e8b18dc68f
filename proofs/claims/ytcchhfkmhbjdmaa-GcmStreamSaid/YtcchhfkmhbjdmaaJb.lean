/- The digest: Sum. -/
import Derived.Test.YtcchhfkmhbjdmaaJa
set_option linter.unusedVariables false
set_option linter.unusedSimpArgs false
set_option pp.deepTerms true
set_option pp.maxSteps 100000
namespace Go.Proofs.Ytcchhfkmhbjdmaa
open Go.RowKit
section
variable {ops : Array Oper} {rest : List Oper} {op : Oper} {a : Act} {w : World} {Q : Exit → Act → World → Prop}
theorem wpList_load111 (hgd : op.guard = none) (x : Operand) (ho : op.op = .load 111 x) (V : Nat) (hx : a.eval x = .pointer (some ⟨V, 0, none⟩)) (l : List Value) (hl : l.length = 11)
    (hg : w.heap[V]? = some (.cells l.toArray 111 (0, 0))) (h : wpList Try.prog ops Q rest (a.put op.dst (.agg l.toArray)) w) : wpList Try.prog ops Q (op :: rest) a w :=
  wpList_load_row hgd 111 x ho V hx 111 l.toArray (0, 0) _ hg Try.underlying111 rfl (by rw [List.size_toArray, hl]; kernel_rfl) h
set_option maxRecDepth 20000 in
theorem wpList_append_own (hgd : op.guard = none) (s y : Operand) (ho : op.op = .call { callee := .builtin .append, args := #[s, y], argTypes := #[27, 27] })
    (base : Nat) (v : Value) (n : Nat) (xs : List UInt8) (hown : w.ownsRow base 5 1 v n (bcells xs)) (hs : a.eval s = v) (B m c : Nat) (hy : a.eval y = .slice (some ⟨B, 0, none⟩) m c)
    (ys : List UInt8) (hm : ys.length = m) (ha : w.rangeAt B 0 (bcells ys)) (hbig : n + m ≤ 100000) (hbase : base ≤ w.heap.size)
    (hk : ∀ v' w', w'.ownsRow base 5 1 v' (n + m) (bcells (xs ++ ys)) → w.grownBy w' v.ownBlock → wpList Try.prog ops Q rest (a.put op.dst v') w') : wpList Try.prog ops Q (op :: rest) a w := by
  refine wpList_plain hgd fun K hK => ?_
  obtain ⟨i0, hi0⟩ : ∃ i0, Try.prog.info? 5 = some i0 := ⟨_, rfl⟩
  have hz0 : (Try.prog.info? 5).map (fun i => (i.zero, i.size, i.bytes)) = some (some (.int .u8 0), 1, 1) := by kernel_rfl
  rw [hi0] at hz0
  simp only [Option.map_some, Option.some.injEq, Prod.mk.injEq] at hz0
  obtain ⟨v', w', hr, h1, h2, _⟩ := run_append_own (P := Try.prog) (w := w) base 27 op.type 5 i0 (.int .u8 0) 1 1 Try.underlying27 hi0 hz0.1 hz0.2.1 hz0.2.2 rfl (by omega) v n (bcells xs) hown ⟨B, 0, none⟩ m c (bcells ys)
    (by rw [bcells_length]; omega) (fun j u hj => by rw [Addr.add_mid]; exact ha j u hj) (bcells_one ys) (by unfold maxLen; omega) (by omega) hbase
  rw [← bcells_append] at h1
  unfold Oper.wp execOp
  simp only [ho, resolve, invoke, builtin, Sem.run_bind, Sem.run_pure, Result.andThen_ok, List.map_toArray, List.map_cons, List.map_nil, hs, hy, hr]
  exact hK _ _ (hk v' w' h1 h2)
end
theorem owns_slice {w : World} {base n : Nat} {v : Value} {xs : List UInt8} (h : w.ownsRow base 5 1 v n (bcells xs)) (hn : 0 < n) : ∃ g cap, v = .slice (some ⟨g, 0, none⟩) n cap ∧ xs.length = n ∧ w.rangeAt g 0 (bcells xs) := by
  obtain ⟨hl, h | ⟨g, cap, cur, hv, hg, hh, hnc, hcm, hcs, ht⟩⟩ := h
  · omega
  · rw [bcells_length, Nat.mul_one] at hl
    refine ⟨g, cap, hv, hl, fun j u hj => ?_⟩
    rw [Nat.zero_add, cell_of_row w g j _ _ _ hh]
    rw [← ht, List.getElem?_take] at hj
    split at hj
    · simpa using hj
    · cases hj
theorem outL_step (h : List UInt32) (i : Nat) (x : UInt32) (hx : h[i]? = some x) : outL (h.take (i + 1)) = outL (h.take i) ++ outW x := by
  unfold outL
  rw [List.take_add_one, hx, Option.toList_some, List.flatMap_append]
  simp
theorem out_b (x : UInt32) (s : Nat) (t : UInt32) (ht : t.toNat = s) (hs : s < 32) : ((x.toNat : Int) / ((2 ^ s : Nat) : Int)) % 256 = (((x >>> t).toUInt8).toNat : Int) := by
  rw [shr_u32 x s t ht hs]; simp
def padF (n : Nat) (i : Nat) : UInt8 := UInt8.ofNat (8 * n / 2 ^ (56 - 8 * i))
theorem sum_idx (n : Nat) (hn : n ≤ 1099511627776) : ∃ q r p : Nat, (n : Int).tmod 64 = (q : Int) ∧ (n : Int) % 64 = (q : Int) ∧ IntKind.i64.wrap (q : Int) = (q : Int) ∧ IntKind.i64.wrap (119 - (q : Int)) = (r : Int) ∧ IntKind.i64.wrap (r : Int) = (r : Int) ∧ (r : Int).tmod 64 = (p : Int) ∧ (r : Int) % 64 = (p : Int) ∧ IntKind.i64.wrap (p : Int) = (p : Int) ∧ p < 64 ∧ p = (119 - n % 64) % 64 := by
  refine ⟨n % 64, 119 - n % 64, (119 - n % 64) % 64, ?_, by omega, IntWalk.i64_in _ (by omega), ?_, IntWalk.i64_in _ (by omega), ?_, by omega, IntWalk.i64_in _ (by omega), by omega, rfl⟩
  · rw [Int.tmod_eq_emod_of_nonneg (by omega)]; omega
  · rw [IntWalk.i64_in _ (by omega)]; omega
  · rw [Int.tmod_eq_emod_of_nonneg (by omega)]; omega
set_option maxRecDepth 100000 in
set_option maxHeartbeats 8000000 in
theorem sha_sum (T K : Nat) (t : Tal) (hb : t.n ≤ 549755813888) (w : World) (h : TRep w T K t) :
    Calls Try.prog 30 #[.pointer (some ⟨T, 0, none⟩)] w fun e w' => e = .returned (.string (str t.sum)) ∧ Fr (fun _ => False) w w' := by
  have HR := Lib.hid h
  have HLL := Lib.hid (show (tcells K t).length = 11 by simp [tcells, wcells_length, h.ok.h])
  have HZ1 := Lib.hid (show ∀ v ∈ (tcells K t).toArray.toList, v.oneCell' = true by
    intro v hv
    simp only [tcells, List.mem_append] at hv
    rcases hv with hv | hv
    · exact wcells_one _ v hv
    · simp at hv; rcases hv with rfl | rfl | rfl <;> rfl)
  have HZS := Lib.hid (show (#[.int .u32 0, .int .u32 0, .int .u32 0, .int .u32 0, .int .u32 0, .int .u32 0, .int .u32 0, .int .u32 0, .string ⟨#[]⟩, .int .i64 0, .pointer none] : Array Value).size = (tcells K t).toArray.size by rw [show (tcells K t).toArray.size = 11 by rw [List.size_toArray, HLL.out]]; rfl)
  have HI := Lib.hid (show (Try.prog.info? 111).map (·.size) = some (tcells K t).toArray.size by rw [List.size_toArray, HLL.out]; kernel_rfl)
  obtain ⟨n, hn⟩ : ∃ n, n = t.n := ⟨_, rfl⟩
  have HN := Lib.hid hn
  have hnb : n ≤ 549755813888 := by omega
  have HTl := Lib.hid (lt_of_heap h.row)
  have HKl := Lib.hid (lt_of_heap h.tab)
  clear h hb hn
  go_enter Try.func30, Try.ntmps30
  go_wp2_with (first
    | (with_reducible refine wpList_load111 (op := ⟨some 11, _, _, _, _, _⟩) rfl _ rfl T rfl (tcells K t) HLL.out HR.out.row ?_)
    | (with_reducible refine wpList_store_fresh (op := ⟨none, .store 111 _ _, _, _, _, _⟩) rfl 111 _ _ rfl w #[.int .u32 0, .int .u32 0, .int .u32 0, .int .u32 0, .int .u32 0, .int .u32 0, .int .u32 0, .int .u32 0, .string ⟨#[]⟩, .int .i64 0, .pointer none] (tcells K t).toArray rfl rfl rfl HZS.out HI.out HZ1.out ?_))
  have hC0 := heap_alloc_new w (.cells (tcells K t).toArray 111)
  have hB0 := heap_alloc_new (w.alloc (.cells (tcells K t).toArray 111)) (.cells (bcells (List.replicate 8 0)).toArray 113)
  have hf1 : Fr (fun _ => False) w (w.alloc (.cells (tcells K t).toArray 111)) := (Fr.refl _ _).alloc _
  have hf2 : Fr (fun _ => False) w ((w.alloc (.cells (tcells K t).toArray 111)).alloc (.cells (bcells (List.replicate 8 0)).toArray 113)) := hf1.alloc _
  have hC1 := ((Fr.refl (fun _ => False) (w.alloc (.cells (tcells K t).toArray 111))).alloc (.cells (bcells (List.replicate 8 0)).toArray 113)).heap hC0 id
  rw [World.size_alloc] at hB0
  change Code.wp _ _ _ _ ((w.alloc (.cells (tcells K t).toArray 111)).alloc (.cells (bcells (List.replicate 8 0)).toArray 113))
  generalize (w.alloc (.cells (tcells K t).toArray 111)).alloc (.cells (bcells (List.replicate 8 0)).toArray 113) = w2 at hB0 hf2 hC1 ⊢
  obtain ⟨C, hC⟩ : ∃ C, C = w.heap.size := ⟨_, rfl⟩
  obtain ⟨B, hB⟩ : ∃ B, B = w.heap.size + 1 := ⟨_, rfl⟩
  rw [← hB] at hB0
  rw [← hC] at hC1
  rw [← hB, ← hC]
  have HC1 := Lib.hid hC1
  have HB1 := Lib.hid hB0
  have HF2 := Lib.hid hf2
  have HCB := Lib.hid (show C = w.heap.size ∧ B = w.heap.size + 1 from ⟨hC, hB⟩)
  have HTB := Lib.hid (show T ≠ B ∧ K ≠ B ∧ T ≠ C ∧ K ≠ C ∧ C ≠ B by have := HTl.out; have := HKl.out; omega)
  clear hC0 hB0 hf1 hf2 hC1 hC hB HLL HZ1 HZS HI
  go_loopw [12] (fun v wr => ∃ i : Nat, i ≤ 8 ∧ v = .int .i64 i ∧ wr.heap[B]? = some (.cells (bcells (upd (padF n) (List.replicate 8 0) i)).toArray 113 (0, 0)) ∧ Fr (fun i => i = B) w2 wr) (fun v _ => 8 - (intOf v).toNat)
  case atStart => exact ⟨0, Nat.zero_le _, rfl, by rw [upd_zero]; exact HB1.out, Fr.refl _ _⟩
  case round =>
    obtain ⟨i, hi, rfl, hBl, hf⟩ := hrel
    have HB := Lib.hid hBl
    have HF := Lib.hid hf
    clear hBl hf HB1
    by_cases hlt : i < 8
    · obtain ⟨n8, hn8⟩ : ∃ z, z = 8 * n := ⟨_, rfl⟩
      obtain ⟨i8, hi8⟩ : ∃ z, z = 8 * i := ⟨_, rfl⟩
      obtain ⟨m, hm⟩ : ∃ z, z = 56 - 8 * i := ⟨_, rfl⟩
      obtain ⟨z, hz⟩ : ∃ z, z = padF n i := ⟨_, rfl⟩
      have hw1 : IntKind.i64.wrap (8 * (n : Int)) = (n8 : Int) := by rw [IntWalk.i64_in _ (by omega)]; omega
      have hw2 : IntKind.i64.wrap (8 * (i : Int)) = (i8 : Int) := by rw [IntWalk.i64_in _ (by omega)]; omega
      have hw3 : IntKind.i64.wrap (56 - (i8 : Int)) = (m : Int) := by rw [IntWalk.i64_in _ (by omega)]; omega
      have hm0 : (0 : Int) ≤ (m : Int) := by omega
      have hm1 : m ≤ 56 := by omega
      have hm2 : (m : Int) ≤ 64 := by omega
      have hzz : ((n8 : Int) / 2 ^ m) % 256 = (z.toNat : Int) := by
        rw [hz, hm, hn8]
        unfold padF
        simp
      have hzw : IntKind.u8.wrap ((n8 : Int) / 2 ^ m) = (z.toNat : Int) := by rw [IntKind.wrap_u8', hzz]
      have c9 : wr.cell? ⟨T, 9, none⟩ = some (.int .i64 (n : Int)) := by
        rw [HN.out]
        exact (tcells_cell HR.out.ok.h (HF.out.heap (HF2.out.heap HR.out.row id) HTB.out.1)).2.1
      have hfz : wr.frozen? ⟨B, i, none⟩ = false := frozen_of_row wr _ _ _ _ HB.out
      have cB : wr.cell? ⟨B, i, none⟩ = some (.int .u8 ((0 : UInt8).toNat : Int)) := bcells_cell HB.out i 0 (by rw [upd_get _ _ _ _ (by simp; omega), if_neg (by omega), List.getD_eq_getElem?_getD, List.getElem?_replicate, if_pos hlt]; rfl)
      have hi8' : (i : Int) < 8 := by omega
      have HB2 := Lib.hid (show (wr.setCell ⟨B, i, none⟩ (.int .u8 (z.toNat : Int))).heap[B]? = some (.cells (bcells (upd (padF n) (List.replicate 8 0) (i + 1))).toArray 113 (0, 0)) by
        rw [← upd_set _ _ _ (by simp; omega), ← hz]
        exact bcells_set HB.out i z)
      have HF3 := Lib.hid (HF.out.setCell ⟨B, i, none⟩ (.int .u8 (z.toNat : Int)) (.inl rfl))
      have bz := z.toNat_lt
      clear hz hn8 hi8 hm
      go_wp2
      go_roundw
      case rel => exact ⟨i + 1, by omega, by go_num, HB2.out, HF3.out⟩
      case measure => simp [intOf]; omega
    · have h8 : i = 8 := by omega
      subst h8
      go_wp2
      obtain ⟨q, r, p, ht1, ht2, hw1, hw2, hw2b, ht3, ht4, hw3, hp64, hpn⟩ := sum_idx n (by omega)
      have HPN := Lib.hid hpn
      have HBf := Lib.hid (show wr.heap[B]? = some (.cells (bcells (be8 (8 * n))).toArray 113 (0, 0)) by
        have := HB.out
        rw [upd_all _ _ 8 (by simp)] at this
        exact this)
      have HB8 := Lib.hid (show (be8 (8 * n)).length = 8 by simp [be8])
      have HFa := Lib.hid (show Fr (fun i => i = B) w2 wr.drew from HF.out.drew)
      have HA1 := (jstr_append [128] (List.replicate p 0))
      have HA2 := (jstr_append (128 :: List.replicate p 0) (be8 (8 * n)))
      have HPAD := Lib.hid (show (128 :: List.replicate p 0) ++ be8 (8 * n) = padL n by unfold padL; rw [hpn]; rfl)
      have hs1 : ¬ 9223372036854775807 < (str [128]).size + (str (List.replicate p 0)).size := by rw [str_size, str_size]; simp; omega
      have hs2 : ¬ 9223372036854775807 < (str (128 :: List.replicate p 0)).size + (str (be8 (8 * n))).size := by rw [str_size, str_size, HB8.out]; simp; omega
      rw [HPAD.out] at HA2
      obtain ⟨s1, hs1d⟩ : ∃ s, s = str (List.replicate p 0) := ⟨_, rfl⟩
      obtain ⟨s2, hs2d⟩ : ∃ s, s = str (be8 (8 * n)) := ⟨_, rfl⟩
      obtain ⟨s3, hs3d⟩ : ∃ s, s = str (128 :: List.replicate p 0) := ⟨_, rfl⟩
      have hA1 : (⟨#[128]⟩ : ByteArray) ++ s1 = s3 := by rw [hs1d, hs3d]; exact HA1
      have hA2 : s3 ++ s2 = str (padL n) := by rw [hs3d, hs2d]; exact HA2
      have hS1 : ¬ 9223372036854775807 < (⟨#[128]⟩ : ByteArray).size + s1.size := by rw [hs1d]; exact hs1
      have hS2 : ¬ 9223372036854775807 < s3.size + s2.size := by rw [hs3d, hs2d]; exact hs2
      have hS1b : 1 + s1.size ≤ 9223372036854775807 := by rw [hs1d, str_size, List.length_replicate]; omega
      have hS2b : s3.size + s2.size ≤ 9223372036854775807 := by omega
      have HS2D := Lib.hid hs2d
      have HRep := Lib.hid (show ∀ w, Calls Try.prog 80 #[.string ⟨#[0]⟩, .int .i64 (p : Int)] w fun e w' => e = .returned (.string s1) ∧ Fr (fun _ => False) w w' from fun w => by rw [hs1d]; exact repeat_zeros p (by omega) w)
      clear HA1 HA2 hs1 hs2 hs1d hs2d hs3d hpn
      refine wp_region_till (fun W => W.cell? ⟨T, 9, none⟩ = some (.int .i64 (n : Int)) ∧ W.heap[B]? = some (.cells (bcells (be8 (8 * n))).toArray 113 (0, 0))) 12 (by kernel_rfl) ?_
      have c9 : wr.cell? ⟨T, 9, none⟩ = some (.int .i64 (n : Int)) := by
        rw [HN.out]
        exact (tcells_cell HR.out.ok.h (HF.out.heap (HF2.out.heap HR.out.row id) HTB.out.1)).2.1
      have HS := Lib.hid (show wr.drew.cell? ⟨T, 9, none⟩ = some (.int .i64 (n : Int)) ∧ wr.drew.heap[B]? = some (.cells (bcells (be8 (8 * n))).toArray 113 (0, 0)) from ⟨c9, HBf.out⟩)
      clear c9 hlt hi
      generalize wr.drew = wy at HS HFa ⊢
      refine wpAnyT_take (i := 0) (n := 12) (v := .pointer (some ⟨T, 0, none⟩)) rfl (by kernel_rfl) (fun _ _ _ h => h) HS.out (yieldsIf_plain rfl (fun W hW => by clear hW; go_simp)) ?_
      simp only [List.getElem_toArray, List.getElem_cons_succ, List.getElem_cons_zero, Act.put, List.setIfInBounds_toArray, List.set_cons_zero, List.set_cons_succ]
      refine wpAnyT_take (i := 1) (n := 12) (v := .pointer (some ⟨T, 0, none⟩)) rfl (by kernel_rfl) (fun _ _ _ h => h) HS.out (yieldsIf_plain rfl (fun W hW => by clear hW; go_simp)) ?_
      simp only [List.getElem_toArray, List.getElem_cons_succ, List.getElem_cons_zero, Act.put, List.setIfInBounds_toArray, List.set_cons_zero, List.set_cons_succ]
      refine wpAnyT_take (i := 2) (n := 12) (v := .pointer (some ⟨T, 9, none⟩)) rfl (by kernel_rfl) (fun _ _ _ h => h) HS.out (yieldsIf_plain rfl (fun W hW => by clear hW; go_simp)) ?_
      simp only [List.getElem_toArray, List.getElem_cons_succ, List.getElem_cons_zero, Act.put, List.setIfInBounds_toArray, List.set_cons_zero, List.set_cons_succ]
      refine wpAnyT_take (i := 3) (n := 12) (v := .int .i64 (n : Int)) rfl (by kernel_rfl) (fun _ _ _ h => h) HS.out (yieldsIf_plain rfl (fun W hW => by have h1 := hW.1; clear hW; go_simp)) ?_
      simp only [List.getElem_toArray, List.getElem_cons_succ, List.getElem_cons_zero, Act.put, List.setIfInBounds_toArray, List.set_cons_zero, List.set_cons_succ]
      refine wpAnyT_take (i := 4) (n := 12) (v := .int .i64 (q : Int)) rfl (by kernel_rfl) (fun _ _ _ h => h) HS.out (yieldsIf_plain rfl (fun W hW => by clear hW; go_simp)) ?_
      simp only [List.getElem_toArray, List.getElem_cons_succ, List.getElem_cons_zero, Act.put, List.setIfInBounds_toArray, List.set_cons_zero, List.set_cons_succ]
      refine wpAnyT_take (i := 5) (n := 12) (v := .int .i64 (r : Int)) rfl (by kernel_rfl) (fun _ _ _ h => h) HS.out (yieldsIf_plain rfl (fun W hW => by clear hW; go_simp)) ?_
      simp only [List.getElem_toArray, List.getElem_cons_succ, List.getElem_cons_zero, Act.put, List.setIfInBounds_toArray, List.set_cons_zero, List.set_cons_succ]
      refine wpAnyT_take (i := 6) (n := 12) (v := .int .i64 (p : Int)) rfl (by kernel_rfl) (fun _ _ _ h => h) HS.out (yieldsIf_plain rfl (fun W hW => by clear hW; go_simp)) ?_
      simp only [List.getElem_toArray, List.getElem_cons_succ, List.getElem_cons_zero, Act.put, List.setIfInBounds_toArray, List.set_cons_zero, List.set_cons_succ]
      refine wpAnyT_take (i := 9) (n := 12) (v := .slice (some ⟨B, 0, none⟩) 8 8) rfl (by kernel_rfl) (fun _ _ _ h => h) HS.out (yieldsIf_plain rfl (fun W hW => by clear hW; go_simp)) ?_
      simp only [List.getElem_toArray, List.getElem_cons_succ, List.getElem_cons_zero, Act.put, List.setIfInBounds_toArray, List.set_cons_zero, List.set_cons_succ]
      refine wpAnyT_take (i := 10) (n := 12) (v := .string s2) rfl (by kernel_rfl) (fun _ _ _ h => h) HS.out (yieldsIf_plain rfl (fun W hW => by have hcv := run_convert_str (P := Try.prog) W 27 5 Try.underlying27 Try.underlying5 B 0 8 8 (be8 (8 * n)) HB8.out (fun j v hj => by rw [Nat.zero_add, cell_of_row W B j _ _ _ hW.2]; simpa using hj) 9 Try.underlying9; rw [← HS2D.out] at hcv; clear hW; go_simp)) ?_
      simp only [List.getElem_toArray, List.getElem_cons_succ, List.getElem_cons_zero, Act.put, List.setIfInBounds_toArray, List.set_cons_zero, List.set_cons_succ]
      refine wpAnyT_one (i := 7) rfl (by kernel_rfl) (wpOp_plain rfl rfl (fun K hK => ?_))
      simp only [List.getElem_toArray, List.getElem_cons_succ, List.getElem_cons_zero, Act.put, List.setIfInBounds_toArray, List.set_cons_zero, List.set_cons_succ]
      have HKK := Lib.hid hK
      clear hK
      go_wp2_with fail
      refine (HRep.out wy).mono ?_
      rintro e w4 ⟨rfl, h4⟩
      have H4 := Lib.hid h4
      have HFb := Lib.hid (HFa.out.trans h4 (fun i hi => hi.elim))
      have HSb := Lib.hid (show w4.cell? ⟨T, 9, none⟩ = some (.int .i64 (n : Int)) ∧ w4.heap[B]? = some (.cells (bcells (be8 (8 * n))).toArray 113 (0, 0)) from ⟨h4.cell HS.out.1 id, h4.heap HS.out.2 id⟩)
      clear h4
      go_wp2_with fail
      refine HKK.out _ _ ⟨fun _ => HSb.out, ?_⟩
      clear HKK K HRep
      try simp only [List.getElem_toArray, List.getElem_cons_succ, List.getElem_cons_zero, Act.put, List.setIfInBounds_toArray, List.set_cons_zero, List.set_cons_succ]
      refine wpAnyT_take (i := 8) (n := 12) (v := .string s3) rfl (by kernel_rfl) (fun _ _ _ h => h) HSb.out (yieldsIf_plain rfl (fun W hW => by clear hW; go_simp)) ?_
      simp only [List.getElem_toArray, List.getElem_cons_succ, List.getElem_cons_zero, Act.put, List.setIfInBounds_toArray, List.set_cons_zero, List.set_cons_succ]
      refine wpAnyT_take (i := 11) (n := 12) (v := .string (str (padL n))) rfl (by kernel_rfl) (fun _ _ _ h => h) HSb.out (yieldsIf_plain rfl (fun W hW => by clear hW; go_simp)) ?_
      simp only [List.getElem_toArray, List.getElem_cons_succ, List.getElem_cons_zero, Act.put, List.setIfInBounds_toArray, List.set_cons_zero, List.set_cons_succ]
      refine wpAnyT_of_any trivial [12] _ _ _ _ (by kernel_rfl) (by simp) (.inr rfl) ?_
      simp only [List.filterMap_cons, List.filterMap_nil, List.getElem?_toArray, List.getElem?_cons_zero, List.getElem?_cons_succ]
      have HCT := Lib.hid (show TRep w4 C K t from ⟨HFb.out.heap HC1.out HTB.out.2.2.2.2, HFb.out.heap (HF2.out.heap HR.out.tab id) HTB.out.2.1, HTB.out.2.2.2.1, HR.out.ok⟩)
      go_wp2_with fail
      refine (sha_add C K t (padL n) (by rw [← HN.out]; simp [padL, be8]; omega) w4 HCT.out).mono ?_
      rintro e w5 ⟨rfl, h5, hf5⟩
      obtain ⟨t2, ht2'⟩ : ∃ t2, t2 = t.add (padL n) := ⟨_, rfl⟩
      rw [← ht2'] at h5
      have HSUM := Lib.hid (show t.sum = outL t2.h by rw [ht2', HN.out]; rfl)
      have H5 := Lib.hid h5
      have HF5 := Lib.hid (show Fr (fun _ => False) w w5 from ((HF2.out.trans HFb.out (fun i hi => .inr (by have := HCB.out; omega))).trans hf5 (fun i hi => .inr (by have := HCB.out; omega))))
      have HL8 := Lib.hid h5.ok.h
      have HRG := Lib.hid (show w5.rangeAt C 0 (wcells t2.h) from fun j v hj => by
        have hjl : j < (wcells t2.h).length := (List.getElem?_eq_some_iff.1 hj).1
        rw [Nat.zero_add, cell_of_row w5 C j _ _ _ h5.row]
        unfold tcells
        rw [List.getElem?_toArray, List.getElem?_append_left hjl]; exact hj)
      have HI7 := Lib.hid (show (Try.prog.info? 107).map (·.size) = some (wcells t2.h).length by rw [wcells_length, h5.ok.h]; kernel_rfl)
      clear h5 hf5 ht2' hA1 hA2 hS1 hS2 HCT HSb HS HFa HFb H4 HBf
      go_wp2_with (with_reducible refine wpList_load_mid (op := ⟨some 42, _, _, _, _, _⟩) rfl 107 _ rfl C 0 rfl (wcells t2.h) _ HRG.out Try.underlying107 rfl HI7.out ?_)
      have HW5 := Lib.hid (show w.heap.size ≤ w5.heap.size from HF5.out.size)
      go_loopw [6, 43] (fun v6 v wr => ∃ i : Nat, i ≤ 8 ∧ v = .int .i64 i ∧ wr.ownsRow w.heap.size 5 1 v6 (4 * i) (bcells (outL (t2.h.take i))) ∧ Fr (fun _ => False) w wr) (fun _ v _ => 8 - (intOf v).toNat)
      case atStart => exact ⟨0, Nat.zero_le _, rfl, ⟨rfl, .inl ⟨rfl, rfl⟩⟩, HF5.out⟩
      case round =>
        obtain ⟨i, hi, rfl, ho, hf⟩ := hrel
        have HO := Lib.hid ho
        have HFr := Lib.hid hf
        clear ho hf HF5
        by_cases hlt : i < 8
        · obtain ⟨x, hx⟩ : ∃ z, z = t2.h.getD i 0 := ⟨_, rfl⟩
          have hxi : t2.h[i]? = some x := by rw [hx]; exact get_some32 HL8.out i hlt
          have hin := run_index_w 107 8 Try.underlying107 t2.h i x hxi hlt wr
          have HST := Lib.hid (outL_step t2.h i x hxi)
          have hi8' : (i : Int) < 8 := by omega
          obtain ⟨y0, hy0⟩ : ∃ z, z = (x >>> 24).toUInt8 := ⟨_, rfl⟩
          obtain ⟨y1, hy1⟩ : ∃ z, z = (x >>> 16).toUInt8 := ⟨_, rfl⟩
          obtain ⟨y2, hy2⟩ : ∃ z, z = (x >>> 8).toUInt8 := ⟨_, rfl⟩
          obtain ⟨y3, hy3⟩ : ∃ z, z = x.toUInt8 := ⟨_, rfl⟩
          have HOW := Lib.hid (show outW x = [y0, y1, y2, y3] by rw [hy0, hy1, hy2, hy3]; rfl)
          have o0 : ((x.toNat : Int) / 16777216) % 256 = (y0.toNat : Int) := by rw [hy0]; exact out_b x 24 24 rfl (by omega)
          have o1 : ((x.toNat : Int) / 65536) % 256 = (y1.toNat : Int) := by rw [hy1]; exact out_b x 16 16 rfl (by omega)
          have o2 : ((x.toNat : Int) / 256) % 256 = (y2.toNat : Int) := by rw [hy2]; exact out_b x 8 8 rfl (by omega)
          have o3 : (x.toNat : Int) % 256 = (y3.toNat : Int) := by rw [hy3]; simp
          have p0 : IntKind.u8.wrap ((x.toNat : Int) / 16777216) = (y0.toNat : Int) := by rw [IntKind.wrap_u8', o0]
          have p1 : IntKind.u8.wrap ((x.toNat : Int) / 65536) = (y1.toNat : Int) := by rw [IntKind.wrap_u8', o1]
          have p2 : IntKind.u8.wrap ((x.toNat : Int) / 256) = (y2.toNat : Int) := by rw [IntKind.wrap_u8', o2]
          have p3 : IntKind.u8.wrap (x.toNat : Int) = (y3.toNat : Int) := by rw [IntKind.wrap_u8', o3]
          have by0 := y0.toNat_lt
          have by1 := y1.toNat_lt
          have by2 := y2.toNat_lt
          have by3 := y3.toNat_lt
          have HOb := Lib.hid (show (wr.alloc (.cells #[.int .u8 (y0.toNat : Int), .int .u8 (y1.toNat : Int), .int .u8 (y2.toNat : Int), .int .u8 (y3.toNat : Int)] 5)).ownsRow w.heap.size 5 1 u6 (4 * i) (bcells (outL (t2.h.take i))) from ((Fr.refl (fun _ => False) wr).alloc _).own HO.out (fun k _ => id))
          have HRb := Lib.hid (show (wr.alloc (.cells #[.int .u8 (y0.toNat : Int), .int .u8 (y1.toNat : Int), .int .u8 (y2.toNat : Int), .int .u8 (y3.toNat : Int)] 5)).rangeAt wr.heap.size 0 (bcells [y0, y1, y2, y3]) from fun j v hj => by
            rw [Nat.zero_add, cell_of_row _ wr.heap.size j _ _ _ (heap_alloc_new wr _)]; simpa [bcells] using hj)
          have HFb := Lib.hid (HFr.out.alloc (.cells #[.int .u8 (y0.toNat : Int), .int .u8 (y1.toNat : Int), .int .u8 (y2.toNat : Int), .int .u8 (y3.toNat : Int)] 5))
          have HSz := Lib.hid (show w.heap.size ≤ (wr.alloc (.cells #[.int .u8 (y0.toNat : Int), .int .u8 (y1.toNat : Int), .int .u8 (y2.toNat : Int), .int .u8 (y3.toNat : Int)] 5)).heap.size from HFb.out.size)
          clear hx hxi hy0 hy1 hy2 hy3
          go_wp2_with (with_reducible refine wpList_append_own (op := ⟨some 59, _, _, _, _, _⟩) rfl _ _ rfl w.heap.size u6 (4 * i) (outL (t2.h.take i)) HOb.out rfl wr.heap.size 4 4 rfl [y0, y1, y2, y3] rfl HRb.out (by omega) HSz.out ?_)
          intro v' w' ho' hgr
          have HO' := Lib.hid (show w'.ownsRow w.heap.size 5 1 v' (4 * (i + 1)) (bcells (outL (t2.h.take (i + 1)))) by rw [HST.out, HOW.out]; exact ho')
          have HF' := Lib.hid (HFb.out.grown hgr (fun k hk => .inr (by
            obtain ⟨_, ⟨h1, _⟩ | ⟨g, cap, cur, h1, h2, _⟩⟩ := HO.out
            · rw [h1] at hk; cases hk
            · rw [h1] at hk; cases hk; exact h2)))
          clear ho' hgr
          go_wp2
          go_roundw
          case rel => exact ⟨i + 1, by omega, by go_num, HO'.out, HF'.out⟩
          case measure => simp [intOf]; omega
        · have h8 : i = 8 := by omega
          subst h8
          obtain ⟨g, cap, hv, hlo, hro⟩ := owns_slice HO.out (by omega)
          have HV := Lib.hid hv
          have hcv := run_convert_str (P := Try.prog) wr 27 5 Try.underlying27 Try.underlying5 g 0 32 cap (outL (t2.h.take 8)) hlo hro 9 Try.underlying9
          have HTK := Lib.hid (show outL (t2.h.take 8) = t.sum by rw [HSUM.out, List.take_of_length_le (by rw [HL8.out]; omega)])
          rw [HTK.out] at hcv
          clear hlo hro
          subst hv
          go_wp2
          go_ret
          exact ⟨rfl, HFr.out⟩
end Go.Proofs.Ytcchhfkmhbjdmaa
