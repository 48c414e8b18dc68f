/- The document's tag and derived bytes walked. -/
import Derived.Test.YtcchhfkmhbjdmaaPmD
import Derived.Test.YtcchhfkmhbjdmaaPmC
/-! Jt -/
set_option linter.unusedVariables false
set_option linter.unusedSimpArgs false
set_option pp.deepTerms true
set_option pp.maxSteps 100000
namespace Go.Proofs.Ytcchhfkmhbjdmaa
open Go.RowKit
theorem padK_get (k : List UInt8) (p : Nat) : (padK k).getD p 0 = k.getD p 0 := by
  unfold padK
  rw [List.getD_eq_getElem?_getD, List.getD_eq_getElem?_getD]
  by_cases h : p < k.length
  · rw [List.getElem?_append_left h]
  · rw [List.getElem?_append_right (by omega), List.getElem?_eq_none (by omega : k.length ≤ p), List.getElem?_replicate]
    split <;> rfl
theorem full_ext64 {f g : Nat → UInt8} {n : Nat} (h : ∀ p, p < n → f p = g p) : full f n = full g n := by
  unfold full
  apply List.map_congr_left
  intro p hp
  exact h p (List.mem_range.mp hp)
set_option maxRecDepth 100000 in
set_option maxHeartbeats 2000000 in
theorem ref_tag (key txt : List UInt8) (hk : key.length ≤ 80000) (ht : txt.length ≤ 80000) (w : World) :
    Calls Try.prog 35 #[.string (str key), .string (str txt)] w fun e w' => e = .returned (.string (str (tag key txt))) ∧ Fr (fun _ => False) w w' := by
  obtain ⟨KS0, hKS0⟩ : ∃ s, s = str key := ⟨_, rfl⟩
  obtain ⟨TX, hTX⟩ : ∃ s, s = str txt := ⟨_, rfl⟩
  have HTX := Lib.hid hTX
  have HTl := Lib.hid ht
  have hks0 : KS0.size = key.length := by rw [hKS0, str_size]
  by_cases hl : 64 < key.length
  · have HKN := Lib.hid (show keyN key = dig key by unfold keyN; rw [if_pos hl])
    have hd : decide ((64 : Int) < (KS0.size : Int)) = true := decide_eq_true (by omega)
    obtain ⟨k, hkd⟩ : ∃ k, k = dig key := ⟨_, rfl⟩
    obtain ⟨KS, hKS⟩ : ∃ s, s = str k := ⟨_, rfl⟩
    have HRk := Lib.hid (show ∀ w, Calls Try.prog 31 #[.string KS0] w fun e w' => e = .returned (.string KS) ∧ Fr (fun _ => False) w w' from fun w => by
      rw [hKS0, hKS, hkd]; exact ref_sum key (by omega) w)
    have HKS := Lib.hid hKS
    have HKL := Lib.hid (show k.length ≤ 64 by rw [hkd, dig_length]; omega)
    rw [← hkd] at HKN
    rw [← hKS0, ← hTX]
    clear hKS0 hTX hks0 hl hkd hKS hk ht
    go_enter Try.func35, Try.ntmps35
    go_wp2_with fail
    refine (HRk.out w).mono ?_
    rintro e wx ⟨rfl, hx⟩
    have HF := Lib.hid hx
    clear hx
    obtain ⟨kl, hkl⟩ : ∃ n, n = k.length := ⟨_, rfl⟩
    have hks : KS.size = kl := by rw [HKS.out, str_size, hkl]
    have HKLn := Lib.hid hkl
    have hkl64 : kl ≤ 64 := by rw [hkl]; exact HKL.out
    have hA0 := heap_alloc_new wx (.cells (bcells (List.replicate 64 0)).toArray 118)
    have hB0 := heap_alloc_new (wx.alloc (.cells (bcells (List.replicate 64 0)).toArray 118)) (.cells (bcells (List.replicate 64 0)).toArray 118)
    have hfA : Fr (fun _ => False) wx (wx.alloc (.cells (bcells (List.replicate 64 0)).toArray 118)) := (Fr.refl _ _).alloc _
    have hfB : Fr (fun _ => False) wx ((wx.alloc (.cells (bcells (List.replicate 64 0)).toArray 118)).alloc (.cells (bcells (List.replicate 64 0)).toArray 118)) := hfA.alloc _
    have hA1 := ((Fr.refl (fun _ => False) (wx.alloc (.cells (bcells (List.replicate 64 0)).toArray 118))).alloc (.cells (bcells (List.replicate 64 0)).toArray 118)).heap hA0 id
    rw [World.size_alloc] at hB0
    clear hkl
    go_wp2
    change Code.wp _ _ _ _ ((wx.alloc (.cells (bcells (List.replicate 64 0)).toArray 118)).alloc (.cells (bcells (List.replicate 64 0)).toArray 118))
    generalize (wx.alloc (.cells (bcells (List.replicate 64 0)).toArray 118)).alloc (.cells (bcells (List.replicate 64 0)).toArray 118) = w4 at hA1 hB0 hfB ⊢
    obtain ⟨A, hA⟩ : ∃ A, A = wx.heap.size := ⟨_, rfl⟩
    obtain ⟨B, hB⟩ : ∃ B, B = wx.heap.size + 1 := ⟨_, rfl⟩
    rw [← hB] at hB0
    rw [← hA] at hA1
    rw [← hB, ← hA]
    have HA0 := Lib.hid hA1
    have HB0 := Lib.hid hB0
    have HF4 := Lib.hid (HF.out.trans hfB (fun i hi => hi.elim))
    have HNE := Lib.hid (show A ≠ B ∧ w.heap.size ≤ A ∧ w.heap.size ≤ B by have := HF.out.size; omega)
    clear hA0 hfA hA1 hB0 hfB hA hB
    go_loopw [7] (fun v wr => ∃ i : Nat, i ≤ 64 ∧ v = .int .i64 i ∧ wr.heap[A]? = some (.cells (bcells (upd (turnF k 92) (List.replicate 64 0) i)).toArray 118 (0, 0)) ∧ wr.heap[B]? = some (.cells (bcells (upd (turnF k 54) (List.replicate 64 0) i)).toArray 118 (0, 0)) ∧ Fr (fun _ => False) w wr) (fun v _ => 64 - (intOf v).toNat)
    case atStart => exact ⟨0, Nat.zero_le _, rfl, by rw [upd_zero]; exact HA0.out, by rw [upd_zero]; exact HB0.out, HF4.out⟩
    case round =>
      obtain ⟨i, hi, rfl, hAl, hBl, hf⟩ := hrel
      have HA := Lib.hid hAl
      have HB := Lib.hid hBl
      have HFr := Lib.hid hf
      clear hAl hBl hf HA0 HB0 HF4
      by_cases hlt : i < 64
      · have hx64 : (i : Int) < 64 := by omega
        obtain ⟨x, hx⟩ : ∃ x, x = k.getD i 0 := ⟨_, rfl⟩
        obtain ⟨y, hy⟩ : ∃ y, y = x ^^^ 92 := ⟨_, rfl⟩
        obtain ⟨z, hz⟩ : ∃ z, z = x ^^^ 54 := ⟨_, rfl⟩
        have cA : wr.cell? ⟨A, i, none⟩ = some (.int .u8 ((0 : UInt8).toNat : Int)) := bcells_cell HA.out i 0 (by rw [upd_get _ _ _ _ (by simp; omega), if_neg (by omega), List.getD_eq_getElem?_getD, List.getElem?_replicate, if_pos hlt]; rfl)
        have cB : wr.cell? ⟨B, i, none⟩ = some (.int .u8 ((0 : UInt8).toNat : Int)) := bcells_cell HB.out i 0 (by rw [upd_get _ _ _ _ (by simp; omega), if_neg (by omega), List.getD_eq_getElem?_getD, List.getElem?_replicate, if_pos hlt]; rfl)
        have fA : wr.frozen? ⟨A, i, none⟩ = false := frozen_of_row wr _ _ _ _ HA.out
        have hA2 : (wr.setCell ⟨A, i, none⟩ (.int .u8 (y.toNat : Int))).heap[A]? = some (.cells (bcells (upd (turnF k 92) (List.replicate 64 0) (i + 1))).toArray 118 (0, 0)) := by
          rw [← upd_set _ _ _ (by simp; omega), show turnF k 92 i = y by rw [hy, hx]; rfl]
          exact bcells_set HA.out i y
        have hfA : Fr (fun j => j = A) wr (wr.setCell ⟨A, i, none⟩ (.int .u8 (y.toNat : Int))) := (Fr.refl _ _).setCell _ _ (.inl rfl)
        have hB2 : (wr.setCell ⟨A, i, none⟩ (.int .u8 (y.toNat : Int))).heap[B]? = some (.cells (bcells (upd (turnF k 54) (List.replicate 64 0) i)).toArray 118 (0, 0)) := hfA.heap HB.out (Ne.symm HNE.out.1)
        have cB2 : (wr.setCell ⟨A, i, none⟩ (.int .u8 (y.toNat : Int))).cell? ⟨B, i, none⟩ = some (.int .u8 ((0 : UInt8).toNat : Int)) := hfA.cell cB (Ne.symm HNE.out.1)
        have fB2 : (wr.setCell ⟨A, i, none⟩ (.int .u8 (y.toNat : Int))).frozen? ⟨B, i, none⟩ = false := frozen_of_row _ _ _ _ _ hB2
        have HB3 := Lib.hid (show ((wr.setCell ⟨A, i, none⟩ (.int .u8 (y.toNat : Int))).setCell ⟨B, i, none⟩ (.int .u8 (z.toNat : Int))).heap[B]? = some (.cells (bcells (upd (turnF k 54) (List.replicate 64 0) (i + 1))).toArray 118 (0, 0)) by
          rw [← upd_set _ _ _ (by simp; omega), show turnF k 54 i = z by rw [hz, hx]; rfl]
          exact bcells_set hB2 i z)
        have hfB : Fr (fun j => j = B) (wr.setCell ⟨A, i, none⟩ (.int .u8 (y.toNat : Int))) ((wr.setCell ⟨A, i, none⟩ (.int .u8 (y.toNat : Int))).setCell ⟨B, i, none⟩ (.int .u8 (z.toNat : Int))) := (Fr.refl _ _).setCell _ _ (.inl rfl)
        have HA3 := Lib.hid (hfB.heap hA2 HNE.out.1)
        have HF3 := Lib.hid ((HFr.out.setCell ⟨A, i, none⟩ (.int .u8 (y.toNat : Int)) (.inr HNE.out.2.1)).setCell ⟨B, i, none⟩ (.int .u8 (z.toNat : Int)) (.inr HNE.out.2.2))
        have bx := x.toNat_lt
        have by' := y.toNat_lt
        have bz := z.toNat_lt
        clear hA2 hfA hB2 hfB
        by_cases hl : i < kl
        · have hdl : (i : Int) < (kl : Int) := by omega
          have hxs : ∀ h, KS[i]'h = x := by
            intro h
            have hk := HKS.out
            subst hk
            rw [str_at32, hx]
          have e1 : bits .xor .u8 (x.toNat : Int) 92 = (y.toNat : Int) := by rw [hy]; exact xor_u8 x 92
          have e2 : bits .xor .u8 (x.toNat : Int) 54 = (z.toNat : Int) := by rw [hz]; exact xor_u8 x 54
          clear hx hy hz
          go_wp2
          go_roundw
          case rel => exact ⟨i + 1, by omega, by go_num, HA3.out, HB3.out, HF3.out⟩
          case measure => simp [intOf]; omega
        · have hdl : ¬ (i : Int) < (kl : Int) := by omega
          have hx0 : x = 0 := by rw [hx, List.getD_eq_getElem?_getD, List.getElem?_eq_none (by rw [← HKLn.out]; omega)]; rfl
          have e1 : bits .xor .u8 0 92 = (y.toNat : Int) := by rw [hy, hx0]; exact xor_u8 0 92
          have e2 : bits .xor .u8 0 54 = (z.toNat : Int) := by rw [hz, hx0]; exact xor_u8 0 54
          clear hx hy hz hx0
          go_wp2
          go_roundw
          case rel => exact ⟨i + 1, by omega, by go_num, HA3.out, HB3.out, HF3.out⟩
          case measure => simp [intOf]; omega
      · have h64 : i = 64 := by omega
        subst h64
        obtain ⟨k64, hk64⟩ : ∃ l, l = padK k := ⟨_, rfl⟩
        have hfull : ∀ b, full (turnF k b) 64 = xorB b k64 := fun b => by
          rw [hk64, ← turnF_full (padK k) b 64 (padK_length k HKL.out)]
          refine full_ext64 fun p hp => ?_
          unfold turnF
          rw [padK_get k p]
        have HAz := Lib.hid (show wr.drew.heap[A]? = some (.cells (bcells (xorB 92 k64)).toArray 118 (0, 0)) by rw [← hfull]; have := HA.out; rwa [upd_all _ _ 64 (by simp)] at this)
        have HBz := Lib.hid (show wr.drew.heap[B]? = some (.cells (bcells (xorB 54 k64)).toArray 118 (0, 0)) by rw [← hfull]; have := HB.out; rwa [upd_all _ _ 64 (by simp)] at this)
        have HK6 := Lib.hid (show k64.length = 64 by rw [hk64]; exact padK_length k HKL.out)
        have HKP := Lib.hid hk64
        have HFd := Lib.hid (show Fr (fun _ => False) w wr.drew from HFr.out.drew)
        obtain ⟨SA, hSA⟩ : ∃ s, s = str (xorB 92 k64) := ⟨_, rfl⟩
        obtain ⟨SB, hSB⟩ : ∃ s, s = str (xorB 54 k64) := ⟨_, rfl⟩
        obtain ⟨BT, hBT⟩ : ∃ s, s = str (xorB 54 k64 ++ txt) := ⟨_, rfl⟩
        obtain ⟨DG, hDG⟩ : ∃ s, s = str (dig (xorB 54 k64 ++ txt)) := ⟨_, rfl⟩
        obtain ⟨AD, hAD⟩ : ∃ s, s = str (xorB 92 k64 ++ dig (xorB 54 k64 ++ txt)) := ⟨_, rfl⟩
        have HSA := Lib.hid hSA
        have HSB := Lib.hid hSB
        have ha1 : SB ++ TX = BT := by rw [hSB, HTX.out, jstr_append, hBT]
        have ha2 : SA ++ DG = AD := by rw [hSA, hDG, jstr_append, hAD]
        have hs1 : SB.size = 64 := by rw [hSB, str_size, xorB_length, HK6.out]
        have hs2 : SA.size = 64 := by rw [hSA, str_size, xorB_length, HK6.out]
        have hs3 : DG.size = 32 := by rw [hDG, str_size, dig_length]
        have hs4 : TX.size ≤ 80000 := by rw [HTX.out, str_size]; exact HTl.out
        have hb1 : ¬ 9223372036854775807 < SB.size + TX.size := by omega
        have hb2 : 64 + TX.size ≤ 9223372036854775807 := by omega
        have hb3 : SB.size + TX.size ≤ 9223372036854775807 := by omega
        have HR1 := Lib.hid (show ∀ w, Calls Try.prog 31 #[.string BT] w fun e w' => e = .returned (.string DG) ∧ Fr (fun _ => False) w w' from fun w => by
          rw [hBT, hDG]; exact ref_sum _ (by have := HTl.out; rw [List.length_append, xorB_length, HK6.out]; omega) w)
        have HR2 := Lib.hid (show ∀ w, Calls Try.prog 31 #[.string AD] w fun e w' => e = .returned (.string (str (tagK k64 txt))) ∧ Fr (fun _ => False) w w' from fun w => by
          rw [hAD]; exact ref_sum _ (by rw [List.length_append, xorB_length, HK6.out, dig_length]; omega) w)
        clear hSA hSB hBT hDG hAD hk64 hfull
        go_wp2
        refine wp_region_till (fun W => W.heap[A]? = some (.cells (bcells (xorB 92 k64)).toArray 118 (0, 0)) ∧ W.heap[B]? = some (.cells (bcells (xorB 54 k64)).toArray 118 (0, 0))) 8 (by kernel_rfl) ?_
        have HS := Lib.hid (And.intro HAz.out HBz.out)
        generalize wr.drew = wy at HS HFd HAz HBz ⊢
        refine wpAnyT_take (i := 0) (n := 8) (v := .slice (some ⟨A, 0, none⟩) 64 64) rfl (by kernel_rfl) (fun _ _ _ h => h) HS.out (yieldsIf_plain rfl (fun W hW => by clear hW; go_simp)) ?_
        simp only [List.getElem_toArray, List.getElem_cons_succ, List.getElem_cons_zero, Act.put, List.setIfInBounds_toArray, List.set_cons_zero, List.set_cons_succ]
        refine wpAnyT_take (i := 1) (n := 8) (v := .string SA) rfl (by kernel_rfl) (fun _ _ _ h => h) HS.out (yieldsIf_plain rfl (fun W hW => by have hcv := run_convert_str (P := Try.prog) W 27 5 Try.underlying27 Try.underlying5 A 0 64 64 (xorB 92 k64) (by rw [xorB_length]; exact HK6.out) (fun j v hj => by rw [Nat.zero_add, cell_of_row W A j _ _ _ hW.1]; simpa using hj) 9 Try.underlying9; rw [← HSA.out] at hcv; clear hW; go_simp)) ?_
        simp only [List.getElem_toArray, List.getElem_cons_succ, List.getElem_cons_zero, Act.put, List.setIfInBounds_toArray, List.set_cons_zero, List.set_cons_succ]
        refine wpAnyT_take (i := 2) (n := 8) (v := .slice (some ⟨B, 0, none⟩) 64 64) rfl (by kernel_rfl) (fun _ _ _ h => h) HS.out (yieldsIf_plain rfl (fun W hW => by clear hW; go_simp)) ?_
        simp only [List.getElem_toArray, List.getElem_cons_succ, List.getElem_cons_zero, Act.put, List.setIfInBounds_toArray, List.set_cons_zero, List.set_cons_succ]
        refine wpAnyT_take (i := 3) (n := 8) (v := .string SB) rfl (by kernel_rfl) (fun _ _ _ h => h) HS.out (yieldsIf_plain rfl (fun W hW => by have hcv := run_convert_str (P := Try.prog) W 27 5 Try.underlying27 Try.underlying5 B 0 64 64 (xorB 54 k64) (by rw [xorB_length]; exact HK6.out) (fun j v hj => by rw [Nat.zero_add, cell_of_row W B j _ _ _ hW.2]; simpa using hj) 9 Try.underlying9; rw [← HSB.out] at hcv; clear hW; go_simp)) ?_
        simp only [List.getElem_toArray, List.getElem_cons_succ, List.getElem_cons_zero, Act.put, List.setIfInBounds_toArray, List.set_cons_zero, List.set_cons_succ]
        refine wpAnyT_take (i := 4) (n := 8) (v := .string TX) rfl (by kernel_rfl) (fun _ _ _ h => h) HS.out (yieldsIf_plain rfl (fun W hW => by clear hW; go_simp)) ?_
        simp only [List.getElem_toArray, List.getElem_cons_succ, List.getElem_cons_zero, Act.put, List.setIfInBounds_toArray, List.set_cons_zero, List.set_cons_succ]
        refine wpAnyT_take (i := 5) (n := 8) (v := .string BT) rfl (by kernel_rfl) (fun _ _ _ h => h) HS.out (yieldsIf_plain rfl (fun W hW => by clear hW; go_simp)) ?_
        simp only [List.getElem_toArray, List.getElem_cons_succ, List.getElem_cons_zero, Act.put, List.setIfInBounds_toArray, List.set_cons_zero, List.set_cons_succ]
        refine wpAnyT_one (i := 6) rfl (by kernel_rfl) (wpOp_plain rfl rfl (fun K hK => ?_))
        simp only [List.getElem_toArray, List.getElem_cons_succ, List.getElem_cons_zero, Act.put, List.setIfInBounds_toArray, List.set_cons_zero, List.set_cons_succ]
        have HKK := Lib.hid hK
        clear hK
        go_wp2_with fail
        refine (HR1.out wy).mono ?_
        rintro e w5 ⟨rfl, h5⟩
        have HS5 := Lib.hid (show w5.heap[A]? = some (.cells (bcells (xorB 92 k64)).toArray 118 (0, 0)) ∧ w5.heap[B]? = some (.cells (bcells (xorB 54 k64)).toArray 118 (0, 0)) from ⟨h5.heap HS.out.1 id, h5.heap HS.out.2 id⟩)
        have HF5 := Lib.hid (HFd.out.trans h5 (fun i hi => hi.elim))
        clear h5
        go_wp2_with fail
        refine HKK.out _ _ ⟨fun _ => HS5.out, ?_⟩
        clear HKK K
        try simp only [List.getElem_toArray, List.getElem_cons_succ, List.getElem_cons_zero, Act.put, List.setIfInBounds_toArray, List.set_cons_zero, List.set_cons_succ]
        refine wpAnyT_take (i := 7) (n := 8) (v := .string AD) rfl (by kernel_rfl) (fun _ _ _ h => h) HS5.out (yieldsIf_plain rfl (fun W hW => by clear hW; go_simp)) ?_
        simp only [List.getElem_toArray, List.getElem_cons_succ, List.getElem_cons_zero, Act.put, List.setIfInBounds_toArray, List.set_cons_zero, List.set_cons_succ]
        refine wpAnyT_of_any trivial [8, 9] _ _ _ _ (by kernel_rfl) (by simp) (.inr rfl) ?_
        simp only [List.filterMap_cons, List.filterMap_nil, List.getElem?_toArray, List.getElem?_cons_zero, List.getElem?_cons_succ]
        go_wp2_with fail
        refine (HR2.out w5).mono ?_
        rintro e w6 ⟨rfl, h6⟩
        have HF6 := Lib.hid (HF5.out.trans h6 (fun i hi => hi.elim))
        clear h6
        go_wp2_with fail
        go_ret
        have htag : tagK k64 txt = tag key txt := by unfold tag; rw [HKN.out, HKP.out]
        exact ⟨by rw [← htag]; rfl, HF6.out⟩
  · obtain ⟨k, hkd⟩ : ∃ k, k = key := ⟨_, rfl⟩
    have HKN := Lib.hid (show keyN key = k by rw [hkd]; unfold keyN; rw [if_neg hl])
    have HKL := Lib.hid (show k.length ≤ 64 by rw [hkd]; omega)
    obtain ⟨KS, hKS⟩ : ∃ s, s = KS0 := ⟨_, rfl⟩
    have HKS := Lib.hid (show KS = str k by rw [hKS, hKS0, hkd])
    have hd : decide ((64 : Int) < (KS.size : Int)) = false := decide_eq_false (by rw [hKS]; omega)
    rw [← hKS0, ← hTX, ← hKS]
    have HF := Lib.hid (Fr.refl (fun _ => False) w)
    clear hKS0 hTX hks0 hl hkd hKS hk ht
    go_enter Try.func35, Try.ntmps35
    obtain ⟨kl, hkl⟩ : ∃ n, n = k.length := ⟨_, rfl⟩
    have hks : KS.size = kl := by rw [HKS.out, str_size, hkl]
    have HKLn := Lib.hid hkl
    have hkl64 : kl ≤ 64 := by rw [hkl]; exact HKL.out
    have hA0 := heap_alloc_new w (.cells (bcells (List.replicate 64 0)).toArray 118)
    have hB0 := heap_alloc_new (w.alloc (.cells (bcells (List.replicate 64 0)).toArray 118)) (.cells (bcells (List.replicate 64 0)).toArray 118)
    have hfA : Fr (fun _ => False) w (w.alloc (.cells (bcells (List.replicate 64 0)).toArray 118)) := (Fr.refl _ _).alloc _
    have hfB : Fr (fun _ => False) w ((w.alloc (.cells (bcells (List.replicate 64 0)).toArray 118)).alloc (.cells (bcells (List.replicate 64 0)).toArray 118)) := hfA.alloc _
    have hA1 := ((Fr.refl (fun _ => False) (w.alloc (.cells (bcells (List.replicate 64 0)).toArray 118))).alloc (.cells (bcells (List.replicate 64 0)).toArray 118)).heap hA0 id
    rw [World.size_alloc] at hB0
    clear hkl
    go_wp2
    change Code.wp _ _ _ _ ((w.alloc (.cells (bcells (List.replicate 64 0)).toArray 118)).alloc (.cells (bcells (List.replicate 64 0)).toArray 118))
    generalize (w.alloc (.cells (bcells (List.replicate 64 0)).toArray 118)).alloc (.cells (bcells (List.replicate 64 0)).toArray 118) = w4 at hA1 hB0 hfB ⊢
    obtain ⟨A, hA⟩ : ∃ A, A = w.heap.size := ⟨_, rfl⟩
    obtain ⟨B, hB⟩ : ∃ B, B = w.heap.size + 1 := ⟨_, rfl⟩
    rw [← hB] at hB0
    rw [← hA] at hA1
    rw [← hB, ← hA]
    have HA0 := Lib.hid hA1
    have HB0 := Lib.hid hB0
    have HF4 := Lib.hid (HF.out.trans hfB (fun i hi => hi.elim))
    have HNE := Lib.hid (show A ≠ B ∧ w.heap.size ≤ A ∧ w.heap.size ≤ B by have := HF.out.size; omega)
    clear hA0 hfA hA1 hB0 hfB hA hB
    go_loopw [7] (fun v wr => ∃ i : Nat, i ≤ 64 ∧ v = .int .i64 i ∧ wr.heap[A]? = some (.cells (bcells (upd (turnF k 92) (List.replicate 64 0) i)).toArray 118 (0, 0)) ∧ wr.heap[B]? = some (.cells (bcells (upd (turnF k 54) (List.replicate 64 0) i)).toArray 118 (0, 0)) ∧ Fr (fun _ => False) w wr) (fun v _ => 64 - (intOf v).toNat)
    case atStart => exact ⟨0, Nat.zero_le _, rfl, by rw [upd_zero]; exact HA0.out, by rw [upd_zero]; exact HB0.out, HF4.out⟩
    case round =>
      obtain ⟨i, hi, rfl, hAl, hBl, hf⟩ := hrel
      have HA := Lib.hid hAl
      have HB := Lib.hid hBl
      have HFr := Lib.hid hf
      clear hAl hBl hf HA0 HB0 HF4
      by_cases hlt : i < 64
      · have hx64 : (i : Int) < 64 := by omega
        obtain ⟨x, hx⟩ : ∃ x, x = k.getD i 0 := ⟨_, rfl⟩
        obtain ⟨y, hy⟩ : ∃ y, y = x ^^^ 92 := ⟨_, rfl⟩
        obtain ⟨z, hz⟩ : ∃ z, z = x ^^^ 54 := ⟨_, rfl⟩
        have cA : wr.cell? ⟨A, i, none⟩ = some (.int .u8 ((0 : UInt8).toNat : Int)) := bcells_cell HA.out i 0 (by rw [upd_get _ _ _ _ (by simp; omega), if_neg (by omega), List.getD_eq_getElem?_getD, List.getElem?_replicate, if_pos hlt]; rfl)
        have cB : wr.cell? ⟨B, i, none⟩ = some (.int .u8 ((0 : UInt8).toNat : Int)) := bcells_cell HB.out i 0 (by rw [upd_get _ _ _ _ (by simp; omega), if_neg (by omega), List.getD_eq_getElem?_getD, List.getElem?_replicate, if_pos hlt]; rfl)
        have fA : wr.frozen? ⟨A, i, none⟩ = false := frozen_of_row wr _ _ _ _ HA.out
        have hA2 : (wr.setCell ⟨A, i, none⟩ (.int .u8 (y.toNat : Int))).heap[A]? = some (.cells (bcells (upd (turnF k 92) (List.replicate 64 0) (i + 1))).toArray 118 (0, 0)) := by
          rw [← upd_set _ _ _ (by simp; omega), show turnF k 92 i = y by rw [hy, hx]; rfl]
          exact bcells_set HA.out i y
        have hfA : Fr (fun j => j = A) wr (wr.setCell ⟨A, i, none⟩ (.int .u8 (y.toNat : Int))) := (Fr.refl _ _).setCell _ _ (.inl rfl)
        have hB2 : (wr.setCell ⟨A, i, none⟩ (.int .u8 (y.toNat : Int))).heap[B]? = some (.cells (bcells (upd (turnF k 54) (List.replicate 64 0) i)).toArray 118 (0, 0)) := hfA.heap HB.out (Ne.symm HNE.out.1)
        have cB2 : (wr.setCell ⟨A, i, none⟩ (.int .u8 (y.toNat : Int))).cell? ⟨B, i, none⟩ = some (.int .u8 ((0 : UInt8).toNat : Int)) := hfA.cell cB (Ne.symm HNE.out.1)
        have fB2 : (wr.setCell ⟨A, i, none⟩ (.int .u8 (y.toNat : Int))).frozen? ⟨B, i, none⟩ = false := frozen_of_row _ _ _ _ _ hB2
        have HB3 := Lib.hid (show ((wr.setCell ⟨A, i, none⟩ (.int .u8 (y.toNat : Int))).setCell ⟨B, i, none⟩ (.int .u8 (z.toNat : Int))).heap[B]? = some (.cells (bcells (upd (turnF k 54) (List.replicate 64 0) (i + 1))).toArray 118 (0, 0)) by
          rw [← upd_set _ _ _ (by simp; omega), show turnF k 54 i = z by rw [hz, hx]; rfl]
          exact bcells_set hB2 i z)
        have hfB : Fr (fun j => j = B) (wr.setCell ⟨A, i, none⟩ (.int .u8 (y.toNat : Int))) ((wr.setCell ⟨A, i, none⟩ (.int .u8 (y.toNat : Int))).setCell ⟨B, i, none⟩ (.int .u8 (z.toNat : Int))) := (Fr.refl _ _).setCell _ _ (.inl rfl)
        have HA3 := Lib.hid (hfB.heap hA2 HNE.out.1)
        have HF3 := Lib.hid ((HFr.out.setCell ⟨A, i, none⟩ (.int .u8 (y.toNat : Int)) (.inr HNE.out.2.1)).setCell ⟨B, i, none⟩ (.int .u8 (z.toNat : Int)) (.inr HNE.out.2.2))
        have bx := x.toNat_lt
        have by' := y.toNat_lt
        have bz := z.toNat_lt
        clear hA2 hfA hB2 hfB
        by_cases hl : i < kl
        · have hdl : (i : Int) < (kl : Int) := by omega
          have hxs : ∀ h, KS[i]'h = x := by
            intro h
            have hk := HKS.out
            subst hk
            rw [str_at32, hx]
          have e1 : bits .xor .u8 (x.toNat : Int) 92 = (y.toNat : Int) := by rw [hy]; exact xor_u8 x 92
          have e2 : bits .xor .u8 (x.toNat : Int) 54 = (z.toNat : Int) := by rw [hz]; exact xor_u8 x 54
          clear hx hy hz
          go_wp2
          go_roundw
          case rel => exact ⟨i + 1, by omega, by go_num, HA3.out, HB3.out, HF3.out⟩
          case measure => simp [intOf]; omega
        · have hdl : ¬ (i : Int) < (kl : Int) := by omega
          have hx0 : x = 0 := by rw [hx, List.getD_eq_getElem?_getD, List.getElem?_eq_none (by rw [← HKLn.out]; omega)]; rfl
          have e1 : bits .xor .u8 0 92 = (y.toNat : Int) := by rw [hy, hx0]; exact xor_u8 0 92
          have e2 : bits .xor .u8 0 54 = (z.toNat : Int) := by rw [hz, hx0]; exact xor_u8 0 54
          clear hx hy hz hx0
          go_wp2
          go_roundw
          case rel => exact ⟨i + 1, by omega, by go_num, HA3.out, HB3.out, HF3.out⟩
          case measure => simp [intOf]; omega
      · have h64 : i = 64 := by omega
        subst h64
        obtain ⟨k64, hk64⟩ : ∃ l, l = padK k := ⟨_, rfl⟩
        have hfull : ∀ b, full (turnF k b) 64 = xorB b k64 := fun b => by
          rw [hk64, ← turnF_full (padK k) b 64 (padK_length k HKL.out)]
          refine full_ext64 fun p hp => ?_
          unfold turnF
          rw [padK_get k p]
        have HAz := Lib.hid (show wr.drew.heap[A]? = some (.cells (bcells (xorB 92 k64)).toArray 118 (0, 0)) by rw [← hfull]; have := HA.out; rwa [upd_all _ _ 64 (by simp)] at this)
        have HBz := Lib.hid (show wr.drew.heap[B]? = some (.cells (bcells (xorB 54 k64)).toArray 118 (0, 0)) by rw [← hfull]; have := HB.out; rwa [upd_all _ _ 64 (by simp)] at this)
        have HK6 := Lib.hid (show k64.length = 64 by rw [hk64]; exact padK_length k HKL.out)
        have HKP := Lib.hid hk64
        have HFd := Lib.hid (show Fr (fun _ => False) w wr.drew from HFr.out.drew)
        obtain ⟨SA, hSA⟩ : ∃ s, s = str (xorB 92 k64) := ⟨_, rfl⟩
        obtain ⟨SB, hSB⟩ : ∃ s, s = str (xorB 54 k64) := ⟨_, rfl⟩
        obtain ⟨BT, hBT⟩ : ∃ s, s = str (xorB 54 k64 ++ txt) := ⟨_, rfl⟩
        obtain ⟨DG, hDG⟩ : ∃ s, s = str (dig (xorB 54 k64 ++ txt)) := ⟨_, rfl⟩
        obtain ⟨AD, hAD⟩ : ∃ s, s = str (xorB 92 k64 ++ dig (xorB 54 k64 ++ txt)) := ⟨_, rfl⟩
        have HSA := Lib.hid hSA
        have HSB := Lib.hid hSB
        have ha1 : SB ++ TX = BT := by rw [hSB, HTX.out, jstr_append, hBT]
        have ha2 : SA ++ DG = AD := by rw [hSA, hDG, jstr_append, hAD]
        have hs1 : SB.size = 64 := by rw [hSB, str_size, xorB_length, HK6.out]
        have hs2 : SA.size = 64 := by rw [hSA, str_size, xorB_length, HK6.out]
        have hs3 : DG.size = 32 := by rw [hDG, str_size, dig_length]
        have hs4 : TX.size ≤ 80000 := by rw [HTX.out, str_size]; exact HTl.out
        have hb1 : ¬ 9223372036854775807 < SB.size + TX.size := by omega
        have hb2 : 64 + TX.size ≤ 9223372036854775807 := by omega
        have hb3 : SB.size + TX.size ≤ 9223372036854775807 := by omega
        have HR1 := Lib.hid (show ∀ w, Calls Try.prog 31 #[.string BT] w fun e w' => e = .returned (.string DG) ∧ Fr (fun _ => False) w w' from fun w => by
          rw [hBT, hDG]; exact ref_sum _ (by have := HTl.out; rw [List.length_append, xorB_length, HK6.out]; omega) w)
        have HR2 := Lib.hid (show ∀ w, Calls Try.prog 31 #[.string AD] w fun e w' => e = .returned (.string (str (tagK k64 txt))) ∧ Fr (fun _ => False) w w' from fun w => by
          rw [hAD]; exact ref_sum _ (by rw [List.length_append, xorB_length, HK6.out, dig_length]; omega) w)
        clear hSA hSB hBT hDG hAD hk64 hfull
        go_wp2
        refine wp_region_till (fun W => W.heap[A]? = some (.cells (bcells (xorB 92 k64)).toArray 118 (0, 0)) ∧ W.heap[B]? = some (.cells (bcells (xorB 54 k64)).toArray 118 (0, 0))) 8 (by kernel_rfl) ?_
        have HS := Lib.hid (And.intro HAz.out HBz.out)
        generalize wr.drew = wy at HS HFd HAz HBz ⊢
        refine wpAnyT_take (i := 0) (n := 8) (v := .slice (some ⟨A, 0, none⟩) 64 64) rfl (by kernel_rfl) (fun _ _ _ h => h) HS.out (yieldsIf_plain rfl (fun W hW => by clear hW; go_simp)) ?_
        simp only [List.getElem_toArray, List.getElem_cons_succ, List.getElem_cons_zero, Act.put, List.setIfInBounds_toArray, List.set_cons_zero, List.set_cons_succ]
        refine wpAnyT_take (i := 1) (n := 8) (v := .string SA) rfl (by kernel_rfl) (fun _ _ _ h => h) HS.out (yieldsIf_plain rfl (fun W hW => by have hcv := run_convert_str (P := Try.prog) W 27 5 Try.underlying27 Try.underlying5 A 0 64 64 (xorB 92 k64) (by rw [xorB_length]; exact HK6.out) (fun j v hj => by rw [Nat.zero_add, cell_of_row W A j _ _ _ hW.1]; simpa using hj) 9 Try.underlying9; rw [← HSA.out] at hcv; clear hW; go_simp)) ?_
        simp only [List.getElem_toArray, List.getElem_cons_succ, List.getElem_cons_zero, Act.put, List.setIfInBounds_toArray, List.set_cons_zero, List.set_cons_succ]
        refine wpAnyT_take (i := 2) (n := 8) (v := .slice (some ⟨B, 0, none⟩) 64 64) rfl (by kernel_rfl) (fun _ _ _ h => h) HS.out (yieldsIf_plain rfl (fun W hW => by clear hW; go_simp)) ?_
        simp only [List.getElem_toArray, List.getElem_cons_succ, List.getElem_cons_zero, Act.put, List.setIfInBounds_toArray, List.set_cons_zero, List.set_cons_succ]
        refine wpAnyT_take (i := 3) (n := 8) (v := .string SB) rfl (by kernel_rfl) (fun _ _ _ h => h) HS.out (yieldsIf_plain rfl (fun W hW => by have hcv := run_convert_str (P := Try.prog) W 27 5 Try.underlying27 Try.underlying5 B 0 64 64 (xorB 54 k64) (by rw [xorB_length]; exact HK6.out) (fun j v hj => by rw [Nat.zero_add, cell_of_row W B j _ _ _ hW.2]; simpa using hj) 9 Try.underlying9; rw [← HSB.out] at hcv; clear hW; go_simp)) ?_
        simp only [List.getElem_toArray, List.getElem_cons_succ, List.getElem_cons_zero, Act.put, List.setIfInBounds_toArray, List.set_cons_zero, List.set_cons_succ]
        refine wpAnyT_take (i := 4) (n := 8) (v := .string TX) rfl (by kernel_rfl) (fun _ _ _ h => h) HS.out (yieldsIf_plain rfl (fun W hW => by clear hW; go_simp)) ?_
        simp only [List.getElem_toArray, List.getElem_cons_succ, List.getElem_cons_zero, Act.put, List.setIfInBounds_toArray, List.set_cons_zero, List.set_cons_succ]
        refine wpAnyT_take (i := 5) (n := 8) (v := .string BT) rfl (by kernel_rfl) (fun _ _ _ h => h) HS.out (yieldsIf_plain rfl (fun W hW => by clear hW; go_simp)) ?_
        simp only [List.getElem_toArray, List.getElem_cons_succ, List.getElem_cons_zero, Act.put, List.setIfInBounds_toArray, List.set_cons_zero, List.set_cons_succ]
        refine wpAnyT_one (i := 6) rfl (by kernel_rfl) (wpOp_plain rfl rfl (fun K hK => ?_))
        simp only [List.getElem_toArray, List.getElem_cons_succ, List.getElem_cons_zero, Act.put, List.setIfInBounds_toArray, List.set_cons_zero, List.set_cons_succ]
        have HKK := Lib.hid hK
        clear hK
        go_wp2_with fail
        refine (HR1.out wy).mono ?_
        rintro e w5 ⟨rfl, h5⟩
        have HS5 := Lib.hid (show w5.heap[A]? = some (.cells (bcells (xorB 92 k64)).toArray 118 (0, 0)) ∧ w5.heap[B]? = some (.cells (bcells (xorB 54 k64)).toArray 118 (0, 0)) from ⟨h5.heap HS.out.1 id, h5.heap HS.out.2 id⟩)
        have HF5 := Lib.hid (HFd.out.trans h5 (fun i hi => hi.elim))
        clear h5
        go_wp2_with fail
        refine HKK.out _ _ ⟨fun _ => HS5.out, ?_⟩
        clear HKK K
        try simp only [List.getElem_toArray, List.getElem_cons_succ, List.getElem_cons_zero, Act.put, List.setIfInBounds_toArray, List.set_cons_zero, List.set_cons_succ]
        refine wpAnyT_take (i := 7) (n := 8) (v := .string AD) rfl (by kernel_rfl) (fun _ _ _ h => h) HS5.out (yieldsIf_plain rfl (fun W hW => by clear hW; go_simp)) ?_
        simp only [List.getElem_toArray, List.getElem_cons_succ, List.getElem_cons_zero, Act.put, List.setIfInBounds_toArray, List.set_cons_zero, List.set_cons_succ]
        refine wpAnyT_of_any trivial [8, 9] _ _ _ _ (by kernel_rfl) (by simp) (.inr rfl) ?_
        simp only [List.filterMap_cons, List.filterMap_nil, List.getElem?_toArray, List.getElem?_cons_zero, List.getElem?_cons_succ]
        go_wp2_with fail
        refine (HR2.out w5).mono ?_
        rintro e w6 ⟨rfl, h6⟩
        have HF6 := Lib.hid (HF5.out.trans h6 (fun i hi => hi.elim))
        clear h6
        go_wp2_with fail
        go_ret
        have htag : tagK k64 txt = tag key txt := by unfold tag; rw [HKN.out, HKP.out]
        exact ⟨by rw [← htag]; rfl, HF6.out⟩
end Go.Proofs.Ytcchhfkmhbjdmaa
/-! Ju -/
set_option linter.unusedVariables false
set_option linter.unusedSimpArgs false
set_option pp.deepTerms true
set_option pp.maxSteps 100000
namespace Go.Proofs.Ytcchhfkmhbjdmaa
open Go.RowKit
set_option maxRecDepth 20000 in
set_option maxHeartbeats 400000 in
theorem ref_derive_no (a b c : ByteArray) (n : Int) (hn : n < 0 ∨ 8160 < n) (w : World) :
    Calls Try.prog 37 #[.string a, .string b, .string c, .int .i64 n] w fun e w' => e = .returned (.tuple #[.string ⟨#[]⟩, .int .i64 1]) ∧ w = w' := by
  have HN := Lib.hid hn
  clear hn
  by_cases h0 : n < 0
  · have d1 : decide (n < 0) = true := decide_eq_true h0
    clear h0
    go_enter Try.func37, Try.ntmps37
    go_wp2_with fail
    go_ret2
    exact ⟨rfl, rfl⟩
  · have d1 : decide (n < 0) = false := decide_eq_false h0
    have d2 : decide (8160 < n) = true := decide_eq_true (by have := HN.out; omega)
    clear h0
    go_enter Try.func37, Try.ntmps37
    go_wp2_with fail
    go_ret2
    exact ⟨rfl, rfl⟩
set_option maxRecDepth 20000 in
set_option maxHeartbeats 400000 in
theorem ref_derive (salt secret info : List UInt8) (n : Nat) (hn : n ≤ 8160) (h1 : salt.length ≤ 70000) (h2 : secret.length ≤ 70000) (h3 : info.length ≤ 70000) (w : World) :
    Calls Try.prog 37 #[.string (str salt), .string (str secret), .string (str info), .int .i64 (n : Int)] w fun e w' => e = .returned (.tuple #[.string (str (derive salt secret info n)), .int .i64 0]) ∧ Fr (fun _ => False) w w' := by
  obtain ⟨A, hA⟩ : ∃ s, s = str salt := ⟨_, rfl⟩
  obtain ⟨B, hB⟩ : ∃ s, s = str secret := ⟨_, rfl⟩
  obtain ⟨C, hC⟩ : ∃ s, s = str info := ⟨_, rfl⟩
  obtain ⟨p, hp⟩ : ∃ p, p = tag salt secret := ⟨_, rfl⟩
  obtain ⟨PS, hPS⟩ : ∃ s, s = str p := ⟨_, rfl⟩
  have HTag := Lib.hid (show ∀ w : World, Calls Try.prog 35 #[.string A, .string B] w fun e w' => e = .returned (.string PS) ∧ Fr (fun _ => False) w w' from fun w => by
    rw [hA, hB, hPS, hp]; exact ref_tag salt secret (by omega) (by omega) w)
  have HCl := Lib.hid (show C.size ≤ 70000 by rw [hC, str_size]; omega)
  have HTagK := Lib.hid (show ∀ (k : Nat) (L X Y : ByteArray) (w : World), L = str (drvB p info k) → X = str [UInt8.ofNat (k + 1)] → Y = (L ++ C) ++ X → Calls Try.prog 35 #[.string PS, .string Y] w fun e w' => e = .returned (.string (str (drvB p info (k + 1)))) ∧ Fr (fun _ => False) w w' from fun k L X Y w hL hX hY => by
    have hb := drvB_length p info k
    rw [hPS, hY, hL, hC, hX, jstr_append, jstr_append, drvB, show ([drvB p info k, info, [UInt8.ofNat (k + 1)]] : List (List UInt8)).flatten = (drvB p info k ++ info) ++ [UInt8.ofNat (k + 1)] by simp]
    exact ref_tag p _ (by rw [hp, tag_length]; omega) (by simp; omega) w)
  have HP := Lib.hid hp
  have HN := Lib.hid hn
  have d1 : decide ((n : Int) < 0) = false := decide_eq_false (by omega)
  have d2 : decide ((8160 : Int) < (n : Int)) = false := decide_eq_false (by omega)
  rw [← hA, ← hB, ← hC]
  clear hA hB hC hp hPS h1 h2 h3
  go_enter Try.func37, Try.ntmps37
  go_wp2_with fail
  refine (HTag.out w).mono ?_
  rintro e w1 ⟨rfl, hf1⟩
  have HF1 := Lib.hid hf1
  clear hf1 HTag
  go_wp2_with fail
  go_loopw [11, 12, 13] (fun v11 v12 v13 wr => ∃ k : Nat, k ≤ (n + 31) / 32 ∧ v11 = .string (str (drvO p info k)) ∧ v12 = .string (str (drvB p info k)) ∧ v13 = .int .i64 ((k : Int) + 1) ∧ Fr (fun _ => False) w wr) (fun _ _ v _ => (n + 31) / 32 + 1 - (intOf v).toNat)
  case atStart => exact ⟨0, Nat.zero_le _, rfl, rfl, rfl, HF1.out⟩
  case round =>
    obtain ⟨k, hk, rfl, rfl, rfl, hf⟩ := hrel
    have HF := Lib.hid hf
    clear hf HF1
    obtain ⟨L, hL⟩ : ∃ s, s = str (drvB p info k) := ⟨_, rfl⟩
    obtain ⟨O, hO⟩ : ∃ s, s = str (drvO p info k) := ⟨_, rfl⟩
    obtain ⟨m, hm⟩ : ∃ m, m = 32 * k := ⟨_, rfl⟩
    have hOs : O.size = m := by rw [hO, str_size, drvO_length, hm]
    rw [← hL, ← hO]
    have HL := Lib.hid hL
    have HO := Lib.hid hO
    have HM := Lib.hid hm
    clear hL hO
    have hn' := HN.out
    by_cases hlt : m < n
    · have hd : decide ((m : Int) < (n : Int)) = true := decide_eq_true (by omega)
      have hdm : (m : Int) < (n : Int) := by omega
      obtain ⟨x, hx⟩ : ∃ x, x = UInt8.ofNat (k + 1) := ⟨_, rfl⟩
      have e1 : ((k : Int) + 1) % 256 = (x.toNat : Int) := by rw [hx]; exact u8_num k
      have e2 : IntKind.u8.wrap ((k : Int) + 1) = (x.toNat : Int) := by rw [IntKind.wrap_u8', e1]
      obtain ⟨X, hX⟩ : ∃ s, s = str [x] := ⟨_, rfl⟩
      have hcv := run_convert_str (P := Try.prog) (wr.alloc (.cells #[.int .u8 (x.toNat : Int)] 5)) 27 5 Try.underlying27 Try.underlying5 wr.heap.size 0 1 1 [x] rfl (fun j v hj => by
        rw [Nat.zero_add, cell_of_row _ wr.heap.size j _ _ _ (heap_alloc_new wr _)]; simpa [bcells] using hj) 9 Try.underlying9
      rw [← hX] at hcv
      obtain ⟨Y1, hY1⟩ : ∃ s, s = L ++ C := ⟨_, rfl⟩
      obtain ⟨Y, hY⟩ : ∃ s, s = Y1 ++ X := ⟨_, rfl⟩
      have hap1 : L ++ C = Y1 := hY1.symm
      have hap2 : Y1 ++ X = Y := hY.symm
      have hLs : L.size ≤ 32 := by rw [HL.out, str_size]; exact drvB_length _ _ _
      have hXs : X.size = 1 := by rw [hX, str_size]; rfl
      have hCs := HCl.out
      have hY1s : Y1.size = L.size + C.size := by rw [hY1, ByteArray.size_append]
      have hz1 : ¬ 9223372036854775807 < L.size + C.size := by omega
      have hz2 : L.size + C.size ≤ 9223372036854775807 := by omega
      have hz3 : ¬ 9223372036854775807 < Y1.size + X.size := by omega
      have hz4 : Y1.size + X.size ≤ 9223372036854775807 := by omega
      have hz5 : Y1.size + 1 ≤ 9223372036854775807 := by omega
      have HTk := Lib.hid (HTagK.out k L X Y (wr.alloc (.cells #[.int .u8 (x.toNat : Int)] 5)) HL.out (by rw [hX, hx]) (by rw [hY, hY1]))
      clear hY1 hY hY1s hCs hLs
      obtain ⟨L2, hL2⟩ : ∃ s, s = str (drvB p info (k + 1)) := ⟨_, rfl⟩
      rw [← hL2] at HTk
      have hap : O ++ L2 = str (drvO p info (k + 1)) := by rw [HO.out, hL2, jstr_append]; rfl
      have hsz2 : L2.size = 32 := by rw [hL2, str_size, drvB, tag_length]
      have hsb : ¬ 9223372036854775807 < O.size + L2.size := by omega
      have hsb2 : m + L2.size ≤ 9223372036854775807 := by omega
      have HAP := Lib.hid hap
      have HL2 := Lib.hid hL2
      have bx := x.toNat_lt
      have hk8 : k + 1 ≤ (n + 31) / 32 := by omega
      have hwk : IntKind.i64.wrap ((k : Int) + 1 + 1) = (k : Int) + 1 + 1 := IntWalk.i64_in _ (by omega)
      clear hx hX hL2 hap hlt hm
      go_wp2_with fail
      refine HTk.out.mono ?_
      rintro e w2 ⟨rfl, hf2⟩
      have HF2 := Lib.hid ((HF.out.alloc (.cells #[.int .u8 (x.toNat : Int)] 5)).trans hf2 (fun i hi => hi.elim))
      clear hf2
      go_wp2_with fail
      go_roundw
      case rel => exact ⟨k + 1, hk8, by rw [HAP.out], by rw [HL2.out], by go_num, HF2.out⟩
      case measure => simp [intOf]; omega
    · have hd : decide ((m : Int) < (n : Int)) = false := decide_eq_false (by omega)
      have hdm : ¬ (m : Int) < (n : Int) := by omega
      have hkk : k = (n + 31) / 32 := by omega
      have hx1 : O.extract 0 n = str (derive salt secret info n) := by
        rw [HO.out, jstr_take, hkk]; unfold derive; rw [← HP.out]
      have hnm : n ≤ m := by omega
      have hnm2 : (n : Int) ≤ (m : Int) := by omega
      clear hkk hlt hm
      go_wp2_with fail
      go_ret2
      exact ⟨rfl, HF.out⟩
end Go.Proofs.Ytcchhfkmhbjdmaa
