/- GcmField: the law's walk. -/
import Derived.Test.YtcchhfkmhbjdmaaPgD
set_option linter.unusedVariables false
set_option linter.unusedSimpArgs false
set_option pp.deepTerms true
set_option pp.maxSteps 100000
namespace Go.Proofs.Ytcchhfkmhbjdmaa
open Go.RowKit
theorem prodL_length (a b : List UInt8) : (prodL a b).length = 16 := text_length _
theorem prodL_comm (a b : List UInt8) : prodL a b = prodL b a := by unfold prodL; rw [W2.times_comm]
theorem prodL_assoc (a b c : List UInt8) : prodL (prodL a b) c = prodL a (prodL b c) := by unfold prodL; rw [load_text, load_text, W2.times_assoc]
theorem prodL_xor (a b c : List UInt8) (hb : b.length = 16) (hc : c.length = 16) : prodL a (xorG b c) = xorG (prodL a b) (prodL a c) := by
  unfold prodL; rw [load_xorG b c hb hc, W2.times_xr_right, text_xr]
theorem prodL_one (a : List UInt8) (ha : a.length = 16) : prodL a (128 :: List.replicate 15 0) = a := by
  unfold prodL
  rw [show loadL (128 :: List.replicate 15 0) = W2.one by decide +kernel, W2.times_one, text_load a ha]
theorem xorG_get (a b : List UInt8) (i : Nat) (ha : i < a.length) (hb : i < b.length) : (xorG a b).getD i 0 = a.getD i 0 ^^^ b.getD i 0 := by
  unfold xorG
  rw [List.getD_eq_getElem?_getD, List.getElem?_eq_getElem (by simp; omega), List.getD_eq_getElem?_getD, List.getD_eq_getElem?_getD, List.getElem?_eq_getElem ha, List.getElem?_eq_getElem hb, List.getElem_zipWith]
  rfl
set_option maxRecDepth 20000 in
set_option maxHeartbeats 2000000 in
theorem field_no (A B C : ByteArray) (h : A.size ≠ 16 ∨ B.size ≠ 16 ∨ C.size ≠ 16) (w : World) : Calls Try.prog 13 #[.string A, .string B, .string C] w fun e w' => e = .returned (.bool true) ∧ Fr (fun _ => False) w w' := by
  have HAW := Lib.hid (gcm_awake w)
  by_cases ha : A.size = 16
  · have a1 : ((A.size : Int) != 16) = false := by rw [ha]; rfl
    have a2 : ((A.size : Int) == 16) = true := by rw [ha]; rfl
    by_cases hb : B.size = 16
    · have b1 : ((B.size : Int) != 16) = false := by rw [hb]; rfl
      have b2 : ((B.size : Int) == 16) = true := by rw [hb]; rfl
      have c1 : ((C.size : Int) != 16) = true := by simp; omega
      obtain ⟨la, hla⟩ : ∃ l, A = str l := ⟨A.data.toList, by apply ByteArray.ext; simp [str]⟩
      obtain ⟨lb, hlb⟩ : ∃ l, B = str l := ⟨B.data.toList, by apply ByteArray.ext; simp [str]⟩
      obtain ⟨AB, hAB⟩ : ∃ s, s = str (prodL la lb) := ⟨_, rfl⟩
      have HP := Lib.hid (show ∀ w, Calls Try.prog 45 #[.string A, .string B] w fun e w' => e = .returned (.tuple #[.string AB, .int .i64 0]) ∧ Fr (fun _ => False) w w' from fun w => by
        rw [hla, hlb, hAB]; exact product_yes la lb (by rw [← str_size, ← hla]; exact ha) (by rw [← str_size, ← hlb]; exact hb) w)
      clear h ha hb hla hlb hAB
      go_enter Try.func13, Try.ntmps13
      go_wp2_with fail
      refine HAW.out.mono ?_
      rintro e w1 ⟨rfl, f1⟩
      have HF1 := Lib.hid f1
      clear f1
      go_wp2_with fail
      refine (HP.out w1).mono ?_
      rintro e w2 ⟨rfl, f2⟩
      have HF2 := Lib.hid (HF1.out.trans f2 (fun i hi => hi.elim))
      clear f2
      go_wp2_with fail
      go_ret
      exact ⟨rfl, HF2.out⟩
    · have b1 : ((B.size : Int) != 16) = true := by simp; omega
      have b2 : ((B.size : Int) == 16) = false := by simp; omega
      have HP := Lib.hid (fun w => product_no A B (.inr hb) w)
      clear h ha hb
      go_enter Try.func13, Try.ntmps13
      go_wp2_with fail
      refine HAW.out.mono ?_
      rintro e w1 ⟨rfl, f1⟩
      have HF1 := Lib.hid f1
      clear f1
      go_wp2_with fail
      refine (HP.out w1).mono ?_
      rintro e w2 ⟨rfl, rfl⟩
      go_wp2_with fail
      go_ret
      exact ⟨rfl, HF1.out⟩
  · have a1 : ((A.size : Int) != 16) = true := by simp; omega
    have a2 : ((A.size : Int) == 16) = false := by simp; omega
    have HP := Lib.hid (fun w => product_no A B (.inl ha) w)
    clear h ha
    go_enter Try.func13, Try.ntmps13
    go_wp2_with fail
    refine HAW.out.mono ?_
    rintro e w1 ⟨rfl, f1⟩
    have HF1 := Lib.hid f1
    clear f1
    go_wp2_with fail
    refine (HP.out w1).mono ?_
    rintro e w2 ⟨rfl, rfl⟩
    go_wp2_with fail
    go_ret
    exact ⟨rfl, HF1.out⟩
set_option maxRecDepth 20000 in
set_option maxHeartbeats 2000000 in
theorem field_yes (a b c : List UInt8) (ha : a.length = 16) (hb : b.length = 16) (hc : c.length = 16) (w : World) : Calls Try.prog 13 #[.string (str a), .string (str b), .string (str c)] w fun e w' => e = .returned (.bool true) ∧ Fr (fun _ => False) w w' := by
  obtain ⟨A, hA⟩ : ∃ s, s = str a := ⟨_, rfl⟩
  obtain ⟨B, hB⟩ : ∃ s, s = str b := ⟨_, rfl⟩
  obtain ⟨C, hC⟩ : ∃ s, s = str c := ⟨_, rfl⟩
  obtain ⟨AB, hAB⟩ : ∃ s, s = str (prodL a b) := ⟨_, rfl⟩
  obtain ⟨AC, hAC⟩ : ∃ s, s = str (prodL a c) := ⟨_, rfl⟩
  obtain ⟨BC, hBC⟩ : ∃ s, s = str (prodL b c) := ⟨_, rfl⟩
  obtain ⟨SU, hSU⟩ : ∃ s, s = str (turnL b c) := ⟨_, rfl⟩
  obtain ⟨AS, hAS⟩ : ∃ s, s = str (prodL a (xorG b c)) := ⟨_, rfl⟩
  obtain ⟨L, hL⟩ : ∃ s, s = str (prodL (prodL a b) c) := ⟨_, rfl⟩
  obtain ⟨ON, hON⟩ : ∃ s, s = str (128 :: List.replicate 15 0) := ⟨_, rfl⟩
  obtain ⟨Z15, hZ⟩ : ∃ s, s = str (List.replicate 15 0) := ⟨_, rfl⟩
  have hsa : A.size = 16 := by rw [hA, str_size, ha]
  have hsb : B.size = 16 := by rw [hB, str_size, hb]
  have hsc : C.size = 16 := by rw [hC, str_size, hc]
  have hsab : AB.size = 16 := by rw [hAB, str_size, prodL_length]
  have hsac : AC.size = 16 := by rw [hAC, str_size, prodL_length]
  have hsas : AS.size = 16 := by rw [hAS, str_size, prodL_length]
  have hsz : Z15.size = 15 := by rw [hZ, str_size, List.length_replicate]
  have hap : (⟨#[128]⟩ : ByteArray) ++ Z15 = ON := by rw [hZ, hON]; exact jstr_append [128] _
  have hb1 : ¬ 9223372036854775807 < (⟨#[128]⟩ : ByteArray).size + Z15.size := by rw [hsz]; decide
  have hb2 : (⟨#[128]⟩ : ByteArray).size + Z15.size ≤ 9223372036854775807 := by rw [hsz]; decide
  have hb3 : 1 + Z15.size ≤ 9223372036854775807 := by rw [hsz]; decide
  have a1 : ((A.size : Int) != 16) = false := by rw [hsa]; rfl
  have b1 : ((B.size : Int) != 16) = false := by rw [hsb]; rfl
  have c1 : ((C.size : Int) != 16) = false := by rw [hsc]; rfl
  have HPab := Lib.hid (show ∀ w, Calls Try.prog 45 #[.string A, .string B] w fun e w' => e = .returned (.tuple #[.string AB, .int .i64 0]) ∧ Fr (fun _ => False) w w' from fun w => by rw [hA, hB, hAB]; exact product_yes a b ha hb w)
  have HPba := Lib.hid (show ∀ w, Calls Try.prog 45 #[.string B, .string A] w fun e w' => e = .returned (.tuple #[.string AB, .int .i64 0]) ∧ Fr (fun _ => False) w w' from fun w => by rw [hA, hB, hAB, prodL_comm]; exact product_yes b a hb ha w)
  have HPac := Lib.hid (show ∀ w, Calls Try.prog 45 #[.string A, .string C] w fun e w' => e = .returned (.tuple #[.string AC, .int .i64 0]) ∧ Fr (fun _ => False) w w' from fun w => by rw [hA, hC, hAC]; exact product_yes a c ha hc w)
  have HPas := Lib.hid (show ∀ w, Calls Try.prog 45 #[.string A, .string SU] w fun e w' => e = .returned (.tuple #[.string AS, .int .i64 0]) ∧ Fr (fun _ => False) w w' from fun w => by rw [hA, hSU, hAS, turnL_xorG]; exact product_yes a (xorG b c) ha (by rw [xorG_length, hb, hc]; rfl) w)
  have HPl := Lib.hid (show ∀ w, Calls Try.prog 45 #[.string AB, .string C] w fun e w' => e = .returned (.tuple #[.string L, .int .i64 0]) ∧ Fr (fun _ => False) w w' from fun w => by rw [hAB, hC, hL]; exact product_yes _ c (prodL_length _ _) hc w)
  have HPbc := Lib.hid (show ∀ w, Calls Try.prog 45 #[.string B, .string C] w fun e w' => e = .returned (.tuple #[.string BC, .int .i64 0]) ∧ Fr (fun _ => False) w w' from fun w => by rw [hB, hC, hBC]; exact product_yes b c hb hc w)
  have HPr := Lib.hid (show ∀ w, Calls Try.prog 45 #[.string A, .string BC] w fun e w' => e = .returned (.tuple #[.string L, .int .i64 0]) ∧ Fr (fun _ => False) w w' from fun w => by rw [hA, hBC, hL, prodL_assoc]; exact product_yes a _ ha (prodL_length _ _) w)
  have HPo := Lib.hid (show ∀ w, Calls Try.prog 45 #[.string A, .string ON] w fun e w' => e = .returned (.tuple #[.string A, .int .i64 0]) ∧ Fr (fun _ => False) w w' from fun w => by
    have h := product_yes a (128 :: List.replicate 15 0) ha rfl w
    rw [prodL_one a ha] at h
    rw [hA, hON]; exact h)
  have H15 := Lib.hid (show ∀ w, Calls Try.prog 46 #[.int .i64 15] w fun e w' => e = .returned (.string Z15) ∧ Fr (fun _ => False) w w' from fun w => by rw [hZ]; exact noughts_calls 15 (by omega) w)
  have HB := Lib.hid hB
  have HC := Lib.hid hC
  have HSU := Lib.hid hSU
  have HAB := Lib.hid hAB
  have HAC := Lib.hid hAC
  have HAS := Lib.hid hAS
  have HLN := Lib.hid (show b.length = 16 ∧ c.length = 16 from ⟨hb, hc⟩)
  have HAW := Lib.hid (gcm_awake w)
  rw [← hA, ← hB, ← hC]
  clear hA hB hC hAB hAC hBC hSU hAS hL hON hZ ha hb hc
  go_enter Try.func13, Try.ntmps13
  go_wp2_with fail
  refine HAW.out.mono ?_
  rintro e w1 ⟨rfl, f1⟩
  have HF1 := Lib.hid f1
  clear f1
  have hmk1 : (Instr.makeSlice 27 (.int .i64 16) (.int .i64 16)).run Try.prog w1 = .ok (.slice (some ⟨w1.heap.size, 0, none⟩) 16 16) (w1.alloc (.cells (bcells (List.replicate 16 0)).toArray 5)) := make_zeros 16 (by omega) w1
  go_wp2_with fail
  clear hmk1
  have hR := heap_alloc_new w1 (.cells (bcells [0, 0, 0, 0, 0, 0, 0, 0, 0, 0, 0, 0, 0, 0, 0, 0]).toArray 5)
  have hf : Fr (fun _ => False) w (w1.alloc (.cells (bcells [0, 0, 0, 0, 0, 0, 0, 0, 0, 0, 0, 0, 0, 0, 0, 0]).toArray 5)) := HF1.out.alloc _
  obtain ⟨R, hRd⟩ : ∃ R, R = w1.heap.size := ⟨_, rfl⟩
  rw [← hRd] at hR ⊢
  generalize w1.alloc (.cells (bcells [0, 0, 0, 0, 0, 0, 0, 0, 0, 0, 0, 0, 0, 0, 0, 0]).toArray 5) = w2 at hR hf ⊢
  have HR := Lib.hid (show w2.heap[R]? = some (.cells (bcells (List.replicate 16 0)).toArray 5 (0, 0)) from hR)
  have HF := Lib.hid hf
  have HRW := Lib.hid (show w.heap.size ≤ R by have := HF1.out.size; omega)
  clear hR hf hRd
  go_loopw [10] (fun v wr => ∃ i : Nat, i ≤ 16 ∧ v = .int .i64 i ∧ wr.heap[R]? = some (.cells (bcells (upd (turnG b c) (List.replicate 16 0) i)).toArray 5 (0, 0)) ∧ Fr (fun _ => False) w wr) (fun v _ => 16 - (intOf v).toNat)
  case atStart => exact ⟨0, Nat.zero_le _, rfl, by rw [upd_zero]; exact HR.out, HF.out⟩
  case round =>
    obtain ⟨i, hi, rfl, hr, hf⟩ := hrel
    have HRr := Lib.hid hr
    have HFr := Lib.hid hf
    clear hr hf HR HF
    by_cases hlt : i < 16
    · have hx : (i : Int) < 16 := by omega
      obtain ⟨x, hxd⟩ : ∃ x, x = b.getD i 0 := ⟨_, rfl⟩
      obtain ⟨y, hyd⟩ : ∃ x, x = c.getD i 0 := ⟨_, rfl⟩
      obtain ⟨z, hz⟩ : ∃ z, z = x ^^^ y := ⟨_, rfl⟩
      have e1 := xor_u8 x y
      rw [← hz] at e1
      have hAs : ∀ h, B[i]'h = x := by
        intro h
        have hk := HB.out
        subst hk
        rw [str_at32, hxd]
      have hBs : ∀ h, C[i]'h = y := by
        intro h
        have hk := HC.out
        subst hk
        rw [str_at32, hyd]
      have cR : wr.drew.cell? ⟨R, i, none⟩ = some (.int .u8 ((0 : UInt8).toNat : Int)) := bcells_cell (w := wr.drew) HRr.out i 0 (by rw [upd_get _ _ _ _ (by simp; omega), if_neg (by omega), List.getD_eq_getElem?_getD, List.getElem?_replicate, if_pos hlt]; rfl)
      have fR : wr.drew.frozen? ⟨R, i, none⟩ = false := frozen_of_row wr.drew _ _ _ _ HRr.out
      have HR2 := Lib.hid (show (wr.drew.setCell ⟨R, i, none⟩ (.int .u8 (z.toNat : Int))).heap[R]? = some (.cells (bcells (upd (turnG b c) (List.replicate 16 0) (i + 1))).toArray 5 (0, 0)) by
        rw [← upd_set _ _ _ (by simp; omega), show turnG b c i = z by rw [hz, hxd, hyd]; rfl]
        exact bcells_set (w := wr.drew) HRr.out i z)
      have HF2 := Lib.hid (HFr.out.drew.setCell ⟨R, i, none⟩ (.int .u8 (z.toNat : Int)) (.inr HRW.out))
      have bx := x.toNat_lt
      have by' := y.toNat_lt
      have bz := z.toNat_lt
      clear hxd hyd hz
      go_wp2
      refine wp_region_still_tail 10 (by kernel_rfl) (by kernel_rfl) ?_
      simp only [List.take_succ_cons, List.take_zero, List.drop_succ_cons, List.drop_zero]
      change wpStill _ _ wr.drew (fun a' => wpList _ _ _ _ a' wr.drew) _ _
      repeat still_step
      refine wpStill_nil ?_
      go_wp2
      go_roundw
      case rel => exact ⟨i + 1, by omega, by go_num, HR2.out, HF2.out⟩
      case measure => simp [intOf]; omega
    · have him : i = 16 := by omega
      have HRz := Lib.hid (show wr.heap[R]? = some (.cells (bcells (turnL b c)).toArray 5 (0, 0)) by
        have := HRr.out
        rw [him, upd_all _ _ 16 (by simp)] at this
        unfold turnL
        rw [HLN.out.1, HLN.out.2]
        exact this)
      have HCv := Lib.hid (show ∀ w', Fr (fun _ => False) wr w' → (convert 27 9 (.slice (some ⟨R, 0, none⟩) 16 16)).run Try.prog w' = .ok (.string SU) w' from fun w' hw => by
        rw [HSU.out]
        refine run_convert_str (P := Try.prog) w' 27 5 Try.underlying27 Try.underlying5 R 0 16 16 (turnL b c) (by rw [turnL_length, HLN.out.1, HLN.out.2]; rfl) (fun j v hj => ?_) 9 Try.underlying9
        rw [Nat.zero_add, cell_of_row w' R j _ _ _ (hw.heap HRz.out id)]; simpa using hj)
      clear him
      go_wp2_with fail
      refine (HPab.out wr).mono ?_
      rintro e v1 ⟨rfl, f1⟩
      have G1 := Lib.hid (f1)
      clear f1
      go_wp2_with fail
      refine (HPba.out v1).mono ?_
      rintro e v2 ⟨rfl, f2⟩
      have G2 := Lib.hid (G1.out.trans f2 (fun i hi => hi.elim))
      clear f2
      go_wp2_with fail
      refine (HPac.out v2).mono ?_
      rintro e v3 ⟨rfl, f3⟩
      have G3 := Lib.hid (G2.out.trans f3 (fun i hi => hi.elim))
      clear f3
      have hcv := HCv.out v3 G3.out
      go_wp2_with fail
      clear hcv
      refine (HPas.out v3).mono ?_
      rintro e v4 ⟨rfl, f4⟩
      have G4 := Lib.hid (G3.out.trans f4 (fun i hi => hi.elim))
      clear f4
      go_wp2_with fail
      refine (HPl.out v4).mono ?_
      rintro e v5 ⟨rfl, f5⟩
      have G5 := Lib.hid (G4.out.trans f5 (fun i hi => hi.elim))
      clear f5
      go_wp2_with fail
      refine (HPbc.out v5).mono ?_
      rintro e v6 ⟨rfl, f6⟩
      have G6 := Lib.hid (G5.out.trans f6 (fun i hi => hi.elim))
      clear f6
      go_wp2_with fail
      refine (HPr.out v6).mono ?_
      rintro e v7 ⟨rfl, f7⟩
      have G7 := Lib.hid (G6.out.trans f7 (fun i hi => hi.elim))
      clear f7
      go_wp2_with fail
      refine (H15.out v7).mono ?_
      rintro e v8 ⟨rfl, f8⟩
      have G8 := Lib.hid (G7.out.trans f8 (fun i hi => hi.elim))
      clear f8
      go_wp2_with fail
      refine (HPo.out v8).mono ?_
      rintro e v9 ⟨rfl, f9⟩
      have G9 := Lib.hid (G8.out.trans f9 (fun i hi => hi.elim))
      clear f9
      go_wp2_with fail
      have HFb := Lib.hid (HFr.out.trans G9.out (fun i hi => hi.elim))
      clear hi
      go_loopw [27] (fun v wq => ∃ i : Nat, i ≤ 16 ∧ v = .int .i64 i ∧ Fr (fun _ => False) w wq) (fun v _ => 16 - (intOf v).toNat)
      case atStart => exact ⟨0, Nat.zero_le _, rfl, HFb.out⟩
      case round =>
        obtain ⟨i, hi, rfl, hf⟩ := hrel
        have HFq := Lib.hid hf
        clear hf
        by_cases hlt2 : i < 16
        · have hx : (i : Int) < 16 := by omega
          obtain ⟨x, hxd⟩ : ∃ x, x = (prodL a b).getD i 0 := ⟨_, rfl⟩
          obtain ⟨y, hyd⟩ : ∃ x, x = (prodL a c).getD i 0 := ⟨_, rfl⟩
          obtain ⟨z, hz⟩ : ∃ z, z = x ^^^ y := ⟨_, rfl⟩
          have e1 := xor_u8 x y
          rw [← hz] at e1
          have hAs : ∀ h, AB[i]'h = x := by
            intro h
            have hk := HAB.out
            subst hk
            rw [str_at32, hxd]
          have hBs : ∀ h, AC[i]'h = y := by
            intro h
            have hk := HAC.out
            subst hk
            rw [str_at32, hyd]
          have hCs : ∀ h, AS[i]'h = z := by
            intro h
            have hk := HAS.out
            subst hk
            rw [str_at32, prodL_xor _ _ _ HLN.out.1 HLN.out.2, xorG_get _ _ _ (by rw [prodL_length]; exact hlt2) (by rw [prodL_length]; exact hlt2), hz, hxd, hyd]
          have bx := x.toNat_lt
          have by' := y.toNat_lt
          have bz := z.toNat_lt
          clear hxd hyd hz
          go_wp2
          refine wp_region_still_tail 10 (by kernel_rfl) (by kernel_rfl) ?_
          simp only [List.take_succ_cons, List.take_zero, List.drop_succ_cons, List.drop_zero]
          change wpStill _ _ wr.drew (fun a' => wpList _ _ _ _ a' wr.drew) _ _
          repeat still_step
          refine wpStill_nil ?_
          go_wp2
          go_roundw
          case rel => exact ⟨i + 1, by omega, by go_num, HFq.out.drew⟩
          case measure => simp [intOf]; omega
        · have hi16 : i = 16 := by omega
          clear hi16
          go_wp2_with fail
          go_ret
          exact ⟨rfl, HFq.out⟩
theorem field_walk (A B C : ByteArray) (w : World) : Calls Try.prog 13 #[.string A, .string B, .string C] w fun e w' => e = .returned (.bool true) ∧ Fr (fun _ => False) w w' := by
  by_cases h : A.size ≠ 16 ∨ B.size ≠ 16 ∨ C.size ≠ 16
  · exact field_no A B C h w
  · obtain ⟨la, hla⟩ : ∃ l, A = str l := ⟨A.data.toList, by apply ByteArray.ext; simp [str]⟩
    obtain ⟨lb, hlb⟩ : ∃ l, B = str l := ⟨B.data.toList, by apply ByteArray.ext; simp [str]⟩
    obtain ⟨lc, hlc⟩ : ∃ l, C = str l := ⟨C.data.toList, by apply ByteArray.ext; simp [str]⟩
    have ha : la.length = 16 := by rw [← str_size, ← hla]; omega
    have hb : lb.length = 16 := by rw [← str_size, ← hlb]; omega
    have hc : lc.length = 16 := by rw [← str_size, ← hlc]; omega
    rw [hla, hlb, hlc]
    exact field_yes la lb lc ha hb hc w
end Go.Proofs.Ytcchhfkmhbjdmaa
