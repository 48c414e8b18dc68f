/- Blobs: the document's Open, walked. -/
import Derived.Test.YtcchhfkmhbjdmaaGreatQc3
import Derived.Test.YtcchhfkmhbjdmaaGreatQb8
import Derived.Test.YtcchhfkmhbjdmaaGreatQc2
set_option linter.unusedVariables false
set_option linter.unusedSimpArgs false
set_option pp.deepTerms true
set_option pp.maxSteps 100000
namespace Go.Proofs.YtcchhfkmhbjdmaaGreat
open Go.RowKit
set_option maxRecDepth 20000 in
set_option maxHeartbeats 4000000 in
theorem refopenb_calls (key b : List UInt8) (a : Option Addr) (cap : Nat) (c : List Pr) (hkl : key.length ≤ 140737488355328) (hb : b.length ≤ 100000) (hcl : c.length ≤ 100000) (hsm : ∀ p ∈ c, p.1.length ≤ 100000 ∧ p.2.length ≤ 100000) (w : World) (hps : PSl w a c) (hlc : c.length ≤ cap) (hcap : cap ≤ 9223372036854775807) :
    Calls Tryz.prog 11 #[.string (str key), .string (str b), .slice a c.length cap] w fun e w' => e = .returned (.tuple #[.string (openS key b c), .int .i64 (openC key b c)]) ∧ Fr (fun _ => False) w w' := by
  obtain ⟨K, hK⟩ : ∃ s, s = str key := ⟨_, rfl⟩
  obtain ⟨S, hS⟩ : ∃ s, s = str b := ⟨_, rfl⟩
  obtain ⟨n, hn'⟩ : ∃ n, n = c.length := ⟨_, rfl⟩
  have hKs : K.size = key.length := by rw [hK, str_size]
  have HPar := Lib.hid (show Calls Tryz.prog 9 #[.string S] w fun e w' => e = .returned (.tuple #[hdC (parseH b), .int .i64 (parseC b)]) ∧ Fr (fun _ => False) w w' from by rw [hS]; exact refparse_calls b hb w)
  obtain ⟨C, ce, hC, hCe, hText⟩ : ∃ C : ByteArray, ∃ ce : Int, (rightB c = true → C = str (textOf c)) ∧ ce = (if rightB c then 0 else 2) ∧ (∀ w', Fr (fun _ => False) w w' → Calls Tryz.prog 16 #[.slice a n cap] w' fun e w2 => e = .returned (.tuple #[.string C, .int .i64 ce]) ∧ Fr (fun _ => False) w' w2) := by
    cases hr : rightB c with
    | true => exact ⟨str (textOf c), 0, fun _ => rfl, rfl, fun w' hf => by rw [hn']; exact reftext_yes a cap c w' (hps.frF hf) hlc hcap hr⟩
    | false => exact ⟨⟨#[]⟩, 2, fun h => (by cases h), rfl, fun w' hf => by rw [hn']; exact reftext_no a cap c w' (hps.frF hf) hlc hcap hr⟩
  have HText := Lib.hid hText
  have hcase : (goodB b = true ∧ rightB c = true ∧ ce = 0 ∧ K.size = 32 ∧ key.length = 32) ∨ (¬ (goodB b = true ∧ rightB c = true ∧ key.length = 32) ∧ (goodB b = false ∨ (goodB b = true ∧ (ce == 0) = false ∧ ¬ ce = 0) ∨ (goodB b = true ∧ ce = 0 ∧ ((K.size : Int) == 32) = false ∧ ¬ K.size = 32))) := by
    rw [hCe, hKs]
    cases hg : goodB b with
    | false => exact .inr ⟨fun h => (by cases h.1), .inl rfl⟩
    | true =>
      cases hr : rightB c with
      | false => exact .inr ⟨fun h => (by cases h.2.1), .inr (.inl ⟨rfl, by simp, by simp⟩)⟩
      | true =>
        by_cases h32 : key.length = 32
        · exact .inl ⟨rfl, rfl, by simp, h32, h32⟩
        · exact .inr ⟨fun h => h32 h.2.2, .inr (.inr ⟨rfl, by simp, beq_eq_false_iff_ne.2 (by omega), h32⟩)⟩
  rcases hcase with ⟨hg, hr, rfl, hk, hk32⟩ | ⟨hno, hcase⟩
  · have hok := good_parts hg
    have hl12 := okH_len hok.1
    have hhl := headL_length (hdB b (nB b))
    have htl := textOf_len hr
    obtain ⟨q, hq⟩ : ∃ q, q = opensL key (hdB b (nB b)).nonce (headL (hdB b (nB b)) ++ textOf c) (restB b (nB b)) := ⟨_, rfl⟩
    obtain ⟨OS, hOS⟩ : ∃ s, s = (if opensL key (hdB b (nB b)).nonce (headL (hdB b (nB b)) ++ textOf c) (restB b (nB b)) then str (openL key (hdB b (nB b)).nonce (restB b (nB b))) else ⟨#[]⟩) := ⟨_, rfl⟩
    obtain ⟨oc, hoc⟩ : ∃ s : Int, s = (if opensL key (hdB b (nB b)).nonce (headL (hdB b (nB b)) ++ textOf c) (restB b (nB b)) then 0 else 8) := ⟨_, rfl⟩
    obtain ⟨N, hN⟩ : ∃ s, s = str (hdB b (nB b)).nonce := ⟨_, rfl⟩
    obtain ⟨A, hA⟩ : ∃ s, s = str (headL (hdB b (nB b))) := ⟨_, rfl⟩
    obtain ⟨I, hI⟩ : ∃ s, s = str (hdB b (nB b)).id := ⟨_, rfl⟩
    obtain ⟨v, hv⟩ : ∃ s, s = (hdB b (nB b)).ver := ⟨_, rfl⟩
    obtain ⟨B, hB⟩ : ∃ s, s = str (restB b (nB b)) := ⟨_, rfl⟩
    obtain ⟨BE, hBE⟩ : ∃ s, s = str (headL (hdB b (nB b)) ++ textOf c) := ⟨_, rfl⟩
    have e1 : A ++ C = BE := by rw [hA, hC hr, hBE, jstr_append]
    have s1 : A.size ≤ 80 := by rw [hA, str_size]; omega
    have s2 : C.size ≤ 784 := by rw [hC hr, str_size]; exact htl
    have z1 : A.size + C.size ≤ 9223372036854775807 := by omega
    have y1 : ¬ 9223372036854775807 < A.size + C.size := by omega
    obtain ⟨hl, hhl2⟩ : ∃ n, n = A.size := ⟨_, rfl⟩
    obtain ⟨m, hm⟩ : ∃ n, n = S.size := ⟨_, rfl⟩
    have hm' : S.size = m := hm.symm
    have hl' : A.size = hl := hhl2.symm
    have hmb : m = b.length := by rw [hm, hS, str_size]
    have hln : hl = nB b + 16 := by
      have hgp := hg
      rw [good_iff] at hgp
      simp only [Bool.and_eq_true, decide_eq_true_eq] at hgp
      have hidl : (hdB b (nB b)).id.length = nB b := by unfold hdB; simp only [List.length_take, List.length_drop]; omega
      rw [hhl2, hA, str_size, hhl, hl12.2, hidl]
    have hlm : hl ≤ m := by
      have hgp := hg
      rw [good_iff] at hgp
      simp only [Bool.and_eq_true, decide_eq_true_eq] at hgp
      omega
    have hx : S.extract hl m = B := by
      rw [hS, hmb, bx_drop, hB]
      unfold restB
      rw [hln]
    have z2 : hl + C.size ≤ 9223372036854775807 := by omega
    have y2 : ¬ 9223372036854775807 < hl + C.size := by omega
    have g1 : (hl : Int) ≤ (m : Int) := by omega
    have g0 : (0 : Int) ≤ (hl : Int) := by omega
    have HBytes := Lib.hid (show ∀ w, Calls Tryz.prog 19 #[.agg #[.string I, .int .i64 v, .string N]] w fun e w' => e = .returned (.string A) ∧ Fr (fun _ => False) w w' from fun w => by
      rw [hI, hv, hN, hA]; exact refhead_bytes _ (by omega) (by omega) w)
    have hph : hdC (parseH b) = .agg #[.string I, .int .i64 v, .string N] := by
      unfold parseH hdC
      rw [if_pos hg, hI, hv, hN]
    have hpc : parseC b = 0 := by unfold parseC; rw [if_pos hg]
    rw [hph, hpc] at HPar
    have HOpen := Lib.hid (show ∀ w, Calls Tryz.prog 22 #[.string K, .string N, .string BE, .string B] w fun e w' => e = .returned (.tuple #[.string OS, .int .i64 oc]) ∧ Fr (fun _ => False) w w' from fun w => by
      rw [hK, hN, hBE, hB, hOS, hoc]; exact refopen_calls key _ _ _ hk32 hl12.2 (by rw [List.length_append]; omega) hok.2.1 (by omega) w)
    have hres : openS key b c = OS := by unfold openS; rw [if_pos ⟨hg, hr, hk32⟩, hOS]
    have hrec : openC key b c = oc := by unfold openC; rw [if_pos ⟨hg, hr, hk32⟩, hoc]
    rw [← hK, ← hS, ← hn', hres, hrec]
    have HN := Lib.hid hN
    have HA := Lib.hid hA
    have HB := Lib.hid hB
    have HGd := Lib.hid hg
    clear hK hS hn' hText hC hCe hok hl12 hhl htl hq hOS hoc hN hA hB hBE s1 s2 hres hrec hKs hk32 hr hg hkl hb hcl hsm hps hlc hcap hI hv hm hmb hln hhl2 hph hpc hlm
    go_enter Tryz.func11, Tryz.ntmps11
    go_wp2_with fail
    refine HPar.out.mono ?_
    rintro e w1 ⟨rfl, f1⟩
    have HFa := Lib.hid (f1.alloc (.cells #[.string I, .int .i64 v, .string N] 32))
    have HBy := Lib.hid (heap_alloc_new w1 (.cells #[.string I, .int .i64 v, .string N] 32))
    obtain ⟨BX, hBX⟩ : ∃ b, b = w1.heap.size := ⟨_, rfl⟩
    rw [← hBX] at HBy
    have HX := hBX.symm
    clear f1 hBX
    go_wp2_with fail
    refine (HText.out _ HFa.out).mono ?_
    rintro e w2 ⟨rfl, f2⟩
    have HBx := Lib.hid (f2.heap HBy.out id)
    have HF3 := Lib.hid (HFa.out.trans f2 (fun i hi => hi.elim))
    clear f2
    go_wp2_with fail
    refine wp_region_till (fun w' => Fr (fun _ => False) (w2.drew) w') 12 rfl ?_
    generalize hW0 : w2.drew = W0
    have HR0 := Lib.hid (show Fr (fun _ => False) w2 W0 by rw [← hW0]; exact (Fr.refl _ _).drew)
    have HS0 := Lib.hid (Fr.refl (fun _ => False) W0)
    clear hW0
    refine wpAnyT_path (i := 0) (p := []) (v := .string K) rfl (by kernel_rfl) (by kernel_rfl) (fun _ _ _ h => h) HS0.out (.inl ⟨by rfl, fun W' hW => by clear hW; go_simp⟩) ?_
    try simp only [Act.put, List.setIfInBounds_toArray]
    try dsimp only [List.getElem_toArray, List.getElem_cons_succ, List.getElem_cons_zero, List.set_cons_zero, List.set_cons_succ]
    refine wpAnyT_path (i := 1) (p := [2]) (v := .pointer (some ⟨BX, 2, none⟩)) rfl (by kernel_rfl) (by kernel_rfl) (fun _ _ _ h => h) HS0.out (.inl ⟨by rfl, fun W' hW => by clear hW; go_simp⟩) ?_
    try simp only [Act.put, List.setIfInBounds_toArray]
    try dsimp only [List.getElem_toArray, List.getElem_cons_succ, List.getElem_cons_zero, List.set_cons_zero, List.set_cons_succ]
    refine wpAnyT_path (i := 2) (p := []) (v := .string N) rfl (by kernel_rfl) (by kernel_rfl) (fun _ _ _ h => h) HS0.out (.inl ⟨by rfl, fun W' hW => by have hp := (HR0.out.trans hW (fun i hi => hi.elim)).heap HBx.out id; have c0 : W'.cell? ⟨BX, 2, none⟩ = some (.string N) := (cell_of_row W' _ 2 _ _ _ hp).trans rfl; clear hW hp; go_simp⟩) ?_
    try simp only [Act.put, List.setIfInBounds_toArray]
    try dsimp only [List.getElem_toArray, List.getElem_cons_succ, List.getElem_cons_zero, List.set_cons_zero, List.set_cons_succ]
    refine wpAnyT_path (i := 3) (p := [6, 4]) (v := .agg #[.string I, .int .i64 v, .string N]) rfl (by kernel_rfl) (by kernel_rfl) (fun _ _ _ h => h) HS0.out (.inl ⟨by rfl, fun W' hW => by have hp := (HR0.out.trans hW (fun i hi => hi.elim)).heap HBx.out id; have c0 : W'.cell? ⟨BX, 0, none⟩ = some (.string I) := (cell_of_row W' _ 0 _ _ _ hp).trans rfl; have c1 : W'.cell? ⟨BX, 1, none⟩ = some (.int .i64 v) := (cell_of_row W' _ 1 _ _ _ hp).trans rfl; have c2 : W'.cell? ⟨BX, 2, none⟩ = some (.string N) := (cell_of_row W' _ 2 _ _ _ hp).trans rfl; clear hW hp; go_simp⟩) ?_
    try simp only [Act.put, List.setIfInBounds_toArray]
    try dsimp only [List.getElem_toArray, List.getElem_cons_succ, List.getElem_cons_zero, List.set_cons_zero, List.set_cons_succ]
    refine wpAnyT_path (i := 5) (p := [6]) (v := .string C) rfl (by kernel_rfl) (by kernel_rfl) (fun _ _ _ h => h) HS0.out (.inl ⟨by rfl, fun W' hW => by clear hW; go_simp⟩) ?_
    try simp only [Act.put, List.setIfInBounds_toArray]
    try dsimp only [List.getElem_toArray, List.getElem_cons_succ, List.getElem_cons_zero, List.set_cons_zero, List.set_cons_succ]
    refine wpAnyT_path (i := 7) (p := [11]) (v := .string S) rfl (by kernel_rfl) (by kernel_rfl) (fun _ _ _ h => h) HS0.out (.inl ⟨by rfl, fun W' hW => by clear hW; go_simp⟩) ?_
    try simp only [Act.put, List.setIfInBounds_toArray]
    try dsimp only [List.getElem_toArray, List.getElem_cons_succ, List.getElem_cons_zero, List.set_cons_zero, List.set_cons_succ]
    refine wpAnyT_path (i := 8) (p := [9]) (v := .agg #[.string I, .int .i64 v, .string N]) rfl (by kernel_rfl) (by kernel_rfl) (fun _ _ _ h => h) HS0.out (.inl ⟨by rfl, fun W' hW => by have hp := (HR0.out.trans hW (fun i hi => hi.elim)).heap HBx.out id; have c0 : W'.cell? ⟨BX, 0, none⟩ = some (.string I) := (cell_of_row W' _ 0 _ _ _ hp).trans rfl; have c1 : W'.cell? ⟨BX, 1, none⟩ = some (.int .i64 v) := (cell_of_row W' _ 1 _ _ _ hp).trans rfl; have c2 : W'.cell? ⟨BX, 2, none⟩ = some (.string N) := (cell_of_row W' _ 2 _ _ _ hp).trans rfl; clear hW hp; go_simp⟩) ?_
    try simp only [Act.put, List.setIfInBounds_toArray]
    try dsimp only [List.getElem_toArray, List.getElem_cons_succ, List.getElem_cons_zero, List.set_cons_zero, List.set_cons_succ]
    refine wpAnyT_one (i := 4) rfl (by kernel_rfl) ?_
    refine wpOp_plain rfl rfl (fun KQ hK => ?_)
    try simp only [Act.put, List.setIfInBounds_toArray]
    try dsimp only [List.getElem_toArray, List.getElem_cons_succ, List.getElem_cons_zero, List.set_cons_zero, List.set_cons_succ]
    have HKK2 := Lib.hid hK
    clear hK
    go_wp2_with fail
    refine (HBytes.out W0).mono ?_
    rintro e W1 ⟨rfl, fb⟩
    have HRB1 := Lib.hid fb
    have HR1 := Lib.hid (HR0.out.trans fb (fun i hi => hi.elim))
    have HS1 := Lib.hid (Fr.refl (fun _ => False) W1)
    clear fb
    go_wp2_with fail
    refine HKK2.out _ _ ⟨fun _ => HRB1.out, ?_⟩
    clear HKK2 KQ
    try simp only [Act.put, List.setIfInBounds_toArray]
    try dsimp only [List.getElem_toArray, List.getElem_cons_succ, List.getElem_cons_zero, List.set_cons_zero, List.set_cons_succ]
    refine wpAnyT_mono (S' := fun w' => Fr (fun _ => False) W1 w') (fun w' h => HRB1.out.trans h (fun i hi => hi.elim)) _ _ _ _ ?_
    refine wpAnyT_path (i := 6) (p := []) (v := .string BE) rfl (by kernel_rfl) (by kernel_rfl) (fun _ _ _ h => h) HS1.out (.inl ⟨by rfl, fun W' hW => by clear hW; go_simp⟩) ?_
    try simp only [Act.put, List.setIfInBounds_toArray]
    try dsimp only [List.getElem_toArray, List.getElem_cons_succ, List.getElem_cons_zero, List.set_cons_zero, List.set_cons_succ]
    refine wpAnyT_one (i := 9) rfl (by kernel_rfl) ?_
    refine wpOp_plain rfl rfl (fun KQ hK => ?_)
    try simp only [Act.put, List.setIfInBounds_toArray]
    try dsimp only [List.getElem_toArray, List.getElem_cons_succ, List.getElem_cons_zero, List.set_cons_zero, List.set_cons_succ]
    have HKK2 := Lib.hid hK
    clear hK
    go_wp2_with fail
    refine (HBytes.out W1).mono ?_
    rintro e W2 ⟨rfl, fb⟩
    have HRB2 := Lib.hid fb
    have HR2 := Lib.hid (HR1.out.trans fb (fun i hi => hi.elim))
    have HS2 := Lib.hid (Fr.refl (fun _ => False) W2)
    clear fb
    go_wp2_with fail
    refine HKK2.out _ _ ⟨fun _ => HRB2.out, ?_⟩
    clear HKK2 KQ
    try simp only [Act.put, List.setIfInBounds_toArray]
    try dsimp only [List.getElem_toArray, List.getElem_cons_succ, List.getElem_cons_zero, List.set_cons_zero, List.set_cons_succ]
    refine wpAnyT_mono (S' := fun w' => Fr (fun _ => False) W2 w') (fun w' h => HRB2.out.trans h (fun i hi => hi.elim)) _ _ _ _ ?_
    refine wpAnyT_path (i := 10) (p := [11]) (v := .int .i64 (hl : Int)) rfl (by kernel_rfl) (by kernel_rfl) (fun _ _ _ h => h) HS2.out (.inl ⟨by rfl, fun W' hW => by clear hW; go_simp⟩) ?_
    try simp only [Act.put, List.setIfInBounds_toArray]
    try dsimp only [List.getElem_toArray, List.getElem_cons_succ, List.getElem_cons_zero, List.set_cons_zero, List.set_cons_succ]
    refine wpAnyT_path (i := 11) (p := []) (v := .string B) rfl (by kernel_rfl) (by kernel_rfl) (fun _ _ _ h => h) HS2.out (.inl ⟨by rfl, fun W' hW => by clear hW; go_simp⟩) ?_
    try simp only [Act.put, List.setIfInBounds_toArray]
    try dsimp only [List.getElem_toArray, List.getElem_cons_succ, List.getElem_cons_zero, List.set_cons_zero, List.set_cons_succ]
    refine wpAnyT_one (i := 12) rfl (by kernel_rfl) ?_
    refine wpOp_plain rfl rfl (fun KQ hK => ?_)
    try simp only [Act.put, List.setIfInBounds_toArray]
    try dsimp only [List.getElem_toArray, List.getElem_cons_succ, List.getElem_cons_zero, List.set_cons_zero, List.set_cons_succ]
    have HKK2 := Lib.hid hK
    clear hK
    go_wp2_with fail
    refine (HOpen.out W2).mono ?_
    rintro e w5 ⟨rfl, f5⟩
    have HF5 := Lib.hid ((HF3.out.trans HR2.out (fun i hi => hi.elim)).trans f5 (fun i hi => hi.elim))
    clear f5
    go_wp2_with fail
    refine HKK2.out _ _ ⟨fun hl => absurd (show (true : Bool) = false from hl) (by decide), ?_⟩
    clear HKK2 KQ
    try simp only [Act.put, List.setIfInBounds_toArray]
    try dsimp only [List.getElem_toArray, List.getElem_cons_succ, List.getElem_cons_zero, List.set_cons_zero, List.set_cons_succ]
    refine wpAnyT_doneP (by first | rfl | kernel_rfl) _ _ _ ?_
    refine wpAny_take (i := 13) (v := .string OS) rfl (by kernel_rfl) (by kernel_rfl) (by kernel_rfl) (fun _ _ _ h => h) (.inl ⟨rfl, fun W' => by go_simp⟩) ?_
    try simp only [Act.put, List.setIfInBounds_toArray]
    try dsimp only [List.getElem_toArray, List.getElem_cons_succ, List.getElem_cons_zero, List.set_cons_zero, List.set_cons_succ]
    refine wpAny_take (i := 14) (v := .int .i64 oc) rfl (by kernel_rfl) (by kernel_rfl) (by kernel_rfl) (fun _ _ _ h => h) (.inl ⟨rfl, fun W' => by go_simp⟩) ?_
    try simp only [Act.put, List.setIfInBounds_toArray]
    try dsimp only [List.getElem_toArray, List.getElem_cons_succ, List.getElem_cons_zero, List.set_cons_zero, List.set_cons_succ]
    refine wpAny_take (i := 15) (v := .string OS) rfl (by kernel_rfl) (by kernel_rfl) (by kernel_rfl) (fun _ _ _ h => h) (.inl ⟨rfl, fun W' => by go_simp⟩) ?_
    try simp only [Act.put, List.setIfInBounds_toArray]
    try dsimp only [List.getElem_toArray, List.getElem_cons_succ, List.getElem_cons_zero, List.set_cons_zero, List.set_cons_succ]
    refine wpAny_take (i := 16) (v := .int .i64 oc) rfl (by kernel_rfl) (by kernel_rfl) (by kernel_rfl) (fun _ _ _ h => h) (.inl ⟨rfl, fun W' => by go_simp⟩) ?_
    try simp only [Act.put, List.setIfInBounds_toArray]
    try dsimp only [List.getElem_toArray, List.getElem_cons_succ, List.getElem_cons_zero, List.set_cons_zero, List.set_cons_succ]
    refine wpAny_done (by kernel_rfl) ?_ _
    go_wp2_with fail
    go_ret2
    exact ⟨rfl, HF5.out⟩
  · have hres : openS key b c = ⟨#[]⟩ := by unfold openS; rw [if_neg hno]
    have hrec : openC key b c = 2 := by unfold openC; rw [if_neg hno]
    rw [← hK, ← hS, ← hn', hres, hrec]
    clear hK hS hn' hText hC hCe hres hrec hKs hno hkl hb hcl hsm hps hlc hcap
    obtain ⟨pc, hpc⟩ : ∃ p, p = parseC b := ⟨_, rfl⟩
    have hcase2 : ((pc == 0) = false ∧ ¬ pc = 0) ∨ (pc = 0 ∧ (ce == 0) = false ∧ ¬ ce = 0) ∨ (pc = 0 ∧ ce = 0 ∧ ((K.size : Int) == 32) = false ∧ ¬ K.size = 32) := by
      rw [hpc]
      unfold parseC
      rcases hcase with h | ⟨h, d1, d2⟩ | ⟨h, d0, d1, d2⟩
      · rw [if_neg (by rw [h]; decide)]; exact .inl ⟨rfl, by decide⟩
      · rw [if_pos h]; exact .inr (.inl ⟨rfl, d1, d2⟩)
      · rw [if_pos h]; exact .inr (.inr ⟨rfl, d0, d1, d2⟩)
    obtain ⟨I, hI⟩ : ∃ s, s = str (parseH b).id := ⟨_, rfl⟩
    obtain ⟨v, hv⟩ : ∃ s, s = (parseH b).ver := ⟨_, rfl⟩
    obtain ⟨N, hN⟩ : ∃ s, s = str (parseH b).nonce := ⟨_, rfl⟩
    unfold hdC at HPar
    rw [← hpc, ← hI, ← hv, ← hN] at HPar
    clear hpc hcase hI hv hN
    rcases hcase2 with ⟨d1, d2⟩ | ⟨rfl, d1, d2⟩ | ⟨rfl, rfl, d1, d2⟩
    all_goals
      go_enter Tryz.func11, Tryz.ntmps11
      go_wp2_with fail
      refine HPar.out.mono ?_
      rintro e w1 ⟨rfl, f1⟩
      have HFa := Lib.hid (f1.alloc (.cells #[.string I, .int .i64 v, .string N] 32))
      clear f1
      go_wp2_with fail
      refine (HText.out _ HFa.out).mono ?_
      rintro e w2 ⟨rfl, f2⟩
      have HF2 := Lib.hid (HFa.out.trans f2 (fun i hi => hi.elim))
      clear f2
      go_wp2_with fail
      go_ret2
      exact ⟨rfl, HF2.out⟩
end Go.Proofs.YtcchhfkmhbjdmaaGreat
