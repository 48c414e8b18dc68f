/- Blobs: the law BlobHeads, walked. -/
import Derived.Test.YtcchhfkmhbjdmaaQb9
set_option linter.unusedVariables false
set_option linter.unusedSimpArgs false
set_option pp.deepTerms true
set_option pp.maxSteps 100000
namespace Go.Proofs.Ytcchhfkmhbjdmaa
open Go.RowKit
theorem bcode_no {key : List UInt8} {h : Hd} {c : List Pr} {text : List UInt8} (hc : bcode key h c text ≠ 0) : bstr key h c text = ⟨#[]⟩ := by
  unfold bcode at hc
  unfold bstr
  by_cases h1 : okH h = true ∧ rightB c = true ∧ key.length = 32
  · by_cases ht : text.length ≤ 1024
    · rw [if_pos h1, if_pos ht] at hc; exact absurd rfl hc
    · rw [if_neg (fun h => ht h.2.2.2)]
  · rw [if_neg (fun h => h1 ⟨h.1, h.2.1, h.2.2.1⟩)]
theorem bcode_yes {key : List UInt8} {h : Hd} {c : List Pr} {text : List UInt8} (hc : bcode key h c text = 0) : okH h = true ∧ bstr key h c text = str (blobL key h c text) := by
  unfold bcode at hc
  unfold bstr
  by_cases h1 : okH h = true ∧ rightB c = true ∧ key.length = 32
  · by_cases ht : text.length ≤ 1024
    · rw [if_pos ⟨h1.1, h1.2.1, h1.2.2, ht⟩]; exact ⟨h1.1, rfl⟩
    · rw [if_pos h1, if_neg ht] at hc; cases hc
  · rw [if_neg h1] at hc; cases hc
theorem blob_eq {key : List UInt8} {g h : Hd} {c : List Pr} {text : List UInt8} (hg : okH g = true) (hh : okH h = true) : blobL key g c text = blobL key h c text ↔ g = h := by
  refine ⟨fun e => ?_, fun e => by rw [e]⟩
  unfold blobL at e
  exact headL_inj hg hh e
theorem beq_list (a b : List UInt8) : (a == b) = decide (a = b) := by
  by_cases h : a = b
  · rw [h]; simp
  · rw [decide_eq_false h]; exact beq_eq_false_iff_ne.2 h
set_option maxRecDepth 20000 in
set_option maxHeartbeats 4000000 in
theorem heads_walk (key text : List UInt8) (g h : Hd) (a : Option Addr) (cap : Nat) (c : List Pr) (hkl : key.length ≤ 140737488355328) (htl : text.length ≤ 140737488355328) (gi : g.id.length ≤ 140737488355328) (gn : g.nonce.length ≤ 140737488355328) (hi : h.id.length ≤ 140737488355328) (hn : h.nonce.length ≤ 140737488355328)
    (w : World) (hps : PSl w a c) (hlc : c.length ≤ cap) (hcap : cap ≤ 9223372036854775807) :
    Calls Try.prog 16 #[.string (str key), .agg #[.string (str g.id), .int .i64 g.ver, .string (str g.nonce)], .agg #[.string (str h.id), .int .i64 h.ver, .string (str h.nonce)], .slice a c.length cap, .string (str text)] w fun e w' => e = .returned (.bool true) ∧ Fr (fun _ => False) w w' := by
  obtain ⟨K, hK⟩ : ∃ s, s = str key := ⟨_, rfl⟩
  obtain ⟨T, hT⟩ : ∃ s, s = str text := ⟨_, rfl⟩
  obtain ⟨I1, hI1⟩ : ∃ s, s = str g.id := ⟨_, rfl⟩
  obtain ⟨N1, hN1⟩ : ∃ s, s = str g.nonce := ⟨_, rfl⟩
  obtain ⟨v1, hv1⟩ : ∃ s, s = g.ver := ⟨_, rfl⟩
  obtain ⟨I2, hI2⟩ : ∃ s, s = str h.id := ⟨_, rfl⟩
  obtain ⟨N2, hN2⟩ : ∃ s, s = str h.nonce := ⟨_, rfl⟩
  obtain ⟨v2, hv2⟩ : ∃ s, s = h.ver := ⟨_, rfl⟩
  obtain ⟨n, hnc⟩ : ∃ s, s = c.length := ⟨_, rfl⟩
  obtain ⟨fw, hfw⟩ : ∃ s, s = fewB c := ⟨_, rfl⟩
  obtain ⟨tn, htn⟩ : ∃ s, s = T.size := ⟨_, rfl⟩
  obtain ⟨A, hA⟩ : ∃ s, s = bstr key g c text := ⟨_, rfl⟩
  obtain ⟨B, hB⟩ : ∃ s, s = bstr key h c text := ⟨_, rfl⟩
  obtain ⟨ea, hea⟩ : ∃ s, s = bcode key g c text := ⟨_, rfl⟩
  obtain ⟨eb, heb⟩ : ∃ s, s = bcode key h c text := ⟨_, rfl⟩
  have htt : tn = text.length := by rw [htn, hT, str_size]
  have htn' : T.size = tn := htn.symm
  have HAw := Lib.hid (blob_awake (w := (w.alloc (.cells #[.string I1, .int .i64 v1, .string N1] 83)).alloc (.cells #[.string I2, .int .i64 v2, .string N2] 83)))
  have HFew := Lib.hid (show ∀ w', Fr (fun _ => False) w w' → Calls Try.prog 66 #[.slice a n cap] w' fun e w2 => e = .returned (.bool fw) ∧ Fr (fun _ => False) w' w2 from fun w' hf => by
    rw [hfw, hnc]; exact few_calls a cap c w' (hps.frF hf) hlc hcap)
  have HBg := Lib.hid (show fw = true → ∀ w', Fr (fun _ => False) w w' → Calls Try.prog 67 #[.string K, .agg #[.string I1, .int .i64 v1, .string N1], .slice a n cap, .string T] w' fun e w2 => e = .returned (.tuple #[.string A, .int .i64 ea]) ∧ Fr (fun _ => False) w' w2 from fun hf1 w' hf => by
    have hf2 := (fewB_iff c).1 (hfw ▸ hf1)
    rw [hK, hI1, hv1, hN1, hnc, hT, hA, hea]
    exact build_calls key g a cap c text gi gn hkl (by have := hf2.1; omega) (fun p hp => by have := hf2.2 p hp; omega) w' (hps.frF hf) hlc hcap)
  have HBh := Lib.hid (show fw = true → ∀ w', Fr (fun _ => False) w w' → Calls Try.prog 67 #[.string K, .agg #[.string I2, .int .i64 v2, .string N2], .slice a n cap, .string T] w' fun e w2 => e = .returned (.tuple #[.string B, .int .i64 eb]) ∧ Fr (fun _ => False) w' w2 from fun hf1 w' hf => by
    have hf2 := (fewB_iff c).1 (hfw ▸ hf1)
    rw [hK, hI2, hv2, hN2, hnc, hT, hB, heb]
    exact build_calls key h a cap c text hi hn hkl (by have := hf2.1; omega) (fun p hp => by have := hf2.2 p hp; omega) w' (hps.frF hf) hlc hcap)
  have hcases : (ea ≠ 0 ∧ A = ⟨#[]⟩ ∧ eb ≠ 0 ∧ B = ⟨#[]⟩) ∨ (ea ≠ 0 ∧ A = ⟨#[]⟩ ∧ eb = 0) ∨ (ea = 0 ∧ eb ≠ 0 ∧ B = ⟨#[]⟩) ∨ (ea = 0 ∧ eb = 0 ∧ A.size = 32 + I1.size + tn ∧ I1.size ≤ 64 ∧ (A.toList == B.toList) = (I1.toList == I2.toList && v1 == v2 && N1.toList == N2.toList)) := by
    by_cases h1 : ea = 0
    · by_cases h2 : eb = 0
      · obtain ⟨o1, s1⟩ := bcode_yes (hea ▸ h1)
        obtain ⟨o2, s2⟩ := bcode_yes (heb ▸ h2)
        refine .inr (.inr (.inr ⟨h1, h2, ?_, ?_, ?_⟩))
        · rw [hA, s1, str_size, blobL_length _ _ o1, hI1, str_size, htt]
        · rw [hI1, str_size]; exact (okH_len o1).1
        · rw [hA, hB, s1, s2, hI1, hI2, hN1, hN2, hv1, hv2, str_toList, str_toList, str_toList, str_toList, str_toList, str_toList, beq_list, beq_list, beq_list]
          rw [show (g.ver == h.ver) = decide (g.ver = h.ver) from rfl, ← Bool.decide_and, ← Bool.decide_and]
          refine decide_eq_decide.2 ((blob_eq o1 o2).trans ⟨fun e => by rw [e]; exact ⟨⟨rfl, rfl⟩, rfl⟩, fun e => ?_⟩)
          cases g; cases h
          obtain ⟨⟨e1, e2⟩, e3⟩ := e
          simp only at e1 e2 e3
          rw [e1, e2, e3]
      · exact .inr (.inr (.inl ⟨h1, h2, by rw [hB]; exact bcode_no (heb ▸ h2)⟩))
    · by_cases h2 : eb = 0
      · exact .inr (.inl ⟨h1, by rw [hA]; exact bcode_no (hea ▸ h1), h2⟩)
      · exact .inl ⟨h1, by rw [hA]; exact bcode_no (hea ▸ h1), h2, by rw [hB]; exact bcode_no (heb ▸ h2)⟩
  have HCs := Lib.hid hcases
  have hb1 := heap_alloc_new w (.cells #[.string I1, .int .i64 v1, .string N1] 83)
  obtain ⟨w0, hw0⟩ : ∃ w0, w0 = (w.alloc (.cells #[.string I1, .int .i64 v1, .string N1] 83)).alloc (.cells #[.string I2, .int .i64 v2, .string N2] 83) := ⟨_, rfl⟩
  have hf0 : Fr (fun _ => False) w w0 := by rw [hw0]; exact ((Fr.refl _ _).alloc _).alloc _
  have hg1 : w0.heap[w.heap.size]? = some (.cells #[.string I1, .int .i64 v1, .string N1] 83 (0, 0)) := by rw [hw0]; exact ((Fr.refl (fun _ => False) _).alloc _).heap hb1 id
  have hg2 : w0.heap[w.heap.size + 1]? = some (.cells #[.string I2, .int .i64 v2, .string N2] 83 (0, 0)) := by
    have h := heap_alloc_new (w.alloc (.cells #[.string I1, .int .i64 v1, .string N1] 83)) (.cells #[.string I2, .int .i64 v2, .string N2] 83)
    rw [World.size_alloc] at h
    rw [hw0]; exact h
  rw [← hw0] at HAw
  have HW0 := hw0.symm
  have HF0 := Lib.hid hf0
  have HG1 := Lib.hid hg1
  have HG2 := Lib.hid hg2
  rw [← hK, ← hI1, ← hv1, ← hN1, ← hI2, ← hv2, ← hN2, ← hnc, ← hT]
  have htl2 : tn ≤ 140737488355328 := by omega
  clear hK hT hI1 hN1 hv1 hI2 hN2 hv2 hnc hfw htn hA hB hea heb htt hcases hb1 hw0 hf0 hg1 hg2 hkl htl gi gn hi hn hps hlc hcap
  cases fw with
  | false =>
    go_enter Try.func16, Try.ntmps16
    go_wp2_with fail
    refine HAw.out.mono ?_
    rintro e w1 ⟨rfl, f1⟩
    have HF1 := Lib.hid (HF0.out.trans f1 (fun i hi => hi.elim))
    clear f1
    go_wp2_with fail
    refine (HFew.out w1 HF1.out).mono ?_
    rintro e w2 ⟨rfl, f2⟩
    have HF2 := Lib.hid (HF1.out.trans f2 (fun i hi => hi.elim))
    clear f2
    go_wp2_with fail
    go_ret
    exact ⟨rfl, HF2.out⟩
  | true =>
    by_cases ht : tn ≤ 1100
    rotate_left
    · have d1 : decide ((1100 : Int) < (tn : Int)) = true := decide_eq_true (by omega)
      have d2 : decide (1100 < tn) = true := decide_eq_true (by omega)
      go_enter Try.func16, Try.ntmps16
      go_wp2_with fail
      refine HAw.out.mono ?_
      rintro e w1 ⟨rfl, f1⟩
      have HF1 := Lib.hid (HF0.out.trans f1 (fun i hi => hi.elim))
      clear f1
      go_wp2_with fail
      refine (HFew.out w1 HF1.out).mono ?_
      rintro e w2 ⟨rfl, f2⟩
      have HF2 := Lib.hid (HF1.out.trans f2 (fun i hi => hi.elim))
      clear f2
      go_wp2_with fail
      go_ret
      exact ⟨rfl, HF2.out⟩
    · have d1 : decide ((1100 : Int) < (tn : Int)) = false := decide_eq_false (by omega)
      have d2 : decide (1100 < tn) = false := decide_eq_false (by omega)
      go_enter Try.func16, Try.ntmps16
      go_wp2_with fail
      refine HAw.out.mono ?_
      rintro e w1 ⟨rfl, f1⟩
      have HF1 := Lib.hid (HF0.out.trans f1 (fun i hi => hi.elim))
      have HR1 := Lib.hid f1
      clear f1
      go_wp2_with fail
      refine (HFew.out w1 HF1.out).mono ?_
      rintro e w2 ⟨rfl, f2⟩
      have HF2 := Lib.hid (HF1.out.trans f2 (fun i hi => hi.elim))
      have HR2 := Lib.hid (HR1.out.trans f2 (fun i hi => hi.elim))
      have x10w2 : w2.cell? ⟨w.heap.size, 0, none⟩ = some (.string I1) := (cell_of_row w2 _ 0 _ _ _ (HR2.out.heap HG1.out id)).trans rfl
      have x11w2 : w2.cell? ⟨w.heap.size, 1, none⟩ = some (.int .i64 v1) := (cell_of_row w2 _ 1 _ _ _ (HR2.out.heap HG1.out id)).trans rfl
      have x12w2 : w2.cell? ⟨w.heap.size, 2, none⟩ = some (.string N1) := (cell_of_row w2 _ 2 _ _ _ (HR2.out.heap HG1.out id)).trans rfl
      have x20w2 : w2.cell? ⟨w.heap.size + 1, 0, none⟩ = some (.string I2) := (cell_of_row w2 _ 0 _ _ _ (HR2.out.heap HG2.out id)).trans rfl
      have x21w2 : w2.cell? ⟨w.heap.size + 1, 1, none⟩ = some (.int .i64 v2) := (cell_of_row w2 _ 1 _ _ _ (HR2.out.heap HG2.out id)).trans rfl
      have x22w2 : w2.cell? ⟨w.heap.size + 1, 2, none⟩ = some (.string N2) := (cell_of_row w2 _ 2 _ _ _ (HR2.out.heap HG2.out id)).trans rfl
      clear f2
      go_wp2_with fail
      refine (HBg.out (by trivial) w2 HF2.out).mono ?_
      rintro e w3 ⟨rfl, f3⟩
      have HF3 := Lib.hid (HF2.out.trans f3 (fun i hi => hi.elim))
      have HR3 := Lib.hid (HR2.out.trans f3 (fun i hi => hi.elim))
      have x10w3 : w3.cell? ⟨w.heap.size, 0, none⟩ = some (.string I1) := (cell_of_row w3 _ 0 _ _ _ (HR3.out.heap HG1.out id)).trans rfl
      have x11w3 : w3.cell? ⟨w.heap.size, 1, none⟩ = some (.int .i64 v1) := (cell_of_row w3 _ 1 _ _ _ (HR3.out.heap HG1.out id)).trans rfl
      have x12w3 : w3.cell? ⟨w.heap.size, 2, none⟩ = some (.string N1) := (cell_of_row w3 _ 2 _ _ _ (HR3.out.heap HG1.out id)).trans rfl
      have x20w3 : w3.cell? ⟨w.heap.size + 1, 0, none⟩ = some (.string I2) := (cell_of_row w3 _ 0 _ _ _ (HR3.out.heap HG2.out id)).trans rfl
      have x21w3 : w3.cell? ⟨w.heap.size + 1, 1, none⟩ = some (.int .i64 v2) := (cell_of_row w3 _ 1 _ _ _ (HR3.out.heap HG2.out id)).trans rfl
      have x22w3 : w3.cell? ⟨w.heap.size + 1, 2, none⟩ = some (.string N2) := (cell_of_row w3 _ 2 _ _ _ (HR3.out.heap HG2.out id)).trans rfl
      clear f3
      go_wp2_with fail
      refine (HBh.out (by trivial) w3 HF3.out).mono ?_
      rintro e w4 ⟨rfl, f4⟩
      have HF4 := Lib.hid (HF3.out.trans f4 (fun i hi => hi.elim))
      have HR4 := Lib.hid (HR3.out.trans f4 (fun i hi => hi.elim))
      have x10w4 : w4.cell? ⟨w.heap.size, 0, none⟩ = some (.string I1) := (cell_of_row w4 _ 0 _ _ _ (HR4.out.heap HG1.out id)).trans rfl
      have x11w4 : w4.cell? ⟨w.heap.size, 1, none⟩ = some (.int .i64 v1) := (cell_of_row w4 _ 1 _ _ _ (HR4.out.heap HG1.out id)).trans rfl
      have x12w4 : w4.cell? ⟨w.heap.size, 2, none⟩ = some (.string N1) := (cell_of_row w4 _ 2 _ _ _ (HR4.out.heap HG1.out id)).trans rfl
      have x20w4 : w4.cell? ⟨w.heap.size + 1, 0, none⟩ = some (.string I2) := (cell_of_row w4 _ 0 _ _ _ (HR4.out.heap HG2.out id)).trans rfl
      have x21w4 : w4.cell? ⟨w.heap.size + 1, 1, none⟩ = some (.int .i64 v2) := (cell_of_row w4 _ 1 _ _ _ (HR4.out.heap HG2.out id)).trans rfl
      have x22w4 : w4.cell? ⟨w.heap.size + 1, 2, none⟩ = some (.string N2) := (cell_of_row w4 _ 2 _ _ _ (HR4.out.heap HG2.out id)).trans rfl
      clear f4
      go_wp2_with fail
      refine (HBg.out (by trivial) w4 HF4.out).mono ?_
      rintro e w5 ⟨rfl, f5⟩
      have HF5 := Lib.hid (HF4.out.trans f5 (fun i hi => hi.elim))
      have HR5 := Lib.hid (HR4.out.trans f5 (fun i hi => hi.elim))
      have x10w5 : w5.cell? ⟨w.heap.size, 0, none⟩ = some (.string I1) := (cell_of_row w5 _ 0 _ _ _ (HR5.out.heap HG1.out id)).trans rfl
      have x11w5 : w5.cell? ⟨w.heap.size, 1, none⟩ = some (.int .i64 v1) := (cell_of_row w5 _ 1 _ _ _ (HR5.out.heap HG1.out id)).trans rfl
      have x12w5 : w5.cell? ⟨w.heap.size, 2, none⟩ = some (.string N1) := (cell_of_row w5 _ 2 _ _ _ (HR5.out.heap HG1.out id)).trans rfl
      have x20w5 : w5.cell? ⟨w.heap.size + 1, 0, none⟩ = some (.string I2) := (cell_of_row w5 _ 0 _ _ _ (HR5.out.heap HG2.out id)).trans rfl
      have x21w5 : w5.cell? ⟨w.heap.size + 1, 1, none⟩ = some (.int .i64 v2) := (cell_of_row w5 _ 1 _ _ _ (HR5.out.heap HG2.out id)).trans rfl
      have x22w5 : w5.cell? ⟨w.heap.size + 1, 2, none⟩ = some (.string N2) := (cell_of_row w5 _ 2 _ _ _ (HR5.out.heap HG2.out id)).trans rfl
      clear f5
      rcases HCs.out with ⟨h1, hA, h2, hB⟩ | ⟨h1, hA, rfl⟩ | ⟨rfl, h2, hB⟩ | ⟨rfl, rfl, hAs, hI64, hq⟩
      · have b1 : (ea == 0) = false := beq_eq_false_iff_ne.2 h1
        have b2 : (eb == 0) = false := beq_eq_false_iff_ne.2 h2
        subst hA
        subst hB
        go_wp2_with fail
        go_ret
        exact ⟨rfl, HF5.out⟩
      · have b1 : (ea == 0) = false := beq_eq_false_iff_ne.2 h1
        subst hA
        go_wp2_with fail
        go_ret
        exact ⟨rfl, HF5.out⟩
      · have b2 : (eb == 0) = false := beq_eq_false_iff_ne.2 h2
        subst hB
        go_wp2_with fail
        go_ret
        exact ⟨rfl, HF5.out⟩
      · obtain ⟨i1, hi1⟩ : ∃ i, i = I1.size := ⟨_, rfl⟩
        obtain ⟨an, han⟩ : ∃ i, i = A.size := ⟨_, rfl⟩
        have hi1' : I1.size = i1 := hi1.symm
        have han' : A.size = an := han.symm
        have e1 : IntKind.i64.wrap (3 + (i1 : Int)) = 3 + (i1 : Int) := IntWalk.i64_in _ (by omega)
        have e2 : IntKind.i64.wrap (3 + (i1 : Int) + 1) = 3 + (i1 : Int) + 1 := IntWalk.i64_in _ (by omega)
        have e3 : IntKind.i64.wrap (3 + (i1 : Int) + 1 + 12) = 3 + (i1 : Int) + 1 + 12 := IntWalk.i64_in _ (by omega)
        have e4 : IntKind.i64.wrap (3 + (i1 : Int) + 1 + 12 + (tn : Int)) = 3 + (i1 : Int) + 1 + 12 + (tn : Int) := IntWalk.i64_in _ (by omega)
        have e5 : IntKind.i64.wrap (3 + (i1 : Int) + 1 + 12 + (tn : Int) + 16) = (an : Int) := by rw [IntWalk.i64_in _ (by omega)]; omega
        clear hi1 han hAs
        have hq4 : ((A.toList == B.toList) = false ∧ (I1.toList == I2.toList) = false) ∨ ((A.toList == B.toList) = false ∧ (I1.toList == I2.toList) = true ∧ (v1 == v2) = false) ∨ ((A.toList == B.toList) = false ∧ (I1.toList == I2.toList) = true ∧ (v1 == v2) = true ∧ (N1.toList == N2.toList) = false) ∨ ((A.toList == B.toList) = true ∧ (I1.toList == I2.toList) = true ∧ (v1 == v2) = true ∧ (N1.toList == N2.toList) = true) := by
          revert hq
          generalize (A.toList == B.toList) = q0
          generalize (I1.toList == I2.toList) = q1
          generalize (v1 == v2) = q2
          generalize (N1.toList == N2.toList) = q3
          intro hq
          rw [hq]
          cases q1 <;> cases q2 <;> cases q3 <;> simp
        clear hq
        rcases hq4 with ⟨q0, q1⟩ | ⟨q0, q1, q2⟩ | ⟨q0, q1, q2, q3⟩ | ⟨q0, q1, q2, q3⟩
        all_goals
          go_wp2_with fail
          go_ret
          exact ⟨rfl, HF5.out⟩
end Go.Proofs.Ytcchhfkmhbjdmaa
