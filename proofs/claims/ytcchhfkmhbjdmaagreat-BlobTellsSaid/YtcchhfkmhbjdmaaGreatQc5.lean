/- Blobs: the law BlobTells, walked. -/
import Derived.Test.YtcchhfkmhbjdmaaGreatQc4
import Derived.Test.YtcchhfkmhbjdmaaGreatQb9
set_option linter.unusedVariables false
set_option linter.unusedSimpArgs false
set_option pp.deepTerms true
set_option pp.maxSteps 100000
namespace Go.Proofs.YtcchhfkmhbjdmaaGreat
open Go.RowKit
set_option maxRecDepth 20000 in
set_option maxHeartbeats 8000000 in
theorem btells_walk (key text b : List UInt8) (h : Hd) (a : Option Addr) (cap : Nat) (c : List Pr) (w : World) (hps : PSl w a c) (hlc : c.length ≤ cap) (hcap : cap ≤ 9223372036854775807) :
    Calls Tryz.prog 3 #[.string (str key), .agg #[.string (str h.id), .int .i64 h.ver, .string (str h.nonce)], .slice a c.length cap, .string (str text), .string (str b)] w fun e w' => e = .returned (.bool true) ∧ Fr (fun _ => False) w w' := by
  obtain ⟨K, hK⟩ : ∃ s, s = str key := ⟨_, rfl⟩
  obtain ⟨T, hT⟩ : ∃ s, s = str text := ⟨_, rfl⟩
  obtain ⟨B, hB⟩ : ∃ s, s = str b := ⟨_, rfl⟩
  obtain ⟨I, hI⟩ : ∃ s, s = str h.id := ⟨_, rfl⟩
  obtain ⟨N, hN⟩ : ∃ s, s = str h.nonce := ⟨_, rfl⟩
  obtain ⟨v, hv⟩ : ∃ s, s = h.ver := ⟨_, rfl⟩
  obtain ⟨n, hnc⟩ : ∃ s, s = c.length := ⟨_, rfl⟩
  obtain ⟨fw, hfw⟩ : ∃ s, s = fewB c := ⟨_, rfl⟩
  obtain ⟨kn, hkn⟩ : ∃ s, s = K.size := ⟨_, rfl⟩
  obtain ⟨tn, htn⟩ : ∃ s, s = T.size := ⟨_, rfl⟩
  obtain ⟨bn, hbn⟩ : ∃ s, s = B.size := ⟨_, rfl⟩
  obtain ⟨il, hil⟩ : ∃ s, s = I.size := ⟨_, rfl⟩
  obtain ⟨nl, hnl⟩ : ∃ s, s = N.size := ⟨_, rfl⟩
  have xk : kn = key.length := by rw [hkn, hK, str_size]
  have xb : bn = b.length := by rw [hbn, hB, str_size]
  have xi : il = h.id.length := by rw [hil, hI, str_size]
  have xn : nl = h.nonce.length := by rw [hnl, hN, str_size]
  have sk : K.size = kn := hkn.symm
  have st : T.size = tn := htn.symm
  have sb : B.size = bn := hbn.symm
  have si : I.size = il := hil.symm
  have sn : N.size = nl := hnl.symm
  obtain ⟨A, hA⟩ : ∃ s, s = bstr key h c text := ⟨_, rfl⟩
  obtain ⟨ea, hea⟩ : ∃ s, s = bcode key h c text := ⟨_, rfl⟩
  obtain ⟨PI, hPI⟩ : ∃ s, s = str (parseH b).id := ⟨_, rfl⟩
  obtain ⟨pv, hpv⟩ : ∃ s, s = (parseH b).ver := ⟨_, rfl⟩
  obtain ⟨PN, hPN⟩ : ∃ s, s = str (parseH b).nonce := ⟨_, rfl⟩
  obtain ⟨pc, hpc⟩ : ∃ s, s = parseC b := ⟨_, rfl⟩
  obtain ⟨OS, hOS⟩ : ∃ s, s = openS key b c := ⟨_, rfl⟩
  obtain ⟨oc, hoc⟩ : ∃ s, s = openC key b c := ⟨_, rfl⟩
  have hhc : hdC (parseH b) = .agg #[.string PI, .int .i64 pv, .string PN] := by unfold hdC; rw [hPI, hpv, hPN]
  obtain ⟨w0, hw0⟩ : ∃ w0, w0 = w.alloc (.cells #[.string I, .int .i64 v, .string N] 23) := ⟨_, rfl⟩
  have HAw := Lib.hid (blob_awake w0)
  have HFew := Lib.hid (show ∀ w', Fr (fun _ => False) w w' → Calls Tryz.prog 5 #[.slice a n cap] w' fun e w2 => e = .returned (.bool fw) ∧ Fr (fun _ => False) w' w2 from fun w' hf => by
    rw [hfw, hnc]; exact few_calls a cap c w' (hps.frF hf) hlc hcap)
  have HBg := Lib.hid (show fw = true → kn ≤ 100 → il ≤ 200 → nl ≤ 100 → ∀ w', Fr (fun _ => False) w w' → Calls Tryz.prog 6 #[.string K, .agg #[.string I, .int .i64 v, .string N], .slice a n cap, .string T] w' fun e w2 => e = .returned (.tuple #[.string A, .int .i64 ea]) ∧ Fr (fun _ => False) w' w2 from fun hf1 h1 h2 h3 w' hf => by
    have hf2 := (fewB_iff c).1 (hfw ▸ hf1)
    rw [hK, hI, hv, hN, hnc, hT, hA, hea]
    exact build_calls key h a cap c text (by omega) (by omega) (by omega) (by have := hf2.1; omega) (fun p hp => by have := hf2.2 p hp; omega) w' (hps.frF hf) hlc hcap)
  have HBr := Lib.hid (show fw = true → kn ≤ 100 → il ≤ 200 → nl ≤ 100 → ∀ w', Fr (fun _ => False) w w' → Calls Tryz.prog 7 #[.string K, .agg #[.string I, .int .i64 v, .string N], .slice a n cap, .string T] w' fun e w2 => e = .returned (.tuple #[.string A, .int .i64 ea]) ∧ Fr (fun _ => False) w' w2 from fun hf1 h1 h2 h3 w' hf => by
    have hf2 := (fewB_iff c).1 (hfw ▸ hf1)
    rw [hK, hI, hv, hN, hnc, hT, hA, hea]
    exact refbuild_calls key h a cap c text (by omega) (by omega) (by omega) (by have := hf2.1; omega) (fun p hp => by have := hf2.2 p hp; omega) w' (hps.frF hf) hlc hcap)
  have HPa := Lib.hid (show bn ≤ 1500 → ∀ w, Calls Tryz.prog 8 #[.string B] w fun e w' => e = .returned (.tuple #[.agg #[.string PI, .int .i64 pv, .string PN], .int .i64 pc]) ∧ Fr (fun _ => False) w w' from fun h1 w => by
    rw [hB, ← hhc, hpc]; exact bparse_calls b (by omega) w)
  have HPr := Lib.hid (show bn ≤ 1500 → ∀ w, Calls Tryz.prog 9 #[.string B] w fun e w' => e = .returned (.tuple #[.agg #[.string PI, .int .i64 pv, .string PN], .int .i64 pc]) ∧ Fr (fun _ => False) w w' from fun h1 w => by
    rw [hB, ← hhc, hpc]; exact refparse_calls b (by omega) w)
  have HOp := Lib.hid (show fw = true → kn ≤ 100 → bn ≤ 1500 → ∀ w', Fr (fun _ => False) w w' → Calls Tryz.prog 10 #[.string K, .string B, .slice a n cap] w' fun e w2 => e = .returned (.tuple #[.string OS, .int .i64 oc]) ∧ Fr (fun _ => False) w' w2 from fun hf1 h1 h2 w' hf => by
    have hf2 := (fewB_iff c).1 (hfw ▸ hf1)
    rw [hK, hB, hnc, hOS, hoc]
    exact bopen_calls key b a cap c (by omega) (by omega) (by have := hf2.1; omega) (fun p hp => by have := hf2.2 p hp; omega) w' (hps.frF hf) hlc hcap)
  have HOr := Lib.hid (show fw = true → kn ≤ 100 → bn ≤ 1500 → ∀ w', Fr (fun _ => False) w w' → Calls Tryz.prog 11 #[.string K, .string B, .slice a n cap] w' fun e w2 => e = .returned (.tuple #[.string OS, .int .i64 oc]) ∧ Fr (fun _ => False) w' w2 from fun hf1 h1 h2 w' hf => by
    have hf2 := (fewB_iff c).1 (hfw ▸ hf1)
    rw [hK, hB, hnc, hOS, hoc]
    exact refopenb_calls key b a cap c (by omega) (by omega) (by have := hf2.1; omega) (fun p hp => by have := hf2.2 p hp; omega) w' (hps.frF hf) hlc hcap)
  have hf0 : Fr (fun _ => False) w w0 := by rw [hw0]; exact (Fr.refl _ _).alloc _
  obtain ⟨BX, hBX⟩ : ∃ b, b = w.heap.size := ⟨_, rfl⟩
  have hg0 : w0.heap[BX]? = some (.cells #[.string I, .int .i64 v, .string N] 23 (0, 0)) := by rw [hw0, hBX]; exact heap_alloc_new w _
  have HW0 := hw0.symm
  have HX := hBX.symm
  have HF0 := Lib.hid hf0
  have HG0 := Lib.hid hg0
  rw [← hK, ← hI, ← hv, ← hN, ← hnc, ← hT, ← hB]
  clear hK hT hB hI hN hv hnc hfw hkn htn hbn hil hnl xk xb xi xn hA hea hPI hpv hPN hpc hOS hoc hhc hw0 hBX hf0 hg0 hps hlc hcap
  by_cases t1 : 100 < kn
  · have dt1 : decide ((100 : Int) < (kn : Int)) = true := decide_eq_true (by omega)
    have et1 : decide (100 < kn) = true := decide_eq_true t1
    go_enter Tryz.func3, Tryz.ntmps3
    go_wp2_with fail
    refine HAw.out.mono ?_
    rintro e w1 ⟨rfl, f1⟩
    have HF1 := Lib.hid (HF0.out.trans f1 (fun i hi => hi.elim))
    have HG1 := Lib.hid (f1.heap HG0.out id)
    have u0w1 : w1.cell? ⟨BX, 0, none⟩ = some (.string I) := (cell_of_row w1 _ 0 _ _ _ HG1.out).trans rfl
    have u1w1 : w1.cell? ⟨BX, 1, none⟩ = some (.int .i64 v) := (cell_of_row w1 _ 1 _ _ _ HG1.out).trans rfl
    have u2w1 : w1.cell? ⟨BX, 2, none⟩ = some (.string N) := (cell_of_row w1 _ 2 _ _ _ HG1.out).trans rfl
    clear f1
    go_wp2_with fail
    go_ret
    exact ⟨rfl, HF1.out⟩
  have dt1 : decide ((100 : Int) < (kn : Int)) = false := decide_eq_false (by omega)
  have et1 : decide (100 < kn) = false := decide_eq_false t1
  by_cases t2 : 200 < il
  · have dt2 : decide ((200 : Int) < (il : Int)) = true := decide_eq_true (by omega)
    have et2 : decide (200 < il) = true := decide_eq_true t2
    go_enter Tryz.func3, Tryz.ntmps3
    go_wp2_with fail
    refine HAw.out.mono ?_
    rintro e w1 ⟨rfl, f1⟩
    have HF1 := Lib.hid (HF0.out.trans f1 (fun i hi => hi.elim))
    have HG1 := Lib.hid (f1.heap HG0.out id)
    have u0w1 : w1.cell? ⟨BX, 0, none⟩ = some (.string I) := (cell_of_row w1 _ 0 _ _ _ HG1.out).trans rfl
    have u1w1 : w1.cell? ⟨BX, 1, none⟩ = some (.int .i64 v) := (cell_of_row w1 _ 1 _ _ _ HG1.out).trans rfl
    have u2w1 : w1.cell? ⟨BX, 2, none⟩ = some (.string N) := (cell_of_row w1 _ 2 _ _ _ HG1.out).trans rfl
    clear f1
    go_wp2_with fail
    go_ret
    exact ⟨rfl, HF1.out⟩
  have dt2 : decide ((200 : Int) < (il : Int)) = false := decide_eq_false (by omega)
  have et2 : decide (200 < il) = false := decide_eq_false t2
  by_cases t3 : 100 < nl
  · have dt3 : decide ((100 : Int) < (nl : Int)) = true := decide_eq_true (by omega)
    have et3 : decide (100 < nl) = true := decide_eq_true t3
    go_enter Tryz.func3, Tryz.ntmps3
    go_wp2_with fail
    refine HAw.out.mono ?_
    rintro e w1 ⟨rfl, f1⟩
    have HF1 := Lib.hid (HF0.out.trans f1 (fun i hi => hi.elim))
    have HG1 := Lib.hid (f1.heap HG0.out id)
    have u0w1 : w1.cell? ⟨BX, 0, none⟩ = some (.string I) := (cell_of_row w1 _ 0 _ _ _ HG1.out).trans rfl
    have u1w1 : w1.cell? ⟨BX, 1, none⟩ = some (.int .i64 v) := (cell_of_row w1 _ 1 _ _ _ HG1.out).trans rfl
    have u2w1 : w1.cell? ⟨BX, 2, none⟩ = some (.string N) := (cell_of_row w1 _ 2 _ _ _ HG1.out).trans rfl
    clear f1
    go_wp2_with fail
    go_ret
    exact ⟨rfl, HF1.out⟩
  have dt3 : decide ((100 : Int) < (nl : Int)) = false := decide_eq_false (by omega)
  have et3 : decide (100 < nl) = false := decide_eq_false t3
  cases fw with
  | false =>
    go_enter Tryz.func3, Tryz.ntmps3
    go_wp2_with fail
    refine HAw.out.mono ?_
    rintro e w1 ⟨rfl, f1⟩
    have HF1 := Lib.hid (HF0.out.trans f1 (fun i hi => hi.elim))
    have HG1 := Lib.hid (f1.heap HG0.out id)
    have u0w1 : w1.cell? ⟨BX, 0, none⟩ = some (.string I) := (cell_of_row w1 _ 0 _ _ _ HG1.out).trans rfl
    have u1w1 : w1.cell? ⟨BX, 1, none⟩ = some (.int .i64 v) := (cell_of_row w1 _ 1 _ _ _ HG1.out).trans rfl
    have u2w1 : w1.cell? ⟨BX, 2, none⟩ = some (.string N) := (cell_of_row w1 _ 2 _ _ _ HG1.out).trans rfl
    clear f1
    go_wp2_with fail
    refine (HFew.out w1 HF1.out).mono ?_
    rintro e w2 ⟨rfl, f2⟩
    have HF2 := Lib.hid (HF1.out.trans f2 (fun i hi => hi.elim))
    have HG2 := Lib.hid (f2.heap HG1.out id)
    have u0w2 : w2.cell? ⟨BX, 0, none⟩ = some (.string I) := (cell_of_row w2 _ 0 _ _ _ HG2.out).trans rfl
    have u1w2 : w2.cell? ⟨BX, 1, none⟩ = some (.int .i64 v) := (cell_of_row w2 _ 1 _ _ _ HG2.out).trans rfl
    have u2w2 : w2.cell? ⟨BX, 2, none⟩ = some (.string N) := (cell_of_row w2 _ 2 _ _ _ HG2.out).trans rfl
    clear f2
    go_wp2_with fail
    go_ret
    exact ⟨rfl, HF2.out⟩
  | true =>
    by_cases t4 : 1100 < tn
    · have dt4 : decide ((1100 : Int) < (tn : Int)) = true := decide_eq_true (by omega)
      have et4 : decide (1100 < tn) = true := decide_eq_true t4
      go_enter Tryz.func3, Tryz.ntmps3
      go_wp2_with fail
      refine HAw.out.mono ?_
      rintro e w1 ⟨rfl, f1⟩
      have HF1 := Lib.hid (HF0.out.trans f1 (fun i hi => hi.elim))
      have HG1 := Lib.hid (f1.heap HG0.out id)
      have u0w1 : w1.cell? ⟨BX, 0, none⟩ = some (.string I) := (cell_of_row w1 _ 0 _ _ _ HG1.out).trans rfl
      have u1w1 : w1.cell? ⟨BX, 1, none⟩ = some (.int .i64 v) := (cell_of_row w1 _ 1 _ _ _ HG1.out).trans rfl
      have u2w1 : w1.cell? ⟨BX, 2, none⟩ = some (.string N) := (cell_of_row w1 _ 2 _ _ _ HG1.out).trans rfl
      clear f1
      go_wp2_with fail
      refine (HFew.out w1 HF1.out).mono ?_
      rintro e w2 ⟨rfl, f2⟩
      have HF2 := Lib.hid (HF1.out.trans f2 (fun i hi => hi.elim))
      have HG2 := Lib.hid (f2.heap HG1.out id)
      have u0w2 : w2.cell? ⟨BX, 0, none⟩ = some (.string I) := (cell_of_row w2 _ 0 _ _ _ HG2.out).trans rfl
      have u1w2 : w2.cell? ⟨BX, 1, none⟩ = some (.int .i64 v) := (cell_of_row w2 _ 1 _ _ _ HG2.out).trans rfl
      have u2w2 : w2.cell? ⟨BX, 2, none⟩ = some (.string N) := (cell_of_row w2 _ 2 _ _ _ HG2.out).trans rfl
      clear f2
      go_wp2_with fail
      go_ret
      exact ⟨rfl, HF2.out⟩
    have dt4 : decide ((1100 : Int) < (tn : Int)) = false := decide_eq_false (by omega)
    have et4 : decide (1100 < tn) = false := decide_eq_false t4
    by_cases t5 : 1500 < bn
    · have dt5 : decide ((1500 : Int) < (bn : Int)) = true := decide_eq_true (by omega)
      have et5 : decide (1500 < bn) = true := decide_eq_true t5
      go_enter Tryz.func3, Tryz.ntmps3
      go_wp2_with fail
      refine HAw.out.mono ?_
      rintro e w1 ⟨rfl, f1⟩
      have HF1 := Lib.hid (HF0.out.trans f1 (fun i hi => hi.elim))
      have HG1 := Lib.hid (f1.heap HG0.out id)
      have u0w1 : w1.cell? ⟨BX, 0, none⟩ = some (.string I) := (cell_of_row w1 _ 0 _ _ _ HG1.out).trans rfl
      have u1w1 : w1.cell? ⟨BX, 1, none⟩ = some (.int .i64 v) := (cell_of_row w1 _ 1 _ _ _ HG1.out).trans rfl
      have u2w1 : w1.cell? ⟨BX, 2, none⟩ = some (.string N) := (cell_of_row w1 _ 2 _ _ _ HG1.out).trans rfl
      clear f1
      go_wp2_with fail
      refine (HFew.out w1 HF1.out).mono ?_
      rintro e w2 ⟨rfl, f2⟩
      have HF2 := Lib.hid (HF1.out.trans f2 (fun i hi => hi.elim))
      have HG2 := Lib.hid (f2.heap HG1.out id)
      have u0w2 : w2.cell? ⟨BX, 0, none⟩ = some (.string I) := (cell_of_row w2 _ 0 _ _ _ HG2.out).trans rfl
      have u1w2 : w2.cell? ⟨BX, 1, none⟩ = some (.int .i64 v) := (cell_of_row w2 _ 1 _ _ _ HG2.out).trans rfl
      have u2w2 : w2.cell? ⟨BX, 2, none⟩ = some (.string N) := (cell_of_row w2 _ 2 _ _ _ HG2.out).trans rfl
      clear f2
      go_wp2_with fail
      go_ret
      exact ⟨rfl, HF2.out⟩
    have dt5 : decide ((1500 : Int) < (bn : Int)) = false := decide_eq_false (by omega)
    have et5 : decide (1500 < bn) = false := decide_eq_false t5
    go_enter Tryz.func3, Tryz.ntmps3
    go_wp2_with fail
    refine HAw.out.mono ?_
    rintro e w1 ⟨rfl, f1⟩
    have HF1 := Lib.hid (HF0.out.trans f1 (fun i hi => hi.elim))
    have HG1 := Lib.hid (f1.heap HG0.out id)
    have u0w1 : w1.cell? ⟨BX, 0, none⟩ = some (.string I) := (cell_of_row w1 _ 0 _ _ _ HG1.out).trans rfl
    have u1w1 : w1.cell? ⟨BX, 1, none⟩ = some (.int .i64 v) := (cell_of_row w1 _ 1 _ _ _ HG1.out).trans rfl
    have u2w1 : w1.cell? ⟨BX, 2, none⟩ = some (.string N) := (cell_of_row w1 _ 2 _ _ _ HG1.out).trans rfl
    clear f1
    go_wp2_with fail
    refine (HFew.out w1 HF1.out).mono ?_
    rintro e w2 ⟨rfl, f2⟩
    have HF2 := Lib.hid (HF1.out.trans f2 (fun i hi => hi.elim))
    have HG2 := Lib.hid (f2.heap HG1.out id)
    have u0w2 : w2.cell? ⟨BX, 0, none⟩ = some (.string I) := (cell_of_row w2 _ 0 _ _ _ HG2.out).trans rfl
    have u1w2 : w2.cell? ⟨BX, 1, none⟩ = some (.int .i64 v) := (cell_of_row w2 _ 1 _ _ _ HG2.out).trans rfl
    have u2w2 : w2.cell? ⟨BX, 2, none⟩ = some (.string N) := (cell_of_row w2 _ 2 _ _ _ HG2.out).trans rfl
    clear f2
    go_wp2_with fail
    refine (HBg.out (by trivial) (by omega) (by omega) (by omega) w2 HF2.out).mono ?_
    rintro e w3 ⟨rfl, f3⟩
    have HF3 := Lib.hid (HF2.out.trans f3 (fun i hi => hi.elim))
    have HG3 := Lib.hid (f3.heap HG2.out id)
    have u0w3 : w3.cell? ⟨BX, 0, none⟩ = some (.string I) := (cell_of_row w3 _ 0 _ _ _ HG3.out).trans rfl
    have u1w3 : w3.cell? ⟨BX, 1, none⟩ = some (.int .i64 v) := (cell_of_row w3 _ 1 _ _ _ HG3.out).trans rfl
    have u2w3 : w3.cell? ⟨BX, 2, none⟩ = some (.string N) := (cell_of_row w3 _ 2 _ _ _ HG3.out).trans rfl
    clear f3
    go_wp2_with fail
    refine (HBr.out (by trivial) (by omega) (by omega) (by omega) w3 HF3.out).mono ?_
    rintro e w4 ⟨rfl, f4⟩
    have HF4 := Lib.hid (HF3.out.trans f4 (fun i hi => hi.elim))
    have HG4 := Lib.hid (f4.heap HG3.out id)
    clear f4
    go_wp2_with fail
    refine (HPa.out (by omega) w4).mono ?_
    rintro e w5 ⟨rfl, f5⟩
    obtain ⟨w6, hw6⟩ : ∃ w6, w6 = w5.alloc (.cells #[.string PI, .int .i64 pv, .string PN] 23) := ⟨_, rfl⟩
    obtain ⟨G5, hG5⟩ : ∃ g, g = w5.heap.size := ⟨_, rfl⟩
    have hf6 : Fr (fun _ => False) w4 w6 := by rw [hw6]; exact f5.alloc _
    have HP6 := Lib.hid (show w6.heap[G5]? = some (.cells #[.string PI, .int .i64 pv, .string PN] 23 (0, 0)) by rw [hw6, hG5]; exact heap_alloc_new w5 _)
    have HF6 := Lib.hid (HF4.out.trans hf6 (fun i hi => hi.elim))
    have HW6 := hw6.symm
    have HX5 := hG5.symm
    clear f5 hw6 hG5 hf6
    go_wp2_with fail
    refine (HPr.out (by omega) w6).mono ?_
    rintro e w7 ⟨rfl, f7⟩
    obtain ⟨w8, hw8⟩ : ∃ w8, w8 = w7.alloc (.cells #[.string PI, .int .i64 pv, .string PN] 32) := ⟨_, rfl⟩
    obtain ⟨G7, hG7⟩ : ∃ g, g = w7.heap.size := ⟨_, rfl⟩
    have hf8 : Fr (fun _ => False) w6 w8 := by rw [hw8]; exact f7.alloc _
    have HP8 := Lib.hid (hf8.heap HP6.out id)
    have HQ8 := Lib.hid (show w8.heap[G7]? = some (.cells #[.string PI, .int .i64 pv, .string PN] 32 (0, 0)) by rw [hw8, hG7]; exact heap_alloc_new w7 _)
    have HF8 := Lib.hid (HF6.out.trans hf8 (fun i hi => hi.elim))
    have HW8 := hw8.symm
    have HX7 := hG7.symm
    clear f7 hw8 hG7 hf8 HW6 HX5
    go_wp2_with fail
    refine (HOp.out (by trivial) (by omega) (by omega) w8 HF8.out).mono ?_
    rintro e w9 ⟨rfl, f9⟩
    have HF9 := Lib.hid (HF8.out.trans f9 (fun i hi => hi.elim))
    have HP9 := Lib.hid (f9.heap HP8.out id)
    have HQ9 := Lib.hid (f9.heap HQ8.out id)
    clear f9 HW8 HX7
    go_wp2_with fail
    refine (HOr.out (by trivial) (by omega) (by omega) w9 HF9.out).mono ?_
    rintro e w10 ⟨rfl, f10⟩
    have HF10 := Lib.hid (HF9.out.trans f10 (fun i hi => hi.elim))
    have hp := f10.heap HP9.out id
    have hq := f10.heap HQ9.out id
    have p0 : w10.cell? ⟨G5, 0, none⟩ = some (.string PI) := (cell_of_row w10 _ 0 _ _ _ hp).trans rfl
    have p1 : w10.cell? ⟨G5, 1, none⟩ = some (.int .i64 pv) := (cell_of_row w10 _ 1 _ _ _ hp).trans rfl
    have p2 : w10.cell? ⟨G5, 2, none⟩ = some (.string PN) := (cell_of_row w10 _ 2 _ _ _ hp).trans rfl
    have q0 : w10.cell? ⟨G7, 0, none⟩ = some (.string PI) := (cell_of_row w10 _ 0 _ _ _ hq).trans rfl
    have q1 : w10.cell? ⟨G7, 1, none⟩ = some (.int .i64 pv) := (cell_of_row w10 _ 1 _ _ _ hq).trans rfl
    have q2 : w10.cell? ⟨G7, 2, none⟩ = some (.string PN) := (cell_of_row w10 _ 2 _ _ _ hq).trans rfl
    clear f10 hp hq
    go_wp2_with fail
    go_ret
    exact ⟨rfl, HF10.out⟩
end Go.Proofs.YtcchhfkmhbjdmaaGreat
