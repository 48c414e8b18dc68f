/- MacTells: the law's walk, no parts. -/
import Derived.Test.YtcchhfkmhbjdmaaJv
import Derived.Test.YtcchhfkmhbjdmaaJp
set_option linter.unusedVariables false
set_option linter.unusedSimpArgs false
set_option pp.deepTerms true
set_option pp.maxSteps 100000
namespace Go.Proofs.Ytcchhfkmhbjdmaa
open Go.RowKit
set_option maxRecDepth 20000 in
set_option maxHeartbeats 2000000 in
theorem mactells_nil (key tg info : ByteArray) (n : Int) (A : Option Addr) (cap : Nat) (w : World) :
    Calls Try.prog 9 #[.string key, .slice A 0 cap, .string tg, .string info, .int .i64 n] w fun e w' => e = .returned (.bool true) ∧ Fr (fun _ => False) w w' := by
  have HAW := Lib.hid (mac_awake w)
  by_cases g0 : (500 : Int) < (key.size : Int)
  · have d0 : decide ((500 : Int) < (key.size : Int)) = true := decide_eq_true g0
    clear g0
    go_enter Try.func9, Try.ntmps9
    go_wp2_with fail
    refine HAW.out.mono ?_
    rintro e w1 ⟨rfl, h1⟩
    have HF1 := Lib.hid h1
    clear h1
    go_wp2_with fail
    go_ret
    exact ⟨rfl, HF1.out⟩
  by_cases g2 : (200 : Int) < (tg.size : Int)
  · have d0 : decide ((500 : Int) < (key.size : Int)) = false := decide_eq_false g0
    have d2 : decide ((200 : Int) < (tg.size : Int)) = true := decide_eq_true g2
    clear g0 g2
    go_enter Try.func9, Try.ntmps9
    go_wp2_with fail
    refine HAW.out.mono ?_
    rintro e w1 ⟨rfl, h1⟩
    have HF1 := Lib.hid h1
    clear h1
    go_wp2_with fail
    go_ret
    exact ⟨rfl, HF1.out⟩
  by_cases g3 : (500 : Int) < (info.size : Int)
  · have d0 : decide ((500 : Int) < (key.size : Int)) = false := decide_eq_false g0
    have d2 : decide ((200 : Int) < (tg.size : Int)) = false := decide_eq_false g2
    have d3 : decide ((500 : Int) < (info.size : Int)) = true := decide_eq_true g3
    clear g0 g2 g3
    go_enter Try.func9, Try.ntmps9
    go_wp2_with fail
    refine HAW.out.mono ?_
    rintro e w1 ⟨rfl, h1⟩
    have HF1 := Lib.hid h1
    clear h1
    go_wp2_with fail
    go_ret
    exact ⟨rfl, HF1.out⟩
  have d0 : decide ((500 : Int) < (key.size : Int)) = false := decide_eq_false g0
  have d2 : decide ((200 : Int) < (tg.size : Int)) = false := decide_eq_false g2
  have d3 : decide ((500 : Int) < (info.size : Int)) = false := decide_eq_false g3
  by_cases g4 : 400 < n ∧ n ≤ 8160
  · have d4 : decide (400 < n) = true := decide_eq_true g4.1
    have d5 : decide (n ≤ 8160) = true := decide_eq_true g4.2
    clear g0 g2 g3 g4
    go_enter Try.func9, Try.ntmps9
    go_wp2_with fail
    refine HAW.out.mono ?_
    rintro e w1 ⟨rfl, h1⟩
    have HF1 := Lib.hid h1
    clear h1
    go_wp2_with fail
    go_ret
    exact ⟨rfl, HF1.out⟩
  · obtain ⟨lk, hlk⟩ : ∃ l, key = str l := ⟨key.data.toList, by apply ByteArray.ext; simp [str]⟩
    obtain ⟨lt, hlt0⟩ : ∃ l, tg = str l := ⟨tg.data.toList, by apply ByteArray.ext; simp [str]⟩
    obtain ⟨li, hli⟩ : ∃ l, info = str l := ⟨info.data.toList, by apply ByteArray.ext; simp [str]⟩
    have hsk : key.size = lk.length := by rw [hlk, str_size]
    have hst : tg.size = lt.length := by rw [hlt0, str_size]
    have hsi : info.size = li.length := by rw [hli, str_size]
    have HBD := Lib.hid (show lk.length ≤ 500 ∧ lt.length ≤ 200 ∧ li.length ≤ 500 by omega)
    have HLK := Lib.hid hlk
    have HLT := Lib.hid hlt0
    have HLI := Lib.hid hli
    by_cases g5 : 400 < n
    · have d4 : decide (400 < n) = true := decide_eq_true g5
      have d5 : decide (n ≤ 8160) = false := decide_eq_false (by omega)
      clear g0 g2 g3 g4 g5 hlk hlt0 hli hsk hst hsi
      go_enter Try.func9, Try.ntmps9
      go_wp2_with fail
      refine HAW.out.mono ?_
      rintro e w1 ⟨rfl, h1⟩
      have HF1 := Lib.hid h1
      clear h1
      go_wp2_with fail
      go_loopw [11, 12] (fun v11 v12 wr => v12 = .int .i64 0 ∧ v11 = .string ⟨#[]⟩ ∧ wr = w1) (fun _ _ _ => 0)
      case atStart => exact ⟨rfl, rfl, rfl⟩
      case round =>
        obtain ⟨rfl, rfl, hw⟩ := hrel
        have HW := Lib.hid hw
        obtain ⟨P, hP⟩ : ∃ P, P = ([] : List UInt8) := ⟨_, rfl⟩
        have HPS := Lib.hid (show (⟨#[]⟩ : ByteArray) = str P by rw [hP]; rfl)
        have HPl := Lib.hid (show P.length ≤ 3000 by rw [hP]; simp)
        have HPA := Lib.hid (show P = ([] : List (List UInt8)).flatten by rw [hP]; rfl)
        have HM0 := Lib.hid (show 0 = ([] : List (List UInt8)).length from rfl)
        clear hP hw
        obtain ⟨WS, hWS⟩ : ∃ S, S = str (tag lk P) := ⟨_, rfl⟩
        obtain ⟨DS, dc, hD1, hD2⟩ := pick_derive lk P li n (by have := HBD.out; omega) (by have := HPl.out; omega) (by have := HBD.out; omega) (by omega)
        rw [← HLK.out, ← HPS.out, ← HLI.out] at hD1 hD2
        have HD1 := Lib.hid hD1
        have HD2 := Lib.hid hD2
        have HRT := Lib.hid (show ∀ w, Calls Try.prog 35 #[.string key, .string (⟨#[]⟩ : ByteArray)] w fun e w' => e = .returned (.string WS) ∧ Fr (fun _ => False) w w' from fun w => by
          rw [HLK.out, HPS.out, hWS]; exact ref_tag lk P (by have := HBD.out; omega) (by have := HPl.out; omega) w)
        have HTg := Lib.hid (show ∀ g' w, (∀ j s, ([] : List (List UInt8))[j]? = some s → w.cell? ⟨g', j, none⟩ = some (.string (str s))) → g' < w.heap.size → Calls Try.prog 38 #[.string key, .slice (some ⟨g', 0, none⟩) 0 0] w fun e w' => e = .returned (.string WS) ∧ Fr (fun _ => False) w w' from fun g' w h hg => by
          rw [HLK.out, hWS, HPA.out, HM0.out]; exact mac_tag lk g' 0 ([] : List (List UInt8)) w h hg (by have := HBD.out; omega) (by rw [← HPA.out]; have := HPl.out; omega) (by rw [← HM0.out]; omega))
        have HCk := Lib.hid (show ∀ g' w, (∀ j s, ([] : List (List UInt8))[j]? = some s → w.cell? ⟨g', j, none⟩ = some (.string (str s))) → g' < w.heap.size → Calls Try.prog 39 #[.string key, .string WS, .slice (some ⟨g', 0, none⟩) 0 0] w fun e w' => e = .returned (.bool true) ∧ Fr (fun _ => False) w w' from fun g' w h hg => by
          have h1 := mac_check lk (tag lk P) g' 0 ([] : List (List UInt8)) w h hg (by have := HBD.out; omega) (by rw [tag_length]; omega) (by rw [← HPA.out]; have := HPl.out; omega) (by rw [← HM0.out]; omega)
          rw [← HPA.out, decide_eq_true rfl, ← HM0.out] at h1
          rw [HLK.out, hWS]; exact h1)
        obtain ⟨q, hq⟩ : ∃ q, q = decide (lt = tag lk P) := ⟨_, rfl⟩
        have hqq : (tg.toList == WS.toList) = q := by
          rw [hq, HLT.out, hWS, Bool.eq_iff_iff, beq_iff_eq, str_toList, str_toList, decide_eq_true_iff]
        have hqq2 : (WS.toList == tg.toList) = q := by
          rw [← hqq, Bool.eq_iff_iff, beq_iff_eq, beq_iff_eq]; exact eq_comm
        have HCt := Lib.hid (show ∀ g' w, (∀ j s, ([] : List (List UInt8))[j]? = some s → w.cell? ⟨g', j, none⟩ = some (.string (str s))) → g' < w.heap.size → Calls Try.prog 39 #[.string key, .string tg, .slice (some ⟨g', 0, none⟩) 0 0] w fun e w' => e = .returned (.bool q) ∧ Fr (fun _ => False) w w' from fun g' w h hg => by
          have h1 := mac_check lk lt g' 0 ([] : List (List UInt8)) w h hg (by have := HBD.out; omega) (by have := HBD.out; omega) (by rw [← HPA.out]; have := HPl.out; omega) (by rw [← HM0.out]; omega)
          rw [← HPA.out, ← hq, ← HM0.out] at h1
          rw [HLK.out, HLT.out]; exact h1)
        have HF2 := Lib.hid (show Fr (fun _ => False) w wr by rw [HW.out]; exact HF1.out)
        clear hD1 hD2 hWS hq HW
        go_wp2_with fail
        refine (HRT.out wr).mono ?_
        rintro e w2 ⟨rfl, h2⟩
        have HF3 := Lib.hid (HF2.out.trans h2 (fun i hi => hi.elim))
        have HF4 := Lib.hid (HF3.out.alloc (.cells #[] 9))
        have HG4 := Lib.hid (show w2.heap.size < (w2.alloc (.cells #[] 9)).heap.size by rw [World.size_alloc]; omega)
        clear h2
        go_wp2_with (with_reducible refine wpList_append_none (op := ⟨some 67, _, _, _, _, _⟩) (by kernel_rfl) _ _ rfl w2.heap.size A cap rfl rfl ?_)
        generalize w2.alloc (.cells #[] 9) = w5 at HF4 HG4 ⊢
        obtain ⟨g', hg'⟩ : ∃ g, g = w2.heap.size := ⟨_, rfl⟩
        rw [← hg'] at HG4 ⊢
        have HC5 := Lib.hid (show ∀ j s, ([] : List (List UInt8))[j]? = some s → w5.cell? ⟨g', j, none⟩ = some (.string (str s)) from fun j s hj => by simp at hj)
        have HG5 := HG4
        have HF5 := HF4
        clear hg'
        go_wp2_with fail
        refine (HD1.out w5).mono ?_
        rintro e w6 ⟨rfl, h6⟩
        have HF6 := Lib.hid (HF5.out.trans h6 (fun i hi => hi.elim))
        have HS6 := Lib.hid h6
        clear h6
        go_wp2_with fail
        refine (HD2.out w6).mono ?_
        rintro e w7 ⟨rfl, h7⟩
        have HF7 := Lib.hid (HF6.out.trans h7 (fun i hi => hi.elim))
        have HS7 := Lib.hid (HS6.out.trans h7 (fun i hi => hi.elim))
        clear h7
        go_wp2_with fail
        refine (HTg.out g' w7 (fun j s hj => HS7.out.cell (HC5.out j s hj) id) (Nat.lt_of_lt_of_le HG5.out HS7.out.size)).mono ?_
        rintro e w8 ⟨rfl, h8⟩
        have HF8 := Lib.hid (HF7.out.trans h8 (fun i hi => hi.elim))
        have HS8 := Lib.hid (HS7.out.trans h8 (fun i hi => hi.elim))
        clear h8
        go_wp2_with fail
        refine (HCk.out g' w8 (fun j s hj => HS8.out.cell (HC5.out j s hj) id) (Nat.lt_of_lt_of_le HG5.out HS8.out.size)).mono ?_
        rintro e w9 ⟨rfl, h9⟩
        have HF9 := Lib.hid (HF8.out.trans h9 (fun i hi => hi.elim))
        have HS9 := Lib.hid (HS8.out.trans h9 (fun i hi => hi.elim))
        clear h9
        go_wp2_with fail
        refine (HCt.out g' w9 (fun j s hj => HS9.out.cell (HC5.out j s hj) id) (Nat.lt_of_lt_of_le HG5.out HS9.out.size)).mono ?_
        rintro e w10 ⟨rfl, h10⟩
        have HF10 := Lib.hid (HF9.out.trans h10 (fun i hi => hi.elim))
        clear h10
        go_wp2_with fail
        go_ret
        exact ⟨by simp, HF10.out⟩
    · have d4 : decide (400 < n) = false := decide_eq_false g5
      clear g0 g2 g3 g4 g5 hlk hlt0 hli hsk hst hsi
      go_enter Try.func9, Try.ntmps9
      go_wp2_with fail
      refine HAW.out.mono ?_
      rintro e w1 ⟨rfl, h1⟩
      have HF1 := Lib.hid h1
      clear h1
      go_wp2_with fail
      go_loopw [11, 12] (fun v11 v12 wr => v12 = .int .i64 0 ∧ v11 = .string ⟨#[]⟩ ∧ wr = w1) (fun _ _ _ => 0)
      case atStart => exact ⟨rfl, rfl, rfl⟩
      case round =>
        obtain ⟨rfl, rfl, hw⟩ := hrel
        have HW := Lib.hid hw
        obtain ⟨P, hP⟩ : ∃ P, P = ([] : List UInt8) := ⟨_, rfl⟩
        have HPS := Lib.hid (show (⟨#[]⟩ : ByteArray) = str P by rw [hP]; rfl)
        have HPl := Lib.hid (show P.length ≤ 3000 by rw [hP]; simp)
        have HPA := Lib.hid (show P = ([] : List (List UInt8)).flatten by rw [hP]; rfl)
        have HM0 := Lib.hid (show 0 = ([] : List (List UInt8)).length from rfl)
        clear hP hw
        obtain ⟨WS, hWS⟩ : ∃ S, S = str (tag lk P) := ⟨_, rfl⟩
        obtain ⟨DS, dc, hD1, hD2⟩ := pick_derive lk P li n (by have := HBD.out; omega) (by have := HPl.out; omega) (by have := HBD.out; omega) (by omega)
        rw [← HLK.out, ← HPS.out, ← HLI.out] at hD1 hD2
        have HD1 := Lib.hid hD1
        have HD2 := Lib.hid hD2
        have HRT := Lib.hid (show ∀ w, Calls Try.prog 35 #[.string key, .string (⟨#[]⟩ : ByteArray)] w fun e w' => e = .returned (.string WS) ∧ Fr (fun _ => False) w w' from fun w => by
          rw [HLK.out, HPS.out, hWS]; exact ref_tag lk P (by have := HBD.out; omega) (by have := HPl.out; omega) w)
        have HTg := Lib.hid (show ∀ g' w, (∀ j s, ([] : List (List UInt8))[j]? = some s → w.cell? ⟨g', j, none⟩ = some (.string (str s))) → g' < w.heap.size → Calls Try.prog 38 #[.string key, .slice (some ⟨g', 0, none⟩) 0 0] w fun e w' => e = .returned (.string WS) ∧ Fr (fun _ => False) w w' from fun g' w h hg => by
          rw [HLK.out, hWS, HPA.out, HM0.out]; exact mac_tag lk g' 0 ([] : List (List UInt8)) w h hg (by have := HBD.out; omega) (by rw [← HPA.out]; have := HPl.out; omega) (by rw [← HM0.out]; omega))
        have HCk := Lib.hid (show ∀ g' w, (∀ j s, ([] : List (List UInt8))[j]? = some s → w.cell? ⟨g', j, none⟩ = some (.string (str s))) → g' < w.heap.size → Calls Try.prog 39 #[.string key, .string WS, .slice (some ⟨g', 0, none⟩) 0 0] w fun e w' => e = .returned (.bool true) ∧ Fr (fun _ => False) w w' from fun g' w h hg => by
          have h1 := mac_check lk (tag lk P) g' 0 ([] : List (List UInt8)) w h hg (by have := HBD.out; omega) (by rw [tag_length]; omega) (by rw [← HPA.out]; have := HPl.out; omega) (by rw [← HM0.out]; omega)
          rw [← HPA.out, decide_eq_true rfl, ← HM0.out] at h1
          rw [HLK.out, hWS]; exact h1)
        obtain ⟨q, hq⟩ : ∃ q, q = decide (lt = tag lk P) := ⟨_, rfl⟩
        have hqq : (tg.toList == WS.toList) = q := by
          rw [hq, HLT.out, hWS, Bool.eq_iff_iff, beq_iff_eq, str_toList, str_toList, decide_eq_true_iff]
        have hqq2 : (WS.toList == tg.toList) = q := by
          rw [← hqq, Bool.eq_iff_iff, beq_iff_eq, beq_iff_eq]; exact eq_comm
        have HCt := Lib.hid (show ∀ g' w, (∀ j s, ([] : List (List UInt8))[j]? = some s → w.cell? ⟨g', j, none⟩ = some (.string (str s))) → g' < w.heap.size → Calls Try.prog 39 #[.string key, .string tg, .slice (some ⟨g', 0, none⟩) 0 0] w fun e w' => e = .returned (.bool q) ∧ Fr (fun _ => False) w w' from fun g' w h hg => by
          have h1 := mac_check lk lt g' 0 ([] : List (List UInt8)) w h hg (by have := HBD.out; omega) (by have := HBD.out; omega) (by rw [← HPA.out]; have := HPl.out; omega) (by rw [← HM0.out]; omega)
          rw [← HPA.out, ← hq, ← HM0.out] at h1
          rw [HLK.out, HLT.out]; exact h1)
        have HF2 := Lib.hid (show Fr (fun _ => False) w wr by rw [HW.out]; exact HF1.out)
        clear hD1 hD2 hWS hq HW
        go_wp2_with fail
        refine (HRT.out wr).mono ?_
        rintro e w2 ⟨rfl, h2⟩
        have HF3 := Lib.hid (HF2.out.trans h2 (fun i hi => hi.elim))
        have HF4 := Lib.hid (HF3.out.alloc (.cells #[] 9))
        have HG4 := Lib.hid (show w2.heap.size < (w2.alloc (.cells #[] 9)).heap.size by rw [World.size_alloc]; omega)
        clear h2
        go_wp2_with (with_reducible refine wpList_append_none (op := ⟨some 67, _, _, _, _, _⟩) (by kernel_rfl) _ _ rfl w2.heap.size A cap rfl rfl ?_)
        generalize w2.alloc (.cells #[] 9) = w5 at HF4 HG4 ⊢
        obtain ⟨g', hg'⟩ : ∃ g, g = w2.heap.size := ⟨_, rfl⟩
        rw [← hg'] at HG4 ⊢
        have HC5 := Lib.hid (show ∀ j s, ([] : List (List UInt8))[j]? = some s → w5.cell? ⟨g', j, none⟩ = some (.string (str s)) from fun j s hj => by simp at hj)
        have HG5 := HG4
        have HF5 := HF4
        clear hg'
        go_wp2_with fail
        refine (HD1.out w5).mono ?_
        rintro e w6 ⟨rfl, h6⟩
        have HF6 := Lib.hid (HF5.out.trans h6 (fun i hi => hi.elim))
        have HS6 := Lib.hid h6
        clear h6
        go_wp2_with fail
        refine (HD2.out w6).mono ?_
        rintro e w7 ⟨rfl, h7⟩
        have HF7 := Lib.hid (HF6.out.trans h7 (fun i hi => hi.elim))
        have HS7 := Lib.hid (HS6.out.trans h7 (fun i hi => hi.elim))
        clear h7
        go_wp2_with fail
        refine (HTg.out g' w7 (fun j s hj => HS7.out.cell (HC5.out j s hj) id) (Nat.lt_of_lt_of_le HG5.out HS7.out.size)).mono ?_
        rintro e w8 ⟨rfl, h8⟩
        have HF8 := Lib.hid (HF7.out.trans h8 (fun i hi => hi.elim))
        have HS8 := Lib.hid (HS7.out.trans h8 (fun i hi => hi.elim))
        clear h8
        go_wp2_with fail
        refine (HCk.out g' w8 (fun j s hj => HS8.out.cell (HC5.out j s hj) id) (Nat.lt_of_lt_of_le HG5.out HS8.out.size)).mono ?_
        rintro e w9 ⟨rfl, h9⟩
        have HF9 := Lib.hid (HF8.out.trans h9 (fun i hi => hi.elim))
        have HS9 := Lib.hid (HS8.out.trans h9 (fun i hi => hi.elim))
        clear h9
        go_wp2_with fail
        refine (HCt.out g' w9 (fun j s hj => HS9.out.cell (HC5.out j s hj) id) (Nat.lt_of_lt_of_le HG5.out HS9.out.size)).mono ?_
        rintro e w10 ⟨rfl, h10⟩
        have HF10 := Lib.hid (HF9.out.trans h10 (fun i hi => hi.elim))
        clear h10
        go_wp2_with fail
        go_ret
        exact ⟨by simp, HF10.out⟩
end Go.Proofs.Ytcchhfkmhbjdmaa
