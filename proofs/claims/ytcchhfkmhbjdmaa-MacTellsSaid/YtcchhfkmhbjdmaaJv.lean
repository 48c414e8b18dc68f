/- MacTells: the law's walk. -/
import Derived.Test.YtcchhfkmhbjdmaaJu
import Derived.Test.YtcchhfkmhbjdmaaJo
import Derived.Test.YtcchhfkmhbjdmaaJi
set_option linter.unusedVariables false
set_option linter.unusedSimpArgs false
set_option pp.deepTerms true
set_option pp.maxSteps 100000
namespace Go.Proofs.Ytcchhfkmhbjdmaa
open Go.RowKit
theorem pick_derive (lk al li : List UInt8) (n : Int) (hk : lk.length ≤ 70000) (ha : al.length ≤ 70000) (hi : li.length ≤ 70000) (hn : n ≤ 8160 ∨ 8160 < n) :
    ∃ (S : ByteArray) (c : Int), (∀ w, Calls Try.prog 36 #[.string (str lk), .string (str al), .string (str li), .int .i64 n] w fun e w' => e = .returned (.tuple #[.string S, .int .i64 c]) ∧ Fr (fun _ => False) w w') ∧
      (∀ w, Calls Try.prog 37 #[.string (str lk), .string (str al), .string (str li), .int .i64 n] w fun e w' => e = .returned (.tuple #[.string S, .int .i64 c]) ∧ Fr (fun _ => False) w w') := by
  by_cases h : n < 0 ∨ 8160 < n
  · exact ⟨⟨#[]⟩, 1, fun w => (mac_derive_no _ _ _ n h w).mono fun e w' ⟨h1, h2⟩ => ⟨h1, by rw [h2]; exact Fr.refl _ _⟩, fun w => (ref_derive_no _ _ _ n h w).mono fun e w' ⟨h1, h2⟩ => ⟨h1, by rw [h2]; exact Fr.refl _ _⟩⟩
  · obtain ⟨k, rfl⟩ : ∃ k : Nat, n = (k : Int) := ⟨n.toNat, by omega⟩
    exact ⟨_, 0, fun w => mac_derive lk al li k (by omega) (by omega) (by omega) (by omega) w, fun w => ref_derive lk al li k (by omega) (by omega) (by omega) (by omega) w⟩
set_option maxRecDepth 20000 in
set_option maxHeartbeats 2000000 in
theorem mactells_some (key tg info : ByteArray) (n : Int) (B o m cap : Nat) (parts : List (List UInt8)) (hm : m = parts.length) (w : World) (hc : ∀ j s, parts[j]? = some s → w.cell? ⟨B, o + j, none⟩ = some (.string (str s))) (hs : ∀ s ∈ parts, s.length ≤ 140737488355328) :
    Calls Try.prog 9 #[.string key, .slice (some ⟨B, o, none⟩) m cap, .string tg, .string info, .int .i64 n] w fun e w' => e = .returned (.bool true) ∧ Fr (fun _ => False) w w' := by
  have HAW := Lib.hid (mac_awake w)
  have HC := Lib.hid hc
  have HS := Lib.hid hs
  have HM := Lib.hid hm
  clear hc hs hm
  by_cases g0 : (500 : Int) < (key.size : Int)
  · have d0 : decide ((500 : Int) < (key.size : Int)) = true := decide_eq_true g0
    clear g0
    go_enter Try.func9, Try.ntmps9
    go_wp2_with fail
    refine HAW.out.mono ?_
    rintro e w1 ⟨rfl, h1⟩
    have HF1 := Lib.hid h1
    clear h1
    go_wp2_with fail
    go_ret
    exact ⟨rfl, HF1.out⟩
  by_cases g1 : (20 : Int) < (m : Int)
  · have d0 : decide ((500 : Int) < (key.size : Int)) = false := decide_eq_false g0
    have d1 : decide ((20 : Int) < (m : Int)) = true := decide_eq_true g1
    clear g0 g1
    go_enter Try.func9, Try.ntmps9
    go_wp2_with fail
    refine HAW.out.mono ?_
    rintro e w1 ⟨rfl, h1⟩
    have HF1 := Lib.hid h1
    clear h1
    go_wp2_with fail
    go_ret
    exact ⟨rfl, HF1.out⟩
  by_cases g2 : (200 : Int) < (tg.size : Int)
  · have d0 : decide ((500 : Int) < (key.size : Int)) = false := decide_eq_false g0
    have d1 : decide ((20 : Int) < (m : Int)) = false := decide_eq_false g1
    have d2 : decide ((200 : Int) < (tg.size : Int)) = true := decide_eq_true g2
    clear g0 g1 g2
    go_enter Try.func9, Try.ntmps9
    go_wp2_with fail
    refine HAW.out.mono ?_
    rintro e w1 ⟨rfl, h1⟩
    have HF1 := Lib.hid h1
    clear h1
    go_wp2_with fail
    go_ret
    exact ⟨rfl, HF1.out⟩
  by_cases g3 : (500 : Int) < (info.size : Int)
  · have d0 : decide ((500 : Int) < (key.size : Int)) = false := decide_eq_false g0
    have d1 : decide ((20 : Int) < (m : Int)) = false := decide_eq_false g1
    have d2 : decide ((200 : Int) < (tg.size : Int)) = false := decide_eq_false g2
    have d3 : decide ((500 : Int) < (info.size : Int)) = true := decide_eq_true g3
    clear g0 g1 g2 g3
    go_enter Try.func9, Try.ntmps9
    go_wp2_with fail
    refine HAW.out.mono ?_
    rintro e w1 ⟨rfl, h1⟩
    have HF1 := Lib.hid h1
    clear h1
    go_wp2_with fail
    go_ret
    exact ⟨rfl, HF1.out⟩
  have d0 : decide ((500 : Int) < (key.size : Int)) = false := decide_eq_false g0
  have d1 : decide ((20 : Int) < (m : Int)) = false := decide_eq_false g1
  have d2 : decide ((200 : Int) < (tg.size : Int)) = false := decide_eq_false g2
  have d3 : decide ((500 : Int) < (info.size : Int)) = false := decide_eq_false g3
  by_cases g4 : 400 < n ∧ n ≤ 8160
  · have d4 : decide (400 < n) = true := decide_eq_true g4.1
    have d5 : decide (n ≤ 8160) = true := decide_eq_true g4.2
    clear g0 g1 g2 g3 g4
    go_enter Try.func9, Try.ntmps9
    go_wp2_with fail
    refine HAW.out.mono ?_
    rintro e w1 ⟨rfl, h1⟩
    have HF1 := Lib.hid h1
    clear h1
    go_wp2_with fail
    go_ret
    exact ⟨rfl, HF1.out⟩
  · obtain ⟨lk, hlk⟩ : ∃ l, key = str l := ⟨key.data.toList, by apply ByteArray.ext; simp [str]⟩
    obtain ⟨lt, hlt0⟩ : ∃ l, tg = str l := ⟨tg.data.toList, by apply ByteArray.ext; simp [str]⟩
    obtain ⟨li, hli⟩ : ∃ l, info = str l := ⟨info.data.toList, by apply ByteArray.ext; simp [str]⟩
    have hsk : key.size = lk.length := by rw [hlk, str_size]
    have hst : tg.size = lt.length := by rw [hlt0, str_size]
    have hsi : info.size = li.length := by rw [hli, str_size]
    have HBD := Lib.hid (show lk.length ≤ 500 ∧ lt.length ≤ 200 ∧ li.length ≤ 500 ∧ m ≤ 20 by omega)
    have HLK := Lib.hid hlk
    have HLT := Lib.hid hlt0
    have HLI := Lib.hid hli
    have hm20 : m ≤ 20 := by omega
    by_cases g5 : 400 < n
    · have d4 : decide (400 < n) = true := decide_eq_true g5
      have d5 : decide (n ≤ 8160) = false := decide_eq_false (by omega)
      clear g0 g1 g2 g3 g4 g5 hlk hlt0 hli hsk hst hsi
      go_enter Try.func9, Try.ntmps9
      go_wp2_with fail
      refine HAW.out.mono ?_
      rintro e w1 ⟨rfl, h1⟩
      have HF1 := Lib.hid h1
      clear h1
      go_wp2_with fail
      go_loopw [11, 12] (fun v11 v12 wr => ∃ i : Nat, i ≤ m ∧ v12 = .int .i64 i ∧ v11 = .string (str (parts.take i).flatten) ∧ (parts.take i).flatten.length ≤ 3000 ∧ wr = w1) (fun _ v _ => m - (intOf v).toNat)
      case atStart => exact ⟨0, Nat.zero_le _, rfl, rfl, Nat.zero_le _, rfl⟩
      case round =>
        obtain ⟨i, hi, rfl, rfl, hl3, hw⟩ := hrel
        have HW := Lib.hid hw
        obtain ⟨P, hP⟩ : ∃ P, P = (parts.take i).flatten := ⟨_, rfl⟩
        obtain ⟨PS, hPS⟩ : ∃ P, P = str (parts.take i).flatten := ⟨_, rfl⟩
        rw [← hPS]
        have HP := Lib.hid hP
        have HPS := Lib.hid (show PS = str P by rw [hPS, hP])
        have HPl := Lib.hid (show P.length ≤ 3000 by rw [hP]; exact hl3)
        clear hP hPS hl3 hw
        by_cases hlt : i < m
        · have hx : (i : Int) < (m : Int) := by omega
          obtain ⟨s, hs⟩ : ∃ s, parts[i]? = some s := ⟨parts[i]'(by rw [← HM.out]; exact hlt), List.getElem?_eq_getElem (by rw [← HM.out]; exact hlt)⟩
          obtain ⟨S, hS⟩ : ∃ S, S = str s := ⟨_, rfl⟩
          have c1 : wr.cell? ⟨B, o + i, none⟩ = some (.string S) := by rw [hS, HW.out]; exact HF1.out.cell (HC.out i s hs) id
          obtain ⟨NS, hNS⟩ : ∃ N', N' = str (parts.take (i + 1)).flatten := ⟨_, rfl⟩
          have hap : PS ++ S = NS := by rw [HPS.out, hS, jstr_append, hNS, take_next _ _ _ hs, HP.out]
          have hps : PS.size ≤ 3000 := by rw [HPS.out, str_size]; exact HPl.out
          have hss : S.size ≤ 140737488355328 := by rw [hS, str_size]; exact HS.out s (List.mem_of_getElem? hs)
          have hsb : ¬ 9223372036854775807 < PS.size + S.size := by omega
          have hsb2 : PS.size + S.size ≤ 9223372036854775807 := by omega
          have HNS := Lib.hid hNS
          have HNl := Lib.hid (show NS.size = (parts.take (i + 1)).flatten.length by rw [hNS, str_size])
          clear hs hS hNS hps hss
          by_cases h3 : 3000 < NS.size
          · have d3000 : decide ((3000 : Int) < (NS.size : Int)) = true := decide_eq_true (by omega)
            clear h3
            go_wp2_with fail
            go_ret
            exact ⟨rfl, by rw [HW.out]; exact HF1.out⟩
          · have d3000 : decide ((3000 : Int) < (NS.size : Int)) = false := decide_eq_false (by omega)
            have HN3 := Lib.hid (show (parts.take (i + 1)).flatten.length ≤ 3000 by rw [← HNl.out]; omega)
            clear h3
            go_wp2_with fail
            go_roundw
            case rel => exact ⟨i + 1, by omega, by go_num, by rw [HNS.out], HN3.out, HW.out⟩
            case measure => simp [intOf]; omega
        · have him : i = m := by omega
          have HPA := Lib.hid (show P = parts.flatten by rw [HP.out, him, HM.out, List.take_length])
          obtain ⟨WS, hWS⟩ : ∃ S, S = str (tag lk P) := ⟨_, rfl⟩
          obtain ⟨DS, dc, hD1, hD2⟩ := pick_derive lk P li n (by have := HBD.out; omega) (by have := HPl.out; omega) (by have := HBD.out; omega) (by omega)
          rw [← HLK.out, ← HPS.out, ← HLI.out] at hD1 hD2
          have HD1 := Lib.hid hD1
          have HD2 := Lib.hid hD2
          have HRT := Lib.hid (show ∀ w, Calls Try.prog 35 #[.string key, .string PS] w fun e w' => e = .returned (.string WS) ∧ Fr (fun _ => False) w w' from fun w => by
            rw [HLK.out, HPS.out, hWS]; exact ref_tag lk P (by have := HBD.out; omega) (by have := HPl.out; omega) w)
          have HTg := Lib.hid (show ∀ g' cap' w, (∀ j s, parts[j]? = some s → w.cell? ⟨g', j, none⟩ = some (.string (str s))) → g' < w.heap.size → Calls Try.prog 38 #[.string key, .slice (some ⟨g', 0, none⟩) m cap'] w fun e w' => e = .returned (.string WS) ∧ Fr (fun _ => False) w w' from fun g' cap' w h hg => by
            rw [HLK.out, hWS, HPA.out, HM.out]; exact mac_tag lk g' cap' parts w h hg (by have := HBD.out; omega) (by rw [← HPA.out]; have := HPl.out; omega) (by rw [← HM.out]; omega))
          have HCk := Lib.hid (show ∀ g' cap' w, (∀ j s, parts[j]? = some s → w.cell? ⟨g', j, none⟩ = some (.string (str s))) → g' < w.heap.size → Calls Try.prog 39 #[.string key, .string WS, .slice (some ⟨g', 0, none⟩) m cap'] w fun e w' => e = .returned (.bool true) ∧ Fr (fun _ => False) w w' from fun g' cap' w h hg => by
            have h1 := mac_check lk (tag lk P) g' cap' parts w h hg (by have := HBD.out; omega) (by rw [tag_length]; omega) (by rw [← HPA.out]; have := HPl.out; omega) (by rw [← HM.out]; omega)
            rw [← HPA.out, decide_eq_true rfl, ← HM.out] at h1
            rw [HLK.out, hWS]; exact h1)
          obtain ⟨q, hq⟩ : ∃ q, q = decide (lt = tag lk P) := ⟨_, rfl⟩
          have hqq : (tg.toList == WS.toList) = q := by
            rw [hq, HLT.out, hWS, Bool.eq_iff_iff, beq_iff_eq, str_toList, str_toList, decide_eq_true_iff]
          have hqq2 : (WS.toList == tg.toList) = q := by
            rw [← hqq, Bool.eq_iff_iff, beq_iff_eq, beq_iff_eq]; exact eq_comm
          have HCt := Lib.hid (show ∀ g' cap' w, (∀ j s, parts[j]? = some s → w.cell? ⟨g', j, none⟩ = some (.string (str s))) → g' < w.heap.size → Calls Try.prog 39 #[.string key, .string tg, .slice (some ⟨g', 0, none⟩) m cap'] w fun e w' => e = .returned (.bool q) ∧ Fr (fun _ => False) w w' from fun g' cap' w h hg => by
            have h1 := mac_check lk lt g' cap' parts w h hg (by have := HBD.out; omega) (by have := HBD.out; omega) (by rw [← HPA.out]; have := HPl.out; omega) (by rw [← HM.out]; omega)
            rw [← HPA.out, ← hq, ← HM.out] at h1
            rw [HLK.out, HLT.out]; exact h1)
          have HF2 := Lib.hid (show Fr (fun _ => False) w wr by rw [HW.out]; exact HF1.out)
          clear hD1 hD2 hWS him hq HW
          go_wp2_with fail
          refine (HRT.out wr).mono ?_
          rintro e w2 ⟨rfl, h2⟩
          have HF3 := Lib.hid (HF2.out.trans h2 (fun i hi => hi.elim))
          have HG2 := Lib.hid (heap_alloc_new w2 (.cells #[] 9))
          have HF4 := Lib.hid (HF3.out.alloc (.cells #[] 9))
          have HC4 := Lib.hid (show ∀ j s, parts[j]? = some s → (w2.alloc (.cells #[] 9)).cell? ⟨B, o + j, none⟩ = some (.string (str s)) from fun j s hj => HF4.out.cell (HC.out j s hj) id)
          have HW2 := Lib.hid (show w.heap.size ≤ w2.heap.size from HF3.out.size)
          clear h2
          go_wp2_with (with_reducible refine wpList_append_strs0 (op := ⟨some 67, _, _, _, _, _⟩) (by kernel_rfl) _ _ rfl w2.heap.size HG2.out rfl B o m cap rfl parts HM.out HC4.out (by omega) ?_)
          intro g' cap' w5 hc5 hg5 hgr
          have HC5 := Lib.hid hc5
          have HG5 := Lib.hid hg5
          have HF5 := Lib.hid (HF4.out.grown hgr (fun k hk => .inr (by cases hk; exact HW2.out)))
          clear hc5 hgr hg5
          go_wp2_with fail
          refine (HD1.out w5).mono ?_
          rintro e w6 ⟨rfl, h6⟩
          have HF6 := Lib.hid (HF5.out.trans h6 (fun i hi => hi.elim))
          have HS6 := Lib.hid h6
          clear h6
          go_wp2_with fail
          refine (HD2.out w6).mono ?_
          rintro e w7 ⟨rfl, h7⟩
          have HF7 := Lib.hid (HF6.out.trans h7 (fun i hi => hi.elim))
          have HS7 := Lib.hid (HS6.out.trans h7 (fun i hi => hi.elim))
          clear h7
          go_wp2_with fail
          refine (HTg.out g' cap' w7 (fun j s hj => HS7.out.cell (HC5.out j s hj) id) (Nat.lt_of_lt_of_le HG5.out HS7.out.size)).mono ?_
          rintro e w8 ⟨rfl, h8⟩
          have HF8 := Lib.hid (HF7.out.trans h8 (fun i hi => hi.elim))
          have HS8 := Lib.hid (HS7.out.trans h8 (fun i hi => hi.elim))
          clear h8
          go_wp2_with fail
          refine (HCk.out g' cap' w8 (fun j s hj => HS8.out.cell (HC5.out j s hj) id) (Nat.lt_of_lt_of_le HG5.out HS8.out.size)).mono ?_
          rintro e w9 ⟨rfl, h9⟩
          have HF9 := Lib.hid (HF8.out.trans h9 (fun i hi => hi.elim))
          have HS9 := Lib.hid (HS8.out.trans h9 (fun i hi => hi.elim))
          clear h9
          go_wp2_with fail
          refine (HCt.out g' cap' w9 (fun j s hj => HS9.out.cell (HC5.out j s hj) id) (Nat.lt_of_lt_of_le HG5.out HS9.out.size)).mono ?_
          rintro e w10 ⟨rfl, h10⟩
          have HF10 := Lib.hid (HF9.out.trans h10 (fun i hi => hi.elim))
          clear h10
          go_wp2_with fail
          go_ret
          exact ⟨by simp, HF10.out⟩
    · have d4 : decide (400 < n) = false := decide_eq_false g5
      clear g0 g1 g2 g3 g4 g5 hlk hlt0 hli hsk hst hsi
      go_enter Try.func9, Try.ntmps9
      go_wp2_with fail
      refine HAW.out.mono ?_
      rintro e w1 ⟨rfl, h1⟩
      have HF1 := Lib.hid h1
      clear h1
      go_wp2_with fail
      go_loopw [11, 12] (fun v11 v12 wr => ∃ i : Nat, i ≤ m ∧ v12 = .int .i64 i ∧ v11 = .string (str (parts.take i).flatten) ∧ (parts.take i).flatten.length ≤ 3000 ∧ wr = w1) (fun _ v _ => m - (intOf v).toNat)
      case atStart => exact ⟨0, Nat.zero_le _, rfl, rfl, Nat.zero_le _, rfl⟩
      case round =>
        obtain ⟨i, hi, rfl, rfl, hl3, hw⟩ := hrel
        have HW := Lib.hid hw
        obtain ⟨P, hP⟩ : ∃ P, P = (parts.take i).flatten := ⟨_, rfl⟩
        obtain ⟨PS, hPS⟩ : ∃ P, P = str (parts.take i).flatten := ⟨_, rfl⟩
        rw [← hPS]
        have HP := Lib.hid hP
        have HPS := Lib.hid (show PS = str P by rw [hPS, hP])
        have HPl := Lib.hid (show P.length ≤ 3000 by rw [hP]; exact hl3)
        clear hP hPS hl3 hw
        by_cases hlt : i < m
        · have hx : (i : Int) < (m : Int) := by omega
          obtain ⟨s, hs⟩ : ∃ s, parts[i]? = some s := ⟨parts[i]'(by rw [← HM.out]; exact hlt), List.getElem?_eq_getElem (by rw [← HM.out]; exact hlt)⟩
          obtain ⟨S, hS⟩ : ∃ S, S = str s := ⟨_, rfl⟩
          have c1 : wr.cell? ⟨B, o + i, none⟩ = some (.string S) := by rw [hS, HW.out]; exact HF1.out.cell (HC.out i s hs) id
          obtain ⟨NS, hNS⟩ : ∃ N', N' = str (parts.take (i + 1)).flatten := ⟨_, rfl⟩
          have hap : PS ++ S = NS := by rw [HPS.out, hS, jstr_append, hNS, take_next _ _ _ hs, HP.out]
          have hps : PS.size ≤ 3000 := by rw [HPS.out, str_size]; exact HPl.out
          have hss : S.size ≤ 140737488355328 := by rw [hS, str_size]; exact HS.out s (List.mem_of_getElem? hs)
          have hsb : ¬ 9223372036854775807 < PS.size + S.size := by omega
          have hsb2 : PS.size + S.size ≤ 9223372036854775807 := by omega
          have HNS := Lib.hid hNS
          have HNl := Lib.hid (show NS.size = (parts.take (i + 1)).flatten.length by rw [hNS, str_size])
          clear hs hS hNS hps hss
          by_cases h3 : 3000 < NS.size
          · have d3000 : decide ((3000 : Int) < (NS.size : Int)) = true := decide_eq_true (by omega)
            clear h3
            go_wp2_with fail
            go_ret
            exact ⟨rfl, by rw [HW.out]; exact HF1.out⟩
          · have d3000 : decide ((3000 : Int) < (NS.size : Int)) = false := decide_eq_false (by omega)
            have HN3 := Lib.hid (show (parts.take (i + 1)).flatten.length ≤ 3000 by rw [← HNl.out]; omega)
            clear h3
            go_wp2_with fail
            go_roundw
            case rel => exact ⟨i + 1, by omega, by go_num, by rw [HNS.out], HN3.out, HW.out⟩
            case measure => simp [intOf]; omega
        · have him : i = m := by omega
          have HPA := Lib.hid (show P = parts.flatten by rw [HP.out, him, HM.out, List.take_length])
          obtain ⟨WS, hWS⟩ : ∃ S, S = str (tag lk P) := ⟨_, rfl⟩
          obtain ⟨DS, dc, hD1, hD2⟩ := pick_derive lk P li n (by have := HBD.out; omega) (by have := HPl.out; omega) (by have := HBD.out; omega) (by omega)
          rw [← HLK.out, ← HPS.out, ← HLI.out] at hD1 hD2
          have HD1 := Lib.hid hD1
          have HD2 := Lib.hid hD2
          have HRT := Lib.hid (show ∀ w, Calls Try.prog 35 #[.string key, .string PS] w fun e w' => e = .returned (.string WS) ∧ Fr (fun _ => False) w w' from fun w => by
            rw [HLK.out, HPS.out, hWS]; exact ref_tag lk P (by have := HBD.out; omega) (by have := HPl.out; omega) w)
          have HTg := Lib.hid (show ∀ g' cap' w, (∀ j s, parts[j]? = some s → w.cell? ⟨g', j, none⟩ = some (.string (str s))) → g' < w.heap.size → Calls Try.prog 38 #[.string key, .slice (some ⟨g', 0, none⟩) m cap'] w fun e w' => e = .returned (.string WS) ∧ Fr (fun _ => False) w w' from fun g' cap' w h hg => by
            rw [HLK.out, hWS, HPA.out, HM.out]; exact mac_tag lk g' cap' parts w h hg (by have := HBD.out; omega) (by rw [← HPA.out]; have := HPl.out; omega) (by rw [← HM.out]; omega))
          have HCk := Lib.hid (show ∀ g' cap' w, (∀ j s, parts[j]? = some s → w.cell? ⟨g', j, none⟩ = some (.string (str s))) → g' < w.heap.size → Calls Try.prog 39 #[.string key, .string WS, .slice (some ⟨g', 0, none⟩) m cap'] w fun e w' => e = .returned (.bool true) ∧ Fr (fun _ => False) w w' from fun g' cap' w h hg => by
            have h1 := mac_check lk (tag lk P) g' cap' parts w h hg (by have := HBD.out; omega) (by rw [tag_length]; omega) (by rw [← HPA.out]; have := HPl.out; omega) (by rw [← HM.out]; omega)
            rw [← HPA.out, decide_eq_true rfl, ← HM.out] at h1
            rw [HLK.out, hWS]; exact h1)
          obtain ⟨q, hq⟩ : ∃ q, q = decide (lt = tag lk P) := ⟨_, rfl⟩
          have hqq : (tg.toList == WS.toList) = q := by
            rw [hq, HLT.out, hWS, Bool.eq_iff_iff, beq_iff_eq, str_toList, str_toList, decide_eq_true_iff]
          have hqq2 : (WS.toList == tg.toList) = q := by
            rw [← hqq, Bool.eq_iff_iff, beq_iff_eq, beq_iff_eq]; exact eq_comm
          have HCt := Lib.hid (show ∀ g' cap' w, (∀ j s, parts[j]? = some s → w.cell? ⟨g', j, none⟩ = some (.string (str s))) → g' < w.heap.size → Calls Try.prog 39 #[.string key, .string tg, .slice (some ⟨g', 0, none⟩) m cap'] w fun e w' => e = .returned (.bool q) ∧ Fr (fun _ => False) w w' from fun g' cap' w h hg => by
            have h1 := mac_check lk lt g' cap' parts w h hg (by have := HBD.out; omega) (by have := HBD.out; omega) (by rw [← HPA.out]; have := HPl.out; omega) (by rw [← HM.out]; omega)
            rw [← HPA.out, ← hq, ← HM.out] at h1
            rw [HLK.out, HLT.out]; exact h1)
          have HF2 := Lib.hid (show Fr (fun _ => False) w wr by rw [HW.out]; exact HF1.out)
          clear hD1 hD2 hWS him hq HW
          go_wp2_with fail
          refine (HRT.out wr).mono ?_
          rintro e w2 ⟨rfl, h2⟩
          have HF3 := Lib.hid (HF2.out.trans h2 (fun i hi => hi.elim))
          have HG2 := Lib.hid (heap_alloc_new w2 (.cells #[] 9))
          have HF4 := Lib.hid (HF3.out.alloc (.cells #[] 9))
          have HC4 := Lib.hid (show ∀ j s, parts[j]? = some s → (w2.alloc (.cells #[] 9)).cell? ⟨B, o + j, none⟩ = some (.string (str s)) from fun j s hj => HF4.out.cell (HC.out j s hj) id)
          have HW2 := Lib.hid (show w.heap.size ≤ w2.heap.size from HF3.out.size)
          clear h2
          go_wp2_with (with_reducible refine wpList_append_strs0 (op := ⟨some 67, _, _, _, _, _⟩) (by kernel_rfl) _ _ rfl w2.heap.size HG2.out rfl B o m cap rfl parts HM.out HC4.out (by omega) ?_)
          intro g' cap' w5 hc5 hg5 hgr
          have HC5 := Lib.hid hc5
          have HG5 := Lib.hid hg5
          have HF5 := Lib.hid (HF4.out.grown hgr (fun k hk => .inr (by cases hk; exact HW2.out)))
          clear hc5 hgr hg5
          go_wp2_with fail
          refine (HD1.out w5).mono ?_
          rintro e w6 ⟨rfl, h6⟩
          have HF6 := Lib.hid (HF5.out.trans h6 (fun i hi => hi.elim))
          have HS6 := Lib.hid h6
          clear h6
          go_wp2_with fail
          refine (HD2.out w6).mono ?_
          rintro e w7 ⟨rfl, h7⟩
          have HF7 := Lib.hid (HF6.out.trans h7 (fun i hi => hi.elim))
          have HS7 := Lib.hid (HS6.out.trans h7 (fun i hi => hi.elim))
          clear h7
          go_wp2_with fail
          refine (HTg.out g' cap' w7 (fun j s hj => HS7.out.cell (HC5.out j s hj) id) (Nat.lt_of_lt_of_le HG5.out HS7.out.size)).mono ?_
          rintro e w8 ⟨rfl, h8⟩
          have HF8 := Lib.hid (HF7.out.trans h8 (fun i hi => hi.elim))
          have HS8 := Lib.hid (HS7.out.trans h8 (fun i hi => hi.elim))
          clear h8
          go_wp2_with fail
          refine (HCk.out g' cap' w8 (fun j s hj => HS8.out.cell (HC5.out j s hj) id) (Nat.lt_of_lt_of_le HG5.out HS8.out.size)).mono ?_
          rintro e w9 ⟨rfl, h9⟩
          have HF9 := Lib.hid (HF8.out.trans h9 (fun i hi => hi.elim))
          have HS9 := Lib.hid (HS8.out.trans h9 (fun i hi => hi.elim))
          clear h9
          go_wp2_with fail
          refine (HCt.out g' cap' w9 (fun j s hj => HS9.out.cell (HC5.out j s hj) id) (Nat.lt_of_lt_of_le HG5.out HS9.out.size)).mono ?_
          rintro e w10 ⟨rfl, h10⟩
          have HF10 := Lib.hid (HF9.out.trans h10 (fun i hi => hi.elim))
          clear h10
          go_wp2_with fail
          go_ret
          exact ⟨by simp, HF10.out⟩
end Go.Proofs.Ytcchhfkmhbjdmaa
