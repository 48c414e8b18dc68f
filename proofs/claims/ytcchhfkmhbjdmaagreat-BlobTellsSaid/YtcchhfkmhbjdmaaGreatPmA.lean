/- The document's body, tag, Seal and Open; the law's walk. -/
import Derived.Test.YtcchhfkmhbjdmaaGreatPm9
import Derived.Test.YtcchhfkmhbjdmaaGreatPm7
/-! PgM -/
set_option linter.unusedVariables false
set_option linter.unusedSimpArgs false
set_option pp.deepTerms true
set_option pp.maxSteps 100000
namespace Go.Proofs.YtcchhfkmhbjdmaaGreat
open Go.RowKit
section
variable {P : Program} {ops : Array Oper} {Q : Exit → Act → World → Prop} {md : Region.Mode} {S : World → Prop} {e : Nat}
theorem wpAnyT_done {listed : Array Bool} (he : listed.getD e true = true) : ∀ (fuel : Nat) (a : Act) (w : World), wpAny P md ops Q fuel listed a w → wpAnyT P md ops Q S e fuel listed a w := by
  intro fuel
  induction fuel generalizing listed with
  | zero => intro a w h; exact h
  | succ n ih =>
    intro a w h
    refine ⟨h.1, fun i hi => wpOp_mono (fun a' w' h' => ?_) (h.2 i hi)⟩
    have h2 : (listed.setIfInBounds i true).getD e true = true := by
      cases hq : (listed.setIfInBounds i true).getD e true with
      | true => rfl
      | false => rw [getD_set_false hq] at he; cases he
    exact ⟨fun hf => (by rw [h2] at hf; cases hf), ih h2 a' w' h'⟩
end
theorem jstr_slice (a : List UInt8) (i j : Nat) : (str a).extract i j = str ((a.drop i).take (j - i)) := by
  apply ByteArray.ext
  simp [str]
/-- A key of the document's lies in memory. -/
structure RK (w : World) (g cap X capb : Nat) (W : List UInt8) : Prop where
  len : W.length = 240
  capb : 256 ≤ capb
  row : BRow w g cap W
  tab : Tab w X
  lt : X < w.heap.size
theorem RK.fr {w w' : World} {g cap X capb : Nat} {W : List UInt8} (h : RK w g cap X capb W) (hf : Fr (fun _ => False) w w') : RK w' g cap X capb W :=
  ⟨h.len, h.capb, h.row.fr hf id, h.tab.fr hf id, Nat.lt_of_lt_of_le h.lt hf.size⟩
theorem RK.press {w : World} {g cap X capb : Nat} {W : List UInt8} (h : RK w g cap X capb W) (s : List UInt8) (hs : s.length = 16) :
    Calls Tryz.prog 60 #[.agg #[.slice (some ⟨g, 0, none⟩) 240 cap, .slice (some ⟨X, 0, none⟩) 256 capb], .string (str s)] w fun e w' => e = .returned (.tuple #[.string (str (press W s)), .int .i64 0]) ∧ Fr (fun _ => False) w w' :=
  refpress_yes g cap X capb W s h.len hs h.capb w h.row h.tab h.lt
theorem chunk_slice (t : List UInt8) (k e : Nat) (he : e = min (16 * k + 16) t.length) : (str t).extract (16 * k) e = str (chunk t k) := by
  rw [jstr_slice]
  unfold chunk
  congr 1
  by_cases h : 16 * k + 16 ≤ t.length
  · rw [he, show min (16 * k + 16) t.length - 16 * k = 16 by omega]
  · rw [he, show min (16 * k + 16) t.length - 16 * k = t.length - 16 * k by omega, List.take_of_length_le (by rw [List.length_drop]; omega), List.take_of_length_le (by rw [List.length_drop]; omega)]
theorem bodyN_len (W nonce t : List UInt8) (k : Nat) : (bodyN W nonce t k).length ≤ t.length := by
  rw [bodyN_eq, full_length]; omega
set_option maxRecDepth 20000 in
set_option maxHeartbeats 4000000 in
theorem refbody_calls (g cap X capb : Nat) (W nonce t : List UInt8) (hn : nonce.length = 12) (ht : t.length ≤ 80000) (w : World) (hK : RK w g cap X capb W) :
    Calls Tryz.prog 37 #[.agg #[.slice (some ⟨g, 0, none⟩) 240 cap, .slice (some ⟨X, 0, none⟩) 256 capb], .string (str nonce), .string (str t)] w fun e w' => e = .returned (.string (str (bodyL W nonce t))) ∧ Fr (fun _ => False) w w' := by
  obtain ⟨N, hN⟩ : ∃ s, s = str nonce := ⟨_, rfl⟩
  obtain ⟨T, hT⟩ : ∃ s, s = str t := ⟨_, rfl⟩
  obtain ⟨n, hnn⟩ : ∃ n, n = t.length := ⟨_, rfl⟩
  have hsn : N.size = 12 := by rw [hN, str_size, hn]
  have hst : T.size = n := by rw [hT, str_size, hnn]
  have hn8 : n ≤ 80000 := by omega
  have HN := Lib.hid hN
  have HT := Lib.hid hT
  have HL := Lib.hid (And.intro hnn hn)
  have HK := Lib.hid hK
  rw [← hN, ← hT]
  clear hN hT hnn hn ht hK
  go_enter Tryz.func37, Tryz.ntmps37
  go_wp2_with fail
  have hb := heap_alloc_new w (.cells #[.slice (some ⟨g, 0, none⟩) 240 cap, .slice (some ⟨X, 0, none⟩) 256 capb] 73)
  have hf : Fr (fun _ => False) w (w.alloc (.cells #[.slice (some ⟨g, 0, none⟩) 240 cap, .slice (some ⟨X, 0, none⟩) 256 capb] 73)) := (Fr.refl _ _).alloc _
  obtain ⟨B, hBd⟩ : ∃ B, B = w.heap.size := ⟨_, rfl⟩
  rw [← hBd] at hb ⊢
  generalize w.alloc (.cells #[.slice (some ⟨g, 0, none⟩) 240 cap, .slice (some ⟨X, 0, none⟩) 256 capb] 73) = w1 at hb hf ⊢
  have HB := Lib.hid hb
  have HF := Lib.hid hf
  clear hb hf hBd
  go_loopw [7, 8] (fun v7 v8 wr => ∃ k : Nat, k ≤ (n + 15) / 16 ∧ v8 = .int .i64 ((16 * k : Nat) : Int) ∧ v7 = .string (str (bodyN W nonce t k)) ∧ Fr (fun _ => False) w1 wr) (fun _ v _ => n + 16 - (intOf v).toNat)
  case atStart => exact ⟨0, Nat.zero_le _, rfl, rfl, Fr.refl _ _⟩
  case round =>
    obtain ⟨k, hk, rfl, rfl, hf⟩ := hrel
    have HFr := Lib.hid hf
    clear hf
    obtain ⟨q, hq⟩ : ∃ q, q = 16 * k := ⟨_, rfl⟩
    obtain ⟨O, hO⟩ : ∃ s, s = str (bodyN W nonce t k) := ⟨_, rfl⟩
    rw [← hq, ← hO]
    have HO := Lib.hid hO
    have hOs : O.size ≤ 80000 := by rw [hO, str_size]; have := bodyN_len W nonce t k; have := HL.out.1; omega
    by_cases hlt : q < n
    · have hx : (q : Int) < (n : Int) := by omega
      obtain ⟨q2, hq2⟩ : ∃ d, d = q + 16 := ⟨_, rfl⟩
      have hw2 : IntKind.i64.wrap ((q : Int) + 16) = (q2 : Int) := by rw [IntWalk.i64_in _ (by omega)]; omega
      obtain ⟨en, hen⟩ : ∃ e, e = min q2 n := ⟨_, rfl⟩
      have t1 : (q : Int).tdiv 16 = (k : Int) := by rw [Int.tdiv_eq_ediv_of_nonneg (by omega)]; omega
      have t2 : (q : Int) / 16 = (k : Int) := by omega
      have t3 : IntKind.i64.wrap (k : Int) = (k : Int) := IntWalk.i64_in _ (by omega)
      obtain ⟨j, hj⟩ : ∃ j, j = 2 + k := ⟨_, rfl⟩
      have t4 : IntKind.i64.wrap (2 + (k : Int)) = (j : Int) := by rw [IntWalk.i64_in _ (by omega)]; omega
      obtain ⟨FO, hFO⟩ : ∃ s, s = str (be4 j) := ⟨_, rfl⟩
      obtain ⟨NF, hNF⟩ : ∃ s, s = str (nonce ++ be4 j) := ⟨_, rfl⟩
      obtain ⟨CT, hCT⟩ : ∃ s, s = str (ctr W nonce j) := ⟨_, rfl⟩
      obtain ⟨CH, hCH⟩ : ∃ s, s = str (chunk t k) := ⟨_, rfl⟩
      obtain ⟨TU, hTU⟩ : ∃ s, s = str (turnL (chunk t k) (ctr W nonce j)) := ⟨_, rfl⟩
      obtain ⟨O2, hO2⟩ : ∃ s, s = str (bodyN W nonce t (k + 1)) := ⟨_, rfl⟩
      have hcl := chunk_length t k
      have hfs : FO.size = 4 := by rw [hFO, str_size]; rfl
      have htus : TU.size ≤ 16 := by rw [hTU, str_size, turnL_length, ctr_length]; omega
      have ap1 : N ++ FO = NF := by rw [HN.out, hFO, hNF, jstr_append]
      have ap2 : O ++ TU = O2 := by rw [hO, hTU, hO2, jstr_append, hj]; rfl
      have b1 : ¬ 9223372036854775807 < N.size + FO.size := by omega
      have b2 : N.size + FO.size ≤ 9223372036854775807 := by omega
      have b3 : ¬ 9223372036854775807 < O.size + TU.size := by omega
      have b4 : O.size + TU.size ≤ 9223372036854775807 := by omega
      have hx1 : T.extract q en = CH := by rw [HT.out, hq, hCH]; exact chunk_slice t k en (by rw [← HL.out.1]; omega)
      have HFour := Lib.hid (show ∀ w, Calls Tryz.prog 61 #[.int .i64 (j : Int)] w fun e w' => e = .returned (.string FO) ∧ Fr (fun _ => False) w w' from fun w => by rw [hFO]; exact four_calls j (by omega) w)
      have HPress := Lib.hid (show ∀ w', RK w' g cap X capb W → Calls Tryz.prog 60 #[.agg #[.slice (some ⟨g, 0, none⟩) 240 cap, .slice (some ⟨X, 0, none⟩) 256 capb], .string NF] w' fun e w2 => e = .returned (.tuple #[.string CT, .int .i64 0]) ∧ Fr (fun _ => False) w' w2 from fun w' h => by rw [hNF, hCT]; exact h.press _ (by simp [be4, HL.out.2]))
      have HXor := Lib.hid (show ∀ w, Calls Tryz.prog 62 #[.string CH, .string CT] w fun e w' => e = .returned (.string TU) ∧ Fr (fun _ => False) w w' from fun w => by rw [hCH, hCT, hTU]; exact refxor_calls _ _ (by rw [hcl, ctr_length]; omega) (by rw [ctr_length]; omega) w)
      have HO2d := Lib.hid hO2
      have HQ := Lib.hid (show q2 = 16 * (k + 1) ∧ k + 1 ≤ (n + 15) / 16 by omega)
      have hqe : q ≤ en := by omega
      have hqe' : (q : Int) ≤ (en : Int) := by omega
      have hen2 : en ≤ n := by omega
      have hen2' : (en : Int) ≤ (n : Int) := by omega
      have HB1 := Lib.hid (show wr.drew.heap[B]? = some (.cells #[.slice (some ⟨g, 0, none⟩) 240 cap, .slice (some ⟨X, 0, none⟩) 256 capb] 73 (0, 0)) from HFr.out.heap HB.out id)
      have HKr := Lib.hid (HK.out.fr ((HF.out.trans HFr.out (fun i hi => hi.elim)).drew))
      by_cases hc : n < q2
      · have d1 : decide (n < q2) = true := decide_eq_true hc
        obtain rfl : en = n := by omega
        clear hen hcl hj hFO hNF hCT hCH hTU hO2 hq hq2 hc hO
        go_wp2_with fail
        refine wp_region_till (fun W' => Fr (fun _ => False) wr.drew W') 7 (by kernel_rfl) ?_
        have HS0 := Lib.hid (Fr.refl (fun _ => False) wr.drew)
        refine wpAnyT_take (i := 0) (n := 12) (v := .agg #[.slice (some ⟨g, 0, none⟩) 240 cap, .slice (some ⟨X, 0, none⟩) 256 capb]) rfl (by kernel_rfl) (fun _ _ _ h => h) HS0.out (yieldsIf_load rfl 73 _ rfl B 0 rfl [.slice (some ⟨g, 0, none⟩) 240 cap, .slice (some ⟨X, 0, none⟩) 256 capb] _ (fun W' hW => rangeAt_block (hW.heap HB1.out id) 0 2) Tryz.underlying73 rfl (by kernel_rfl)) ?_
        simp only [List.getElem_toArray, List.getElem_cons_succ, List.getElem_cons_zero, Act.put, List.setIfInBounds_toArray, List.set_cons_zero, List.set_cons_succ]
        refine wpAnyT_take (i := 1) (n := 12) (v := .string N) rfl (by kernel_rfl) (fun _ _ _ h => h) HS0.out (yieldsIf_plain rfl (fun W' hW => by clear hW; go_simp)) ?_
        simp only [List.getElem_toArray, List.getElem_cons_succ, List.getElem_cons_zero, Act.put, List.setIfInBounds_toArray, List.set_cons_zero, List.set_cons_succ]
        refine wpAnyT_take (i := 2) (n := 12) (v := .int .i64 (q : Int)) rfl (by kernel_rfl) (fun _ _ _ h => h) HS0.out (yieldsIf_plain rfl (fun W' hW => by clear hW; go_simp)) ?_
        simp only [List.getElem_toArray, List.getElem_cons_succ, List.getElem_cons_zero, Act.put, List.setIfInBounds_toArray, List.set_cons_zero, List.set_cons_succ]
        refine wpAnyT_take (i := 3) (n := 12) (v := .int .i64 (k : Int)) rfl (by kernel_rfl) (fun _ _ _ h => h) HS0.out (yieldsIf_plain rfl (fun W' hW => by clear hW; go_simp)) ?_
        simp only [List.getElem_toArray, List.getElem_cons_succ, List.getElem_cons_zero, Act.put, List.setIfInBounds_toArray, List.set_cons_zero, List.set_cons_succ]
        refine wpAnyT_take (i := 4) (n := 12) (v := .int .i64 (j : Int)) rfl (by kernel_rfl) (fun _ _ _ h => h) HS0.out (yieldsIf_plain rfl (fun W' hW => by clear hW; go_simp)) ?_
        simp only [List.getElem_toArray, List.getElem_cons_succ, List.getElem_cons_zero, Act.put, List.setIfInBounds_toArray, List.set_cons_zero, List.set_cons_succ]
        refine wpAnyT_one (i := 5) rfl (by kernel_rfl) (wpOp_plain rfl rfl (fun K hK => ?_))
        simp only [List.getElem_toArray, List.getElem_cons_succ, List.getElem_cons_zero, Act.put, List.setIfInBounds_toArray, List.set_cons_zero, List.set_cons_succ]
        have HKK := Lib.hid hK
        clear hK
        go_wp2_with fail
        refine (HFour.out _).mono ?_
        rintro e w3 ⟨rfl, f3⟩
        have HS3 := Lib.hid f3
        clear f3
        go_wp2_with fail
        refine HKK.out _ _ ⟨fun _ => HS3.out, ?_⟩
        clear HKK K
        try simp only [List.getElem_toArray, List.getElem_cons_succ, List.getElem_cons_zero, Act.put, List.setIfInBounds_toArray, List.set_cons_zero, List.set_cons_succ]
        refine wpAnyT_take (i := 6) (n := 12) (v := .string NF) rfl (by kernel_rfl) (fun _ _ _ h => h) HS3.out (yieldsIf_plain rfl (fun W' hW => by clear hW; go_simp)) ?_
        simp only [List.getElem_toArray, List.getElem_cons_succ, List.getElem_cons_zero, Act.put, List.setIfInBounds_toArray, List.set_cons_zero, List.set_cons_succ]
        refine wpAnyT_one (i := 7) rfl (by kernel_rfl) (wpOp_plain rfl rfl (fun K hK => ?_))
        simp only [List.getElem_toArray, List.getElem_cons_succ, List.getElem_cons_zero, Act.put, List.setIfInBounds_toArray, List.set_cons_zero, List.set_cons_succ]
        have HKK := Lib.hid hK
        clear hK
        go_wp2_with fail
        refine (HPress.out w3 (HKr.out.fr HS3.out)).mono ?_
        rintro e w4 ⟨rfl, f4⟩
        have HS4 := Lib.hid (HS3.out.trans f4 (fun i hi => hi.elim))
        clear f4
        go_wp2_with fail
        refine HKK.out _ _ ⟨fun _ => HS4.out, ?_⟩
        clear HKK K
        try simp only [List.getElem_toArray, List.getElem_cons_succ, List.getElem_cons_zero, Act.put, List.setIfInBounds_toArray, List.set_cons_zero, List.set_cons_succ]
        refine wpAnyT_done (by first | rfl | kernel_rfl) _ _ _ ?_
        refine wpAny_take (i := 8) (v := .tuple #[.string CT, .int .i64 0]) rfl (by kernel_rfl) (by kernel_rfl) (by kernel_rfl) (fun _ _ _ h => h) (.inl ⟨rfl, fun W' => by go_simp⟩) ?_
        simp only [List.getElem_toArray, List.getElem_cons_succ, List.getElem_cons_zero, Act.put, List.setIfInBounds_toArray, List.set_cons_zero, List.set_cons_succ]
        refine wpAny_take (i := 9) (v := .string CT) rfl (by kernel_rfl) (by kernel_rfl) (by kernel_rfl) (fun _ _ _ h => h) (.inl ⟨rfl, fun W' => by go_simp⟩) ?_
        simp only [List.getElem_toArray, List.getElem_cons_succ, List.getElem_cons_zero, Act.put, List.setIfInBounds_toArray, List.set_cons_zero, List.set_cons_succ]
        refine wpAny_take (i := 10) (v := .int .i64 0) rfl (by kernel_rfl) (by kernel_rfl) (by kernel_rfl) (fun _ _ _ h => h) (.inl ⟨rfl, fun W' => by go_simp⟩) ?_
        simp only [List.getElem_toArray, List.getElem_cons_succ, List.getElem_cons_zero, Act.put, List.setIfInBounds_toArray, List.set_cons_zero, List.set_cons_succ]
        refine wpAny_take (i := 11) (v := .string CT) rfl (by kernel_rfl) (by kernel_rfl) (by kernel_rfl) (fun _ _ _ h => h) (.inl ⟨rfl, fun W' => by go_simp⟩) ?_
        simp only [List.getElem_toArray, List.getElem_cons_succ, List.getElem_cons_zero, Act.put, List.setIfInBounds_toArray, List.set_cons_zero, List.set_cons_succ]
        refine wpAny_take (i := 12) (v := .int .i64 0) rfl (by kernel_rfl) (by kernel_rfl) (by kernel_rfl) (fun _ _ _ h => h) (.inl ⟨rfl, fun W' => by go_simp⟩) ?_
        simp only [List.getElem_toArray, List.getElem_cons_succ, List.getElem_cons_zero, Act.put, List.setIfInBounds_toArray, List.set_cons_zero, List.set_cons_succ]
        refine wpAny_done (by kernel_rfl) ?_ _
        go_wp2_with fail
        refine (HXor.out _).mono ?_
        rintro e w5 ⟨rfl, f5⟩
        have HF5 := Lib.hid ((HFr.out.drew.trans HS4.out (fun i hi => hi.elim)).trans f5 (fun i hi => hi.elim))
        clear f5
        go_wp2_with fail
        go_roundw
        case rel => exact ⟨k + 1, HQ.out.2, by rw [← HQ.out.1], by rw [HO2d.out], HF5.out⟩
        case measure => have := HQ.out; simp [intOf]; omega
      · have d1 : decide (n < q2) = false := decide_eq_false hc
        obtain rfl : en = q2 := by omega
        clear hen hcl hj hFO hNF hCT hCH hTU hO2 hq hq2 hc hO
        go_wp2_with fail
        refine wp_region_till (fun W' => Fr (fun _ => False) wr.drew W') 7 (by kernel_rfl) ?_
        have HS0 := Lib.hid (Fr.refl (fun _ => False) wr.drew)
        refine wpAnyT_take (i := 0) (n := 12) (v := .agg #[.slice (some ⟨g, 0, none⟩) 240 cap, .slice (some ⟨X, 0, none⟩) 256 capb]) rfl (by kernel_rfl) (fun _ _ _ h => h) HS0.out (yieldsIf_load rfl 73 _ rfl B 0 rfl [.slice (some ⟨g, 0, none⟩) 240 cap, .slice (some ⟨X, 0, none⟩) 256 capb] _ (fun W' hW => rangeAt_block (hW.heap HB1.out id) 0 2) Tryz.underlying73 rfl (by kernel_rfl)) ?_
        simp only [List.getElem_toArray, List.getElem_cons_succ, List.getElem_cons_zero, Act.put, List.setIfInBounds_toArray, List.set_cons_zero, List.set_cons_succ]
        refine wpAnyT_take (i := 1) (n := 12) (v := .string N) rfl (by kernel_rfl) (fun _ _ _ h => h) HS0.out (yieldsIf_plain rfl (fun W' hW => by clear hW; go_simp)) ?_
        simp only [List.getElem_toArray, List.getElem_cons_succ, List.getElem_cons_zero, Act.put, List.setIfInBounds_toArray, List.set_cons_zero, List.set_cons_succ]
        refine wpAnyT_take (i := 2) (n := 12) (v := .int .i64 (q : Int)) rfl (by kernel_rfl) (fun _ _ _ h => h) HS0.out (yieldsIf_plain rfl (fun W' hW => by clear hW; go_simp)) ?_
        simp only [List.getElem_toArray, List.getElem_cons_succ, List.getElem_cons_zero, Act.put, List.setIfInBounds_toArray, List.set_cons_zero, List.set_cons_succ]
        refine wpAnyT_take (i := 3) (n := 12) (v := .int .i64 (k : Int)) rfl (by kernel_rfl) (fun _ _ _ h => h) HS0.out (yieldsIf_plain rfl (fun W' hW => by clear hW; go_simp)) ?_
        simp only [List.getElem_toArray, List.getElem_cons_succ, List.getElem_cons_zero, Act.put, List.setIfInBounds_toArray, List.set_cons_zero, List.set_cons_succ]
        refine wpAnyT_take (i := 4) (n := 12) (v := .int .i64 (j : Int)) rfl (by kernel_rfl) (fun _ _ _ h => h) HS0.out (yieldsIf_plain rfl (fun W' hW => by clear hW; go_simp)) ?_
        simp only [List.getElem_toArray, List.getElem_cons_succ, List.getElem_cons_zero, Act.put, List.setIfInBounds_toArray, List.set_cons_zero, List.set_cons_succ]
        refine wpAnyT_one (i := 5) rfl (by kernel_rfl) (wpOp_plain rfl rfl (fun K hK => ?_))
        simp only [List.getElem_toArray, List.getElem_cons_succ, List.getElem_cons_zero, Act.put, List.setIfInBounds_toArray, List.set_cons_zero, List.set_cons_succ]
        have HKK := Lib.hid hK
        clear hK
        go_wp2_with fail
        refine (HFour.out _).mono ?_
        rintro e w3 ⟨rfl, f3⟩
        have HS3 := Lib.hid f3
        clear f3
        go_wp2_with fail
        refine HKK.out _ _ ⟨fun _ => HS3.out, ?_⟩
        clear HKK K
        try simp only [List.getElem_toArray, List.getElem_cons_succ, List.getElem_cons_zero, Act.put, List.setIfInBounds_toArray, List.set_cons_zero, List.set_cons_succ]
        refine wpAnyT_take (i := 6) (n := 12) (v := .string NF) rfl (by kernel_rfl) (fun _ _ _ h => h) HS3.out (yieldsIf_plain rfl (fun W' hW => by clear hW; go_simp)) ?_
        simp only [List.getElem_toArray, List.getElem_cons_succ, List.getElem_cons_zero, Act.put, List.setIfInBounds_toArray, List.set_cons_zero, List.set_cons_succ]
        refine wpAnyT_one (i := 7) rfl (by kernel_rfl) (wpOp_plain rfl rfl (fun K hK => ?_))
        simp only [List.getElem_toArray, List.getElem_cons_succ, List.getElem_cons_zero, Act.put, List.setIfInBounds_toArray, List.set_cons_zero, List.set_cons_succ]
        have HKK := Lib.hid hK
        clear hK
        go_wp2_with fail
        refine (HPress.out w3 (HKr.out.fr HS3.out)).mono ?_
        rintro e w4 ⟨rfl, f4⟩
        have HS4 := Lib.hid (HS3.out.trans f4 (fun i hi => hi.elim))
        clear f4
        go_wp2_with fail
        refine HKK.out _ _ ⟨fun _ => HS4.out, ?_⟩
        clear HKK K
        try simp only [List.getElem_toArray, List.getElem_cons_succ, List.getElem_cons_zero, Act.put, List.setIfInBounds_toArray, List.set_cons_zero, List.set_cons_succ]
        refine wpAnyT_done (by first | rfl | kernel_rfl) _ _ _ ?_
        refine wpAny_take (i := 8) (v := .tuple #[.string CT, .int .i64 0]) rfl (by kernel_rfl) (by kernel_rfl) (by kernel_rfl) (fun _ _ _ h => h) (.inl ⟨rfl, fun W' => by go_simp⟩) ?_
        simp only [List.getElem_toArray, List.getElem_cons_succ, List.getElem_cons_zero, Act.put, List.setIfInBounds_toArray, List.set_cons_zero, List.set_cons_succ]
        refine wpAny_take (i := 9) (v := .string CT) rfl (by kernel_rfl) (by kernel_rfl) (by kernel_rfl) (fun _ _ _ h => h) (.inl ⟨rfl, fun W' => by go_simp⟩) ?_
        simp only [List.getElem_toArray, List.getElem_cons_succ, List.getElem_cons_zero, Act.put, List.setIfInBounds_toArray, List.set_cons_zero, List.set_cons_succ]
        refine wpAny_take (i := 10) (v := .int .i64 0) rfl (by kernel_rfl) (by kernel_rfl) (by kernel_rfl) (fun _ _ _ h => h) (.inl ⟨rfl, fun W' => by go_simp⟩) ?_
        simp only [List.getElem_toArray, List.getElem_cons_succ, List.getElem_cons_zero, Act.put, List.setIfInBounds_toArray, List.set_cons_zero, List.set_cons_succ]
        refine wpAny_take (i := 11) (v := .string CT) rfl (by kernel_rfl) (by kernel_rfl) (by kernel_rfl) (fun _ _ _ h => h) (.inl ⟨rfl, fun W' => by go_simp⟩) ?_
        simp only [List.getElem_toArray, List.getElem_cons_succ, List.getElem_cons_zero, Act.put, List.setIfInBounds_toArray, List.set_cons_zero, List.set_cons_succ]
        refine wpAny_take (i := 12) (v := .int .i64 0) rfl (by kernel_rfl) (by kernel_rfl) (by kernel_rfl) (fun _ _ _ h => h) (.inl ⟨rfl, fun W' => by go_simp⟩) ?_
        simp only [List.getElem_toArray, List.getElem_cons_succ, List.getElem_cons_zero, Act.put, List.setIfInBounds_toArray, List.set_cons_zero, List.set_cons_succ]
        refine wpAny_done (by kernel_rfl) ?_ _
        go_wp2_with fail
        refine (HXor.out _).mono ?_
        rintro e w5 ⟨rfl, f5⟩
        have HF5 := Lib.hid ((HFr.out.drew.trans HS4.out (fun i hi => hi.elim)).trans f5 (fun i hi => hi.elim))
        clear f5
        go_wp2_with fail
        go_roundw
        case rel => exact ⟨k + 1, HQ.out.2, by rw [← HQ.out.1], by rw [HO2d.out], HF5.out⟩
        case measure => have := HQ.out; simp [intOf]; omega
    · have hk2 : n ≤ 16 * k := by omega
      have HE := Lib.hid (show str (bodyL W nonce t) = O by rw [hO, bodyN_all _ _ _ _ (by rw [← HL.out.1]; exact hk2)])
      have hx : ¬ (q : Int) < (n : Int) := by omega
      clear hk2 hO hq
      go_wp2_with fail
      go_ret
      exact ⟨by rw [HE.out]; rfl, HF.out.trans HFr.out (fun i hi => hi.elim)⟩
end Go.Proofs.YtcchhfkmhbjdmaaGreat
/-! PgN -/
set_option linter.unusedVariables false
set_option linter.unusedSimpArgs false
set_option pp.deepTerms true
set_option pp.maxSteps 100000
namespace Go.Proofs.YtcchhfkmhbjdmaaGreat
open Go.RowKit
theorem gh_text (h : W2) (all : List UInt8) (k : Nat) (hk : (chunk all k).length = 16) : prodL (turnL (textL (ghF h all k)) (chunk all k)) (textL h) = textL (ghF h all (k + 1)) := by
  unfold prodL
  rw [turnL_xorG, load_xorG _ _ (text_length _) hk, load_text, load_text]; rfl
set_option maxRecDepth 20000 in
set_option maxHeartbeats 4000000 in
theorem reftag_calls (g cap X capb : Nat) (key nonce beside body : List UInt8) (hn : nonce.length = 12) (hb : beside.length ≤ 80000) (hy : body.length ≤ 80000) (w : World) (hK : RK w g cap X capb (words key 52)) :
    Calls Tryz.prog 38 #[.agg #[.slice (some ⟨g, 0, none⟩) 240 cap, .slice (some ⟨X, 0, none⟩) 256 capb], .string (str nonce), .string (str beside), .string (str body)] w fun e w' => e = .returned (.string (str (tagL key nonce beside body))) ∧ Fr (fun _ => False) w w' := by
  obtain ⟨N, hN⟩ : ∃ s, s = str nonce := ⟨_, rfl⟩
  obtain ⟨BS, hBS⟩ : ∃ t, t = str beside := ⟨_, rfl⟩
  obtain ⟨BO, hBO⟩ : ∃ t, t = str body := ⟨_, rfl⟩
  obtain ⟨FB, hFB⟩ : ∃ t, t = str (fillL beside) := ⟨_, rfl⟩
  obtain ⟨FO, hFO⟩ : ∃ t, t = str (fillL body) := ⟨_, rfl⟩
  obtain ⟨m, hm⟩ : ∃ m, m = beside.length := ⟨_, rfl⟩
  obtain ⟨n, hnn⟩ : ∃ n, n = body.length := ⟨_, rfl⟩
  obtain ⟨m8, hm8⟩ : ∃ x, x = 8 * m := ⟨_, rfl⟩
  obtain ⟨n8, hn8⟩ : ∃ x, x = 8 * n := ⟨_, rfl⟩
  obtain ⟨F0, hF0⟩ : ∃ t, t = str (be4 0) := ⟨_, rfl⟩
  obtain ⟨FM, hFM⟩ : ∃ t, t = str (be4 m8) := ⟨_, rfl⟩
  obtain ⟨FN, hFN⟩ : ∃ t, t = str (be4 n8) := ⟨_, rfl⟩
  obtain ⟨s1, hs1⟩ : ∃ t, t = str (fillL beside ++ fillL body) := ⟨_, rfl⟩
  obtain ⟨s2, hs2⟩ : ∃ t, t = str (fillL beside ++ fillL body ++ be4 0) := ⟨_, rfl⟩
  obtain ⟨s3, hs3⟩ : ∃ t, t = str (fillL beside ++ fillL body ++ be4 0 ++ be4 m8) := ⟨_, rfl⟩
  obtain ⟨s4, hs4⟩ : ∃ t, t = str (fillL beside ++ fillL body ++ be4 0 ++ be4 m8 ++ be4 0) := ⟨_, rfl⟩
  obtain ⟨all, hall⟩ : ∃ l, l = allL beside body := ⟨_, rfl⟩
  obtain ⟨AL, hAL⟩ : ∃ t, t = str all := ⟨_, rfl⟩
  have hfl1 := (fillL_length beside).2
  have hfl2 := (fillL_length body).2
  have hal := allL_length beside body
  have z1 : FB.size ≤ 80015 := by rw [hFB, str_size]; omega
  have z2 : FO.size ≤ 80015 := by rw [hFO, str_size]; omega
  have z3 : F0.size = 4 := by rw [hF0, str_size]; rfl
  have z4 : FM.size = 4 := by rw [hFM, str_size]; rfl
  have z5 : FN.size = 4 := by rw [hFN, str_size]; rfl
  have y1 : s1.size ≤ 160030 := by rw [hs1, str_size, List.length_append]; omega
  have y2 : s2.size ≤ 160034 := by rw [hs2, str_size, List.length_append, List.length_append, show (be4 0).length = 4 from rfl]; omega
  have y3 : s3.size ≤ 160038 := by rw [hs3, str_size, List.length_append, List.length_append, List.length_append, show (be4 0).length = 4 from rfl, show (be4 m8).length = 4 from rfl]; omega
  have y4 : s4.size ≤ 160042 := by rw [hs4, str_size, List.length_append, List.length_append, List.length_append, List.length_append, show (be4 0).length = 4 from rfl, show (be4 m8).length = 4 from rfl]; omega
  have ap1 : FB ++ FO = s1 := by rw [hFB, hFO, hs1, jstr_append]
  have ap2 : s1 ++ F0 = s2 := by rw [hs1, hF0, hs2, jstr_append]
  have ap3 : s2 ++ FM = s3 := by rw [hs2, hFM, hs3, jstr_append]
  have ap4 : s3 ++ F0 = s4 := by rw [hs3, hF0, hs4, jstr_append]
  have ap5 : s4 ++ FN = AL := by
    rw [hs4, hFN, hAL, hall, jstr_append]
    unfold allL
    rw [← lens_four _ _ (by omega) (by omega), hm8, hn8, hm, hnn]
    simp only [List.append_assoc]
  have bs1 : ¬ 9223372036854775807 < FB.size + FO.size := by omega
  have bs2 : ¬ 9223372036854775807 < s1.size + F0.size := by omega
  have bs3 : ¬ 9223372036854775807 < s2.size + FM.size := by omega
  have bs4 : ¬ 9223372036854775807 < s3.size + F0.size := by omega
  have bs5 : ¬ 9223372036854775807 < s4.size + FN.size := by omega
  have cs1 : FB.size + FO.size ≤ 9223372036854775807 := by omega
  have cs2 : s1.size + F0.size ≤ 9223372036854775807 := by omega
  have cs3 : s2.size + FM.size ≤ 9223372036854775807 := by omega
  have cs4 : s3.size + F0.size ≤ 9223372036854775807 := by omega
  have cs5 : s4.size + FN.size ≤ 9223372036854775807 := by omega
  have hsb : BS.size = m := by rw [hBS, str_size, hm]
  have hso : BO.size = n := by rw [hBO, str_size, hnn]
  have hsn : N.size = 12 := by rw [hN, str_size, hn]
  have wm : IntKind.i64.wrap (8 * (m : Int)) = (m8 : Int) := by rw [IntWalk.i64_in _ (by omega)]; omega
  have wn : IntKind.i64.wrap (8 * (n : Int)) = (n8 : Int) := by rw [IntWalk.i64_in _ (by omega)]; omega
  obtain ⟨cnt, hcnt⟩ : ∃ c, c = all.length / 16 := ⟨_, rfl⟩
  have hlen : all.length = 16 * cnt ∧ cnt ≤ 20000 := by rw [← hall] at hal; omega
  obtain ⟨an, han⟩ : ∃ a, a = 16 * cnt := ⟨_, rfl⟩
  have hsal : AL.size = an := by rw [hAL, str_size, hlen.1, han]
  obtain ⟨Z16, hZ16⟩ : ∃ t, t = str (List.replicate 16 0) := ⟨_, rfl⟩
  obtain ⟨HS, hHS⟩ : ∃ t, t = str (textL (hkey key)) := ⟨_, rfl⟩
  obtain ⟨N1, hN1⟩ : ∃ t, t = str (nonce ++ be4 1) := ⟨_, rfl⟩
  obtain ⟨F1, hF1⟩ : ∃ t, t = str (be4 1) := ⟨_, rfl⟩
  obtain ⟨CT, hCT⟩ : ∃ t, t = str (ctr (words key 52) nonce 1) := ⟨_, rfl⟩
  have z6 : F1.size = 4 := by rw [hF1, str_size]; rfl
  have ap6 : N ++ F1 = N1 := by rw [hN, hF1, hN1, jstr_append]
  have bs6 : ¬ 9223372036854775807 < N.size + F1.size := by omega
  have cs6 : N.size + F1.size ≤ 9223372036854775807 := by omega
  have HWB := Lib.hid (show ∀ w, Calls Tryz.prog 63 #[.string BS] w fun e w' => e = .returned (.string FB) ∧ w' = w from fun w => by rw [hBS, hFB]; exact whole_calls _ (by omega) w)
  have HWO := Lib.hid (show ∀ w, Calls Tryz.prog 63 #[.string BO] w fun e w' => e = .returned (.string FO) ∧ w' = w from fun w => by rw [hBO, hFO]; exact whole_calls _ (by omega) w)
  have HF0 := Lib.hid (show ∀ w, Calls Tryz.prog 61 #[.int .i64 0] w fun e w' => e = .returned (.string F0) ∧ Fr (fun _ => False) w w' from fun w => by rw [hF0]; exact four_calls 0 (by omega) w)
  have HF1 := Lib.hid (show ∀ w, Calls Tryz.prog 61 #[.int .i64 1] w fun e w' => e = .returned (.string F1) ∧ Fr (fun _ => False) w w' from fun w => by rw [hF1]; exact four_calls 1 (by omega) w)
  have HFM := Lib.hid (show ∀ w, Calls Tryz.prog 61 #[.int .i64 (m8 : Int)] w fun e w' => e = .returned (.string FM) ∧ Fr (fun _ => False) w w' from fun w => by rw [hFM]; exact four_calls m8 (by omega) w)
  have HFN := Lib.hid (show ∀ w, Calls Tryz.prog 61 #[.int .i64 (n8 : Int)] w fun e w' => e = .returned (.string FN) ∧ Fr (fun _ => False) w w' from fun w => by rw [hFN]; exact four_calls n8 (by omega) w)
  have HPH := Lib.hid (show ∀ w', RK w' g cap X capb (words key 52) → Calls Tryz.prog 60 #[.agg #[.slice (some ⟨g, 0, none⟩) 240 cap, .slice (some ⟨X, 0, none⟩) 256 capb], .string Z16] w' fun e w2 => e = .returned (.tuple #[.string HS, .int .i64 0]) ∧ Fr (fun _ => False) w' w2 from fun w' h => by
    rw [hZ16, hHS]; unfold hkey; rw [text_load _ (press_len _ _)]; exact h.press _ List.length_replicate)
  have HPC := Lib.hid (show ∀ w', RK w' g cap X capb (words key 52) → Calls Tryz.prog 60 #[.agg #[.slice (some ⟨g, 0, none⟩) 240 cap, .slice (some ⟨X, 0, none⟩) 256 capb], .string N1] w' fun e w2 => e = .returned (.tuple #[.string CT, .int .i64 0]) ∧ Fr (fun _ => False) w' w2 from fun w' h => by
    rw [hN1, hCT]; exact h.press _ (by simp [be4, hn]))
  have HALd := Lib.hid hAL
  have HALL := Lib.hid hall
  have HLEN := Lib.hid (show all.length = 16 * cnt ∧ cnt ≤ 20000 ∧ an = 16 * cnt ∧ cnt = all.length / 16 from ⟨hlen.1, hlen.2, han, hcnt⟩)
  have HZ := Lib.hid hZ16
  have HHS := Lib.hid hHS
  have HCT := Lib.hid hCT
  have HK := Lib.hid hK
  have hcm : cnt ≤ 20000 := hlen.2
  have ham : an ≤ 320000 := by omega
  rw [← hN, ← hBS, ← hBO]
  clear hN hBS hBO hFB hFO hm hnn hm8 hn8 hF0 hFM hFN hs1 hs2 hs3 hs4 hall hAL hfl1 hfl2 hal hcnt hlen han hZ16 hHS hN1 hF1 hCT hK hb hy hn
  go_enter Tryz.func38, Tryz.ntmps38
  go_wp2_with fail
  have hb := heap_alloc_new w (.cells #[.slice (some ⟨g, 0, none⟩) 240 cap, .slice (some ⟨X, 0, none⟩) 256 capb] 73)
  have hf : Fr (fun _ => False) w (w.alloc (.cells #[.slice (some ⟨g, 0, none⟩) 240 cap, .slice (some ⟨X, 0, none⟩) 256 capb] 73)) := (Fr.refl _ _).alloc _
  obtain ⟨B, hBd⟩ : ∃ B, B = w.heap.size := ⟨_, rfl⟩
  rw [← hBd] at hb ⊢
  generalize w.alloc (.cells #[.slice (some ⟨g, 0, none⟩) 240 cap, .slice (some ⟨X, 0, none⟩) 256 capb] 73) = w1 at hb hf ⊢
  have HB := Lib.hid (show w1.drew.heap[B]? = some (.cells #[.slice (some ⟨g, 0, none⟩) 240 cap, .slice (some ⟨X, 0, none⟩) 256 capb] 73 (0, 0)) from hb)
  have HF := Lib.hid hf.drew
  have HKd := Lib.hid (HK.out.fr HF.out)
  clear hb hf hBd
  have hmk : ∀ w : World, (Instr.makeSlice 53 (.int .i64 16) (.int .i64 16)).run Tryz.prog w = .ok (.slice (some ⟨w.heap.size, 0, none⟩) 16 16) (w.alloc (.cells (bcells (List.replicate 16 0)).toArray 5)) := fun w => make_zeros 16 (by omega) w
  have hcz : ∀ w : World, (convert 53 9 (.slice (some ⟨w.heap.size, 0, none⟩) 16 16)).run Tryz.prog (w.alloc (.cells (bcells (List.replicate 16 0)).toArray 5)) = .ok (.string Z16) (w.alloc (.cells (bcells (List.replicate 16 0)).toArray 5)) := fun w => by
    rw [HZ.out]
    exact run_convert_str (P := Tryz.prog) _ 53 5 Tryz.underlying53 Tryz.underlying5 w.heap.size 0 16 16 (List.replicate 16 0) (by simp) (fun j v hj => by
      rw [Nat.zero_add, cell_of_row _ w.heap.size j _ _ _ (heap_alloc_new w _)]; simpa using hj) 9 Tryz.underlying9
  refine wp_region_till (fun W' => Fr (fun _ => False) w1.drew W') 3 (by kernel_rfl) ?_
  have HS0 := Lib.hid (Fr.refl (fun _ => False) w1.drew)
  refine wpAnyT_take (i := 0) (n := 12) (v := .agg #[.slice (some ⟨g, 0, none⟩) 240 cap, .slice (some ⟨X, 0, none⟩) 256 capb]) rfl (by kernel_rfl) (fun _ _ _ h => h) HS0.out (yieldsIf_load rfl 73 _ rfl B 0 rfl [.slice (some ⟨g, 0, none⟩) 240 cap, .slice (some ⟨X, 0, none⟩) 256 capb] _ (fun W' hW => rangeAt_block (hW.heap HB.out id) 0 2) Tryz.underlying73 rfl (by kernel_rfl)) ?_
  simp only [List.getElem_toArray, List.getElem_cons_succ, List.getElem_cons_zero, Act.put, List.setIfInBounds_toArray, List.set_cons_zero, List.set_cons_succ]
  generalize w1.drew = w2 at HB HF HKd HS0 ⊢
  have hmk1 := hmk w2
  have hcz1 := hcz w2
  obtain ⟨z16, hz16⟩ : ∃ z, z = bcells (List.replicate 16 0) := ⟨_, rfl⟩
  rw [← hz16] at hmk1 hcz1
  clear hz16
  have HMK := Lib.hid hmk
  have HCZ := Lib.hid hcz
  clear hmk hcz
  refine wpAnyT_one (i := 1) rfl (by kernel_rfl) (wpOp_plain rfl rfl (fun K hK => ?_))
  simp only [List.getElem_toArray, List.getElem_cons_succ, List.getElem_cons_zero, Act.put, List.setIfInBounds_toArray, List.set_cons_zero, List.set_cons_succ]
  have HKK := Lib.hid hK
  clear hK
  go_wp2_with fail
  refine HKK.out _ _ ⟨fun _ => (Fr.refl _ _).alloc _, ?_⟩
  clear HKK K hmk1
  try simp only [List.getElem_toArray, List.getElem_cons_succ, List.getElem_cons_zero, Act.put, List.setIfInBounds_toArray, List.set_cons_zero, List.set_cons_succ]
  refine wpAnyT_one (i := 2) rfl (by kernel_rfl) (wpOp_plain rfl rfl (fun K hK => ?_))
  simp only [List.getElem_toArray, List.getElem_cons_succ, List.getElem_cons_zero, Act.put, List.setIfInBounds_toArray, List.set_cons_zero, List.set_cons_succ]
  have HKK := Lib.hid hK
  clear hK
  go_wp2_with fail
  refine HKK.out _ _ ⟨fun _ => (Fr.refl _ _).alloc _, ?_⟩
  clear HKK K hcz1
  try simp only [List.getElem_toArray, List.getElem_cons_succ, List.getElem_cons_zero, Act.put, List.setIfInBounds_toArray, List.set_cons_zero, List.set_cons_succ]
  have HF3 := Lib.hid (show Fr (fun _ => False) w2 (w2.alloc (.cells z16.toArray 5)) from (Fr.refl _ _).alloc _)
  generalize w2.alloc (.cells z16.toArray 5) = w3 at HF3 ⊢
  refine wpAnyT_one (i := 3) rfl (by kernel_rfl) (wpOp_plain rfl rfl (fun K hK => ?_))
  simp only [List.getElem_toArray, List.getElem_cons_succ, List.getElem_cons_zero, Act.put, List.setIfInBounds_toArray, List.set_cons_zero, List.set_cons_succ]
  have HKK := Lib.hid hK
  clear hK
  go_wp2_with fail
  refine (HPH.out w3 (HKd.out.fr HF3.out)).mono ?_
  rintro e w4 ⟨rfl, f4⟩
  have HS4 := Lib.hid (HF3.out.trans f4 (fun i hi => hi.elim))
  clear f4
  go_wp2_with fail
  refine HKK.out _ _ ⟨fun _ => HS4.out, ?_⟩
  clear HKK K
  try simp only [List.getElem_toArray, List.getElem_cons_succ, List.getElem_cons_zero, Act.put, List.setIfInBounds_toArray, List.set_cons_zero, List.set_cons_succ]
  refine wpAnyT_done (by first | rfl | kernel_rfl) _ _ _ ?_
  refine wpAny_take (i := 4) (v := .tuple #[.string HS, .int .i64 0]) rfl (by kernel_rfl) (by kernel_rfl) (by kernel_rfl) (fun _ _ _ h => h) (.inl ⟨rfl, fun W' => by go_simp⟩) ?_
  simp only [List.getElem_toArray, List.getElem_cons_succ, List.getElem_cons_zero, Act.put, List.setIfInBounds_toArray, List.set_cons_zero, List.set_cons_succ]
  refine wpAny_take (i := 5) (v := .string HS) rfl (by kernel_rfl) (by kernel_rfl) (by kernel_rfl) (fun _ _ _ h => h) (.inl ⟨rfl, fun W' => by go_simp⟩) ?_
  simp only [List.getElem_toArray, List.getElem_cons_succ, List.getElem_cons_zero, Act.put, List.setIfInBounds_toArray, List.set_cons_zero, List.set_cons_succ]
  refine wpAny_take (i := 6) (v := .int .i64 0) rfl (by kernel_rfl) (by kernel_rfl) (by kernel_rfl) (fun _ _ _ h => h) (.inl ⟨rfl, fun W' => by go_simp⟩) ?_
  simp only [List.getElem_toArray, List.getElem_cons_succ, List.getElem_cons_zero, Act.put, List.setIfInBounds_toArray, List.set_cons_zero, List.set_cons_succ]
  refine wpAny_take (i := 7) (v := .string HS) rfl (by kernel_rfl) (by kernel_rfl) (by kernel_rfl) (fun _ _ _ h => h) (.inl ⟨rfl, fun W' => by go_simp⟩) ?_
  simp only [List.getElem_toArray, List.getElem_cons_succ, List.getElem_cons_zero, Act.put, List.setIfInBounds_toArray, List.set_cons_zero, List.set_cons_succ]
  refine wpAny_take (i := 8) (v := .int .i64 0) rfl (by kernel_rfl) (by kernel_rfl) (by kernel_rfl) (fun _ _ _ h => h) (.inl ⟨rfl, fun W' => by go_simp⟩) ?_
  simp only [List.getElem_toArray, List.getElem_cons_succ, List.getElem_cons_zero, Act.put, List.setIfInBounds_toArray, List.set_cons_zero, List.set_cons_succ]
  refine wpAny_done (by kernel_rfl) ?_ _
  have HG4 := Lib.hid HS4.out
  go_wp2_with fail
  refine (HWB.out w4).mono ?_
  rintro e w' ⟨rfl, hww⟩
  rw [hww]
  clear hww w'
  go_wp2_with fail
  refine (HWO.out w4).mono ?_
  rintro e w' ⟨rfl, hww⟩
  rw [hww]
  clear hww w'
  go_wp2_with fail
  refine (HF0.out w4).mono ?_
  rintro e w5 ⟨rfl, f5⟩
  have HG5 := Lib.hid (HG4.out.trans f5 (fun i hi => hi.elim))
  clear f5
  go_wp2_with fail
  refine (HFM.out w5).mono ?_
  rintro e w6 ⟨rfl, f6⟩
  have HG6 := Lib.hid (HG5.out.trans f6 (fun i hi => hi.elim))
  clear f6
  go_wp2_with fail
  refine (HF0.out w6).mono ?_
  rintro e w7 ⟨rfl, f7⟩
  have HG7 := Lib.hid (HG6.out.trans f7 (fun i hi => hi.elim))
  clear f7
  go_wp2_with fail
  refine (HFN.out w7).mono ?_
  rintro e w8 ⟨rfl, f8⟩
  have HG8 := Lib.hid (HG7.out.trans f8 (fun i hi => hi.elim))
  clear f8
  have hmk2 := HMK.out w8
  have hcz2 := HCZ.out w8
  obtain ⟨z17, hz17⟩ : ∃ z, z = bcells (List.replicate 16 0) := ⟨_, rfl⟩
  rw [← hz17] at hmk2 hcz2
  clear hz17
  go_wp2_with fail
  have HF9 := Lib.hid (show Fr (fun _ => False) w8 (w8.alloc (.cells z17.toArray 5)) from (Fr.refl _ _).alloc _)
  generalize w8.alloc (.cells z17.toArray 5) = w9 at HF9 ⊢
  have HF10 := Lib.hid ((HF.out.trans HG8.out (fun i hi => hi.elim)).trans HF9.out (fun i hi => hi.elim))
  have HB10 := Lib.hid ((HG8.out.trans HF9.out (fun i hi => hi.elim)).heap HB.out id)
  have HKw := Lib.hid (HK.out.fr HF10.out)
  clear HB HF HKd HF3 HS4 HG4 HG5 HG6 HG7 HG8 HF9 hmk2 hcz2
  go_loopw [12, 13] (fun v12 v13 wr => ∃ k : Nat, k ≤ cnt ∧ v13 = .int .i64 ((16 * k : Nat) : Int) ∧ v12 = .string (str (textL (ghF (hkey key) all k))) ∧ Fr (fun _ => False) w9 wr) (fun _ v _ => an + 16 - (intOf v).toNat)
  case atStart => exact ⟨0, Nat.zero_le _, rfl, by rw [HZ.out, show List.replicate 16 (0 : UInt8) = textL (ghF (hkey key) all 0) from (by decide +kernel : List.replicate 16 (0 : UInt8) = textL W2.zero)], Fr.refl _ _⟩
  case round =>
    obtain ⟨k, hk, rfl, rfl, hf⟩ := hrel
    have HFr := Lib.hid hf
    clear hf
    obtain ⟨q, hq⟩ : ∃ q, q = 16 * k := ⟨_, rfl⟩
    obtain ⟨gg, hg⟩ : ∃ gg, gg = ghF (hkey key) all k := ⟨_, rfl⟩
    obtain ⟨Y, hY⟩ : ∃ s, s = str (textL gg) := ⟨_, rfl⟩
    rw [← hq, ← hg, ← hY]
    by_cases hlt : q < an
    · have hx : (q : Int) < (an : Int) := by omega
      have hkc : k < cnt := by have := HLEN.out.2.2.1; omega
      obtain ⟨q2, hq2⟩ : ∃ d, d = q + 16 := ⟨_, rfl⟩
      have hw2 : IntKind.i64.wrap ((q : Int) + 16) = (q2 : Int) := by rw [IntWalk.i64_in _ (by omega)]; omega
      have hkl : (chunk all k).length = 16 := by rw [chunk_length, HLEN.out.1]; omega
      obtain ⟨CK, hCK⟩ : ∃ c, c = str (chunk all k) := ⟨_, rfl⟩
      obtain ⟨TU, hTU⟩ : ∃ c, c = str (turnL (textL gg) (chunk all k)) := ⟨_, rfl⟩
      obtain ⟨Y2, hY2⟩ : ∃ c, c = str (textL (ghF (hkey key) all (k + 1))) := ⟨_, rfl⟩
      have hx1 : AL.extract q q2 = CK := by rw [HALd.out, hq, hCK]; exact chunk_slice all k q2 (by rw [HLEN.out.1]; omega)
      have HXor := Lib.hid (show ∀ w, Calls Tryz.prog 62 #[.string Y, .string CK] w fun e w' => e = .returned (.string TU) ∧ Fr (fun _ => False) w w' from fun w => by rw [hY, hCK, hTU]; exact refxor_calls _ _ (by rw [hkl, text_length]; omega) (by rw [hkl]; omega) w)
      have HPr := Lib.hid (show ∀ w, Calls Tryz.prog 64 #[.string TU, .string HS] w fun e w' => e = .returned (.tuple #[.string Y2, .int .i64 0]) ∧ Fr (fun _ => False) w w' from fun w => by
        have h := refproduct_calls (turnL (textL gg) (chunk all k)) (textL (hkey key)) (by rw [turnL_length, text_length, hkl]; rfl) (text_length _) w
        rw [hg, gh_text _ _ _ hkl] at h
        rw [hTU, HHS.out, hY2, hg]; exact h)
      have HY2 := Lib.hid hY2
      have HQ := Lib.hid (show q2 = 16 * (k + 1) ∧ k + 1 ≤ cnt ∧ q2 ≤ an ∧ q2 = q + 16 by have := HLEN.out.2.2.1; omega)
      have hqq : q ≤ q2 := by omega
      have hqq' : (q : Int) ≤ (q2 : Int) := by omega
      have hqa : q2 ≤ an := HQ.out.2.2.1
      have hqa' : (q2 : Int) ≤ (an : Int) := by omega
      clear hq hg hY hq2 hkl hCK hTU hY2 hkc
      go_wp2_with fail
      refine (HXor.out wr).mono ?_
      rintro e v1 ⟨rfl, f1⟩
      have G1 := Lib.hid (HFr.out.trans f1 (fun i hi => hi.elim))
      clear f1
      go_wp2_with fail
      refine (HPr.out v1).mono ?_
      rintro e v2 ⟨rfl, f2⟩
      have G2 := Lib.hid (G1.out.trans f2 (fun i hi => hi.elim))
      clear f2
      go_wp2_with fail
      go_roundw
      case rel => exact ⟨k + 1, HQ.out.2.1, by rw [← HQ.out.1], by rw [HY2.out], G2.out⟩
      case measure => have := HQ.out; simp [intOf]; omega
    · have hx : ¬ (q : Int) < (an : Int) := by omega
      have hkc : k = cnt := by have := HLEN.out.2.2.1; omega
      obtain ⟨TG, hTG⟩ : ∃ c, c = str (tagL key nonce beside body) := ⟨_, rfl⟩
      have HXor := Lib.hid (show ∀ w, Calls Tryz.prog 62 #[.string Y, .string CT] w fun e w' => e = .returned (.string TG) ∧ Fr (fun _ => False) w w' from fun w => by
        have h := refxor_calls (textL gg) (ctr (words key 52) nonce 1) (by rw [text_length, ctr_length]; omega) (by rw [ctr_length]; omega) w
        rw [hY, HCT.out, hTG]
        unfold tagL
        rw [← HALL.out, ← HLEN.out.2.2.2, ← hkc, ← hg]
        exact h)
      have HTG := Lib.hid hTG
      have HBr := Lib.hid (show wr.drew.heap[B]? = some (.cells #[.slice (some ⟨g, 0, none⟩) 240 cap, .slice (some ⟨X, 0, none⟩) 256 capb] 73 (0, 0)) from HFr.out.heap HB10.out id)
      have HKr := Lib.hid (HKw.out.fr HFr.out.drew)
      clear hq hg hY hkc hTG
      go_wp2_with fail
      refine wp_region_till (fun W' => Fr (fun _ => False) wr.drew W') 4 (by kernel_rfl) ?_
      have HS0 := Lib.hid (Fr.refl (fun _ => False) wr.drew)
      refine wpAnyT_take (i := 0) (n := 12) (v := .agg #[.slice (some ⟨g, 0, none⟩) 240 cap, .slice (some ⟨X, 0, none⟩) 256 capb]) rfl (by kernel_rfl) (fun _ _ _ h => h) HS0.out (yieldsIf_load rfl 73 _ rfl B 0 rfl [.slice (some ⟨g, 0, none⟩) 240 cap, .slice (some ⟨X, 0, none⟩) 256 capb] _ (fun W' hW => rangeAt_block (hW.heap HBr.out id) 0 2) Tryz.underlying73 rfl (by kernel_rfl)) ?_
      simp only [List.getElem_toArray, List.getElem_cons_succ, List.getElem_cons_zero, Act.put, List.setIfInBounds_toArray, List.set_cons_zero, List.set_cons_succ]
      refine wpAnyT_take (i := 1) (n := 12) (v := .string N) rfl (by kernel_rfl) (fun _ _ _ h => h) HS0.out (yieldsIf_plain rfl (fun W' hW => by clear hW; go_simp)) ?_
      simp only [List.getElem_toArray, List.getElem_cons_succ, List.getElem_cons_zero, Act.put, List.setIfInBounds_toArray, List.set_cons_zero, List.set_cons_succ]
      refine wpAnyT_one (i := 2) rfl (by kernel_rfl) (wpOp_plain rfl rfl (fun K hK => ?_))
      simp only [List.getElem_toArray, List.getElem_cons_succ, List.getElem_cons_zero, Act.put, List.setIfInBounds_toArray, List.set_cons_zero, List.set_cons_succ]
      have HKK := Lib.hid hK
      clear hK
      go_wp2_with fail
      refine (HF1.out _).mono ?_
      rintro e u3 ⟨rfl, f3⟩
      have HS3 := Lib.hid f3
      clear f3
      go_wp2_with fail
      refine HKK.out _ _ ⟨fun _ => HS3.out, ?_⟩
      clear HKK K
      try simp only [List.getElem_toArray, List.getElem_cons_succ, List.getElem_cons_zero, Act.put, List.setIfInBounds_toArray, List.set_cons_zero, List.set_cons_succ]
      refine wpAnyT_take (i := 3) (n := 12) (v := .string N1) rfl (by kernel_rfl) (fun _ _ _ h => h) HS3.out (yieldsIf_plain rfl (fun W' hW => by clear hW; go_simp)) ?_
      simp only [List.getElem_toArray, List.getElem_cons_succ, List.getElem_cons_zero, Act.put, List.setIfInBounds_toArray, List.set_cons_zero, List.set_cons_succ]
      refine wpAnyT_one (i := 4) rfl (by kernel_rfl) (wpOp_plain rfl rfl (fun K hK => ?_))
      simp only [List.getElem_toArray, List.getElem_cons_succ, List.getElem_cons_zero, Act.put, List.setIfInBounds_toArray, List.set_cons_zero, List.set_cons_succ]
      have HKK := Lib.hid hK
      clear hK
      go_wp2_with fail
      refine (HPC.out u3 (HKr.out.fr HS3.out)).mono ?_
      rintro e u4 ⟨rfl, f4⟩
      have HS4 := Lib.hid (HS3.out.trans f4 (fun i hi => hi.elim))
      clear f4
      go_wp2_with fail
      refine HKK.out _ _ ⟨fun _ => HS4.out, ?_⟩
      clear HKK K
      try simp only [List.getElem_toArray, List.getElem_cons_succ, List.getElem_cons_zero, Act.put, List.setIfInBounds_toArray, List.set_cons_zero, List.set_cons_succ]
      refine wpAnyT_done (by first | rfl | kernel_rfl) _ _ _ ?_
      refine wpAny_take (i := 5) (v := .tuple #[.string CT, .int .i64 0]) rfl (by kernel_rfl) (by kernel_rfl) (by kernel_rfl) (fun _ _ _ h => h) (.inl ⟨rfl, fun W' => by go_simp⟩) ?_
      simp only [List.getElem_toArray, List.getElem_cons_succ, List.getElem_cons_zero, Act.put, List.setIfInBounds_toArray, List.set_cons_zero, List.set_cons_succ]
      refine wpAny_take (i := 6) (v := .string CT) rfl (by kernel_rfl) (by kernel_rfl) (by kernel_rfl) (fun _ _ _ h => h) (.inl ⟨rfl, fun W' => by go_simp⟩) ?_
      simp only [List.getElem_toArray, List.getElem_cons_succ, List.getElem_cons_zero, Act.put, List.setIfInBounds_toArray, List.set_cons_zero, List.set_cons_succ]
      refine wpAny_take (i := 7) (v := .int .i64 0) rfl (by kernel_rfl) (by kernel_rfl) (by kernel_rfl) (fun _ _ _ h => h) (.inl ⟨rfl, fun W' => by go_simp⟩) ?_
      simp only [List.getElem_toArray, List.getElem_cons_succ, List.getElem_cons_zero, Act.put, List.setIfInBounds_toArray, List.set_cons_zero, List.set_cons_succ]
      refine wpAny_take (i := 8) (v := .string CT) rfl (by kernel_rfl) (by kernel_rfl) (by kernel_rfl) (fun _ _ _ h => h) (.inl ⟨rfl, fun W' => by go_simp⟩) ?_
      simp only [List.getElem_toArray, List.getElem_cons_succ, List.getElem_cons_zero, Act.put, List.setIfInBounds_toArray, List.set_cons_zero, List.set_cons_succ]
      refine wpAny_take (i := 9) (v := .int .i64 0) rfl (by kernel_rfl) (by kernel_rfl) (by kernel_rfl) (fun _ _ _ h => h) (.inl ⟨rfl, fun W' => by go_simp⟩) ?_
      simp only [List.getElem_toArray, List.getElem_cons_succ, List.getElem_cons_zero, Act.put, List.setIfInBounds_toArray, List.set_cons_zero, List.set_cons_succ]
      refine wpAny_done (by kernel_rfl) ?_ _
      go_wp2_with fail
      refine (HXor.out _).mono ?_
      rintro e u5 ⟨rfl, f5⟩
      have HF5 := Lib.hid (((HF10.out.trans HFr.out.drew (fun i hi => hi.elim)).trans HS4.out (fun i hi => hi.elim)).trans f5 (fun i hi => hi.elim))
      clear f5
      go_wp2_with fail
      go_ret
      exact ⟨by rw [← HTG.out]; rfl, HF5.out⟩
end Go.Proofs.YtcchhfkmhbjdmaaGreat
/-! PgO -/
set_option linter.unusedVariables false
set_option linter.unusedSimpArgs false
set_option pp.deepTerms true
set_option pp.maxSteps 100000
namespace Go.Proofs.YtcchhfkmhbjdmaaGreat
open Go.RowKit
theorem refnew_rk (key : List UInt8) (hk : key.length = 32) (w : World) :
    Calls Tryz.prog 36 #[.string (str key)] w fun e w' => ∃ g cap X capb, e = .returned (.tuple #[.agg #[.slice (some ⟨g, 0, none⟩) 240 cap, .slice (some ⟨X, 0, none⟩) 256 capb], .int .i64 0]) ∧ RK w' g cap X capb (words key 52) ∧ Fr (fun _ => False) w w' :=
  (refnew_yes key hk w).mono fun e w' ⟨g, cap, X, capb, he, hr, ht, hc, hf⟩ => ⟨g, cap, X, capb, he, ⟨by rw [words_length key hk], hc, hr, ht, World.block_lt_of_cell? w' _ (ht 0)⟩, hf⟩
set_option maxRecDepth 20000 in
set_option maxHeartbeats 2000000 in
theorem refseal_yes (key nonce beside text : List UInt8) (hk : key.length = 32) (hn : nonce.length = 12) (hb : beside.length ≤ 65536) (ht : text.length ≤ 65536) (w : World) :
    Calls Tryz.prog 18 #[.string (str key), .string (str nonce), .string (str beside), .string (str text)] w fun e w' => e = .returned (.tuple #[.string (str (sealL key nonce beside text)), .int .i64 0]) ∧ Fr (fun _ => False) w w' := by
  obtain ⟨KS, hKS⟩ : ∃ s, s = str key := ⟨_, rfl⟩
  obtain ⟨NS, hNS⟩ : ∃ s, s = str nonce := ⟨_, rfl⟩
  obtain ⟨BS, hBS⟩ : ∃ s, s = str beside := ⟨_, rfl⟩
  obtain ⟨TS, hTS⟩ : ∃ s, s = str text := ⟨_, rfl⟩
  obtain ⟨bd, hbd⟩ : ∃ s, s = bodyL (words key 52) nonce text := ⟨_, rfl⟩
  obtain ⟨BD, hBD⟩ : ∃ s, s = str bd := ⟨_, rfl⟩
  obtain ⟨TG, hTG⟩ : ∃ s, s = str (tagL key nonce beside bd) := ⟨_, rfl⟩
  obtain ⟨SE, hSE⟩ : ∃ s, s = str (sealL key nonce beside text) := ⟨_, rfl⟩
  have hbl : bd.length = text.length := by rw [hbd]; exact bodyL_length _ _ _
  have d0 : ((NS.size : Int) != 12) = false := by rw [hNS, str_size, hn]; rfl
  have d1 : decide ((65536 : Int) < (BS.size : Int)) = false := decide_eq_false (by rw [hBS, str_size]; omega)
  have d2 : decide ((65536 : Int) < (TS.size : Int)) = false := decide_eq_false (by rw [hTS, str_size]; omega)
  have hap : BD ++ TG = SE := by rw [hBD, hTG, hSE, jstr_append, hbd]; rfl
  have hs1 : BD.size ≤ 65536 := by rw [hBD, str_size]; omega
  have hs2 : TG.size = 16 := by rw [hTG, str_size]; exact tagL_length _ _ _ _
  have hb1 : ¬ 9223372036854775807 < BD.size + TG.size := by omega
  have hb2 : BD.size + TG.size ≤ 9223372036854775807 := by omega
  have HNew := Lib.hid (show ∀ w, Calls Tryz.prog 36 #[.string KS] w fun e w' => ∃ g cap X capb, e = .returned (.tuple #[.agg #[.slice (some ⟨g, 0, none⟩) 240 cap, .slice (some ⟨X, 0, none⟩) 256 capb], .int .i64 0]) ∧ RK w' g cap X capb (words key 52) ∧ Fr (fun _ => False) w w' from fun w => by rw [hKS]; exact refnew_rk key hk w)
  have HBody := Lib.hid (show ∀ g cap X capb w, RK w g cap X capb (words key 52) → Calls Tryz.prog 37 #[.agg #[.slice (some ⟨g, 0, none⟩) 240 cap, .slice (some ⟨X, 0, none⟩) 256 capb], .string NS, .string TS] w fun e w' => e = .returned (.string BD) ∧ Fr (fun _ => False) w w' from fun g cap X capb w h => by rw [hNS, hTS, hBD, hbd]; exact refbody_calls g cap X capb _ nonce text hn (by omega) w h)
  have HTag := Lib.hid (show ∀ g cap X capb w, RK w g cap X capb (words key 52) → Calls Tryz.prog 38 #[.agg #[.slice (some ⟨g, 0, none⟩) 240 cap, .slice (some ⟨X, 0, none⟩) 256 capb], .string NS, .string BS, .string BD] w fun e w' => e = .returned (.string TG) ∧ Fr (fun _ => False) w w' from fun g cap X capb w h => by rw [hNS, hBS, hBD, hTG]; exact reftag_calls g cap X capb key nonce beside bd hn (by omega) (by omega) w h)
  rw [← hKS, ← hNS, ← hBS, ← hTS, ← hSE]
  clear hKS hNS hBS hTS hbd hBD hTG hSE hbl hb ht hk hn
  go_enter Tryz.func18, Tryz.ntmps18
  go_wp2_with fail
  refine (HNew.out w).mono ?_
  rintro e w1 ⟨g, cap, X, capb, rfl, hrk, f1⟩
  have HR1 := Lib.hid hrk
  have HF1 := Lib.hid f1
  clear hrk f1
  have hb := heap_alloc_new w1 (.cells #[.slice (some ⟨g, 0, none⟩) 240 cap, .slice (some ⟨X, 0, none⟩) 256 capb] 73)
  have hf : Fr (fun _ => False) w1 (w1.alloc (.cells #[.slice (some ⟨g, 0, none⟩) 240 cap, .slice (some ⟨X, 0, none⟩) 256 capb] 73)) := (Fr.refl _ _).alloc _
  have HB2 := Lib.hid hb
  have HR2 := Lib.hid (HR1.out.fr hf)
  have HF2 := Lib.hid (HF1.out.trans hf (fun i hi => hi.elim))
  clear hb hf
  go_wp2_with fail
  refine (HBody.out g cap X capb _ HR2.out).mono ?_
  rintro e w3 ⟨rfl, f3⟩
  have HR3 := Lib.hid (HR2.out.fr f3)
  have HB3 := Lib.hid (f3.heap HB2.out id)
  have HF3 := Lib.hid (HF2.out.trans f3 (fun i hi => hi.elim))
  clear f3
  have k0 : w3.cell? ⟨w1.heap.size, 0, none⟩ = some (.slice (some ⟨g, 0, none⟩) 240 cap) := (cell_of_row w3 _ 0 _ _ _ HB3.out).trans rfl
  have k1 : w3.cell? ⟨w1.heap.size, 1, none⟩ = some (.slice (some ⟨X, 0, none⟩) 256 capb) := (cell_of_row w3 _ 1 _ _ _ HB3.out).trans rfl
  go_wp2_with fail
  refine (HTag.out g cap X capb _ HR3.out).mono ?_
  rintro e w4 ⟨rfl, f4⟩
  have HF4 := Lib.hid (HF3.out.trans f4 (fun i hi => hi.elim))
  clear f4
  go_wp2_with fail
  go_ret2
  exact ⟨rfl, HF4.out⟩
set_option maxRecDepth 20000 in
set_option maxHeartbeats 2000000 in
theorem refseal_no (KS NS BS TS : ByteArray) (h : KS.size ≠ 32 ∨ NS.size ≠ 12) (w : World) :
    Calls Tryz.prog 18 #[.string KS, .string NS, .string BS, .string TS] w fun e w' => e = .returned (.tuple #[.string ⟨#[]⟩, .int .i64 2]) ∧ Fr (fun _ => False) w w' := by
  by_cases h0 : KS.size = 32
  · obtain ⟨key, hkey⟩ : ∃ l, KS = str l := ⟨KS.data.toList, by apply ByteArray.ext; simp [str]⟩
    have hk : key.length = 32 := by rw [← str_size, ← hkey]; exact h0
    have d0 : ((NS.size : Int) != 12) = true := by simp; omega
    have HNew := Lib.hid (show ∀ w, Calls Tryz.prog 36 #[.string KS] w fun e w' => ∃ g cap X capb, e = .returned (.tuple #[.agg #[.slice (some ⟨g, 0, none⟩) 240 cap, .slice (some ⟨X, 0, none⟩) 256 capb], .int .i64 0]) ∧ RK w' g cap X capb (words key 52) ∧ Fr (fun _ => False) w w' from fun w => by rw [hkey]; exact refnew_rk key hk w)
    clear h h0 hkey hk
    go_enter Tryz.func18, Tryz.ntmps18
    go_wp2_with fail
    refine (HNew.out w).mono ?_
    rintro e w1 ⟨g, cap, X, capb, rfl, hrk, f1⟩
    have HF1 := Lib.hid f1
    clear hrk f1
    go_wp2_with fail
    go_ret2
    exact ⟨rfl, HF1.out.alloc _⟩
  · have HNew := Lib.hid (fun w => refnew_no KS h0 w)
    clear h h0
    go_enter Tryz.func18, Tryz.ntmps18
    go_wp2_with fail
    refine (HNew.out w).mono ?_
    rintro e w1 ⟨rfl, f1⟩
    have HF1 := Lib.hid f1
    clear f1
    go_wp2_with fail
    go_ret2
    exact ⟨rfl, HF1.out.alloc _⟩
set_option maxRecDepth 20000 in
set_option maxHeartbeats 2000000 in
theorem refopen_no (KS NS BS TS : ByteArray) (h : KS.size ≠ 32 ∨ NS.size ≠ 12 ∨ TS.size < 16) (w : World) :
    Calls Tryz.prog 22 #[.string KS, .string NS, .string BS, .string TS] w fun e w' => e = .returned (.tuple #[.string ⟨#[]⟩, .int .i64 2]) ∧ Fr (fun _ => False) w w' := by
  by_cases h0 : KS.size = 32
  · obtain ⟨key, hkey⟩ : ∃ l, KS = str l := ⟨KS.data.toList, by apply ByteArray.ext; simp [str]⟩
    have hk : key.length = 32 := by rw [← str_size, ← hkey]; exact h0
    have HNew := Lib.hid (show ∀ w, Calls Tryz.prog 36 #[.string KS] w fun e w' => ∃ g cap X capb, e = .returned (.tuple #[.agg #[.slice (some ⟨g, 0, none⟩) 240 cap, .slice (some ⟨X, 0, none⟩) 256 capb], .int .i64 0]) ∧ RK w' g cap X capb (words key 52) ∧ Fr (fun _ => False) w w' from fun w => by rw [hkey]; exact refnew_rk key hk w)
    by_cases h1 : NS.size = 12
    · have d0 : ((NS.size : Int) != 12) = false := by rw [h1]; rfl
      have d1 : decide ((TS.size : Int) < 16) = true := decide_eq_true (by omega)
      clear h h0 hkey hk h1
      go_enter Tryz.func22, Tryz.ntmps22
      go_wp2_with fail
      refine (HNew.out w).mono ?_
      rintro e w1 ⟨g, cap, X, capb, rfl, hrk, f1⟩
      have HF1 := Lib.hid f1
      clear hrk f1
      go_wp2_with fail
      go_ret2
      exact ⟨rfl, HF1.out.alloc _⟩
    · have d0 : ((NS.size : Int) != 12) = true := by simp; omega
      clear h h0 hkey hk h1
      go_enter Tryz.func22, Tryz.ntmps22
      go_wp2_with fail
      refine (HNew.out w).mono ?_
      rintro e w1 ⟨g, cap, X, capb, rfl, hrk, f1⟩
      have HF1 := Lib.hid f1
      clear hrk f1
      go_wp2_with fail
      go_ret2
      exact ⟨rfl, HF1.out.alloc _⟩
  · have HNew := Lib.hid (fun w => refnew_no KS h0 w)
    clear h h0
    go_enter Tryz.func22, Tryz.ntmps22
    go_wp2_with fail
    refine (HNew.out w).mono ?_
    rintro e w1 ⟨rfl, f1⟩
    have HF1 := Lib.hid f1
    clear f1
    go_wp2_with fail
    go_ret2
    exact ⟨rfl, HF1.out.alloc _⟩
set_option maxRecDepth 20000 in
set_option maxHeartbeats 2000000 in
theorem refopen_calls (key nonce beside sealed : List UInt8) (hk : key.length = 32) (hn : nonce.length = 12) (hb : beside.length ≤ 65536) (h16 : 16 ≤ sealed.length) (ht : sealed.length ≤ 65552) (w : World) :
    Calls Tryz.prog 22 #[.string (str key), .string (str nonce), .string (str beside), .string (str sealed)] w fun e w' =>
      e = .returned (.tuple #[.string (if opensL key nonce beside sealed then str (openL key nonce sealed) else ⟨#[]⟩), .int .i64 (if opensL key nonce beside sealed then 0 else 8)]) ∧ Fr (fun _ => False) w w' := by
  obtain ⟨KS, hKS⟩ : ∃ s, s = str key := ⟨_, rfl⟩
  obtain ⟨NS, hNS⟩ : ∃ s, s = str nonce := ⟨_, rfl⟩
  obtain ⟨BS, hBS⟩ : ∃ s, s = str beside := ⟨_, rfl⟩
  obtain ⟨TS, hTS⟩ : ∃ s, s = str sealed := ⟨_, rfl⟩
  obtain ⟨tn, htn⟩ : ∃ n, n = sealed.length := ⟨_, rfl⟩
  obtain ⟨n, hnn⟩ : ∃ n, n = sealed.length - 16 := ⟨_, rfl⟩
  obtain ⟨bd, hbd⟩ : ∃ s, s = sealed.take n := ⟨_, rfl⟩
  obtain ⟨tg, htg⟩ : ∃ s, s = sealed.drop n := ⟨_, rfl⟩
  obtain ⟨BD, hBD⟩ : ∃ s, s = str bd := ⟨_, rfl⟩
  obtain ⟨GD, hGD⟩ : ∃ s, s = str tg := ⟨_, rfl⟩
  obtain ⟨TG, hTG⟩ : ∃ s, s = str (tagL key nonce beside bd) := ⟨_, rfl⟩
  obtain ⟨OP, hOP⟩ : ∃ s, s = str (openL key nonce sealed) := ⟨_, rfl⟩
  have hts : TS.size = tn := by rw [hTS, str_size, htn]
  have hbl : bd.length = n := by rw [hbd, List.length_take]; omega
  have hbs : BD.size = n := by rw [hBD, str_size, hbl]
  have d0 : ((NS.size : Int) != 12) = false := by rw [hNS, str_size, hn]; rfl
  have d1 : decide ((65536 : Int) < (BS.size : Int)) = false := decide_eq_false (by rw [hBS, str_size]; omega)
  have d2 : decide ((65536 : Int) < (n : Int)) = false := decide_eq_false (by omega)
  have d3 : decide ((tn : Int) < 16) = false := decide_eq_false (by omega)
  have hw : IntKind.i64.wrap ((tn : Int) - 16) = (n : Int) := by rw [IntWalk.i64_in _ (by omega)]; omega
  have hn0 : (0 : Int) ≤ (n : Int) := by omega
  have hn1 : n ≤ tn := by omega
  have hn2 : (n : Int) ≤ (tn : Int) := by omega
  have hx1 : TS.extract 0 n = BD := by rw [hTS, jstr_take, hBD, hbd]
  have hx2 : TS.extract n tn = GD := by rw [← hts, hTS, jstr_drop, hGD, htg]
  obtain ⟨q, hq⟩ : ∃ b, b = opensL key nonce beside sealed := ⟨_, rfl⟩
  have HQ := Lib.hid (show (TG.toList == GD.toList) = q by
    rw [hTG, hGD, str_toList, str_toList, hq]; unfold opensL; rw [← hnn, ← hbd, ← htg]
    by_cases e : tagL key nonce beside bd = tg
    · rw [decide_eq_true e, e]; simp
    · rw [decide_eq_false e]; simp [e])
  have HNew := Lib.hid (show ∀ w, Calls Tryz.prog 36 #[.string KS] w fun e w' => ∃ g cap X capb, e = .returned (.tuple #[.agg #[.slice (some ⟨g, 0, none⟩) 240 cap, .slice (some ⟨X, 0, none⟩) 256 capb], .int .i64 0]) ∧ RK w' g cap X capb (words key 52) ∧ Fr (fun _ => False) w w' from fun w => by rw [hKS]; exact refnew_rk key hk w)
  have HBody := Lib.hid (show ∀ g cap X capb w, RK w g cap X capb (words key 52) → Calls Tryz.prog 37 #[.agg #[.slice (some ⟨g, 0, none⟩) 240 cap, .slice (some ⟨X, 0, none⟩) 256 capb], .string NS, .string BD] w fun e w' => e = .returned (.string OP) ∧ Fr (fun _ => False) w w' from fun g cap X capb w h => by rw [hNS, hBD, hOP]; unfold openL; rw [← hnn, ← hbd]; exact refbody_calls g cap X capb _ nonce bd hn (by omega) w h)
  have HTag := Lib.hid (show ∀ g cap X capb w, RK w g cap X capb (words key 52) → Calls Tryz.prog 38 #[.agg #[.slice (some ⟨g, 0, none⟩) 240 cap, .slice (some ⟨X, 0, none⟩) 256 capb], .string NS, .string BS, .string BD] w fun e w' => e = .returned (.string TG) ∧ Fr (fun _ => False) w w' from fun g cap X capb w h => by rw [hNS, hBS, hBD, hTG]; exact reftag_calls g cap X capb key nonce beside bd hn (by omega) (by omega) w h)
  rw [← hKS, ← hNS, ← hBS, ← hTS, ← hOP, ← hq]
  clear hKS hNS hBS hTS htn hnn hbd htg hBD hGD hTG hOP hbl hb ht h16 hk hn hq
  go_enter Tryz.func22, Tryz.ntmps22
  go_wp2_with fail
  refine (HNew.out w).mono ?_
  rintro e w1 ⟨g, cap, X, capb, rfl, hrk, f1⟩
  have HR1 := Lib.hid hrk
  have HF1 := Lib.hid f1
  clear hrk f1
  go_wp2_with fail
  have hb := heap_alloc_new w1 (.cells #[.slice (some ⟨g, 0, none⟩) 240 cap, .slice (some ⟨X, 0, none⟩) 256 capb] 73)
  have hf : Fr (fun _ => False) w1 (w1.alloc (.cells #[.slice (some ⟨g, 0, none⟩) 240 cap, .slice (some ⟨X, 0, none⟩) 256 capb] 73)) := (Fr.refl _ _).alloc _
  obtain ⟨B, hBd⟩ : ∃ B, B = w1.heap.size := ⟨_, rfl⟩
  rw [← hBd] at hb ⊢
  generalize w1.alloc (.cells #[.slice (some ⟨g, 0, none⟩) 240 cap, .slice (some ⟨X, 0, none⟩) 256 capb] 73) = w2 at hb hf ⊢
  have HB2 := Lib.hid (show w2.drew.heap[B]? = some (.cells #[.slice (some ⟨g, 0, none⟩) 240 cap, .slice (some ⟨X, 0, none⟩) 256 capb] 73 (0, 0)) from hb)
  have HR2 := Lib.hid (HR1.out.fr hf.drew)
  have HF2 := Lib.hid (HF1.out.trans hf.drew (fun i hi => hi.elim))
  clear hb hf hBd
  refine wp_region_till (fun W' => Fr (fun _ => False) w2.drew W') 9 (by kernel_rfl) ?_
  have HS0 := Lib.hid (Fr.refl (fun _ => False) w2.drew)
  refine wpAnyT_take (i := 0) (n := 12) (v := .agg #[.slice (some ⟨g, 0, none⟩) 240 cap, .slice (some ⟨X, 0, none⟩) 256 capb]) rfl (by kernel_rfl) (fun _ _ _ h => h) HS0.out (yieldsIf_load rfl 73 _ rfl B 0 rfl [.slice (some ⟨g, 0, none⟩) 240 cap, .slice (some ⟨X, 0, none⟩) 256 capb] _ (fun W' hW => rangeAt_block (hW.heap HB2.out id) 0 2) Tryz.underlying73 rfl (by kernel_rfl)) ?_
  simp only [List.getElem_toArray, List.getElem_cons_succ, List.getElem_cons_zero, Act.put, List.setIfInBounds_toArray, List.set_cons_zero, List.set_cons_succ]
  refine wpAnyT_take (i := 1) (n := 12) (v := .string NS) rfl (by kernel_rfl) (fun _ _ _ h => h) HS0.out (yieldsIf_plain rfl (fun W' hW => by clear hW; go_simp)) ?_
  simp only [List.getElem_toArray, List.getElem_cons_succ, List.getElem_cons_zero, Act.put, List.setIfInBounds_toArray, List.set_cons_zero, List.set_cons_succ]
  refine wpAnyT_take (i := 2) (n := 12) (v := .string BS) rfl (by kernel_rfl) (fun _ _ _ h => h) HS0.out (yieldsIf_plain rfl (fun W' hW => by clear hW; go_simp)) ?_
  simp only [List.getElem_toArray, List.getElem_cons_succ, List.getElem_cons_zero, Act.put, List.setIfInBounds_toArray, List.set_cons_zero, List.set_cons_succ]
  refine wpAnyT_take (i := 3) (n := 12) (v := .string BD) rfl (by kernel_rfl) (fun _ _ _ h => h) HS0.out (yieldsIf_plain rfl (fun W' hW => by clear hW; go_simp)) ?_
  simp only [List.getElem_toArray, List.getElem_cons_succ, List.getElem_cons_zero, Act.put, List.setIfInBounds_toArray, List.set_cons_zero, List.set_cons_succ]
  refine wpAnyT_take (i := 5) (n := 12) (v := .string TS) rfl (by kernel_rfl) (fun _ _ _ h => h) HS0.out (yieldsIf_plain rfl (fun W' hW => by clear hW; go_simp)) ?_
  simp only [List.getElem_toArray, List.getElem_cons_succ, List.getElem_cons_zero, Act.put, List.setIfInBounds_toArray, List.set_cons_zero, List.set_cons_succ]
  refine wpAnyT_take (i := 6) (n := 12) (v := .string BD) rfl (by kernel_rfl) (fun _ _ _ h => h) HS0.out (yieldsIf_plain rfl (fun W' hW => by clear hW; go_simp)) ?_
  simp only [List.getElem_toArray, List.getElem_cons_succ, List.getElem_cons_zero, Act.put, List.setIfInBounds_toArray, List.set_cons_zero, List.set_cons_succ]
  refine wpAnyT_take (i := 7) (n := 12) (v := .int .i64 (n : Int)) rfl (by kernel_rfl) (fun _ _ _ h => h) HS0.out (yieldsIf_plain rfl (fun W' hW => by clear hW; go_simp)) ?_
  simp only [List.getElem_toArray, List.getElem_cons_succ, List.getElem_cons_zero, Act.put, List.setIfInBounds_toArray, List.set_cons_zero, List.set_cons_succ]
  refine wpAnyT_take (i := 8) (n := 12) (v := .string GD) rfl (by kernel_rfl) (fun _ _ _ h => h) HS0.out (yieldsIf_plain rfl (fun W' hW => by clear hW; go_simp)) ?_
  simp only [List.getElem_toArray, List.getElem_cons_succ, List.getElem_cons_zero, Act.put, List.setIfInBounds_toArray, List.set_cons_zero, List.set_cons_succ]
  refine wpAnyT_one (i := 4) rfl (by kernel_rfl) (wpOp_plain rfl rfl (fun K hK => ?_))
  simp only [List.getElem_toArray, List.getElem_cons_succ, List.getElem_cons_zero, Act.put, List.setIfInBounds_toArray, List.set_cons_zero, List.set_cons_succ]
  have HKK := Lib.hid hK
  clear hK
  go_wp2_with fail
  refine (HTag.out g cap X capb _ HR2.out).mono ?_
  rintro e w3 ⟨rfl, f3⟩
  have HS3 := Lib.hid f3
  clear f3
  go_wp2_with fail
  refine HKK.out _ _ ⟨fun _ => HS3.out, ?_⟩
  clear HKK K
  try simp only [List.getElem_toArray, List.getElem_cons_succ, List.getElem_cons_zero, Act.put, List.setIfInBounds_toArray, List.set_cons_zero, List.set_cons_succ]
  refine wpAnyT_of_any trivial [9] _ _ _ _ (by kernel_rfl) (by simp) (.inr rfl) ?_
  simp only [List.filterMap_cons, List.filterMap_nil, List.getElem?_toArray, List.getElem?_cons_zero, List.getElem?_cons_succ]
  have HR3 := Lib.hid (HR2.out.fr HS3.out)
  have HB3 := Lib.hid (HS3.out.heap HB2.out id)
  have HF3 := Lib.hid (HF2.out.trans HS3.out (fun i hi => hi.elim))
  have k0 : w3.cell? ⟨B, 0, none⟩ = some (.slice (some ⟨g, 0, none⟩) 240 cap) := (cell_of_row w3 _ 0 _ _ _ HB3.out).trans rfl
  have k1 : w3.cell? ⟨B, 1, none⟩ = some (.slice (some ⟨X, 0, none⟩) 256 capb) := (cell_of_row w3 _ 1 _ _ _ HB3.out).trans rfl
  cases q with
  | false =>
    have qq := HQ.out
    go_wp2_with fail
    go_ret2
    exact ⟨rfl, HF3.out⟩
  | true =>
    have qq := HQ.out
    go_wp2_with fail
    refine (HBody.out g cap X capb w3 HR3.out).mono ?_
    rintro e w5 ⟨rfl, f5⟩
    have HF5 := Lib.hid (HF3.out.trans f5 (fun i hi => hi.elim))
    clear f5
    go_wp2_with fail
    go_ret2
    exact ⟨rfl, HF5.out⟩
end Go.Proofs.YtcchhfkmhbjdmaaGreat
/-! PgP -/
set_option linter.unusedVariables false
set_option linter.unusedSimpArgs false
set_option pp.deepTerms true
set_option pp.maxSteps 100000
namespace Go.Proofs.YtcchhfkmhbjdmaaGreat
open Go.RowKit
theorem as_str (s : ByteArray) : ∃ l, s = str l := ⟨s.data.toList, by apply ByteArray.ext; simp [str]⟩
theorem pick_seal (K N B T : ByteArray) (hK : K.size ≤ 100) (hB : B.size ≤ 300) (hT : T.size ≤ 300) :
    ∃ (S : ByteArray) (c : Int), IntKind.i64.wrap c = c ∧ (∀ w, Calls Tryz.prog 15 #[.string K, .string N, .string B, .string T] w fun e w' => e = .returned (.tuple #[.string S, .int .i64 c]) ∧ Fr (fun _ => False) w w') ∧
      (∀ w, Calls Tryz.prog 18 #[.string K, .string N, .string B, .string T] w fun e w' => e = .returned (.tuple #[.string S, .int .i64 c]) ∧ Fr (fun _ => False) w w') := by
  by_cases h : K.size ≠ 32 ∨ N.size ≠ 12
  · exact ⟨_, _, rfl, fun w => seal_no K N B T (by omega) h w, fun w => refseal_no K N B T h w⟩
  · obtain ⟨k, rfl⟩ := as_str K
    obtain ⟨n, rfl⟩ := as_str N
    obtain ⟨b, rfl⟩ := as_str B
    obtain ⟨t, rfl⟩ := as_str T
    rw [str_size] at hK hB hT
    rw [str_size, str_size] at h
    exact ⟨_, _, rfl, fun w => seal_yes k n b t (by omega) (by omega) (by omega) (by omega) w, fun w => refseal_yes k n b t (by omega) (by omega) (by omega) (by omega) w⟩
theorem pick_open (K N B T : ByteArray) (hK : K.size ≤ 100) (hB : B.size ≤ 300) (hT : T.size ≤ 300) :
    ∃ (S : ByteArray) (c : Int), IntKind.i64.wrap c = c ∧ (∀ w, Calls Tryz.prog 21 #[.string K, .string N, .string B, .string T] w fun e w' => e = .returned (.tuple #[.string S, .int .i64 c]) ∧ Fr (fun _ => False) w w') ∧
      (∀ w, Calls Tryz.prog 22 #[.string K, .string N, .string B, .string T] w fun e w' => e = .returned (.tuple #[.string S, .int .i64 c]) ∧ Fr (fun _ => False) w w') := by
  by_cases h : K.size ≠ 32 ∨ N.size ≠ 12 ∨ T.size < 16
  · exact ⟨_, _, rfl, fun w => open_no K N B T (by omega) (by omega) h w, fun w => refopen_no K N B T h w⟩
  · obtain ⟨k, rfl⟩ := as_str K
    obtain ⟨n, rfl⟩ := as_str N
    obtain ⟨b, rfl⟩ := as_str B
    obtain ⟨t, rfl⟩ := as_str T
    rw [str_size] at hK hB hT
    rw [str_size, str_size, str_size] at h
    exact ⟨_, _, by split <;> rfl, fun w => open_calls k n b t (by omega) (by omega) (by omega) (by omega) (by omega) w, fun w => refopen_calls k n b t (by omega) (by omega) (by omega) (by omega) (by omega) w⟩
end Go.Proofs.YtcchhfkmhbjdmaaGreat
