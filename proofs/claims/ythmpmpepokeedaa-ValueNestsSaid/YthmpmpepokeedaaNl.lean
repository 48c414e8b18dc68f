/- Values: the document's Same; of: walked. -/
import Derived.Test.YthmpmpepokeedaaNk
import Derived.Test.YthmpmpepokeedaaN0
set_option linter.unusedVariables false
set_option linter.unusedSimpArgs false
set_option pp.deepTerms true
set_option pp.maxSteps 100000
namespace Go.Proofs.Ythmpmpepokeedaa
open Go.RowKit
set_option maxRecDepth 20000 in
set_option maxHeartbeats 8000000 in
theorem refsame_calls {w : World} {D : Nat → Prop} {t : VT} {cs1 : List Value} (h1 : VR w D t cs1) : ∀ (cs2 : List Value) (D2 : Nat → Prop) (w' : World), Fr (fun _ => False) w w' → VR w' D2 t cs2 →
    Calls Try.prog 22 #[.agg cs1.toArray, .agg cs2.toArray] w' fun e w'' => e = .returned (.bool true) ∧ Fr (fun _ => False) w' w'' := by
  induction h1 with
  | mk k n s b l a cap cs hlc hcap hs ha h ih =>
    intro cx D2 w' hf h2
    cases h2 with
    | mk _ _ _ _ _ a2 cap2 cs2 hlc2 hcap2 hs2 ha2 h2 =>
      show Calls Try.prog 22 #[.agg #[.int .i64 k, .int .i64 n, .string (str s), .bool b, .slice a l.length cap], .agg #[.int .i64 k, .int .i64 n, .string (str s), .bool b, .slice a2 l.length cap2]] w' _
      obtain ⟨S, hS⟩ : ∃ x, x = str s := ⟨_, rfl⟩
      rw [← hS]
      obtain ⟨m, hm⟩ : ∃ x, x = l.length := ⟨_, rfl⟩
      rw [← hm] at hlc hlc2 ⊢
      have HM := Lib.hid hm
      have HA := Lib.hid ha
      have HA2 := Lib.hid ha2
      have HH := Lib.hid h
      have HH2 := Lib.hid h2
      have HIH := Lib.hid ih
      have HF00 := Lib.hid hf
      clear hS hm ha ha2 h h2 ih hf hs hs2
      obtain ⟨w1, hw1⟩ : ∃ w1, w1 = (w'.alloc (.cells #[.int .i64 k, .int .i64 n, .string S, .bool b, .slice a m cap] 36)).alloc (.cells #[.int .i64 k, .int .i64 n, .string S, .bool b, .slice a2 m cap2] 36) := ⟨_, rfl⟩
      obtain ⟨g, hg⟩ : ∃ g, g = w'.heap.size := ⟨_, rfl⟩
      have hb1 : w1.heap[g]? = some (.cells #[.int .i64 k, .int .i64 n, .string S, .bool b, .slice a m cap] 36 (0, 0)) := by rw [hw1, hg]; exact ((Fr.refl (fun _ => False) _).alloc _).heap (heap_alloc_new w' _) id
      have hb2 : w1.heap[g + 1]? = some (.cells #[.int .i64 k, .int .i64 n, .string S, .bool b, .slice a2 m cap2] 36 (0, 0)) := by
        have h := heap_alloc_new (w'.alloc (.cells #[.int .i64 k, .int .i64 n, .string S, .bool b, .slice a m cap] 36)) (.cells #[.int .i64 k, .int .i64 n, .string S, .bool b, .slice a2 m cap2] 36)
        rw [World.size_alloc] at h
        rw [hw1, hg]; exact h
      have HB1 := Lib.hid hb1
      have HB2 := Lib.hid hb2
      have HF0 := Lib.hid (show Fr (fun _ => False) w' w1 by rw [hw1]; exact ((Fr.refl _ _).alloc _).alloc _)
      have HW1 := Lib.hid (And.intro hw1 hg)
      clear hw1 hg hb1 hb2
      go_enter Try.func22, Try.ntmps22
      go_wp2_with fail
      rw [← HW1.out.2, ← HW1.out.1]
      go_loopw [5] (fun i wr => ∃ u : Nat, u ≤ m ∧ i = .int .i64 (u : Int) ∧ Fr (fun _ => False) w1 wr) (fun i _ => m - (intOf i).toNat)
      case atStart => exact ⟨0, Nat.zero_le _, rfl, Fr.refl _ _⟩
      case round =>
        obtain ⟨u, hu, rfl, hfr⟩ := hrel
        have HF := Lib.hid hfr
        have c4 : wr.cell? ⟨g, 4, none⟩ = some (.slice a m cap) := (cell_of_row wr g 4 _ _ _ (hfr.heap HB1.out id)).trans rfl
        clear hfr
        by_cases hlt : u < m
        · have hul : u < l.length := by rw [← HM.out]; exact hlt
          rcases HA.out with h0 | ⟨g2, off2, rfl, hD, hr⟩
          · exact absurd hul (by rw [h0]; simp)
          rcases HA2.out with h0 | ⟨g3, off3, rfl, hD3, hr3⟩
          · exact absurd hul (by rw [h0]; simp)
          obtain ⟨x1, hx1⟩ : ∃ x, l[u]? = some x := ⟨_, List.getElem?_eq_getElem hul⟩
          have hi0 : (u : Int) < (m : Int) := by omega
          have HC1 := Lib.hid (show ∀ W', Fr (fun _ => False) wr W' → W'.cell? ⟨g, 4, none⟩ = some (.slice (some ⟨g2, off2, none⟩) m cap) from fun W' h => (cell_of_row W' g 4 _ _ _ ((HF.out.trans h (fun i hi => hi.elim)).heap HB1.out id)).trans rfl)
          have HC2 := Lib.hid (show ∀ W', Fr (fun _ => False) wr W' → W'.cell? ⟨g + 1, 4, none⟩ = some (.slice (some ⟨g3, off3, none⟩) m cap2) from fun W' h => (cell_of_row W' _ 4 _ _ _ ((HF.out.trans h (fun i hi => hi.elim)).heap HB2.out id)).trans rfl)
          have HG1 := Lib.hid (show ∀ W', Fr (fun _ => False) wr W' → W'.rangeAt g2 (off2 + u * 5) (cs u) from fun W' hf i v hi => (((HF00.out.trans HF0.out (fun i hi => hi.elim)).trans HF.out (fun i hi => hi.elim)).trans hf (fun i hi => hi.elim)).cell (hr u _ hx1 i v hi) id)
          have HG2 := Lib.hid (show ∀ W', Fr (fun _ => False) wr W' → W'.rangeAt g3 (off3 + u * 5) (cs2 u) from fun W' hf i v hi => ((HF0.out.trans HF.out (fun i hi => hi.elim)).trans hf (fun i hi => hi.elim)).cell (hr3 u _ hx1 i v hi) id)
          have HLi1 := Lib.hid (show (Try.prog.info? 36).map (·.size) = some (cs u).length by rw [(HH.out u x1 hx1).five]; exact info36)
          have HLi2 := Lib.hid (show (Try.prog.info? 36).map (·.size) = some (cs2 u).length by rw [(HH2.out u x1 hx1).five]; exact info36)
          have HCall := Lib.hid (show ∀ W', Fr (fun _ => False) wr W' → Calls Try.prog 22 #[.agg (cs u).toArray, .agg (cs2 u).toArray] W' fun e w'' => e = .returned (.bool true) ∧ Fr (fun _ => False) W' w'' from fun W' hf => HIH.out u x1 hx1 (cs2 u) D2 W' (((HF00.out.trans HF0.out (fun i hi => hi.elim)).trans HF.out (fun i hi => hi.elim)).trans hf (fun i hi => hi.elim)) ((HH2.out u x1 hx1).frF ((HF0.out.trans HF.out (fun i hi => hi.elim)).trans hf (fun i hi => hi.elim))))
          clear hD hr hD3 hr3 hx1 hul
          go_wp2_with fail
          refine wp_region_till (fun w' => Fr (fun _ => False) (wr.drew) w') 10 rfl ?_
          generalize hW0 : wr.drew = W0
          have HWk := Lib.hid (show Fr (fun _ => False) wr W0 by rw [← hW0]; exact (Fr.refl _ _).drew)
          have HS0 := Lib.hid (Fr.refl (fun _ => False) W0)
          clear hW0
          refine wpAnyT_path (i := 0) (p := [4, 3, 1]) (v := .pointer (some ⟨g, 4, none⟩)) rfl (by kernel_rfl) (by kernel_rfl) (fun _ _ _ h => h) HS0.out (.inl ⟨by rfl, fun W' hW => by clear hW; go_simp⟩) ?_
          try simp only [Act.put, List.setIfInBounds_toArray]
          try dsimp only [List.getElem_toArray, List.getElem_cons_succ, List.getElem_cons_zero, List.set_cons_zero, List.set_cons_succ]
          refine wpAnyT_path (i := 1) (p := [4, 3]) (v := .slice (some ⟨g2, off2, none⟩) m cap) rfl (by kernel_rfl) (by kernel_rfl) (fun _ _ _ h => h) HS0.out (.inl ⟨by rfl, fun W' hW => by have hc := HC1.out W' (HWk.out.trans hW (fun i hi => hi.elim)); clear hW; go_simp⟩) ?_
          try simp only [Act.put, List.setIfInBounds_toArray]
          try dsimp only [List.getElem_toArray, List.getElem_cons_succ, List.getElem_cons_zero, List.set_cons_zero, List.set_cons_succ]
          refine wpAnyT_path (i := 2) (p := [4, 3]) (v := .int .i64 (u : Int)) rfl (by kernel_rfl) (by kernel_rfl) (fun _ _ _ h => h) HS0.out (.inl ⟨by rfl, fun W' hW => by clear hW; go_simp⟩) ?_
          try simp only [Act.put, List.setIfInBounds_toArray]
          try dsimp only [List.getElem_toArray, List.getElem_cons_succ, List.getElem_cons_zero, List.set_cons_zero, List.set_cons_succ]
          refine wpAnyT_path (i := 3) (p := [4]) (v := .pointer (some ⟨g2, off2 + u * 5, none⟩)) rfl (by kernel_rfl) (by kernel_rfl) (fun _ _ _ h => h) HS0.out (.inl ⟨by rfl, fun W' hW => by clear hW; go_simp⟩) ?_
          try simp only [Act.put, List.setIfInBounds_toArray]
          try dsimp only [List.getElem_toArray, List.getElem_cons_succ, List.getElem_cons_zero, List.set_cons_zero, List.set_cons_succ]
          refine wpAnyT_path (i := 4) (p := []) (v := .agg (cs u).toArray) rfl (by kernel_rfl) (by kernel_rfl) (fun _ _ _ h => h) HS0.out (yieldsIf_load rfl 36 (.tmp 51) rfl g2 (off2 + u * 5) rfl (cs u) _ (fun W' hW => HG1.out W' (HWk.out.trans hW (fun i hi => hi.elim))) Try.underlying36 rfl HLi1.out) ?_
          try simp only [Act.put, List.setIfInBounds_toArray]
          try dsimp only [List.getElem_toArray, List.getElem_cons_succ, List.getElem_cons_zero, List.set_cons_zero, List.set_cons_succ]
          refine wpAnyT_path (i := 5) (p := [9, 8, 6]) (v := .pointer (some ⟨g + 1, 4, none⟩)) rfl (by kernel_rfl) (by kernel_rfl) (fun _ _ _ h => h) HS0.out (.inl ⟨by rfl, fun W' hW => by clear hW; go_simp⟩) ?_
          try simp only [Act.put, List.setIfInBounds_toArray]
          try dsimp only [List.getElem_toArray, List.getElem_cons_succ, List.getElem_cons_zero, List.set_cons_zero, List.set_cons_succ]
          refine wpAnyT_path (i := 6) (p := [9, 8]) (v := .slice (some ⟨g3, off3, none⟩) m cap2) rfl (by kernel_rfl) (by kernel_rfl) (fun _ _ _ h => h) HS0.out (.inl ⟨by rfl, fun W' hW => by have hc := HC2.out W' (HWk.out.trans hW (fun i hi => hi.elim)); clear hW; go_simp⟩) ?_
          try simp only [Act.put, List.setIfInBounds_toArray]
          try dsimp only [List.getElem_toArray, List.getElem_cons_succ, List.getElem_cons_zero, List.set_cons_zero, List.set_cons_succ]
          refine wpAnyT_path (i := 7) (p := [9, 8]) (v := .int .i64 (u : Int)) rfl (by kernel_rfl) (by kernel_rfl) (fun _ _ _ h => h) HS0.out (.inl ⟨by rfl, fun W' hW => by clear hW; go_simp⟩) ?_
          try simp only [Act.put, List.setIfInBounds_toArray]
          try dsimp only [List.getElem_toArray, List.getElem_cons_succ, List.getElem_cons_zero, List.set_cons_zero, List.set_cons_succ]
          refine wpAnyT_path (i := 8) (p := [9]) (v := .pointer (some ⟨g3, off3 + u * 5, none⟩)) rfl (by kernel_rfl) (by kernel_rfl) (fun _ _ _ h => h) HS0.out (.inl ⟨by rfl, fun W' hW => by clear hW; go_simp⟩) ?_
          try simp only [Act.put, List.setIfInBounds_toArray]
          try dsimp only [List.getElem_toArray, List.getElem_cons_succ, List.getElem_cons_zero, List.set_cons_zero, List.set_cons_succ]
          refine wpAnyT_path (i := 9) (p := []) (v := .agg (cs2 u).toArray) rfl (by kernel_rfl) (by kernel_rfl) (fun _ _ _ h => h) HS0.out (yieldsIf_load rfl 36 (.tmp 56) rfl g3 (off3 + u * 5) rfl (cs2 u) _ (fun W' hW => HG2.out W' (HWk.out.trans hW (fun i hi => hi.elim))) Try.underlying36 rfl HLi2.out) ?_
          try simp only [Act.put, List.setIfInBounds_toArray]
          try dsimp only [List.getElem_toArray, List.getElem_cons_succ, List.getElem_cons_zero, List.set_cons_zero, List.set_cons_succ]
          refine wpAnyT_one (i := 10) rfl (by kernel_rfl) ?_
          refine wpOp_plain rfl rfl (fun K hK => ?_)
          try simp only [Act.put, List.setIfInBounds_toArray]
          try dsimp only [List.getElem_toArray, List.getElem_cons_succ, List.getElem_cons_zero, List.set_cons_zero, List.set_cons_succ]
          have HKK2 := Lib.hid hK
          clear hK
          go_wp2_with fail
          refine (HCall.out W0 HWk.out).mono ?_
          rintro e w2 ⟨rfl, f2⟩
          have HS2 := Lib.hid f2
          have HF2 := Lib.hid ((HF.out.trans HWk.out (fun i hi => hi.elim)).trans f2 (fun i hi => hi.elim))
          clear f2
          go_wp2_with fail
          refine HKK2.out _ _ ⟨fun _ => HS2.out, ?_⟩
          clear HKK2 K
          try simp only [Act.put, List.setIfInBounds_toArray]
          try dsimp only [List.getElem_toArray, List.getElem_cons_succ, List.getElem_cons_zero, List.set_cons_zero, List.set_cons_succ]
          refine wpAnyT_done (by first | rfl | kernel_rfl) _ _ _ ?_
          refine wpAny_take (i := 11) (v := .bool false) rfl (by kernel_rfl) (by kernel_rfl) (by kernel_rfl) (fun _ _ _ h => h) (.inl ⟨by rfl, fun W' => by go_simp⟩) ?_
          try simp only [Act.put, List.setIfInBounds_toArray]
          try dsimp only [List.getElem_toArray, List.getElem_cons_succ, List.getElem_cons_zero, List.set_cons_zero, List.set_cons_succ]
          refine wpAny_done (by kernel_rfl) ?_ _
          go_wp2_with fail
          go_roundw
          case rel => exact ⟨u + 1, by omega, by go_num, HF2.out⟩
          case measure => simp [intOf]; omega
        · obtain rfl : u = m := by omega
          have hge : ¬ (u : Int) < (u : Int) := by omega
          clear hlt
          go_wp2_with fail
          go_ret
          exact ⟨rfl, HF0.out.trans HF.out (fun i hi => hi.elim)⟩
set_option maxRecDepth 20000 in
set_option maxHeartbeats 8000000 in
theorem ofx_calls (a : AV) (D : Nat → Prop) (v : Value) (w : World) (hr : AR w D a v) (hwf : WfA a) (hlen : lenK 8 a ≤ 140737488355328) (hok : (encA 8 a).2 = 0) :
    Calls Try.prog 23 #[v] w fun e w' => ∃ cs, e = .returned (.agg cs.toArray) ∧ VR w' (fun i => w.heap.size ≤ i) (toV a) cs ∧ Fr (fun _ => False) w w' := by
  have hdec : decA 8 (encA 8 a).1 = some (a, []) := by
    have := dec_enc 8 a (encA 8 a).1 [] hwf (Prod.ext rfl hok)
    rwa [List.append_nil] at this
  have hll : (encA 8 a).1.length ≤ 4611686018427387904 := by have := encA_len 8 a; omega
  obtain ⟨p, hp⟩ : ∃ p, p = (encA 8 a).1 := ⟨_, rfl⟩
  obtain ⟨w1, hw1⟩ : ∃ w1, w1 = w.alloc (.cells #[.int .i64 0, .int .i64 0, .string ⟨#[]⟩, .bool false, .slice none 0 0] 36) := ⟨_, rfl⟩
  obtain ⟨Rb, hRb⟩ : ∃ g, g = w.heap.size := ⟨_, rfl⟩
  have hR1 : w1.heap[Rb]? = some (.cells #[.int .i64 0, .int .i64 0, .string ⟨#[]⟩, .bool false, .slice none 0 0] 36 (0, 0)) := by rw [hw1, hRb]; exact heap_alloc_new w _
  have HR1 := Lib.hid hR1
  have HF1 := Lib.hid (show Fr (fun _ => False) w w1 by rw [hw1]; exact (Fr.refl _ _).alloc _)
  have HW1 := Lib.hid hw1
  have HRb := Lib.hid hRb
  have HP := Lib.hid (show Calls Try.prog 17 #[v] w1 fun e w' => e = .returned (.tuple #[.string (str p), .int .i64 0]) ∧ Fr (fun _ => False) w1 w' from by
    have := print_calls a D v w1 (hr.frF HF1.out) hlen
    rw [hok, ← hp] at this
    exact this)
  have HQ := Lib.hid (show ∀ w', Calls Try.prog 21 #[.string (str p)] w' (RpE p w') from fun w' => refparse_calls p (by rw [hp]; exact hll) w')
  rw [← hp] at hdec
  have HDec := Lib.hid hdec
  clear hw1 hRb hR1 hr hwf hlen hok hdec hll hp
  obtain ⟨S, hS⟩ : ∃ x, x = str p := ⟨_, rfl⟩
  rw [← hS] at HP HQ
  clear hS
  go_enter Try.func23, Try.ntmps23
  go_wp2_with fail
  rw [← HW1.out, ← HRb.out]
  refine HP.out.mono ?_
  rintro e w2 ⟨rfl, f2⟩
  have HF2 := Lib.hid (HF1.out.trans f2 (fun i hi => hi.elim))
  have HR2 := Lib.hid (f2.heap HR1.out id)
  clear f2
  go_wp2_with fail
  refine (HQ.out w2).mono ?_
  rintro e w5 ⟨cs1, cc, rfl, h5, h1, hrc, f5⟩
  obtain ⟨rfl, hvr⟩ : cc = 0 ∧ VR w5 (fun i => w2.heap.size ≤ i) (toV a) cs1 := by unfold RpC at hrc; rw [HDec.out] at hrc; exact hrc
  have HF5 := Lib.hid (HF2.out.trans f5 (fun i hi => hi.elim))
  have HRb6 := Lib.hid (show (w5.alloc (.cells cs1.toArray 36)).heap[Rb]? = some (.cells #[.int .i64 0, .int .i64 0, .string ⟨#[]⟩, .bool false, .slice none 0 0] 36 (0, 0)) from (f5.alloc _).heap HR2.out id)
  have HF6 := Lib.hid (HF5.out.alloc (.cells cs1.toArray 36))
  have HLi := Lib.hid (show (Try.prog.info? 36).map (·.size) = some cs1.length by rw [h5]; exact info36)
  have HLi2 := Lib.hid (show (Try.prog.info? 36).map (·.size) = some cs1.toArray.size by rw [show cs1.toArray.size = 5 by simpa using h5]; exact info36)
  have HZ5 := Lib.hid (show (#[.int .i64 0, .int .i64 0, .string ⟨#[]⟩, .bool false, .slice none 0 0] : Array Value).size = cs1.toArray.size by simpa using h5.symm)
  have HOA := Lib.hid (show ∀ v ∈ cs1.toArray.toList, v.oneCell' = true by simpa using h1)
  have HX6 := Lib.hid (show (w5.alloc (.cells cs1.toArray 36)).rangeAt w5.heap.size 0 cs1 from rangeAt_all (heap_alloc_new w5 _))
  have HVR := Lib.hid (show VR ((w5.alloc (.cells cs1.toArray 36)).setRow Rb cs1.toArray) (fun i => w.heap.size ≤ i) (toV a) cs1 from (hvr.fr (((Fr.refl (fun k => k = Rb) w5).alloc (.cells cs1.toArray 36)).setRow Rb cs1.toArray (.inl rfl)) (fun i hi e => by
    have h1 := lt_of_heap HR2.out
    omega)).mono (fun i hi => by have := HF2.out.size; omega))
  clear f5 h5 h1 hrc hvr HP HQ
  go_wp2_with (first | (with_reducible refine wpList_store_fresh (op := ⟨none, .store 36 _ _, _, _, _, _⟩) rfl 36 _ _ rfl w5 #[.int .i64 0, .int .i64 0, .string ⟨#[]⟩, .bool false, .slice none 0 0] cs1.toArray rfl rfl rfl HZ5.out HLi2.out HOA.out ?_) | (with_reducible refine wpList_load_mid (op := ⟨some 19, _, _, _, _, _⟩) rfl 36 _ rfl w5.heap.size 0 rfl cs1 _ HX6.out Try.underlying36 rfl HLi.out ?_) | (with_reducible refine wpList_store_whole (op := ⟨none, .store 36 _ _, _, _, _, _⟩) rfl 36 _ _ rfl Rb 36 #[.int .i64 0, .int .i64 0, .string ⟨#[]⟩, .bool false, .slice none 0 0] cs1.toArray rfl rfl HRb6.out HZ5.out HLi2.out HOA.out ?_))
  refine bodyPost_ret (results_cell_row rfl _ _ Rb 36 cs1.toArray (0, 0) _ rfl (setRow_heap _ Rb #[.int .i64 0, .int .i64 0, .string ⟨#[]⟩, .bool false, .slice none 0 0] _ 36 _ HRb6.out) Try.underlying36 rfl HLi2.out) rfl ?_
  exact ⟨cs1, rfl, HVR.out, HF6.out.setRow _ _ (.inr (by rw [HRb.out]; exact Nat.le_refl _))⟩
end Go.Proofs.Ythmpmpepokeedaa
