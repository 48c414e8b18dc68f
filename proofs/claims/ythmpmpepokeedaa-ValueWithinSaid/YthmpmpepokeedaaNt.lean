/- Values: the document's Within, the law's want: walked. -/
import Derived.Test.YthmpmpepokeedaaNn
import Derived.Test.YthmpmpepokeedaaNl
set_option linter.unusedVariables false
set_option linter.unusedSimpArgs false
set_option pp.deepTerms true
set_option pp.maxSteps 100000
namespace Go.Proofs.Ythmpmpepokeedaa
open Go.RowKit
theorem op_store_whole {P : Program} {op : Oper} {a : Act} {w : World} {Q : Exit → Act → World → Prop} {K : Act → World → Prop} (ty : TypeId) (x y : Operand) (ho : op.op = .store ty x y) (g : Nat) (t : TypeId) (Z cs : Array Value)
    (hx : a.eval x = .pointer (some ⟨g, 0, none⟩)) (hy : a.eval y = .agg cs) (hg : w.heap[g]? = some (.cells Z t (0, 0))) (hZ : Z.size = cs.size) (hi : (P.info? ty).map (·.size) = some cs.size) (h1 : ∀ v ∈ cs.toList, v.oneCell' = true)
    (h : K (a.put op.dst undef) (w.setRow g cs)) : op.wp P a w K Q := by
  unfold Oper.wp execOp
  simp only [ho, hx, hy, Instr.storeAt, Instr.sureAddr, Sem.run_bind, Sem.run_pure, Result.andThen_ok, run_storeVar_whole g ty t Z cs hg hZ hi h1]
  exact h
def zeroT : VT := .mk 0 0 [] false []
theorem zeroT_VR (w : World) (D : Nat → Prop) : VR w D zeroT zeroV := .mk 0 0 [] false [] none 0 (fun _ => []) (Nat.le_refl _) (by decide) (by decide) (.inl rfl) (fun i t ht => by simp at ht)
def withinV : VT → List Int → VT × Nat
  | t, [] => (t, 0)
  | .mk k n s b l, i :: r => if k ≠ 4 then (zeroT, 9) else if i < 0 ∨ (l.length : Int) ≤ i then (zeroT, 4) else withinV (l.getD i.toNat zeroT) r
/-- What is come to on either side is the same. -/
theorem within_same (l : List Int) : ∀ t, withinA (ofV t) l = (ofV (withinV t l).1, (withinV t l).2) := by
  induction l with
  | nil => intro t; cases t; unfold withinV withinA; rfl
  | cons i r ih =>
    intro t
    cases t with
    | mk k n s b m =>
      by_cases hk : k = 4
      · subst hk
        rw [show ofV (.mk 4 n s b m) = .row (ofVs m) from by rw [ofV]; rfl]
        rw [show withinA (.row (ofVs m)) (i :: r) = if i < 0 ∨ ((ofVs m).length : Int) ≤ i then (.non, 4) else withinA ((ofVs m).getD i.toNat .non) r from rfl]
        rw [show withinV (.mk 4 n s b m) (i :: r) = if i < 0 ∨ (m.length : Int) ≤ i then (zeroT, 4) else withinV (m.getD i.toNat zeroT) r from by rw [withinV, if_neg (by simp)]]
        rw [ofVs_map, List.length_map]
        by_cases h : i < 0 ∨ (m.length : Int) ≤ i
        · rw [if_pos h, if_pos h]; rfl
        · rw [if_neg h, if_neg h]
          rw [show (m.map ofV).getD i.toNat .non = ofV (m.getD i.toNat zeroT) by
            rw [List.getD_eq_getElem?_getD, List.getD_eq_getElem?_getD, List.getElem?_map]
            cases m[i.toNat]? <;> rfl]
          exact ih _
      · rw [show withinV (.mk k n s b m) (i :: r) = (zeroT, 9) from by rw [withinV, if_pos hk]]
        rw [within_leaf _ (fun l e => by
          rw [ofV] at e
          split at e
          · cases e
          · split at e
            · cases e
            · split at e
              · cases e
              · cases e) i r]
        rfl
set_option maxRecDepth 20000 in
set_option maxHeartbeats 8000000 in
theorem refwithin_calls (t : VT) (cs : List Value) (D : Nat → Prop) (A : Option Addr) (cap : Nat) (l : List Int) (w : World) (hv : VR w D t cs) (hl : IntsAt w A l) (hlc : l.length ≤ cap) (hcap : cap ≤ 9223372036854775807) :
    Calls Try.prog 24 #[.agg cs.toArray, .slice A l.length cap] w fun e w' => ∃ cs', e = .returned (.tuple #[.agg cs'.toArray, .int .i64 ((withinV t l).2 : Int)]) ∧ VR w' D (withinV t l).1 cs' ∧ Fr (fun _ => False) w w' := by
  obtain ⟨n, hn⟩ : ∃ n, n = l.length := ⟨_, rfl⟩
  obtain ⟨R, hR⟩ : ∃ R, R = withinV t l := ⟨_, rfl⟩
  rw [← hn] at hlc ⊢
  rw [← hR]
  obtain ⟨w1, hw1⟩ : ∃ w1, w1 = w.alloc (.cells cs.toArray 36) := ⟨_, rfl⟩
  obtain ⟨w2, hw2⟩ : ∃ w2, w2 = w1.alloc (.cells #[.int .i64 0, .int .i64 0, .string ⟨#[]⟩, .bool false, .slice none 0 0] 36) := ⟨_, rfl⟩
  obtain ⟨g, hg⟩ : ∃ g, g = w.heap.size := ⟨_, rfl⟩
  have hsz : w1.heap.size = g + 1 := by rw [hw1, hg]; simp
  have hb1 : w1.heap[g]? = some (.cells cs.toArray 36 (0, 0)) := by rw [hw1, hg]; exact heap_alloc_new w _
  have HB0 := Lib.hid (show w2.heap[g]? = some (.cells cs.toArray 36 (0, 0)) by rw [hw2]; exact ((Fr.refl (fun _ => False) w1).alloc _).heap hb1 id)
  have HZ0 := Lib.hid (show w2.heap[g + 1]? = some (.cells #[.int .i64 0, .int .i64 0, .string ⟨#[]⟩, .bool false, .slice none 0 0] 36 (0, 0)) by rw [hw2, ← hsz]; exact heap_alloc_new w1 _)
  have HF0 := Lib.hid (show Fr (fun _ => False) w w2 by rw [hw2, hw1]; exact ((Fr.refl _ _).alloc _).alloc _)
  have HG := Lib.hid hg
  have HSz1 := Lib.hid hsz
  have HW1 := Lib.hid hw1
  have HW2 := Lib.hid hw2
  have HN := Lib.hid hn
  have HR := Lib.hid hR
  have HL := Lib.hid hl
  have HV := Lib.hid hv
  have h5 := hv.five
  have HB5 := Lib.hid h5
  have HO5 := Lib.hid hv.one
  clear hn hR hl hv hw1 hw2 hg hsz hb1 h5
  have HLb := Lib.hid (show (Try.prog.info? 36).map (·.size) = some cs.toArray.size by rw [show cs.toArray.size = 5 by simpa using HB5.out]; exact info36)
  go_enter Try.func24, Try.ntmps24
  go_wp2_with fail
  rw [← HW1.out, ← HW2.out, ← HG.out]
  go_loopw [6] (fun i wr => ∃ (u : Nat) (x : VT) (cx : List Value), u ≤ n ∧ i = .int .i64 (u : Int) ∧ wr.heap[g]? = some (.cells cx.toArray 36 (0, 0)) ∧ wr.heap[g + 1]? = some (.cells #[.int .i64 0, .int .i64 0, .string ⟨#[]⟩, .bool false, .slice none 0 0] 36 (0, 0)) ∧ VR w D x cx ∧ Aside (R = withinV x (l.drop u)) ∧ Fr (fun _ => False) w wr) (fun i _ => n - (intOf i).toNat)
  case atStart => exact ⟨0, t, cs, Nat.zero_le _, rfl, HB0.out, HZ0.out, HV.out, by rw [HR.out]; rfl, HF0.out⟩
  case round =>
    obtain ⟨u, x, cx, hu, rfl, hb, hz, hx, hrr, hfr⟩ := hrel
    have HF := Lib.hid hfr
    have HB := Lib.hid hb
    have HZ := Lib.hid hz
    have HX := Lib.hid hx
    have HRR := Lib.hid (show R = withinV x (l.drop u) from hrr)
    clear hrr hb hz
    by_cases hlt : u < n
    · cases hx with
      | mk k nn s b ll a cp csf hlc2 hcap2 hs ha h =>
        have hul : u < l.length := by rw [← HN.out]; exact hlt
        have hi0 : (u : Int) < (n : Int) := by omega
        obtain ⟨z, hi⟩ : ∃ z, z = l[u]'hul := ⟨_, rfl⟩
        obtain ⟨b2, of2, rfl, hcell⟩ := HL.out u z (by rw [hi]; exact List.getElem?_eq_getElem hul)
        have ci : wr.cell? ⟨b2, of2 + u, none⟩ = some (.int .i64 z) := hfr.cell hcell id
        have HCZ := Lib.hid hcell
        have hdrop : l.drop u = z :: l.drop (u + 1) := by rw [hi]; exact List.drop_eq_getElem_cons hul
        rw [hdrop] at HRR
        obtain ⟨S, hS⟩ : ∃ S, S = str s := ⟨_, rfl⟩
        obtain ⟨m, hm⟩ : ∃ m, m = ll.length := ⟨_, rfl⟩
        rw [← hS, ← hm] at HB HX
        rw [← hm] at hlc2
        have c0 : wr.cell? ⟨g, 0, none⟩ = some (.int .i64 k) := (cell_of_row wr g 0 _ _ _ HB.out).trans rfl
        have c4 : wr.cell? ⟨g, 4, none⟩ = some (.slice a m cp) := (cell_of_row wr g 4 _ _ _ HB.out).trans rfl
        have HM := Lib.hid hm
        have HA := Lib.hid ha
        have HH := Lib.hid h
        clear hcell hdrop hi hfr hS hm ha h hs hul
        by_cases hk : k = 4
        · subst hk
          have HE0 := Lib.hid (show R = if z < 0 ∨ (m : Int) ≤ z then (zeroT, 4) else withinV (ll.getD z.toNat zeroT) (l.drop (u + 1)) by rw [HRR.out, HM.out, withinV, if_neg (by simp)])
          clear HRR
          have HRR := HE0
          clear HE0
          by_cases hneg : z < 0
          · have t1 : decide (z < 0) = true := decide_eq_true hneg
            have HE := Lib.hid (show R = (zeroT, 4) by rw [HRR.out, if_pos (.inl hneg)])
            clear hneg
            go_wp2_with fail
            go_quiet (fail)
            generalize hWq : wr.drewN _ = Wq
            have hFq : Fr (fun _ => False) wr Wq := by rw [← hWq]; exact (Fr.refl _ _).drewN _
            have HFq := Lib.hid hFq
            have HZ2 := Lib.hid (hFq.heap HZ.out id)
            have HB2 := Lib.hid (hFq.heap HB.out id)
            have HF2 := Lib.hid (HF.out.trans hFq (fun i hi => hi.elim))
            clear hWq hFq HZ HB HF
            have HZ := HZ2
            have HB := HB2
            have HF := HF2
            clear HZ2 HB2 HF2
            go_wp2_with (first | (with_reducible refine wpList_store_whole (op := ⟨none, .store 36 _ _, _, _, _, _⟩) rfl 36 _ _ rfl (g + 1) 36 #[.int .i64 0, .int .i64 0, .string ⟨#[]⟩, .bool false, .slice none 0 0] #[.int .i64 0, .int .i64 0, .string ⟨#[]⟩, .bool false, .slice none 0 0] rfl rfl HZ.out rfl (by kernel_rfl) (by simp [Value.oneCell']) ?_))
            refine bodyPost_ret (results_cell_tmp_row rfl _ _ (g + 1) 36 #[.int .i64 0, .int .i64 0, .string ⟨#[]⟩, .bool false, .slice none 0 0] (0, 0) _ (.int .i64 4) rfl rfl (setRow_heap _ (g + 1) #[.int .i64 0, .int .i64 0, .string ⟨#[]⟩, .bool false, .slice none 0 0] _ 36 _ HZ.out) Try.underlying36 rfl (by kernel_rfl)) rfl ?_
            exact ⟨zeroV, by rw [HE.out]; rfl, by rw [HE.out]; exact zeroT_VR _ _, HF.out.setRow _ _ (.inr (by rw [HG.out]; omega))⟩
          have t1 : decide (z < 0) = false := decide_eq_false hneg
          obtain ⟨i, hi⟩ : ∃ k : Nat, z = (k : Int) := ⟨z.toNat, by omega⟩
          subst hi
          by_cases hbig : m ≤ i
          · have t2 : decide ((m : Int) ≤ (i : Int)) = true := decide_eq_true (by omega)
            have t2' : decide (m ≤ i) = true := decide_eq_true hbig
            have HE := Lib.hid (show R = (zeroT, 4) by rw [HRR.out, if_pos (.inr (by omega))])
            clear hneg hbig
            go_wp2_with fail
            go_quiet (fail)
            generalize hWq : wr.drewN _ = Wq
            have hFq : Fr (fun _ => False) wr Wq := by rw [← hWq]; exact (Fr.refl _ _).drewN _
            have HFq := Lib.hid hFq
            have HZ2 := Lib.hid (hFq.heap HZ.out id)
            have HB2 := Lib.hid (hFq.heap HB.out id)
            have HF2 := Lib.hid (HF.out.trans hFq (fun i hi => hi.elim))
            clear hWq hFq HZ HB HF
            have HZ := HZ2
            have HB := HB2
            have HF := HF2
            clear HZ2 HB2 HF2
            go_wp2_with (first | (with_reducible refine wpList_store_whole (op := ⟨none, .store 36 _ _, _, _, _, _⟩) rfl 36 _ _ rfl (g + 1) 36 #[.int .i64 0, .int .i64 0, .string ⟨#[]⟩, .bool false, .slice none 0 0] #[.int .i64 0, .int .i64 0, .string ⟨#[]⟩, .bool false, .slice none 0 0] rfl rfl HZ.out rfl (by kernel_rfl) (by simp [Value.oneCell']) ?_))
            refine bodyPost_ret (results_cell_tmp_row rfl _ _ (g + 1) 36 #[.int .i64 0, .int .i64 0, .string ⟨#[]⟩, .bool false, .slice none 0 0] (0, 0) _ (.int .i64 4) rfl rfl (setRow_heap _ (g + 1) #[.int .i64 0, .int .i64 0, .string ⟨#[]⟩, .bool false, .slice none 0 0] _ 36 _ HZ.out) Try.underlying36 rfl (by kernel_rfl)) rfl ?_
            exact ⟨zeroV, by rw [HE.out]; rfl, by rw [HE.out]; exact zeroT_VR _ _, HF.out.setRow _ _ (.inr (by rw [HG.out]; omega))⟩
          · have t2 : decide ((m : Int) ≤ (i : Int)) = false := decide_eq_false (by omega)
            have t2' : decide (m ≤ i) = false := decide_eq_false hbig
            have hil : i < ll.length := by rw [← HM.out]; omega
            obtain ⟨y, hy⟩ : ∃ y, ll[i]? = some y := ⟨_, List.getElem?_eq_getElem hil⟩
            obtain ⟨cy, hcy⟩ : ∃ cy, cy = csf i := ⟨_, rfl⟩
            have hvy : VR w D y cy := by rw [hcy]; exact HH.out i y hy
            have HVY := Lib.hid hvy
            have HE := Lib.hid (show R = withinV y (l.drop (u + 1)) by rw [HRR.out, if_neg (by omega), Int.toNat_natCast, List.getD_eq_getElem?_getD, hy]; rfl)
            rcases HA.out with h0 | ⟨g2, off, rfl, hD, hr⟩
            · exact absurd hil (by rw [h0]; simp)
            have HGY0 := Lib.hid (show w.rangeAt g2 (off + i * 5) cy by rw [hcy]; exact hr i y hy)
            have h5 := hvy.five
            have HLi := Lib.hid (show (Try.prog.info? 36).map (·.size) = some cy.length by rw [h5]; exact info36)
            have HLi2 := Lib.hid (show (Try.prog.info? 36).map (·.size) = some cy.toArray.size by rw [show cy.toArray.size = 5 by simpa using h5]; exact info36)
            have HSz := Lib.hid (show (#[.int .i64 4, .int .i64 nn, .string S, .bool b, .slice (some ⟨g2, off, none⟩) m cp] : Array Value).size = cy.toArray.size by simpa using h5.symm)
            have HOA := Lib.hid (show ∀ v ∈ cy.toArray.toList, v.oneCell' = true by simpa using hvy.one)
            have hkq : (i : Int) < (m : Int) := by omega
            have hkq' : i < m := by omega
            clear hneg hbig hil hy hcy hvy hD hr h5
            go_wp2_with fail
            go_quiet (fail)
            generalize hWq : wr.drewN _ = Wq
            have hFq : Fr (fun _ => False) wr Wq := by rw [← hWq]; exact (Fr.refl _ _).drewN _
            have HFq := Lib.hid hFq
            have HZ2 := Lib.hid (hFq.heap HZ.out id)
            have HB2 := Lib.hid (hFq.heap HB.out id)
            have HF2 := Lib.hid (HF.out.trans hFq (fun i hi => hi.elim))
            clear hWq hFq HZ HB HF
            have HZ := HZ2
            have HB := HB2
            have HF := HF2
            clear HZ2 HB2 HF2
            have HC4 := Lib.hid (show ∀ W', Fr (fun _ => False) Wq W' → W'.cell? ⟨g, 4, none⟩ = some (.slice (some ⟨g2, off, none⟩) m cp) from fun W' h => (cell_of_row W' g 4 _ _ _ (h.heap HB.out id)).trans rfl)
            have HCI := Lib.hid (show ∀ W', Fr (fun _ => False) Wq W' → W'.cell? ⟨b2, of2 + u, none⟩ = some (.int .i64 (i : Int)) from fun W' h => (HF.out.trans h (fun i hi => hi.elim)).cell HCZ.out id)
            have HGY := Lib.hid (show ∀ W', Fr (fun _ => False) Wq W' → W'.rangeAt g2 (off + i * 5) cy from fun W' h j v hj => (HF.out.trans h (fun i hi => hi.elim)).cell (HGY0.out j v hj) id)
            go_wp2_with fail
            refine wp_region_till (fun w' => Fr (fun _ => False) Wq w') 8 rfl ?_
            generalize hW0 : Wq.drew = W0
            have HWk := Lib.hid (show Fr (fun _ => False) Wq W0 by rw [← hW0]; exact (Fr.refl _ _).drew)
            have HWr := HWk
            have HS0 := Lib.hid HWk.out
            clear hW0
            refine wpAnyT_path (i := 0) (p := [7, 6, 1]) (v := .pointer (some ⟨g, 4, none⟩)) rfl (by kernel_rfl) (by kernel_rfl) (fun _ _ _ h => h) HS0.out (.inl ⟨by rfl, fun W' hW => by clear hW; go_simp⟩) ?_
            try simp only [Act.put, List.setIfInBounds_toArray]
            try dsimp only [List.getElem_toArray, List.getElem_cons_succ, List.getElem_cons_zero, List.set_cons_zero, List.set_cons_succ]
            refine wpAnyT_path (i := 1) (p := [7, 6]) (v := .slice (some ⟨g2, off, none⟩) m cp) rfl (by kernel_rfl) (by kernel_rfl) (fun _ _ _ h => h) HS0.out (.inl ⟨by rfl, fun W' hW => by have hc := HC4.out W' hW; clear hW; go_simp⟩) ?_
            try simp only [Act.put, List.setIfInBounds_toArray]
            try dsimp only [List.getElem_toArray, List.getElem_cons_succ, List.getElem_cons_zero, List.set_cons_zero, List.set_cons_succ]
            refine wpAnyT_path (i := 2) (p := [7, 6, 5, 4]) (v := .slice (some ⟨b2, of2, none⟩) n cap) rfl (by kernel_rfl) (by kernel_rfl) (fun _ _ _ h => h) HS0.out (.inl ⟨by rfl, fun W' hW => by clear hW; go_simp⟩) ?_
            try simp only [Act.put, List.setIfInBounds_toArray]
            try dsimp only [List.getElem_toArray, List.getElem_cons_succ, List.getElem_cons_zero, List.set_cons_zero, List.set_cons_succ]
            refine wpAnyT_path (i := 3) (p := [7, 6, 5, 4]) (v := .int .i64 (u : Int)) rfl (by kernel_rfl) (by kernel_rfl) (fun _ _ _ h => h) HS0.out (.inl ⟨by rfl, fun W' hW => by clear hW; go_simp⟩) ?_
            try simp only [Act.put, List.setIfInBounds_toArray]
            try dsimp only [List.getElem_toArray, List.getElem_cons_succ, List.getElem_cons_zero, List.set_cons_zero, List.set_cons_succ]
            refine wpAnyT_path (i := 4) (p := [7, 6, 5]) (v := .pointer (some ⟨b2, of2 + u, none⟩)) rfl (by kernel_rfl) (by kernel_rfl) (fun _ _ _ h => h) HS0.out (.inl ⟨by rfl, fun W' hW => by clear hW; go_simp⟩) ?_
            try simp only [Act.put, List.setIfInBounds_toArray]
            try dsimp only [List.getElem_toArray, List.getElem_cons_succ, List.getElem_cons_zero, List.set_cons_zero, List.set_cons_succ]
            refine wpAnyT_path (i := 5) (p := [7, 6]) (v := .int .i64 (i : Int)) rfl (by kernel_rfl) (by kernel_rfl) (fun _ _ _ h => h) HS0.out (.inl ⟨by rfl, fun W' hW => by have hc := HCI.out W' hW; clear hW; go_simp⟩) ?_
            try simp only [Act.put, List.setIfInBounds_toArray]
            try dsimp only [List.getElem_toArray, List.getElem_cons_succ, List.getElem_cons_zero, List.set_cons_zero, List.set_cons_succ]
            refine wpAnyT_path (i := 6) (p := [7]) (v := .pointer (some ⟨g2, off + i * 5, none⟩)) rfl (by kernel_rfl) (by kernel_rfl) (fun _ _ _ h => h) HS0.out (.inl ⟨by rfl, fun W' hW => by clear hW; go_simp⟩) ?_
            try simp only [Act.put, List.setIfInBounds_toArray]
            try dsimp only [List.getElem_toArray, List.getElem_cons_succ, List.getElem_cons_zero, List.set_cons_zero, List.set_cons_succ]
            refine wpAnyT_path (i := 7) (p := []) (v := .agg cy.toArray) rfl (by kernel_rfl) (by kernel_rfl) (fun _ _ _ h => h) HS0.out (yieldsIf_load rfl 36 (.tmp 39) rfl g2 (off + i * 5) rfl cy _ (fun W' hW => HGY.out W' hW) Try.underlying36 rfl HLi.out) ?_
            try simp only [Act.put, List.setIfInBounds_toArray]
            try dsimp only [List.getElem_toArray, List.getElem_cons_succ, List.getElem_cons_zero, List.set_cons_zero, List.set_cons_succ]
            refine wpAnyT_one (i := 8) rfl (by kernel_rfl) ?_
            refine wpOp_plain rfl rfl (fun K hK => ?_)
            try simp only [Act.put, List.setIfInBounds_toArray]
            try dsimp only [List.getElem_toArray, List.getElem_cons_succ, List.getElem_cons_zero, List.set_cons_zero, List.set_cons_succ]
            have HKK2 := Lib.hid hK
            clear hK
            have HG0 := Lib.hid (HWr.out.heap HB.out id)
            refine op_store_whole 36 (.tmp 2) (.tmp 40) rfl g 36 #[.int .i64 4, .int .i64 nn, .string S, .bool b, .slice (some ⟨g2, off, none⟩) m cp] cy.toArray rfl rfl HG0.out HSz.out HLi2.out HOA.out ?_
            try simp only [Act.put, List.setIfInBounds_toArray]
            try dsimp only [List.getElem_toArray, List.getElem_cons_succ, List.getElem_cons_zero, List.set_cons_zero, List.set_cons_succ]
            refine HKK2.out _ _ ⟨fun hl => absurd (show (true : Bool) = false from hl) (by decide), ?_⟩
            clear HKK2 K
            try simp only [Act.put, List.setIfInBounds_toArray]
            try dsimp only [List.getElem_toArray, List.getElem_cons_succ, List.getElem_cons_zero, List.set_cons_zero, List.set_cons_succ]
            refine wpAnyT_done (by first | rfl | kernel_rfl) _ _ _ ?_
            refine wpAny_done (by kernel_rfl) ?_ _
            have HB8 := Lib.hid (setRow_heap W0 g #[.int .i64 4, .int .i64 nn, .string S, .bool b, .slice (some ⟨g2, off, none⟩) m cp] cy.toArray 36 _ HG0.out)
            have HZ8 := Lib.hid (show (W0.setRow g cy.toArray).heap[g + 1]? = some (.cells #[.int .i64 0, .int .i64 0, .string ⟨#[]⟩, .bool false, .slice none 0 0] 36 (0, 0)) from ((Fr.refl (fun k => k = g) W0).setRow g cy.toArray (.inl rfl)).heap (HWr.out.heap HZ.out id) (by omega))
            have HF8 := Lib.hid (show Fr (fun _ => False) w (W0.setRow g cy.toArray) from (HF.out.trans HWr.out (fun i hi => hi.elim)).setRow _ _ (.inr (by rw [HG.out]; exact Nat.le_refl _)))
            go_wp2_with fail
            go_roundw
            case rel => exact ⟨u + 1, y, cy, by omega, by go_num, HB8.out, HZ8.out, HVY.out, HE.out, HF8.out⟩
            case measure => simp [intOf]; omega
        · have t1 : (k == 4) = false := beq_eq_false_iff_ne.2 hk
          have t2 : (k != 4) = true := bne_iff_ne.2 hk
          have HE := Lib.hid (show R = (zeroT, 9) by rw [HRR.out, withinV, if_pos hk])
          clear hk
          go_wp2_with (first | (with_reducible refine wpList_store_whole (op := ⟨none, .store 36 _ _, _, _, _, _⟩) rfl 36 _ _ rfl (g + 1) 36 #[.int .i64 0, .int .i64 0, .string ⟨#[]⟩, .bool false, .slice none 0 0] #[.int .i64 0, .int .i64 0, .string ⟨#[]⟩, .bool false, .slice none 0 0] rfl rfl HZ.out rfl (by kernel_rfl) (by simp [Value.oneCell']) ?_))
          refine bodyPost_ret (results_cell_tmp_row rfl _ _ (g + 1) 36 #[.int .i64 0, .int .i64 0, .string ⟨#[]⟩, .bool false, .slice none 0 0] (0, 0) _ (.int .i64 9) rfl rfl (setRow_heap _ (g + 1) #[.int .i64 0, .int .i64 0, .string ⟨#[]⟩, .bool false, .slice none 0 0] _ 36 _ HZ.out) Try.underlying36 rfl (by kernel_rfl)) rfl ?_
          exact ⟨zeroV, by rw [HE.out]; rfl, by rw [HE.out]; exact zeroT_VR _ _, HF.out.setRow _ _ (.inr (by rw [HG.out]; omega))⟩
    · obtain rfl : u = n := by omega
      have hge : ¬ (u : Int) < (u : Int) := by omega
      have h5 := hx.five
      have HE := Lib.hid (show R = (x, 0) by rw [HRR.out, HN.out, List.drop_length]; cases x; rw [withinV])
      have HXR := Lib.hid (show wr.rangeAt g 0 cx from rangeAt_all HB.out)
      have HLi := Lib.hid (show (Try.prog.info? 36).map (·.size) = some cx.length by rw [h5]; exact info36)
      have HLi2 := Lib.hid (show (Try.prog.info? 36).map (·.size) = some cx.toArray.size by rw [show cx.toArray.size = 5 by simpa using h5]; exact info36)
      have HSz := Lib.hid (show (#[.int .i64 0, .int .i64 0, .string ⟨#[]⟩, .bool false, .slice none 0 0] : Array Value).size = cx.toArray.size by simpa using h5.symm)
      have HOA := Lib.hid (show ∀ v ∈ cx.toArray.toList, v.oneCell' = true by simpa using hx.one)
      clear hlt hx hfr h5
      go_wp2_with (first | (with_reducible refine wpList_load_mid (op := ⟨some 41, _, _, _, _, _⟩) rfl 36 _ rfl g 0 rfl cx _ HXR.out Try.underlying36 rfl HLi.out ?_) | (with_reducible refine wpList_store_whole (op := ⟨none, .store 36 _ _, _, _, _, _⟩) rfl 36 _ _ rfl (g + 1) 36 #[.int .i64 0, .int .i64 0, .string ⟨#[]⟩, .bool false, .slice none 0 0] cx.toArray rfl rfl HZ.out HSz.out HLi2.out HOA.out ?_))
      refine bodyPost_ret (results_cell_tmp_row rfl _ _ (g + 1) 36 cx.toArray (0, 0) _ (.int .i64 0) rfl rfl (setRow_heap _ (g + 1) #[.int .i64 0, .int .i64 0, .string ⟨#[]⟩, .bool false, .slice none 0 0] _ 36 _ HZ.out) Try.underlying36 rfl HLi2.out) rfl ?_
      exact ⟨cx, by rw [HE.out]; rfl, by rw [HE.out]; exact HX.out.fr (HF.out.setRow _ _ (.inr (by rw [HG.out]; omega))) (fun _ _ => id), HF.out.setRow _ _ (.inr (by rw [HG.out]; omega))⟩
end Go.Proofs.Ythmpmpepokeedaa
