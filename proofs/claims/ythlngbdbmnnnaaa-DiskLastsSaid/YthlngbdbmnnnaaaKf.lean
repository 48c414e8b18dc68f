/- Write. -/
import Derived.Test.YthlngbdbmnnnaaaKe
import Derived.Test.YthlngbdbmnnnaaaL1
set_option linter.unusedVariables false
set_option linter.unusedSimpArgs false
namespace Go.Proofs.Ythlngbdbmnnnaaa
open Go.RowKit
theorem wcells_length (x : Wr) (h : x.data.length = 64) : (wcells x).length = 65 := by simp [wcells, bcells_length, h]
theorem wcells_one (x : Wr) : ∀ v ∈ wcells x, v.oneCell' = true := by
  intro v hv
  simp only [wcells, List.mem_cons] at hv
  rcases hv with rfl | hv
  · rfl
  · exact bcells_one _ v hv
theorem fill_length (l : List UInt8) (h : l.length ≤ 64) : (Dk.fill l).length = 64 := by simp [Dk.fill]; omega
theorem zero89 : Try.zeroCells89.toList = .int .i64 0 :: bcells (List.replicate 64 0) := by
  simp only [Try.zeroCells89]; rfl
theorem filled (p : Int) (l : List UInt8) (h : l.length ≤ 64) : ((Try.zeroCells89.setIfInBounds 0 (.int .i64 p)).toList.take 1 ++ bcells l ++ (Try.zeroCells89.setIfInBounds 0 (.int .i64 p)).toList.drop (1 + l.length)).toArray = (wcells ⟨p, Dk.fill l⟩).toArray := by
  rw [Array.toList_setIfInBounds, zero89]
  simp only [List.set_cons_zero, List.take_succ_cons, List.take_zero, wcells, Dk.fill, bcells_append]
  rw [Nat.add_comm, List.drop_succ_cons, ← bcells_drop, List.drop_replicate]
  rfl

set_option maxRecDepth 20000 in
theorem write_go {F : Nat → Prop} {w : World} {g : Nat} {D : Dk} (hR : DRep F w g D) (p : Int) (s : ByteArray) (hk0 : 0 ≤ D.keep) (hk1 : D.keep ≤ 18446744073709551615) (hm : D.wait.length < 1000000) (hc : D.count ≤ 1000000)
    (ha : D.asked p = 0) (hs : s.size ≤ 64) (hp0 : 0 ≤ p) (hp1 : p < D.n) :
    Calls Try.prog 13 #[.pointer (some ⟨g, 0, none⟩), .int .i64 p, .string s] w (Left F w g (D.write p s.data.toList) (.int .i64 (D.writeE p s.data.toList))) := by
  have hsl : s.data.toList.length = s.size := Array.length_toList
  obtain ⟨x, hx⟩ : ∃ x : Wr, x = ⟨p, Dk.fill s.data.toList⟩ := ⟨_, rfl⟩
  have hxd : x.data.length = 64 := by rw [hx]; exact fill_length _ (by omega)
  have hx65 := wcells_length x hxd
  obtain ⟨gl, wv, hg, hl, ho, hFg, hFl, hFw⟩ := hR.ex
  have hlt := lt_of_heap hg
  -- behind the variable: the world w1
  have hF1 : Fr (fun _ => False) w (w.alloc (.cells (wcells x).toArray 89)) := (Fr.refl _ _).alloc _
  have hg1 := hF1.heap hg id
  have HX := Lib.hid (show ((Try.zeroCells89.setIfInBounds 0 (.int .i64 p)).toList.take 1 ++ bcells s.data.toList ++ (Try.zeroCells89.setIfInBounds 0 (.int .i64 p)).toList.drop (1 + s.size)).toArray = (wcells x).toArray by
    rw [hx, ← filled p _ (by omega), hsl])
  have Hone := Lib.hid (show ∀ v ∈ (Try.zeroCells89.setIfInBounds 0 (.int .i64 p)).toList, v.oneCell' = true by
    rw [Array.toList_setIfInBounds, zero89]
    intro v hv
    simp only [List.set_cons_zero, List.mem_cons] at hv
    rcases hv with rfl | hv
    · rfl
    · exact bcells_one _ v hv)
  have Hsz := Lib.hid (show Try.zeroCells89.size = (Try.zeroCells89.setIfInBounds 0 (.int .i64 p)).size by simp)
  have Hi := Lib.hid (show (Try.prog.info? 89).map (·.size) = some (Try.zeroCells89.setIfInBounds 0 (.int .i64 p)).size by rw [← Hsz.out, Try.zeroCells89_size]; kernel_rfl)
  have Hi65 := Lib.hid (show (Try.prog.info? 89).map (·.size) = some (wcells x).length by rw [hx65]; kernel_rfl)
  have hs' : ¬ (64 : Int) < (s.size : Int) := by omega
  have Hfit := Lib.hid (show 1 + s.size ≤ (Try.zeroCells89.setIfInBounds 0 (.int .i64 p)).size by rw [← Hsz.out, Try.zeroCells89_size]; omega)
  have Hs := Lib.hid hs
  have HR := Lib.hid hR
  have HA := Lib.hid ha
  have HXX := Lib.hid hx
  have HXD := Lib.hid hxd
  have HG := Lib.hid hg
  have HO := Lib.hid ho
  have HF := Lib.hid (show F g ∧ F gl ∧ ∀ k, wv.ownBlock = some k → F k from ⟨hFg, hFl, hFw⟩)
  have HP := Lib.hid (show 0 ≤ p ∧ p < D.n from ⟨hp0, hp1⟩)
  clear hR ha hx hxd hx65 hg hl ho hF1 hg1 hFg hFl hFw hsl hs hp0 hp1
  go_enter Try.func13, Try.ntmps13
  go_wp2_with (first
    | (go_at_call 41; refine (asked_any HR.out p).mono ?_; rintro e w' ⟨rfl, rfl⟩; rw [HA.out])
    | (with_reducible refine wpList_store_fresh (op := ⟨none, .store 89 _ _, _, _, _, _⟩) rfl 89 _ _ rfl w Try.zeroCells89 (Try.zeroCells89.setIfInBounds 0 (.int .i64 p)) rfl rfl rfl Hsz.out Hi.out Hone.out ?_)
    | (with_reducible refine wpList_copy_str_fresh (op := ⟨some 25, _, _, _, _, _⟩) rfl (.tmp 23) (.tmp 24) 43 9 rfl 5 Try.underlying43 (by kernel_rfl) w (Try.zeroCells89.setIfInBounds 0 (.int .i64 p)) (wcells x).toArray 89 rfl 1 64 64 s rfl rfl Hs.out Hfit.out HX.out ?_))
  have hF1 : Fr (fun _ => False) w (w.alloc (.cells (wcells x).toArray 89)).drew := ((Fr.refl _ _).alloc _).drew
  have HB := Lib.hid (show (w.alloc (.cells (wcells x).toArray 89)).drew.heap[w.heap.size]? = some (.cells (wcells x).toArray 89) from heap_alloc_new w _)
  have HSz := Lib.hid (show (w.alloc (.cells (wcells x).toArray 89)).drew.heap.size = w.heap.size + 1 from World.size_alloc _ _)
  refine wp_region_till (fun W => W.cell? ⟨g, 1, none⟩ = some wv ∧ W.heap[w.heap.size]? = some (.cells (wcells x).toArray 89)) 8 (by kernel_rfl) ?_
  have HS := Lib.hid (show (w.alloc (.cells (wcells x).toArray 89)).drew.cell? ⟨g, 1, none⟩ = some wv ∧ (w.alloc (.cells (wcells x).toArray 89)).drew.heap[w.heap.size]? = some (.cells (wcells x).toArray 89) from ⟨hF1.cell (dcells HG.out).c1 id, HB.out⟩)
  have HF1 := Lib.hid hF1
  clear hF1
  generalize (w.alloc (.cells (wcells x).toArray 89)).drew = W1 at HB HSz HS HF1 ⊢
  refine wpAnyT_take (i := 0) (n := 12) (v := .pointer (some ⟨g, 0, none⟩)) rfl (by kernel_rfl) (fun _ _ _ h => h) HS.out (yieldsIf_plain rfl (fun W hW => by have h1 := hW.1; clear hW; go_simp)) ?_
  simp only [List.getElem_toArray, List.getElem_cons_succ, List.getElem_cons_zero, Act.put, List.setIfInBounds_toArray, List.set_cons_zero, List.set_cons_succ]
  refine wpAnyT_take (i := 1) (n := 12) (v := .pointer (some ⟨g, 0, none⟩)) rfl (by kernel_rfl) (fun _ _ _ h => h) HS.out (yieldsIf_plain rfl (fun W hW => by have h1 := hW.1; clear hW; go_simp)) ?_
  simp only [List.getElem_toArray, List.getElem_cons_succ, List.getElem_cons_zero, Act.put, List.setIfInBounds_toArray, List.set_cons_zero, List.set_cons_succ]
  refine wpAnyT_take (i := 2) (n := 12) (v := .pointer (some ⟨g, 0, none⟩)) rfl (by kernel_rfl) (fun _ _ _ h => h) HS.out (yieldsIf_plain rfl (fun W hW => by have h1 := hW.1; clear hW; go_simp)) ?_
  simp only [List.getElem_toArray, List.getElem_cons_succ, List.getElem_cons_zero, Act.put, List.setIfInBounds_toArray, List.set_cons_zero, List.set_cons_succ]
  refine wpAnyT_take (i := 3) (n := 12) (v := .pointer (some ⟨g, 1, none⟩)) rfl (by kernel_rfl) (fun _ _ _ h => h) HS.out (yieldsIf_plain rfl (fun W hW => by have h1 := hW.1; clear hW; go_simp)) ?_
  simp only [List.getElem_toArray, List.getElem_cons_succ, List.getElem_cons_zero, Act.put, List.setIfInBounds_toArray, List.set_cons_zero, List.set_cons_succ]
  refine wpAnyT_take (i := 4) (n := 12) (v := wv) rfl (by kernel_rfl) (fun _ _ _ h => h) HS.out (yieldsIf_plain rfl (fun W hW => by have h1 := hW.1; clear hW; go_simp)) ?_
  simp only [List.getElem_toArray, List.getElem_cons_succ, List.getElem_cons_zero, Act.put, List.setIfInBounds_toArray, List.set_cons_zero, List.set_cons_succ]
  refine wpAnyT_take (i := 5) (n := 12) (v := .agg (wcells x).toArray) rfl (by kernel_rfl) (fun _ _ _ h => h) HS.out (yieldsIf_load rfl 89 (.tmp 8) rfl w.heap.size 0 rfl (wcells x) _ (fun W hW j v hj => by rw [Nat.zero_add, cell_of_row W _ j _ _ _ hW.2]; simpa using hj) Try.underlying89 rfl Hi65.out) ?_
  simp only [List.getElem_toArray, List.getElem_cons_succ, List.getElem_cons_zero, Act.put, List.setIfInBounds_toArray, List.set_cons_zero, List.set_cons_succ]
  -- the element's box
  refine wpAnyT_one (i := 6) rfl (by kernel_rfl) (wpOp_plain rfl rfl (fun K hK => ?_))
  simp only [List.getElem_toArray, List.getElem_cons_succ, List.getElem_cons_zero]
  refine wp_buildSlice_one 83 (.tmp 31) rfl 89 (wcells x).toArray Try.zeroCells89 rfl Try.underlying83 (by rw [show (wcells x).toArray.size = 65 by simpa using wcells_length x HXD.out]; kernel_rfl) (by simp [wcells]) (by rw [show (wcells x).toArray.size = 65 by simpa using wcells_length x HXD.out]; omega) ?_
  have hfB : Fr (fun _ => False) W1 (W1.alloc (.cells (wcells x).toArray 89)) := (Fr.refl _ _).alloc _
  have HS2 := Lib.hid (show (W1.alloc (.cells (wcells x).toArray 89)).cell? ⟨g, 1, none⟩ = some wv ∧ (W1.alloc (.cells (wcells x).toArray 89)).heap[w.heap.size]? = some (.cells (wcells x).toArray 89) from ⟨hfB.cell HS.out.1 id, hfB.heap HS.out.2 id⟩)
  refine hK _ _ ⟨fun _ => HS2.out, ?_⟩
  clear hK K
  simp only [List.getElem_toArray, List.getElem_cons_succ, List.getElem_cons_zero, Act.put, List.setIfInBounds_toArray, List.set_cons_zero, List.set_cons_succ]
  have HF2 := Lib.hid (show Fr (fun _ => False) w (W1.alloc (.cells (wcells x).toArray 89)) from HF1.out.alloc _)
  have HN := Lib.hid (show (W1.alloc (.cells (wcells x).toArray 89)).heap[W1.heap.size]? = some (.cells (wcells x).toArray 89) from heap_alloc_new W1 _)
  have HSz2 := Lib.hid (show (W1.alloc (.cells (wcells x).toArray 89)).heap.size = w.heap.size + 2 by rw [World.size_alloc, HSz.out])
  obtain ⟨N, hN⟩ : ∃ N, N = W1.heap.size := ⟨_, rfl⟩
  rw [← hN] at HN ⊢
  have HNn := Lib.hid (show N = w.heap.size + 1 by rw [hN, HSz.out])
  clear hN hfB
  generalize W1.alloc (.cells (wcells x).toArray 89) = W2 at HN HSz2 HS2 HF2 ⊢
  clear HS HF1 HB HSz W1
  -- append
  refine wpAnyT_one (i := 7) rfl (by kernel_rfl) (wpOp_plain rfl rfl (fun K hK => ?_))
  simp only [List.getElem_toArray, List.getElem_cons_succ, List.getElem_cons_zero]
  have hfl : (D.wait.flatMap wcells).length = D.wait.length * 65 := flat_length wcells 65 _ (fun y hy => wcells_length y (HR.out.wf y hy).2.2)
  obtain ⟨i0, hi0⟩ : ∃ i0, Try.prog.info? 89 = some i0 := ⟨_, rfl⟩
  have hz0 : (Try.prog.info? 89).map (fun i => (i.zero, i.size, i.bytes)) = some (some (.agg Try.zeroCells89), 65, 72) := by kernel_rfl
  rw [hi0] at hz0
  simp only [Option.map_some, Option.some.injEq, Prod.mk.injEq] at hz0
  have hnews : ∀ j u, (wcells x)[j]? = some u → W2.cell? ((⟨N, 0, none⟩ : Addr).add j) = some u := fun j u hj => by
    rw [Addr.add_mid, Nat.zero_add, cell_of_row W2 N j _ _ _ HN.out]; simpa using hj
  refine wp_append_lies W2 (.tmp 30) (.tmp 32) 83 rfl 0 89 i0 (.agg Try.zeroCells89) 65 72 Try.underlying83 hi0 hz0.1 hz0.2.1 hz0.2.2 Try.zeroCells89_size (by omega) wv D.wait.length (D.wait.flatMap wcells) rfl (HF2.out.own HO.out (fun _ _ => id)) ⟨N, 0, none⟩ 1 1 (wcells x) rfl (wcells_length x HXD.out) hnews (wcells_one x) (by omega) (by simp only [maxLen]; omega) (by omega) (Nat.zero_le _) (w.heap.size + 2) HSz2.out ?_
  intro g' cap W3 hown hgrow hat hlt3
  have hwv : ∀ k, wv.ownBlock = some k → F k := HF.out.2.2
  have hFr3 : Fr F w W3 := (HF2.out.mono (fun i hi => hi.elim)).grown hgrow (fun k hk => .inl (hwv k hk))
  have hngw : some g ≠ wv.ownBlock := fun e => by
    have h5 := HG.out
    rcases HO.out.2 with ⟨rfl, _⟩ | ⟨g5, cap5, cur5, rfl, _, h6, _⟩
    · simp [Value.ownBlock] at e
    · simp [Value.ownBlock] at e; subst e; rw [h5] at h6; simp at h6
  have hFr0 : ∀ k, k < w.heap.size → some k ≠ wv.ownBlock → W3.heap[k]? = w.heap[k]? := fun k hk hne => (hgrow.block k (by rw [HSz2.out]; omega) hne).trans (HF2.out.block k hk id)
  have hNw : some w.heap.size ≠ wv.ownBlock := fun e => by have := HR.out.low _ (hwv _ e.symm); omega
  refine hK _ _ ⟨fun _ => ⟨hgrow.cell HS2.out.1 hngw, (hgrow.block _ (by rw [HSz2.out]; omega) hNw).trans HS2.out.2⟩, ?_⟩
  clear hK K
  simp only [List.getElem_toArray, List.getElem_cons_succ, List.getElem_cons_zero, Act.put, List.setIfInBounds_toArray, List.set_cons_zero, List.set_cons_succ]
  refine wpAnyT_of_any trivial [8, 9, 10] _ _ _ _ (by kernel_rfl) (by simp) (.inr rfl) ?_
  simp only [List.filterMap_cons, List.filterMap_nil, List.getElem?_toArray, List.getElem?_cons_zero, List.getElem?_cons_succ]
  -- the disk behind the append, its field not yet stored
  have hg3 : W3.heap[g]? = w.heap[g]? := hFr0 g hlt hngw
  have hc1 : W3.cell? ⟨g, 1, none⟩ = some wv := hgrow.cell HS2.out.1 hngw
  have hz1 : W3.frozen? ⟨g, 1, none⟩ = false := frozen_of_row W3 g 1 _ _ (hg3.trans HG.out)
  have HD4 := Lib.hid (show DRep (fun i => F i ∨ i = g') (W3.setCell ⟨g, 1, none⟩ (.slice (some ⟨g', 0, none⟩) (D.wait.length + 1) cap)) g { D with wait := D.wait ++ [x] } from by
    obtain ⟨gl1, wv1, hg1, hl1, ho1, hFg1, hFl1, hFw1⟩ := HR.out.ex
    have e0 := Option.some.inj (HG.out.symm.trans hg1)
    injection e0 with e1 e2 e3
    have e4 : Value.slice (some ⟨gl, 0, none⟩) (64 * D.n) (64 * D.n) = .slice (some ⟨gl1, 0, none⟩) (64 * D.n) (64 * D.n) := by
      have := congrArg (fun A : Array Value => A.toList.head?) e1; simpa using this
    obtain rfl : gl = gl1 := by simpa using e4
    have hgl : some gl ≠ wv.ownBlock := fun e => by
      rcases HO.out.2 with ⟨rfl, _⟩ | ⟨g5, cap5, cur5, rfl, _, h6, _⟩
      · simp [Value.ownBlock] at e
      · simp [Value.ownBlock] at e; subst e; rw [hl1] at h6; simp at h6
    have hl3 : W3.heap[gl]? = some (.cells (bcells D.lasts).toArray 5 (0, 0)) := (hFr0 gl (lt_of_heap hl1) hgl).trans hl1
    have hgne : gl ≠ g := fun e => by subst e; rw [hg1] at hl1; simp at hl1
    have hg'g : g' ≠ g := fun e => by
      rcases hat with h | h
      · exact hngw (by rw [h, e])
      · omega
    refine ⟨⟨gl, .slice (some ⟨g', 0, none⟩) (D.wait.length + 1) cap, ?_, ?_, ?_, .inl HF.out.1, .inl HF.out.2.1, fun k hk => .inr (by simpa [Value.ownBlock] using hk.symm)⟩, HR.out.len, HR.out.most, ?_, HR.out.cnt, ?_⟩
    · rw [heap_setCell_same W3 g 1 _ _ _ (hg3.trans HG.out)]; rfl
    · rw [heap_setCell_other _ _ _ _ hgne]; exact hl3
    · have : (W3.setCell ⟨g, 1, none⟩ (.slice (some ⟨g', 0, none⟩) (D.wait.length + 1) cap)).ownsRow 0 89 65 (.slice (some ⟨g', 0, none⟩) (D.wait.length + 1) cap) (D.wait.length + 1) (D.wait.flatMap wcells ++ wcells x) :=
        (Fr.setCell (F := fun i => i = g) (Fr.refl _ _) _ _ (.inl rfl)).own hown (fun k hk => by simp [Value.ownBlock] at hk; subst hk; exact hg'g)
      simpa [List.flatMap_append] using this
    · intro y hy
      simp only [List.mem_append, List.mem_singleton] at hy
      rcases hy with hy | rfl
      · exact HR.out.wf y hy
      · refine ⟨?_, ?_, HXD.out⟩
        · rw [HXX.out]; exact HP.out.1
        · rw [HXX.out]; exact HP.out.2
    · intro i hi
      rcases hi with hi | rfl
      · have := HR.out.low i hi; have := hFr3.size; simp [World.setCell]; omega
      · simpa [World.setCell] using hlt3)
  have HF4 := Lib.hid (show Fr F w (W3.setCell ⟨g, 1, none⟩ (.slice (some ⟨g', 0, none⟩) (D.wait.length + 1) cap)) from hFr3.setCell _ _ (.inl HF.out.1))
  have HG' := Lib.hid (show ∀ i, F i ∨ i = g' → F i ∨ w.heap.size ≤ i from fun i hi => by
    rcases hi with hi | rfl
    · exact .inl hi
    · rcases hat with h | h
      · exact .inl (hwv _ h)
      · exact .inr (by omega))
  clear hfl hz0 hi0 hown hgrow hat hlt3 hwv hFr3 hngw hFr0 hNw hg3
  go_wp2_with fail
  have HE := Lib.hid (show D.write p s.data.toList = ({ D with wait := D.wait ++ [x] } : Dk).counted by
    have h1 : ¬ 64 < s.data.toList.length := by have := Hs.out; rw [show s.data.toList.length = s.size from Array.length_toList]; omega
    unfold Dk.write
    rw [if_neg (by rw [HA.out]; simp), if_neg h1, HXX.out])
  have HV := Lib.hid (show D.writeE p s.data.toList = if D.failing then 7 else 0 by
    have h1 : ¬ 64 < s.data.toList.length := by have := Hs.out; rw [show s.data.toList.length = s.size from Array.length_toList]; omega
    unfold Dk.writeE
    rw [if_neg (by rw [HA.out]; simp), if_neg h1])
  generalize W3.setCell ⟨g, 1, none⟩ (.slice (some ⟨g', 0, none⟩) (D.wait.length + 1) cap) = W4 at HD4 HF4 ⊢
  clear hc1 hz1
  refine (fails_any HD4.out hk0 hk1 (by simp; omega) hc).mono ?_
  rintro e W5 ⟨rfl, hl⟩
  have HL := Lib.hid hl
  have hfe : (({ D with wait := D.wait ++ [x] } : Dk).failing) = D.failing := rfl
  rw [hfe]
  clear hl hfe
  cases hfl : D.failing
  all_goals
    have HFL := Lib.hid hfl
    clear hfl
    go_wp2
    go_ret
    rw [HE.out, HV.out, HFL.out]
    exact Left.then (v := .bool false) HG'.out HF4.out ⟨rfl, HL.out⟩
theorem write_any {F : Nat → Prop} {w : World} {g : Nat} {D : Dk} (hR : DRep F w g D) (p : Int) (s : ByteArray) (hk0 : 0 ≤ D.keep) (hk1 : D.keep ≤ 18446744073709551615) (hm : D.wait.length < 1000000) (hc : D.count ≤ 1000000) :
    Calls Try.prog 13 #[.pointer (some ⟨g, 0, none⟩), .int .i64 p, .string s] w (Left F w g (D.write p s.data.toList) (.int .i64 (D.writeE p s.data.toList))) := by
  have hsl : s.data.toList.length = s.size := Array.length_toList
  by_cases ha : D.asked p = 0
  · have hp : 0 ≤ p ∧ p < D.n := by
      unfold Dk.asked at ha
      split at ha
      · cases ha
      · split at ha
        · cases ha
        · omega
    by_cases hs : s.size ≤ 64
    · exact write_go hR p s hk0 hk1 hm hc ha hs hp.1 hp.2
    · have hw : D.write p s.data.toList = D := by unfold Dk.write; rw [if_neg (by rw [ha]; simp), if_pos (by omega)]
      have he : D.writeE p s.data.toList = 3 := by unfold Dk.writeE; rw [if_neg (by rw [ha]; simp), if_pos (by omega)]
      rw [hw, he]
      have hs' : (64 : Int) < (s.size : Int) := by omega
      have HR := Lib.hid hR
      have HA := Lib.hid ha
      clear hR ha hw he hs hsl
      go_enter Try.func13, Try.ntmps13
      go_wp2_with (go_at_call 41; refine (asked_any HR.out p).mono ?_; rintro e w' ⟨rfl, rfl⟩; rw [HA.out])
      go_ret
      exact ⟨rfl, F, fun i hi => .inl hi, Fr.refl _ _, HR.out⟩
  · have hw : D.write p s.data.toList = D := by unfold Dk.write; rw [if_pos ha]
    have he : D.writeE p s.data.toList = D.asked p := by unfold Dk.writeE; rw [if_pos ha]
    rw [hw, he]
    have hq : (D.asked p != 0) = true := by simp [ha]
    have HR := Lib.hid hR
    clear hR ha hw he hsl
    go_enter Try.func13, Try.ntmps13
    go_wp2_with (go_at_call 41; refine (asked_any HR.out p).mono ?_; rintro e w' ⟨rfl, rfl⟩)
    go_ret
    exact ⟨rfl, F, fun i hi => .inl hi, Fr.refl _ _, HR.out⟩
end Go.Proofs.Ythlngbdbmnnnaaa
