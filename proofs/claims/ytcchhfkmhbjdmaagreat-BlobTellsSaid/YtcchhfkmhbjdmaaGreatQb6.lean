/- Blobs: split, walked. -/
import Derived.Test.YtcchhfkmhbjdmaaGreatQb5
import Derived.Test.YtcchhfkmhbjdmaaGreatQb1
import Derived.Laws.ResultCell
import Derived.RegionTactic
import Derived.ChangeAlike
set_option linter.unusedVariables false
set_option linter.unusedSimpArgs false
set_option pp.deepTerms true
set_option pp.maxSteps 100000
namespace Go.Proofs.YtcchhfkmhbjdmaaGreat
open Go.RowKit
theorem results_four {P : Program} {fn : Func} {p q u v : Tmp} {ty ty2 : TypeId} (h : fn.results = #[.cell p ty, .tmp u, .tmp v, .cell q ty2]) (tmps : Array Value) (w : World) (g : Nat) (t : TypeId) (cs : Array Value) (fr : Nat × Nat) (d : TypeDesc) (x y z : Value) (g2 : Nat)
    (hp : tmps.getD p undef = .pointer (some ⟨g, 0, none⟩)) (hx : tmps.getD u undef = x) (hy : tmps.getD v undef = y) (hq : tmps.getD q undef = .pointer (some ⟨g2, 0, none⟩)) (hg : w.heap[g]? = some (.cells cs t fr))
    (hu : P.underlying ty = some d) (hd : (match d with | .struct _ | .array _ _ => true | _ => false) = true) (hi : (P.info? ty).map (·.size) = some cs.size) (hz : (loadVar ty2 ⟨g2, 0, none⟩).run P w = .ok z w) :
    (results fn tmps).run P w = .ok (.tuple #[.agg cs, x, y, z]) w := by
  have e : (results fn tmps).run P w = ((asAddr (tmps.getD p undef)).run P w).andThen fun a w₁ => ((loadVar ty a).run P w₁).andThen fun v1 w₂ => ((asAddr (tmps.getD q undef)).run P w₂).andThen fun a2 w₃ => ((loadVar ty2 a2).run P w₃).andThen fun v2 w₄ => .ok (.tuple #[v1, tmps.getD u undef, tmps.getD v undef, v2]) w₄ := by
    simp only [results, h]
    simp [Sem.run_bind, Result.andThen]
  rw [e, hp, hx, hy, hq]
  simp [asAddr, Result.andThen, run_loadVar_row w g t ty cs fr d hg hu hd hi, hz]
structure SpI (w0 wr : World) (H O R : Nat) (h : Hd) (rest : List UInt8) (ok : Bool) : Prop where
  hh : wr.heap[H]? = some (.cells #[.string (str h.id), .int .i64 h.ver, .string (str h.nonce)] 23 (0, 0))
  hr : wr.heap[R]? = some (.cells #[.string (str rest)] 9 (0, 0))
  ho : wr.heap[O]? = some (.cells #[.bool ok] 4 (0, 0))
  fr : Fr (fun _ => False) w0 wr
theorem SpI.take {w0 wr : World} {H O R : Nat} {h : Hd} {rest : List UInt8} {ok : Bool} (hi : SpI w0 wr H O R h rest ok) (h0 : w0.heap.size ≤ H) (h1 : H < O) (h2 : O < R) (n : Nat) (hn : n ≤ 1000) (hlen : rest.length ≤ 140737488355328) :
    Calls Tryz.prog 40 #[.int .i64 (n : Int), .pointer (some ⟨R, 0, none⟩), .pointer (some ⟨O, 0, none⟩)] wr fun e w' => ∃ t r ok', e = .returned (.string (str t)) ∧ Tk n rest ok t r ok' ∧ SpI w0 w' H O R h r ok' := by
  refine (btake_calls R O n (by omega) hn rest ok hlen wr hi.hr hi.ho).mono ?_
  rintro e w' ⟨t, r, ok', rfl, ht, hr, ho, hf⟩
  exact ⟨t, r, ok', rfl, ht, hf.heap hi.hh (by omega), hr, ho, hi.fr.trans hf (fun i hi => .inr (by omega))⟩
theorem SpI.fr0 {w0 wr w' : World} {H O R : Nat} {h : Hd} {rest : List UInt8} {ok : Bool} (hi : SpI w0 wr H O R h rest ok) (hf : Fr (fun _ => False) wr w') : SpI w0 w' H O R h rest ok :=
  ⟨hf.heap hi.hh id, hf.heap hi.hr id, hf.heap hi.ho id, hi.fr.trans hf (fun i hi => hi.elim)⟩
theorem SpI.setH {w0 wr : World} {H O R : Nat} {h h' : Hd} {rest : List UInt8} {ok : Bool} (hi : SpI w0 wr H O R h rest ok) (h0 : w0.heap.size ≤ H) (h1 : H < O) (h2 : O < R) (j : Nat) (v : Value)
    (e : (#[.string (str h.id), .int .i64 h.ver, .string (str h.nonce)] : Array Value).setIfInBounds j v = #[.string (str h'.id), .int .i64 h'.ver, .string (str h'.nonce)]) : SpI w0 (wr.setCell ⟨H, j, none⟩ v) H O R h' rest ok := by
  have hf : Fr (fun i => i = H) wr (wr.setCell ⟨H, j, none⟩ v) := (Fr.refl _ _).setCell _ _ (.inl rfl)
  refine ⟨?_, hf.heap hi.hr (by omega), hf.heap hi.ho (by omega), hi.fr.trans hf (fun i hi => .inr (by omega))⟩
  rw [← e]
  exact heap_setCell_same _ H j _ _ _ hi.hh
theorem SpI.setO {w0 wr : World} {H O R : Nat} {h : Hd} {rest : List UInt8} {ok : Bool} (hi : SpI w0 wr H O R h rest ok) (h0 : w0.heap.size ≤ H) (h1 : H < O) (h2 : O < R) (b : Bool) : SpI w0 (wr.setCell ⟨O, 0, none⟩ (.bool b)) H O R h rest b := by
  have hf : Fr (fun i => i = O) wr (wr.setCell ⟨O, 0, none⟩ (.bool b)) := (Fr.refl _ _).setCell _ _ (.inl rfl)
  exact ⟨hf.heap hi.hh (by omega), hf.heap hi.hr (by omega), heap_setCell_same _ O 0 _ _ _ hi.ho, hi.fr.trans hf (fun i hi => .inr (by omega))⟩
theorem SpI.cells {w0 wr : World} {H O R : Nat} {h : Hd} {rest : List UInt8} {ok : Bool} (hi : SpI w0 wr H O R h rest ok) :
    wr.cell? ⟨H, 0, none⟩ = some (.string (str h.id)) ∧ wr.cell? ⟨H, 1, none⟩ = some (.int .i64 h.ver) ∧ wr.cell? ⟨H, 2, none⟩ = some (.string (str h.nonce)) ∧ wr.cell? ⟨R, 0, none⟩ = some (.string (str rest)) ∧ wr.cell? ⟨O, 0, none⟩ = some (.bool ok) ∧
    wr.frozen? ⟨H, 0, none⟩ = false ∧ wr.frozen? ⟨H, 1, none⟩ = false ∧ wr.frozen? ⟨H, 2, none⟩ = false ∧ wr.frozen? ⟨R, 0, none⟩ = false ∧ wr.frozen? ⟨O, 0, none⟩ = false :=
  ⟨(cell_of_row wr H 0 _ _ _ hi.hh).trans rfl, (cell_of_row wr H 1 _ _ _ hi.hh).trans rfl, (cell_of_row wr H 2 _ _ _ hi.hh).trans rfl, (cell_of_row wr R 0 _ _ _ hi.hr).trans rfl, (cell_of_row wr O 0 _ _ _ hi.ho).trans rfl,
    frozen_of_row wr _ _ _ _ hi.hh, frozen_of_row wr _ _ _ _ hi.hh, frozen_of_row wr _ _ _ _ hi.hh, frozen_of_row wr _ _ _ _ hi.hr, frozen_of_row wr _ _ _ _ hi.ho⟩
theorem SpI.tail {w0 wr : World} {H O R : Nat} {h : Hd} {rest : List UInt8} {ok : Bool} (hi : SpI w0 wr H O R h rest ok) (h0 : w0.heap.size ≤ H) (h1 : H < O) (h2 : O < R) (q : Bool) :
    SpI w0 (((((wr.setCell ⟨O, 0, none⟩ (.bool q)).setCell ⟨H, 0, none⟩ (.string (str h.id))).setCell ⟨H, 1, none⟩ (.int .i64 h.ver)).setCell ⟨H, 2, none⟩ (.string (str h.nonce))).setCell ⟨O, 0, none⟩ (.bool q)).drew H O R h rest q :=
  (((((hi.setO h0 h1 h2 q).setH (h' := h) h0 h1 h2 0 _ (by simp)).setH (h' := h) h0 h1 h2 1 _ (by simp)).setH (h' := h) h0 h1 h2 2 _ (by simp)).setO h0 h1 h2 q).fr0 (Fr.refl _ _).drew
theorem load_bool (w : World) (g : Nat) (b : Bool) (h : w.cell? ⟨g, 0, none⟩ = some (.bool b)) : (loadVar 4 ⟨g, 0, none⟩).run Tryz.prog w = .ok (.bool b) w := by
  simp [loadVar, run_underlying Tryz.underlying4, h, go_sem]
def SplitP (b : List UInt8) (w : World) (e : Ending) (w' : World) : Prop := ∃ h head rest, e = .returned (.tuple #[.agg #[.string (str h.id), .int .i64 h.ver, .string (str h.nonce)], .string (str head), .string (str rest), .bool (goodB b)]) ∧ (goodB b = true → h = hdB b (nB b) ∧ head = headL h ∧ rest = restB b (nB b)) ∧ Fr (fun _ => False) w w'
set_option maxRecDepth 20000 in
set_option maxHeartbeats 4000000 in
theorem split_calls (b : List UInt8) (hb : b.length ≤ 100000000) (w : World) : Calls Tryz.prog 20 #[.string (str b)] w (SplitP b w) := by
  obtain ⟨S, hS⟩ : ∃ s, s = str b := ⟨_, rfl⟩
  obtain ⟨R0, hR0⟩ : ∃ s, s = str (rest0 b) := ⟨_, rfl⟩
  obtain ⟨H, hH⟩ : ∃ x, x = w.heap.size := ⟨_, rfl⟩
  have HCut := Lib.hid (show ∀ w, Calls Tryz.prog 39 #[.string S, .string ⟨#[75, 49]⟩] w fun e w' => e = .returned (.tuple #[.string R0, .bool (preB b)]) ∧ w' = w from fun w => by
    rw [hS, hR0]; exact cut_calls b (by omega) w)
  obtain ⟨wa, hwa⟩ : ∃ x, x = (w.alloc (.cells #[.string ⟨#[]⟩, .int .i64 0, .string ⟨#[]⟩] 23)).alloc (.cells #[.bool false] 4) := ⟨_, rfl⟩
  have hsa : wa.heap.size = H + 2 := by rw [hwa, hH]; simp
  have hfa : Fr (fun _ => False) w wa := by rw [hwa]; exact ((Fr.refl _ _).alloc _).alloc _
  have hga : wa.heap[H]? = some (.cells #[.string ⟨#[]⟩, .int .i64 0, .string ⟨#[]⟩] 23 (0, 0)) := by
    rw [hwa, hH]; exact ((Fr.refl (fun _ => False) _).alloc _).heap (heap_alloc_new w _) id
  have hoa : wa.heap[H + 1]? = some (.cells #[.bool false] 4 (0, 0)) := by
    have h := heap_alloc_new (w.alloc (.cells #[.string ⟨#[]⟩, .int .i64 0, .string ⟨#[]⟩] 23)) (.cells #[.bool false] 4)
    rw [World.size_alloc] at h
    rw [hwa, hH]; exact h
  have g1 : wa.cell? ⟨H + 1, 0, none⟩ = some (.bool false) := (cell_of_row wa _ 0 _ _ _ hoa).trans rfl
  have g2 : wa.frozen? ⟨H + 1, 0, none⟩ = false := frozen_of_row wa _ _ _ _ hoa
  obtain ⟨wb, hwb⟩ : ∃ x, x = (wa.setCell ⟨H + 1, 0, none⟩ (.bool (preB b))).alloc (.cells #[.string R0] 9) := ⟨_, rfl⟩
  have hf1 : Fr (fun i => i = H + 1) wa (wa.setCell ⟨H + 1, 0, none⟩ (.bool (preB b))) := (Fr.refl _ _).setCell _ _ (.inl rfl)
  have hs2 : (wa.setCell ⟨H + 1, 0, none⟩ (.bool (preB b))).heap.size = H + 2 := by rw [← hsa]; simp
  have hf2 : Fr (fun _ => False) (wa.setCell ⟨H + 1, 0, none⟩ (.bool (preB b))) wb := by rw [hwb]; exact (Fr.refl _ _).alloc _
  have hI2 : SpI w wb H (H + 1) (H + 2) ⟨[], 0, []⟩ (rest0 b) (preB b) := by
    refine ⟨hf2.heap (hf1.heap hga (by omega)) id, ?_, hf2.heap (heap_setCell_same _ _ 0 _ _ _ hoa) id, (hfa.trans hf1 (fun i hi => .inr (by omega))).trans hf2 (fun i hi => hi.elim)⟩
    have h := heap_alloc_new (wa.setCell ⟨H + 1, 0, none⟩ (.bool (preB b))) (.cells #[.string R0] 9)
    rw [hs2] at h
    rw [← hR0, hwb]; exact h
  have hr0 : (rest0 b).length ≤ 100000000 := by
    unfold rest0; split
    · rw [List.length_drop]; omega
    · exact hb
  have HTake := Lib.hid (show ∀ (n : Nat) (hn : n ≤ 1000) (wr : World) (h : Hd) (rest : List UInt8) (ok : Bool), rest.length ≤ 100000000 → SpI w wr H (H + 1) (H + 2) h rest ok → Calls Tryz.prog 40 #[.int .i64 (n : Int), .pointer (some ⟨H + 2, 0, none⟩), .pointer (some ⟨H + 1, 0, none⟩)] wr fun e w' => ∃ t r ok', e = .returned (.string (str t)) ∧ Tk n rest ok t r ok' ∧ SpI w w' H (H + 1) (H + 2) h r ok' from
    fun n hn wr h rest ok hl hi => hi.take (by omega) (by omega) (by omega) n hn (by omega))
  have HT1 := Lib.hid (HTake.out 1 (by omega) wb _ _ _ hr0 hI2)
  have HI2 := Lib.hid hI2
  have HRl := Lib.hid hr0
  have hle : w.heap.size ≤ H := by omega
  have HLe := Lib.hid hle
  rw [← hS]
  have HH := hH.symm
  have HWa := hwa.symm
  have HWb := hwb.symm
  have hs1 : wa.heap.size = H + 1 + 1 := hsa
  clear hS hR0 hH hwa hwb hfa hga hoa hf1 hf2 hs2 hI2 hr0 hle hb
  go_enter Tryz.func20, Tryz.ntmps20
  go_wp2_with fail
  refine (HCut.out _).mono ?_
  rintro e w1 ⟨rfl, hw1⟩
  rw [hw1]
  clear hw1 w1
  go_wp2_with fail
  refine HT1.out.mono ?_
  rintro e w2 ⟨t1, r1, ok1, rfl, htk1, hI3⟩
  have HTk1 := Lib.hid htk1
  have HI3 := Lib.hid hI3
  obtain ⟨_, _, _, cR3, cO3, _⟩ := hI3.cells
  clear htk1 hI3
  cases ok1 with
  | false =>
    have hgb := split_no HTk1.out
    have HGb := Lib.hid hgb
    obtain ⟨HD, hHD⟩ : ∃ s, s = str (headL ⟨[], 0, []⟩) := ⟨_, rfl⟩
    have HTold := Lib.hid (show ∀ w, Calls Tryz.prog 13 #[.agg #[.string (str []), .int .i64 0, .string (str [])]] w fun e w' => e = .returned (.tuple #[.string HD, .bool false]) ∧ Fr (fun _ => False) w w' from fun w => by
      rw [hHD]; exact told_calls ⟨[], 0, []⟩ (by decide) (by decide) w)
    have HHd := Lib.hid hHD
    clear hHD hgb
    go_wp2_with fail
    refine (HTold.out w2).mono ?_
    rintro e w3 ⟨rfl, f3⟩
    have hI4 := HI3.out.fr0 f3
    have HI4 := Lib.hid hI4
    obtain ⟨c1, c2, c3, c4, c5, c6, c7, c8, c9, c10⟩ := hI4.cells
    clear hI4 f3
    go_wp2_with fail
    go_region
    all_goals
      have hE := HI4.out.tail HLe.out (by omega) (by omega) false
      generalize hW : World.drew _ = W at hE ⊢
      have HE := Lib.hid hE
      clear hW hE
      go_wp2_with fail
      refine bodyPost_ret (results_four rfl _ _ H 23 _ (0, 0) _ (.string HD) _ (.bool false) (H + 1) rfl rfl rfl rfl HE.out.hh Tryz.underlying23 rfl (by kernel_rfl) (load_bool _ _ _ HE.out.cells.2.2.2.2.1)) rfl ?_
      exact ⟨⟨[], 0, []⟩, headL ⟨[], 0, []⟩, r1, by rw [HHd.out, HGb.out]; rfl, fun h => (by rw [HGb.out] at h; cases h), HE.out.fr⟩
  | true =>
    obtain ⟨hpre, hl3, ht1, hr1⟩ := split_first HTk1.out
    obtain ⟨x, hx⟩ : ∃ x, x = b.getD 2 0 := ⟨_, rfl⟩
    obtain ⟨T1, hT1⟩ : ∃ s, s = str t1 := ⟨_, rfl⟩
    have hind := brun_head x [] T1 (by rw [hT1, ht1, hx])
    have hw0 : IntKind.i64.wrap (x.toNat : Int) = (x.toNat : Int) := IntWalk.i64_in _ (by have := x.toNat_lt; omega)
    have hnx : nB b = x.toNat := by unfold nB; rw [hx]
    have hr1l : r1.length ≤ 100000000 := Nat.le_trans HTk1.out.rest HRl.out
    have HT2 := Lib.hid (HTake.out x.toNat (by have := x.toNat_lt; omega) w2 _ _ _ hr1l HI3.out)
    have HA := Lib.hid (show preB b = true ∧ 3 ≤ b.length ∧ r1 = b.drop 3 ∧ nB b = x.toNat ∧ r1.length ≤ 100000000 from ⟨hpre, hl3, hr1, hnx, hr1l⟩)
    have hxb := x.toNat_lt
    rw [← hT1]
    clear hpre hl3 ht1 hr1 hx hT1 hnx hr1l
    go_wp2_with fail
    refine HT2.out.mono ?_
    rintro e w3 ⟨I, r2, ok2, rfl, htk2, hI4⟩
    have HTk2 := Lib.hid htk2
    obtain ⟨IS, hIS⟩ : ∃ s, s = str I := ⟨_, rfl⟩
    have hI5 := hI4.setH (h' := ⟨I, 0, []⟩) HLe.out (by omega) (by omega) 0 (.string (str I)) (by simp)
    have hr2l : r2.length ≤ 100000000 := Nat.le_trans htk2.rest HA.out.2.2.2.2
    rw [← hIS] at hI5 ⊢
    obtain ⟨w4, hw4⟩ : ∃ w4, w4 = w3.setCell ⟨H, 0, none⟩ (.string IS) := ⟨_, rfl⟩
    rw [← hw4] at hI5
    have HW4 := hw4.symm
    have HIS := Lib.hid hIS
    have HT3 := Lib.hid (HTake.out 1 (by omega) w4 _ _ _ hr2l hI5)
    have HL2 := Lib.hid hr2l
    have HIl := Lib.hid htk2.len
    obtain ⟨c1, c2, c3, c4, c5, c6, c7, c8, c9, c10⟩ := hI4.cells
    clear htk2 hI4 hI5 hIS hr2l hw4
    go_wp2_with fail
    refine HT3.out.mono ?_
    rintro e w5 ⟨V, r3, ok3, rfl, htk3, hI6⟩
    have HTk3 := Lib.hid htk3
    have hr3l : r3.length ≤ 100000000 := Nat.le_trans htk3.rest HL2.out
    have HL3 := Lib.hid hr3l
    have HI6 := Lib.hid hI6
    obtain ⟨VS, hVS⟩ : ∃ s, s = str V := ⟨_, rfl⟩
    rw [← hVS]
    have hVl := htk3.len
    clear HW4 c1 c2 c3 c4 c5 c6 c7 c8 c9 c10
    clear htk3 hr3l hI6
    cases V with
    | nil =>
      have t1 : VS.toList.isEmpty = true := by rw [hVS, str_toList]; rfl
      have t2 : (VS.toList == []) = true := by rw [hVS, str_toList]; rfl
      have t3 : VS.toList = [] := by rw [hVS, str_toList]
      have t4 : (VS.toList != []) = false := by rw [hVS, str_toList]; rfl
      have HT4 := Lib.hid (HTake.out 12 (by omega) w5 _ _ _ HL3.out HI6.out)
      have hv0 : verOf [] = 0 := rfl
      have HV := Lib.hid hv0
      obtain ⟨c1, c2, c3, c4, c5, c6, c7, c8, c9, c10⟩ := HI6.out.cells
      clear hVS hVl hv0
      go_wp2_with fail
      refine HT4.out.mono ?_
      rintro e w6 ⟨N, r4, ok4, rfl, htk4, hI7⟩
      have HTk4 := Lib.hid htk4
      obtain ⟨NS, hNS⟩ : ∃ s, s = str N := ⟨_, rfl⟩
      have hI8 := hI7.setH (h' := ⟨I, 0, N⟩) HLe.out (by omega) (by omega) 2 (.string (str N)) (by simp)
      rw [← hNS] at hI8 ⊢
      obtain ⟨w7, hw7⟩ : ∃ w7, w7 = w6.setCell ⟨H, 2, none⟩ (.string NS) := ⟨_, rfl⟩
      rw [← hw7] at hI8
      have HW7 := hw7.symm
      obtain ⟨u1, u2, u3, u4, u5, u6, u7, u8, u9, u10⟩ := hI8.cells
      rw [← HIS.out] at u1
      rw [← hNS] at u3
      obtain ⟨HD, hHD⟩ : ∃ s, s = str (headL ⟨I, 0, N⟩) := ⟨_, rfl⟩
      obtain ⟨q, hq⟩ : ∃ q, q = okH ⟨I, 0, N⟩ := ⟨_, rfl⟩
      have HTold := Lib.hid (show ∀ w, Calls Tryz.prog 13 #[.agg #[.string IS, .int .i64 0, .string NS]] w fun e w' => e = .returned (.tuple #[.string HD, .bool q]) ∧ Fr (fun _ => False) w w' from fun w => by
        rw [hHD, hq, HIS.out, hNS]; exact told_calls ⟨I, 0, N⟩ (by have := HIl.out; have := hxb; show I.length ≤ _; omega) (by have := htk4.len; show N.length ≤ _; omega) w)
      have HHd := Lib.hid hHD
      have HNS := Lib.hid hNS
      have HI8 := Lib.hid hI8
      obtain ⟨hg1, hg2⟩ := split_law HA.out.1 HA.out.2.1 (by rw [HA.out.2.2.2.1, ← HA.out.2.2.1]; exact HTk2.out) HTk3.out htk4
      rw [HV.out, ← hq] at hg1
      rw [HV.out] at hg2
      obtain ⟨k1, k2, k3, k4, k5, k6, k7, k8, k9, k10⟩ := hI7.cells
      obtain ⟨RS, hRS⟩ : ∃ s, s = str r4 := ⟨_, rfl⟩
      obtain ⟨m, hm⟩ : ∃ m, m = RS.size := ⟨_, rfl⟩
      have hml : m = r4.length := by rw [hm, hRS, str_size]
      rw [← hml] at hg1
      obtain ⟨gb, hgb⟩ : ∃ g, g = goodB b := ⟨_, rfl⟩
      rw [← hgb] at hg1 hg2
      have e16 : decide (16 ≤ m) = decide ((16 : Int) ≤ (m : Int)) := decide_eq_decide.2 (by omega)
      have e1040 : decide (m ≤ 1040) = decide ((m : Int) ≤ 1040) := decide_eq_decide.2 (by omega)
      have hcase : (ok4 = false ∧ gb = false) ∨ (ok4 = true ∧ q = false ∧ gb = false) ∨ (ok4 = true ∧ q = true ∧ decide ((16 : Int) ≤ (m : Int)) = false ∧ gb = false) ∨
          (ok4 = true ∧ q = true ∧ decide ((16 : Int) ≤ (m : Int)) = true ∧ decide ((m : Int) ≤ 1040) = false ∧ gb = false) ∨ (ok4 = true ∧ q = true ∧ decide ((16 : Int) ≤ (m : Int)) = true ∧ decide ((m : Int) ≤ 1040) = true ∧ gb = true) := by
        rw [e16, e1040] at hg1
        revert hg1
        generalize decide ((16 : Int) ≤ (m : Int)) = a
        generalize decide ((m : Int) ≤ 1040) = c
        intro hg1
        rw [hg1]
        cases ok4 <;> cases q <;> cases a <;> cases c <;> simp
      have HG2 := Lib.hid hg2
      have HGb := Lib.hid hgb
      have HRS := Lib.hid hRS
      have hm' : RS.size = m := hm.symm
      clear htk4 hI7 hI8 hNS hHD hq hg1 hg2 hRS hm hml hgb hw7 e16 e1040 c1 c2 c3 c4 c5 c6 c7 c8 c9 c10
      go_wp2_with fail
      refine (HTold.out w7).mono ?_
      rintro e w8 ⟨rfl, f8⟩
      have hI9 := HI8.out.fr0 f8
      have HI9 := Lib.hid hI9
      obtain ⟨c1, c2, c3, c4, c5, c6, c7, c8, c9, c10⟩ := hI9.cells
      rw [← HIS.out] at c1
      rw [← HRS.out] at c4
      rw [← HNS.out] at c3
      clear hI9 f8 HW7 k1 k2 k3 k4 k5 k6 k7 k8 k9 k10 u1 u2 u3 u4 u5 u6 u7 u8 u9 u10
      rcases hcase with ⟨rfl, rfl⟩ | ⟨rfl, rfl, rfl⟩ | ⟨rfl, rfl, d1, rfl⟩ | ⟨rfl, rfl, d1, d2, rfl⟩ | ⟨rfl, rfl, d1, d2, rfl⟩
      · go_wp2_with fail
        go_region
        all_goals
          have hE : SpI w (((((w8.setCell ⟨H + 1, 0, none⟩ (.bool false)).setCell ⟨H, 0, none⟩ (.string IS)).setCell ⟨H, 1, none⟩ (.int .i64 0)).setCell ⟨H, 2, none⟩ (.string NS)).setCell ⟨H + 1, 0, none⟩ (.bool false)).drew H (H + 1) (H + 2) ⟨I, 0, N⟩ r4 false := by rw [HIS.out, HNS.out]; exact HI9.out.tail HLe.out (by omega) (by omega) false
          generalize hW : World.drew _ = W at hE ⊢
          have HE := Lib.hid hE
          clear hW hE
          go_wp2_with fail
          refine bodyPost_ret (results_four rfl _ _ H 23 _ (0, 0) _ (.string HD) _ (.bool false) (H + 1) rfl rfl rfl rfl HE.out.hh Tryz.underlying23 rfl (by kernel_rfl) (load_bool _ _ _ HE.out.cells.2.2.2.2.1)) rfl ?_
          exact ⟨⟨I, 0, N⟩, headL ⟨I, 0, N⟩, r4, by rw [HHd.out, HRS.out, ← HGb.out]; rfl, fun h => (by rw [← HGb.out] at h; cases h), HE.out.fr⟩
      · go_wp2_with fail
        go_region
        all_goals
          have hE : SpI w (((((w8.setCell ⟨H + 1, 0, none⟩ (.bool false)).setCell ⟨H, 0, none⟩ (.string IS)).setCell ⟨H, 1, none⟩ (.int .i64 0)).setCell ⟨H, 2, none⟩ (.string NS)).setCell ⟨H + 1, 0, none⟩ (.bool false)).drew H (H + 1) (H + 2) ⟨I, 0, N⟩ r4 false := by rw [HIS.out, HNS.out]; exact HI9.out.tail HLe.out (by omega) (by omega) false
          generalize hW : World.drew _ = W at hE ⊢
          have HE := Lib.hid hE
          clear hW hE
          go_wp2_with fail
          refine bodyPost_ret (results_four rfl _ _ H 23 _ (0, 0) _ (.string HD) _ (.bool false) (H + 1) rfl rfl rfl rfl HE.out.hh Tryz.underlying23 rfl (by kernel_rfl) (load_bool _ _ _ HE.out.cells.2.2.2.2.1)) rfl ?_
          exact ⟨⟨I, 0, N⟩, headL ⟨I, 0, N⟩, r4, by rw [HHd.out, HRS.out, ← HGb.out]; rfl, fun h => (by rw [← HGb.out] at h; cases h), HE.out.fr⟩
      · go_wp2_with fail
        go_region
        all_goals
          have hE : SpI w (((((w8.setCell ⟨H + 1, 0, none⟩ (.bool false)).setCell ⟨H, 0, none⟩ (.string IS)).setCell ⟨H, 1, none⟩ (.int .i64 0)).setCell ⟨H, 2, none⟩ (.string NS)).setCell ⟨H + 1, 0, none⟩ (.bool false)).drew H (H + 1) (H + 2) ⟨I, 0, N⟩ r4 false := by rw [HIS.out, HNS.out]; exact HI9.out.tail HLe.out (by omega) (by omega) false
          generalize hW : World.drew _ = W at hE ⊢
          have HE := Lib.hid hE
          clear hW hE
          go_wp2_with fail
          refine bodyPost_ret (results_four rfl _ _ H 23 _ (0, 0) _ (.string HD) _ (.bool false) (H + 1) rfl rfl rfl rfl HE.out.hh Tryz.underlying23 rfl (by kernel_rfl) (load_bool _ _ _ HE.out.cells.2.2.2.2.1)) rfl ?_
          exact ⟨⟨I, 0, N⟩, headL ⟨I, 0, N⟩, r4, by rw [HHd.out, HRS.out, ← HGb.out]; rfl, fun h => (by rw [← HGb.out] at h; cases h), HE.out.fr⟩
      · go_wp2_with fail
        go_region
        all_goals
          have hE : SpI w (((((w8.setCell ⟨H + 1, 0, none⟩ (.bool false)).setCell ⟨H, 0, none⟩ (.string IS)).setCell ⟨H, 1, none⟩ (.int .i64 0)).setCell ⟨H, 2, none⟩ (.string NS)).setCell ⟨H + 1, 0, none⟩ (.bool false)).drew H (H + 1) (H + 2) ⟨I, 0, N⟩ r4 false := by rw [HIS.out, HNS.out]; exact HI9.out.tail HLe.out (by omega) (by omega) false
          generalize hW : World.drew _ = W at hE ⊢
          have HE := Lib.hid hE
          clear hW hE
          go_wp2_with fail
          refine bodyPost_ret (results_four rfl _ _ H 23 _ (0, 0) _ (.string HD) _ (.bool false) (H + 1) rfl rfl rfl rfl HE.out.hh Tryz.underlying23 rfl (by kernel_rfl) (load_bool _ _ _ HE.out.cells.2.2.2.2.1)) rfl ?_
          exact ⟨⟨I, 0, N⟩, headL ⟨I, 0, N⟩, r4, by rw [HHd.out, HRS.out, ← HGb.out]; rfl, fun h => (by rw [← HGb.out] at h; cases h), HE.out.fr⟩
      · go_wp2_with fail
        go_region
        all_goals
          have hE : SpI w (((((w8.setCell ⟨H + 1, 0, none⟩ (.bool true)).setCell ⟨H, 0, none⟩ (.string IS)).setCell ⟨H, 1, none⟩ (.int .i64 0)).setCell ⟨H, 2, none⟩ (.string NS)).setCell ⟨H + 1, 0, none⟩ (.bool true)).drew H (H + 1) (H + 2) ⟨I, 0, N⟩ r4 true := by rw [HIS.out, HNS.out]; exact HI9.out.tail HLe.out (by omega) (by omega) true
          generalize hW : World.drew _ = W at hE ⊢
          have HE := Lib.hid hE
          clear hW hE
          go_wp2_with fail
          refine bodyPost_ret (results_four rfl _ _ H 23 _ (0, 0) _ (.string HD) _ (.bool true) (H + 1) rfl rfl rfl rfl HE.out.hh Tryz.underlying23 rfl (by kernel_rfl) (load_bool _ _ _ HE.out.cells.2.2.2.2.1)) rfl ?_
          exact ⟨⟨I, 0, N⟩, headL ⟨I, 0, N⟩, r4, by rw [HHd.out, HRS.out, ← HGb.out]; rfl, fun h => ⟨(HG2.out (by trivial)).1, rfl, (HG2.out (by trivial)).2⟩, HE.out.fr⟩
    | cons y V =>
      have hV0 : V = [] := by
        cases V with
        | nil => rfl
        | cons z V => simp at hVl
      have hindV := brun_head y V VS hVS
      have t1 : VS.toList.isEmpty = false := by rw [hVS, str_toList]; rfl
      have t2 : (VS.toList == []) = false := by rw [hVS, str_toList]; rfl
      have t4 : (VS.toList != []) = true := by rw [hVS, str_toList]; rfl
      have hwy : IntKind.i64.wrap (y.toNat : Int) = (y.toNat : Int) := IntWalk.i64_in _ (by have := y.toNat_lt; omega)
      have hyb := y.toNat_lt
      have hI6b := HI6.out.setH (h' := ⟨I, (y.toNat : Int), []⟩) HLe.out (by omega) (by omega) 1 (.int .i64 (y.toNat : Int)) (by simp)
      obtain ⟨w5b, hw5b⟩ : ∃ w5b, w5b = w5.setCell ⟨H, 1, none⟩ (.int .i64 (y.toNat : Int)) := ⟨_, rfl⟩
      rw [← hw5b] at hI6b
      have HW5 := hw5b.symm
      have HT4 := Lib.hid (HTake.out 12 (by omega) w5b _ _ _ HL3.out hI6b)
      have HV := Lib.hid (show verOf (y :: V) = (y.toNat : Int) from rfl)
      obtain ⟨c1, c2, c3, c4, c5, c6, c7, c8, c9, c10⟩ := HI6.out.cells
      clear hVS hVl hV0 hw5b hI6b
      go_wp2_with fail
      refine HT4.out.mono ?_
      rintro e w6 ⟨N, r4, ok4, rfl, htk4, hI7⟩
      have HTk4 := Lib.hid htk4
      obtain ⟨NS, hNS⟩ : ∃ s, s = str N := ⟨_, rfl⟩
      have hI8 := hI7.setH (h' := ⟨I, (y.toNat : Int), N⟩) HLe.out (by omega) (by omega) 2 (.string (str N)) (by simp)
      rw [← hNS] at hI8 ⊢
      obtain ⟨w7, hw7⟩ : ∃ w7, w7 = w6.setCell ⟨H, 2, none⟩ (.string NS) := ⟨_, rfl⟩
      rw [← hw7] at hI8
      have HW7 := hw7.symm
      obtain ⟨u1, u2, u3, u4, u5, u6, u7, u8, u9, u10⟩ := hI8.cells
      rw [← HIS.out] at u1
      rw [← hNS] at u3
      obtain ⟨HD, hHD⟩ : ∃ s, s = str (headL ⟨I, (y.toNat : Int), N⟩) := ⟨_, rfl⟩
      obtain ⟨q, hq⟩ : ∃ q, q = okH ⟨I, (y.toNat : Int), N⟩ := ⟨_, rfl⟩
      have HTold := Lib.hid (show ∀ w, Calls Tryz.prog 13 #[.agg #[.string IS, .int .i64 (y.toNat : Int), .string NS]] w fun e w' => e = .returned (.tuple #[.string HD, .bool q]) ∧ Fr (fun _ => False) w w' from fun w => by
        rw [hHD, hq, HIS.out, hNS]; exact told_calls ⟨I, (y.toNat : Int), N⟩ (by have := HIl.out; have := hxb; show I.length ≤ _; omega) (by have := htk4.len; show N.length ≤ _; omega) w)
      have HHd := Lib.hid hHD
      have HNS := Lib.hid hNS
      have HI8 := Lib.hid hI8
      obtain ⟨hg1, hg2⟩ := split_law HA.out.1 HA.out.2.1 (by rw [HA.out.2.2.2.1, ← HA.out.2.2.1]; exact HTk2.out) HTk3.out htk4
      rw [HV.out, ← hq] at hg1
      rw [HV.out] at hg2
      obtain ⟨k1, k2, k3, k4, k5, k6, k7, k8, k9, k10⟩ := hI7.cells
      obtain ⟨RS, hRS⟩ : ∃ s, s = str r4 := ⟨_, rfl⟩
      obtain ⟨m, hm⟩ : ∃ m, m = RS.size := ⟨_, rfl⟩
      have hml : m = r4.length := by rw [hm, hRS, str_size]
      rw [← hml] at hg1
      obtain ⟨gb, hgb⟩ : ∃ g, g = goodB b := ⟨_, rfl⟩
      rw [← hgb] at hg1 hg2
      have e16 : decide (16 ≤ m) = decide ((16 : Int) ≤ (m : Int)) := decide_eq_decide.2 (by omega)
      have e1040 : decide (m ≤ 1040) = decide ((m : Int) ≤ 1040) := decide_eq_decide.2 (by omega)
      have hcase : (ok4 = false ∧ gb = false) ∨ (ok4 = true ∧ q = false ∧ gb = false) ∨ (ok4 = true ∧ q = true ∧ decide ((16 : Int) ≤ (m : Int)) = false ∧ gb = false) ∨
          (ok4 = true ∧ q = true ∧ decide ((16 : Int) ≤ (m : Int)) = true ∧ decide ((m : Int) ≤ 1040) = false ∧ gb = false) ∨ (ok4 = true ∧ q = true ∧ decide ((16 : Int) ≤ (m : Int)) = true ∧ decide ((m : Int) ≤ 1040) = true ∧ gb = true) := by
        rw [e16, e1040] at hg1
        revert hg1
        generalize decide ((16 : Int) ≤ (m : Int)) = a
        generalize decide ((m : Int) ≤ 1040) = c
        intro hg1
        rw [hg1]
        cases ok4 <;> cases q <;> cases a <;> cases c <;> simp
      have HG2 := Lib.hid hg2
      have HGb := Lib.hid hgb
      have HRS := Lib.hid hRS
      have hm' : RS.size = m := hm.symm
      clear htk4 hI7 hI8 hNS hHD hq hg1 hg2 hRS hm hml hgb hw7 e16 e1040 c1 c2 c3 c4 c5 c6 c7 c8 c9 c10
      go_wp2_with fail
      refine (HTold.out w7).mono ?_
      rintro e w8 ⟨rfl, f8⟩
      have hI9 := HI8.out.fr0 f8
      have HI9 := Lib.hid hI9
      obtain ⟨c1, c2, c3, c4, c5, c6, c7, c8, c9, c10⟩ := hI9.cells
      rw [← HIS.out] at c1
      rw [← HRS.out] at c4
      rw [← HNS.out] at c3
      clear hI9 f8 HW7 k1 k2 k3 k4 k5 k6 k7 k8 k9 k10 u1 u2 u3 u4 u5 u6 u7 u8 u9 u10
      rcases hcase with ⟨rfl, rfl⟩ | ⟨rfl, rfl, rfl⟩ | ⟨rfl, rfl, d1, rfl⟩ | ⟨rfl, rfl, d1, d2, rfl⟩ | ⟨rfl, rfl, d1, d2, rfl⟩
      · go_wp2_with fail
        go_region
        all_goals
          have hE : SpI w (((((w8.setCell ⟨H + 1, 0, none⟩ (.bool false)).setCell ⟨H, 0, none⟩ (.string IS)).setCell ⟨H, 1, none⟩ (.int .i64 (y.toNat : Int))).setCell ⟨H, 2, none⟩ (.string NS)).setCell ⟨H + 1, 0, none⟩ (.bool false)).drew H (H + 1) (H + 2) ⟨I, (y.toNat : Int), N⟩ r4 false := by rw [HIS.out, HNS.out]; exact HI9.out.tail HLe.out (by omega) (by omega) false
          generalize hW : World.drew _ = W at hE ⊢
          have HE := Lib.hid hE
          clear hW hE
          go_wp2_with fail
          refine bodyPost_ret (results_four rfl _ _ H 23 _ (0, 0) _ (.string HD) _ (.bool false) (H + 1) rfl rfl rfl rfl HE.out.hh Tryz.underlying23 rfl (by kernel_rfl) (load_bool _ _ _ HE.out.cells.2.2.2.2.1)) rfl ?_
          exact ⟨⟨I, (y.toNat : Int), N⟩, headL ⟨I, (y.toNat : Int), N⟩, r4, by rw [HHd.out, HRS.out, ← HGb.out]; rfl, fun h => (by rw [← HGb.out] at h; cases h), HE.out.fr⟩
      · go_wp2_with fail
        go_region
        all_goals
          have hE : SpI w (((((w8.setCell ⟨H + 1, 0, none⟩ (.bool false)).setCell ⟨H, 0, none⟩ (.string IS)).setCell ⟨H, 1, none⟩ (.int .i64 (y.toNat : Int))).setCell ⟨H, 2, none⟩ (.string NS)).setCell ⟨H + 1, 0, none⟩ (.bool false)).drew H (H + 1) (H + 2) ⟨I, (y.toNat : Int), N⟩ r4 false := by rw [HIS.out, HNS.out]; exact HI9.out.tail HLe.out (by omega) (by omega) false
          generalize hW : World.drew _ = W at hE ⊢
          have HE := Lib.hid hE
          clear hW hE
          go_wp2_with fail
          refine bodyPost_ret (results_four rfl _ _ H 23 _ (0, 0) _ (.string HD) _ (.bool false) (H + 1) rfl rfl rfl rfl HE.out.hh Tryz.underlying23 rfl (by kernel_rfl) (load_bool _ _ _ HE.out.cells.2.2.2.2.1)) rfl ?_
          exact ⟨⟨I, (y.toNat : Int), N⟩, headL ⟨I, (y.toNat : Int), N⟩, r4, by rw [HHd.out, HRS.out, ← HGb.out]; rfl, fun h => (by rw [← HGb.out] at h; cases h), HE.out.fr⟩
      · go_wp2_with fail
        go_region
        all_goals
          have hE : SpI w (((((w8.setCell ⟨H + 1, 0, none⟩ (.bool false)).setCell ⟨H, 0, none⟩ (.string IS)).setCell ⟨H, 1, none⟩ (.int .i64 (y.toNat : Int))).setCell ⟨H, 2, none⟩ (.string NS)).setCell ⟨H + 1, 0, none⟩ (.bool false)).drew H (H + 1) (H + 2) ⟨I, (y.toNat : Int), N⟩ r4 false := by rw [HIS.out, HNS.out]; exact HI9.out.tail HLe.out (by omega) (by omega) false
          generalize hW : World.drew _ = W at hE ⊢
          have HE := Lib.hid hE
          clear hW hE
          go_wp2_with fail
          refine bodyPost_ret (results_four rfl _ _ H 23 _ (0, 0) _ (.string HD) _ (.bool false) (H + 1) rfl rfl rfl rfl HE.out.hh Tryz.underlying23 rfl (by kernel_rfl) (load_bool _ _ _ HE.out.cells.2.2.2.2.1)) rfl ?_
          exact ⟨⟨I, (y.toNat : Int), N⟩, headL ⟨I, (y.toNat : Int), N⟩, r4, by rw [HHd.out, HRS.out, ← HGb.out]; rfl, fun h => (by rw [← HGb.out] at h; cases h), HE.out.fr⟩
      · go_wp2_with fail
        go_region
        all_goals
          have hE : SpI w (((((w8.setCell ⟨H + 1, 0, none⟩ (.bool false)).setCell ⟨H, 0, none⟩ (.string IS)).setCell ⟨H, 1, none⟩ (.int .i64 (y.toNat : Int))).setCell ⟨H, 2, none⟩ (.string NS)).setCell ⟨H + 1, 0, none⟩ (.bool false)).drew H (H + 1) (H + 2) ⟨I, (y.toNat : Int), N⟩ r4 false := by rw [HIS.out, HNS.out]; exact HI9.out.tail HLe.out (by omega) (by omega) false
          generalize hW : World.drew _ = W at hE ⊢
          have HE := Lib.hid hE
          clear hW hE
          go_wp2_with fail
          refine bodyPost_ret (results_four rfl _ _ H 23 _ (0, 0) _ (.string HD) _ (.bool false) (H + 1) rfl rfl rfl rfl HE.out.hh Tryz.underlying23 rfl (by kernel_rfl) (load_bool _ _ _ HE.out.cells.2.2.2.2.1)) rfl ?_
          exact ⟨⟨I, (y.toNat : Int), N⟩, headL ⟨I, (y.toNat : Int), N⟩, r4, by rw [HHd.out, HRS.out, ← HGb.out]; rfl, fun h => (by rw [← HGb.out] at h; cases h), HE.out.fr⟩
      · go_wp2_with fail
        go_region
        all_goals
          have hE : SpI w (((((w8.setCell ⟨H + 1, 0, none⟩ (.bool true)).setCell ⟨H, 0, none⟩ (.string IS)).setCell ⟨H, 1, none⟩ (.int .i64 (y.toNat : Int))).setCell ⟨H, 2, none⟩ (.string NS)).setCell ⟨H + 1, 0, none⟩ (.bool true)).drew H (H + 1) (H + 2) ⟨I, (y.toNat : Int), N⟩ r4 true := by rw [HIS.out, HNS.out]; exact HI9.out.tail HLe.out (by omega) (by omega) true
          generalize hW : World.drew _ = W at hE ⊢
          have HE := Lib.hid hE
          clear hW hE
          go_wp2_with fail
          refine bodyPost_ret (results_four rfl _ _ H 23 _ (0, 0) _ (.string HD) _ (.bool true) (H + 1) rfl rfl rfl rfl HE.out.hh Tryz.underlying23 rfl (by kernel_rfl) (load_bool _ _ _ HE.out.cells.2.2.2.2.1)) rfl ?_
          exact ⟨⟨I, (y.toNat : Int), N⟩, headL ⟨I, (y.toNat : Int), N⟩, r4, by rw [HHd.out, HRS.out, ← HGb.out]; rfl, fun h => ⟨(HG2.out (by trivial)).1, rfl, (HG2.out (by trivial)).2⟩, HE.out.fr⟩
end Go.Proofs.YtcchhfkmhbjdmaaGreat
