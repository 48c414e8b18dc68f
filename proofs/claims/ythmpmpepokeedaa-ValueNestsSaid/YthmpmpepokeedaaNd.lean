/- Values: Of walked. -/
import Derived.Test.YthmpmpepokeedaaNc
import Derived.Maps.AppendAt
set_option linter.unusedVariables false
set_option linter.unusedSimpArgs false
set_option pp.deepTerms true
set_option pp.maxSteps 100000
namespace Go.Proofs.Ythmpmpepokeedaa
open Go.RowKit
theorem infoAny : (Try.prog.info? 20).map (fun i => (i.zero, i.size, i.bytes)) = some (some .nilIface, 1, 16) := by kernel_rfl
theorem buildA0 (w : World) : (Instr.buildSlice 58 0 #[]).run Try.prog w = .ok (.slice (some ⟨w.heap.size, 0, none⟩) 0 0) (w.alloc (.cells #[] 20)) := by
  obtain ⟨i0, hi, hz0, hz1, hz2⟩ := info_parts infoAny
  simp [Instr.buildSlice, run_underlying Try.underlying58, sizeOf, typeInfo, hi, hz1, Instr.fill, newRow]
  rw [show Array.range 0 = #[] by decide +kernel, Array.map_empty]
theorem wpList_buildA0 {ops : Array Oper} {rest : List Oper} {op : Oper} {a : Act} {w : World} {Q : Exit → Act → World → Prop} (hgd : op.guard = none) (ho : op.op = .buildSlice 58 0 #[])
    (h : wpList Try.prog ops Q rest (a.put op.dst (.slice (some ⟨w.heap.size, 0, none⟩) 0 0)) (w.alloc (.cells #[] 20))) : wpList Try.prog ops Q (op :: rest) a w :=
  wpList_plain hgd fun _ hK => by
    unfold Oper.wp execOp
    simp only [ho, Array.map_empty, Sem.run_bind, buildA0, Result.andThen_ok]
    exact hK _ _ h
theorem buildA1 (v : Value) (hv : v.oneCell' = true) (w : World) : (Instr.buildSlice 58 1 #[(0, v)]).run Try.prog w = .ok (.slice (some ⟨w.heap.size, 0, none⟩) 1 1) (w.alloc (.cells #[v] 20)) := by
  obtain ⟨i0, hi, hz0, hz1, hz2⟩ := info_parts infoAny
  have hc : v.cells = #[v] := by cases v <;> first | rfl | cases hv
  have hr : Array.range 1 = #[0] := by decide +kernel
  simp [Instr.buildSlice, run_underlying Try.underlying58, sizeOf, typeInfo, zeroValue, hi, hz0, hz1, Instr.fill, newRow, newObj, hc, hr]
  rfl
theorem wpList_buildA1 {ops : Array Oper} {rest : List Oper} {op : Oper} {a : Act} {w : World} {Q : Exit → Act → World → Prop} (hgd : op.guard = none) (x : Operand) (ho : op.op = .buildSlice 58 1 #[(0, x)]) (v : Value) (hx : a.eval x = v) (hv : v.oneCell' = true)
    (h : wpList Try.prog ops Q rest (a.put op.dst (.slice (some ⟨w.heap.size, 0, none⟩) 1 1)) (w.alloc (.cells #[v] 20))) : wpList Try.prog ops Q (op :: rest) a w :=
  wpList_plain hgd fun _ hK => by
    unfold Oper.wp execOp
    simp only [ho, hx, List.map_toArray, List.map_cons, List.map_nil, Sem.run_bind, Sem.run_pure, buildA1 v hv, Result.andThen_ok]
    exact hK _ _ h
theorem ownA0 (w : World) (B : Nat) (hB : B ≤ w.heap.size) : (w.alloc (.cells #[] 20)).ownsRow B 20 1 (.slice (some ⟨w.heap.size, 0, none⟩) 0 0) 0 [] :=
  ⟨rfl, .inr ⟨w.heap.size, 0, #[], rfl, hB, heap_alloc_new w _, Nat.le_refl _, Nat.zero_le _, rfl, rfl⟩⟩
/-- A row of values that is being made: its own block, and the blocks of its values. -/
structure ARow (w : World) (B : Nat) (v : Value) (l : List AV) (xs : List Value) : Prop where
  own : w.ownsRow B 20 1 v l.length xs
  ne : ∃ g n c, v = .slice (some ⟨g, 0, none⟩) n c
  at_ : ∀ (i : Nat) (a : AV), l[i]? = some a → ∃ x, xs[i]? = some x ∧ AR w (fun b => B ≤ b ∧ v.ownBlock ≠ some b) a x
theorem ARow.frF {w w' : World} {B : Nat} {v : Value} {l : List AV} {xs : List Value} (h : ARow w B v l xs) (hf : Fr (fun _ => False) w w') : ARow w' B v l xs :=
  ⟨hf.own h.own (fun _ _ => id), h.ne, fun i a ha => by
    obtain ⟨x, hx, hr⟩ := h.at_ i a ha
    exact ⟨x, hx, hr.frF hf⟩⟩
theorem ARow.ge {w : World} {B g n c : Nat} {l : List AV} {xs : List Value} (h : ARow w B (.slice (some ⟨g, 0, none⟩) n c) l xs) : B ≤ g := by
  rcases h.own.2 with ⟨hv, _⟩ | ⟨g', cap, cur, hv, hb, _⟩
  · cases hv
  · cases hv; exact hb
/-- One value more. -/
theorem ARow.push {w w2 w3 : World} {B : Nat} {v v' : Value} {l : List AV} {xs : List Value} {a : AV} {x : Value} (h : ARow w B v l xs) (hf : Fr (fun _ => False) w w2) (hr : AR w2 (fun b => w.heap.size ≤ b) a x)
    (hB : B ≤ w.heap.size) (h1 : w3.ownsRow B 20 1 v' (l.length + 1) (xs ++ [x])) (h2 : w2.grownBy w3 v.ownBlock) (h4 : v'.ownBlock = v.ownBlock ∨ v'.ownBlock = some w2.heap.size) : ARow w3 B v' (l ++ [a]) (xs ++ [x]) := by
  have hfg : Fr (fun k => v.ownBlock = some k) w2 w3 := (Fr.refl _ _).grown h2 (fun k hk => .inl hk)
  have hown : ∀ k, v.ownBlock = some k → k < w.heap.size := fun k hk => by
    rcases h.own.2 with ⟨hv, _⟩ | ⟨g, cap, cur, rfl, hb, hg, _⟩
    · rw [hv] at hk; cases hk
    · cases hk; exact lt_of_heap hg
  have hD : ∀ b, (v.ownBlock ≠ some b) → b < w2.heap.size → v'.ownBlock ≠ some b := fun b hb hlt e => by
    rcases h4 with h4 | h4
    · exact hb (h4 ▸ e)
    · rw [h4] at e; cases e; omega
  refine ⟨by rw [List.length_append]; exact h1, ?_, fun i y hy => ?_⟩
  · rcases h1.2 with ⟨hv, hn⟩ | ⟨g, cap, cur, hv, _⟩
    · cases hn
    · exact ⟨g, _, _, hv⟩
  have hlx : xs.length = l.length := by have := h.own.1; simpa using this
  by_cases hi : i < l.length
  · rw [List.getElem?_append_left hi] at hy
    obtain ⟨x', hx', hr'⟩ := h.at_ i y hy
    refine ⟨x', by rw [List.getElem?_append_left (by omega)]; exact hx', ?_⟩
    have hq := ((hr'.frF hf).lt)
    exact (hq.fr hfg (fun b hb e => hb.1.2 e)).mono (fun b hb => ⟨hb.1.1, hD b hb.1.2 hb.2⟩)
  · have hil : i = l.length := by
      have := (List.getElem?_eq_some_iff.1 hy).1
      rw [List.length_append] at this
      simp at this; omega
    subst hil
    rw [List.getElem?_append_right (Nat.le_refl _)] at hy
    simp at hy
    subst hy
    refine ⟨x, by rw [List.getElem?_append_right (by omega), hlx]; simp, ?_⟩
    have hnv : ∀ b, w.heap.size ≤ b → v.ownBlock ≠ some b := fun b hb e => by have := hown b e; omega
    exact (hr.lt.fr hfg (fun b hb e => hnv b hb.1 e)).mono (fun b hb => ⟨by have := hb.1; omega, hD b (hnv b hb.1) hb.2⟩)
/-- The row, done. -/
theorem ARow.done {w : World} {B : Nat} {v : Value} {l : List AV} {xs : List Value} (h : ARow w B v l xs) : AR w (fun b => B ≤ b) (.row l) (.iface 58 v) := by
  obtain ⟨g, n, c, rfl⟩ := h.ne
  rcases h.own.2 with ⟨hv, _⟩ | ⟨g', cap, cur, hv, hb, hg, hlc, hcm, hcs, ht⟩
  · cases hv
  cases hv
  have hx : ∀ (i : Nat) (a : AV), l[i]? = some a → ∃ x, xs[i]? = some x ∧ AR w (fun b => B ≤ b) a x := fun i a ha => by
    obtain ⟨x, h1, h2⟩ := h.at_ i a ha
    exact ⟨x, h1, h2.mono (fun b hb => hb.1)⟩
  refine .row l g c (fun i => xs.getD i .nilIface) hlc (by unfold maxLen at hcm; omega) hb (lt_of_heap hg) (fun i a ha => ?_) (fun i a ha => ?_)
  · obtain ⟨x, h1, _⟩ := hx i a ha
    rw [cell_of_row w g i _ _ _ hg, List.getD_eq_getElem?_getD, h1, Option.getD_some]
    have hi := (List.getElem?_eq_some_iff.1 ha).1
    have : cur.toList[i]? = xs[i]? := by
      rw [← ht, List.getElem?_take, if_pos (by omega)]
    rw [← Array.getElem?_toList, this, h1]
  · obtain ⟨x, h1, h2⟩ := hx i a ha
    simp only [List.getD_eq_getElem?_getD, h1, Option.getD_some]
    exact h2
theorem ofVs_get {l : List VT} {i : Nat} {t : VT} (h : l[i]? = some t) : (ofVs l)[i]? = some (ofV t) := by
  rw [ofVs_map, List.getElem?_map, h]; rfl
set_option maxRecDepth 20000 in
set_option maxHeartbeats 4000000 in
theorem of_calls (j : Nat) : ∀ (t : VT) (cs : List Value) (D : Nat → Prop) (w : World), VR w D t cs → fewK j t = true →
    Calls Try.prog 18 #[.agg cs.toArray] w fun e w' => ∃ v, e = .returned v ∧ AR w' (fun i => w.heap.size ≤ i) (ofV t) v ∧ Fr (fun _ => False) w w' := by
  induction j with
  | zero => intro t cs D w hv hf; cases hf
  | succ j ih =>
    intro t cs D w hv hf
    cases hv with
    | mk k n s b l a cap cs hlc hcap hs ha h =>
      show Calls Try.prog 18 #[.agg #[.int .i64 k, .int .i64 n, .string (str s), .bool b, .slice a l.length cap]] w _
      have hf2 : (decide (s.length ≤ 70000) && decide (l.length ≤ 300) && (decide (10 ≤ j + 1) || decide (l.length ≤ 5)) && l.all (fewK j)) = true := hf
      simp only [Bool.and_eq_true, decide_eq_true_eq, List.all_eq_true] at hf2
      obtain ⟨S, hS⟩ : ∃ x, x = str s := ⟨_, rfl⟩
      have hSs : S.size = s.length := by rw [hS, str_size]
      rw [← hS]
      obtain ⟨m, hm⟩ : ∃ x, x = l.length := ⟨_, rfl⟩
      have hm3 : m ≤ 300 := by rw [hm]; exact hf2.1.1.2
      rw [← hm] at hlc ⊢
      have HS := Lib.hid hS
      have HA := Lib.hid ha
      have HV := Lib.hid h
      have HM := Lib.hid hm
      have HIH := Lib.hid ih
      have HFew := Lib.hid hf2.2
      have hs2 : S.size ≤ 9223372036854775807 := by omega
      have HS2 := Lib.hid hs
      clear hS hSs ha h hm ih hf hf2 hs
      obtain ⟨w1, hw1⟩ : ∃ w1, w1 = w.alloc (.cells #[.int .i64 k, .int .i64 n, .string S, .bool b, .slice a m cap] 36) := ⟨_, rfl⟩
      obtain ⟨g, hg⟩ : ∃ g, g = w.heap.size := ⟨_, rfl⟩
      have hb : w1.heap[g]? = some (.cells #[.int .i64 k, .int .i64 n, .string S, .bool b, .slice a m cap] 36 (0, 0)) := by rw [hw1, hg]; exact heap_alloc_new w _
      have HB := Lib.hid hb
      have HF0 := Lib.hid (show Fr (fun _ => False) w w1 by rw [hw1]; exact (Fr.refl _ _).alloc _)
      have HW1 := Lib.hid (And.intro hw1 hg)
      have HSZ := Lib.hid (show w1.heap.size = g + 1 by rw [hw1, hg]; simp)
      clear hw1 hg hb
      by_cases h1 : k = 1
      · subst h1
        go_enter Try.func18, Try.ntmps18
        go_wp2_with fail
        go_ret
        exact ⟨_, rfl, .int n, (Fr.refl _ _).alloc _⟩
      by_cases h2 : k = 2
      · subst h2
        go_enter Try.func18, Try.ntmps18
        go_wp2_with fail
        go_ret
        refine ⟨_, rfl, ?_, (Fr.refl _ _).alloc _⟩
        rw [HS.out]
        exact .text s HS2.out
      by_cases h3 : k = 3
      · subst h3
        go_enter Try.func18, Try.ntmps18
        go_wp2_with fail
        go_ret
        exact ⟨_, rfl, .yes b, (Fr.refl _ _).alloc _⟩
      by_cases h4 : k = 4
      · subst h4
        have HOF := Lib.hid (show ofV (.mk 4 n s b l) = .row (ofVs l) from rfl)
        clear h1 h2 h3
        go_enter Try.func18, Try.ntmps18
        go_wp2_with (first | (refine wpList_buildA0 rfl rfl ?_))
        rw [← HW1.out.2, ← HW1.out.1]
        have HOW0 := Lib.hid (ownA0 w1 (g + 1) (by rw [HSZ.out]; omega))
        rw [HSZ.out] at HOW0
        obtain ⟨i0, hi, hz0, hz1, hz2⟩ := info_parts infoAny
        have HI := Lib.hid (And.intro hi (And.intro hz0 (And.intro hz1 hz2)))
        clear hi hz0 hz1 hz2
        go_loopw [3, 4] (fun v i wr => ∃ (u : Nat) (xs : List Value), u ≤ m ∧ i = .int .i64 (u : Int) ∧ Fr (fun _ => False) w1 wr ∧ ARow wr (g + 1) v ((ofVs l).take u) xs) (fun _ i _ => m - (intOf i).toNat)
        case atStart => exact ⟨0, [], Nat.zero_le _, rfl, (Fr.refl _ _).alloc _, ⟨by simpa using HOW0.out, ⟨_, _, _, rfl⟩, fun i a ha => by simp at ha⟩⟩
        case round =>
          obtain ⟨u, xs, hu, rfl, hfr, har⟩ := hrel
          have HF := Lib.hid hfr
          have HAR := Lib.hid har
          have c4 : wr.cell? ⟨g, 4, none⟩ = some (.slice a m cap) := (cell_of_row wr g 4 _ _ _ (hfr.heap HB.out id)).trans rfl
          have hcn : ((ofVs l).take u).length = u := by rw [List.length_take, ofVs_map, List.length_map, ← HM.out]; omega
          have HCN := Lib.hid hcn
          obtain ⟨gv, nv, cv, rfl⟩ := har.ne
          have hsz : w1.heap.size ≤ wr.heap.size := hfr.size
          have HSZ2 := Lib.hid (show g + 1 ≤ wr.heap.size by rw [HSZ.out] at hsz; omega)
          clear hfr har hcn hsz
          by_cases hlt : u < m
          · have hul : u < l.length := by rw [← HM.out]; exact hlt
            rcases HA.out with h0 | ⟨g2, off, rfl, hD, hr⟩
            · exact absurd hul (by rw [h0]; simp)
            have hi0 : (u : Int) < (m : Int) := by omega
            have HRG := Lib.hid (show wr.rangeAt g2 (off + u * 5) (cs u) from fun i v hi => (HF0.out.trans HF.out (fun i hi => hi.elim)).cell (hr u _ (List.getElem?_eq_getElem hul) i v hi) id)
            obtain ⟨x1, hx1⟩ : ∃ x, l[u]? = some x := ⟨_, List.getElem?_eq_getElem hul⟩
            have hvr := HV.out u x1 hx1
            have HLN := Lib.hid (show (Try.prog.info? 36).map (·.size) = some (cs u).length by rw [hvr.five]; exact info36)
            have HC := Lib.hid (HIH.out x1 (cs u) D wr (hvr.frF (HF0.out.trans HF.out (fun i hi => hi.elim))) (HFew.out x1 (List.mem_of_getElem? hx1)))
            have HTK := Lib.hid (show (ofVs l).take (u + 1) = (ofVs l).take u ++ [ofV x1] by
              have hh := ofVs_get hx1
              have hlt := (List.getElem?_eq_some_iff.1 hh).1
              rw [List.take_succ_eq_append_getElem hlt]
              rw [List.getElem?_eq_getElem hlt] at hh
              rw [Option.some.inj hh])
            clear hvr hr hD hul hx1
            go_wp2_with (with_reducible refine wpList_load_mid (op := ⟨some 37, _, _, _, _, _⟩) rfl 36 _ rfl g2 (off + u * 5) rfl (cs u) _ HRG.out Try.underlying36 rfl HLN.out ?_)
            refine HC.out.mono ?_
            rintro e w2 ⟨v1, rfl, hr1, f2⟩
            have HR1 := Lib.hid hr1
            have HF2 := Lib.hid f2
            have h1c := hr1.one
            have HV1 := Lib.hid h1c
            have HOW := Lib.hid (((Fr.refl (fun _ => False) w2).alloc (.cells #[v1] 20)).own (f2.own HAR.out.own (fun _ _ => id)) (fun _ _ => id))
            have HBB := Lib.hid (show g + 1 ≤ w2.heap.size from Nat.le_trans HSZ2.out f2.size)
            clear hr1 f2 HC
            go_wp2_with (first | (refine wpList_buildA1 rfl _ rfl v1 rfl HV1.out ?_) | (with_reducible refine wpList_append_own_at (o := ⟨some 40, _, _, _, _, _⟩) _ rfl _ _ 58 rfl (g + 1) 20 i0 .nilIface 1 16 Try.underlying58 HI.out.1 HI.out.2.1 HI.out.2.2.1 HI.out.2.2.2 rfl (by decide) (.slice (some ⟨gv, 0, none⟩) nv cv) _ _ rfl HOW.out ⟨w2.heap.size, 0, none⟩ 1 1 [v1] rfl rfl ?c1 ?c2 ?c3 ?c4 ?c5 ?_))
            case c1 =>
              intro j u hj
              rw [Addr.add_lit, Nat.zero_add, cell_of_row _ w2.heap.size j _ _ _ (heap_alloc_new w2 _)]
              simpa using hj
            case c2 => intro u hu; simp only [List.mem_cons, List.not_mem_nil, or_false] at hu; subst hu; exact HV1.out
            case c3 => have := HCN.out; unfold maxLen; omega
            case c4 => have := HCN.out; omega
            case c5 => have := HBB.out; simp; omega
            intro v' w3 hown' hgrow hnil hat
            have hpush := HAR.out.push (w2 := w2.alloc (.cells #[v1] 20)) (w3 := w3) (v' := v') (HF2.out.alloc _) (HR1.out.frF ((Fr.refl _ _).alloc _)) HSZ2.out (by rw [List.length_take]; exact hown') hgrow (by rw [World.size_alloc]; exact hat)
            rw [← HTK.out] at hpush
            have HP := Lib.hid hpush
            have HF3 := Lib.hid (show Fr (fun _ => False) w1 w3 from (HF.out.trans HF2.out (fun i hi => hi.elim)).trans (G := fun k => some k = (Value.slice (some ⟨gv, 0, none⟩) nv cv).ownBlock) (((Fr.refl _ _).alloc _).grown hgrow (fun k hk => .inl hk.symm)) (fun i hi => .inr (by
              have hgv : gv = i := Option.some.inj hi.symm
              subst hgv
              rw [HSZ.out]
              exact HAR.out.ge)))
            obtain ⟨gv', nv', cv', rfl⟩ := hpush.ne
            clear hown' hgrow hnil hat hpush
            go_wp2_with fail
            go_roundw
            case rel => exact ⟨u + 1, _, by omega, by go_num, HF3.out, HP.out⟩
            case measure => simp [intOf]; omega
          · obtain rfl : u = m := by omega
            have hge : ¬ (u : Int) < (u : Int) := by omega
            have HFin := Lib.hid (show AR wr (fun b => g ≤ b) (ofV (.mk 4 n s b l)) (.iface 58 (.slice (some ⟨gv, 0, none⟩) nv cv)) from by
              have hd := HAR.out.done
              rw [List.take_of_length_le (by rw [ofVs_map, List.length_map]; exact Nat.le_of_eq HM.out.symm)] at hd
              rw [HOF.out]; exact hd.mono (fun b hb => by omega))
            clear hlt
            go_wp2_with fail
            go_ret
            exact ⟨_, rfl, by rw [← HW1.out.2]; exact HFin.out, HF0.out.trans HF.out (fun i hi => hi.elim)⟩
      · have HOF := Lib.hid (show ofV (.mk k n s b l) = .non by unfold ofV; rw [if_neg h1, if_neg h2, if_neg h3, if_neg h4])
        have t1 : (k == 1) = false := beq_eq_false_iff_ne.2 h1
        have t2 : (k == 2) = false := beq_eq_false_iff_ne.2 h2
        have t3 : (k == 3) = false := beq_eq_false_iff_ne.2 h3
        have t4 : (k == 4) = false := beq_eq_false_iff_ne.2 h4
        clear h1 h2 h3 h4
        go_enter Try.func18, Try.ntmps18
        go_wp2_with fail
        go_ret
        exact ⟨_, rfl, by rw [HOF.out]; exact .non, (Fr.refl _ _).alloc _⟩
end Go.Proofs.Ythmpmpepokeedaa
