/- LabelMore: helpers (appends of a slice of pairs) and the plain law. -/
import Derived.Test.YtcchhfkmhbjdmaaGreatLo
set_option linter.unusedVariables false
set_option linter.unusedSimpArgs false
set_option pp.deepTerms true
set_option pp.maxSteps 100000
namespace Go.Proofs.YtcchhfkmhbjdmaaGreat
open Go.RowKit
theorem buildP0 (w : World) : (Instr.buildSlice 24 0 #[]).run Tryz.prog w = .ok (.slice (some ⟨w.heap.size, 0, none⟩) 0 0) (w.alloc (.cells #[] 42)) := by
  obtain ⟨i0, hi, hz0, hz1, hz2⟩ := info_parts infoP
  simp [Instr.buildSlice, run_underlying Tryz.underlying24, sizeOf, typeInfo, hi, hz1, Instr.fill, newRow]
  rw [show Array.range 0 = #[] by decide +kernel, Array.map_empty]
theorem own0 (w : World) (B : Nat) (hB : B ≤ w.heap.size) : (w.alloc (.cells #[] 42)).ownsRow B 42 2 (.slice (some ⟨w.heap.size, 0, none⟩) 0 0) 0 [] :=
  ⟨rfl, .inr ⟨w.heap.size, 0, #[], rfl, hB, heap_alloc_new w _, Nat.le_refl _, Nat.zero_le _, rfl, rfl⟩⟩
theorem PB.range {w : World} {b : Nat} : ∀ {off : Nat} {l : List Pr}, PB w b off l → w.rangeAt b off (l.flatMap encP)
  | off, [], _ => fun j v hj => by simp at hj
  | off, x :: r, h => fun j v hj => by
    have ih : w.rangeAt b (off + 2) (r.flatMap encP) := PB.range (fun i y hy => by
      have := h (i + 1) y hy
      rw [show off + 2 + i * 2 = off + (i + 1) * 2 by omega]
      exact this)
    have h0 := h 0 x rfl
    rw [List.flatMap_cons] at hj
    by_cases hj2 : j < 2
    · rw [List.getElem?_append_left (by exact hj2)] at hj
      have := h0 j v hj
      rwa [show off + 0 * 2 + j = off + j by omega] at this
    · rw [List.getElem?_append_right (by show 2 ≤ j; omega)] at hj
      have := ih (j - 2) v hj
      rwa [show off + 2 + (j - 2) = off + j by omega] at this
theorem flat_len (l : List Pr) : (l.flatMap encP).length = l.length * 2 := by
  induction l with
  | nil => rfl
  | cons x r ih => rw [List.flatMap_cons, List.length_append, ih, encP_len, List.length_cons]; omega
theorem append_l (B : Nat) (v : Value) (n : Nat) (xs : List Value) (a : Option Addr) (cap : Nat) (l : List Pr) (w : World) (hown : w.ownsRow B 42 2 v n xs) (hl : PSl w a l) (hB : B ≤ w.heap.size) (hn : n + l.length ≤ 1000) :
    ∃ v' w', (Builtin.append_ #[24, 24] 24 #[v, .slice a l.length cap]).run Tryz.prog w = .ok v' w' ∧ w'.ownsRow B 42 2 v' (n + l.length) (xs ++ l.flatMap encP) ∧ w.grownBy w' v.ownBlock := by
  obtain ⟨i0, hi, hz0, hz1, hz2⟩ := info_parts infoP
  rcases hl with rfl | ⟨b, off, rfl, hpb, hb⟩
  · refine ⟨v, w, ?_, by simpa using hown, ⟨rfl, rfl, rfl, Nat.le_refl _, fun _ _ _ => rfl⟩⟩
    rcases hown.2 with ⟨rfl, rfl⟩ | ⟨g, cap', cur, rfl, hg, hgg, hnc, hrest⟩
    · cases a <;> simp [Builtin.append_, run_underlying Tryz.underlying24, sizeOf, typeInfo, hi, Builtin.lenOf, Builtin.firstCells, loadCells, loadCellsFrom]
    · cases a <;> simp [Builtin.append_, run_underlying Tryz.underlying24, sizeOf, typeInfo, hi, Builtin.lenOf, Builtin.firstCells, hnc, loadCells, loadCellsFrom, storeCells]
  · obtain ⟨v', w', hr, h1, h2, _⟩ := run_append_own (P := Tryz.prog) (w := w) B 24 24 42 i0 _ 2 32 Tryz.underlying24 hi hz0 hz1 hz2 rfl (by decide) v n xs hown ⟨b, off, none⟩ l.length cap (l.flatMap encP)
      (flat_len l) (fun j u hj => by rw [Addr.add_mid]; exact hpb.range j u hj) (fun u hu => by
        obtain ⟨p, _, hp⟩ := List.mem_flatMap.1 hu
        exact encP_one p u hp) (by unfold maxLen; omega) (by omega) hB
    exact ⟨v', w', hr, h1, h2⟩
theorem wp_append_run {op : Oper} {a : Act} {w : World} {K : Act → World → Prop} {Q : Exit → Act → World → Prop} (s y : Operand) (ho : op.op = .call { callee := .builtin .append, args := #[s, y], argTypes := #[24, 24] })
    (v' : Value) (w' : World) (hr : (Builtin.append_ #[24, 24] op.type #[a.eval s, a.eval y]).run Tryz.prog w = .ok v' w') (h : K (a.put op.dst v') w') : op.wp Tryz.prog a w K Q := by
  unfold Oper.wp execOp
  simp only [ho, resolve, invoke, builtin, Sem.run_bind, Sem.run_pure, Result.andThen_ok, List.map_toArray, List.map_cons, List.map_nil, hr]
  exact h
theorem wpList_append_run {ops : Array Oper} {rest : List Oper} {op : Oper} {a : Act} {w : World} {Q : Exit → Act → World → Prop} (hgd : op.guard = none) (s y : Operand) (ho : op.op = .call { callee := .builtin .append, args := #[s, y], argTypes := #[24, 24] })
    (v' : Value) (w' : World) (hr : (Builtin.append_ #[24, 24] op.type #[a.eval s, a.eval y]).run Tryz.prog w = .ok v' w') (h : wpList Tryz.prog ops Q rest (a.put op.dst v') w') : wpList Tryz.prog ops Q (op :: rest) a w :=
  wpList_plain hgd fun _ hK => wp_append_run s y ho v' w' hr (hK _ _ h)
section
variable {P : Program} {md : Region.Mode} {ops : Array Oper} {Q : Exit → Act → World → Prop} {S : World → Prop} {e : Nat}
theorem wpAnyT_two {i j fuel : Nat} {listed : Array Bool} {a : Act} {w : World} (hr : Region.ready md ops listed = [i, j])
    (h1 : wpOp P ops Q i (fun a' w' => Till S e (listed.setIfInBounds i true) w' ∧ wpAnyT P md ops Q S e fuel (listed.setIfInBounds i true) a' w') a w)
    (h2 : wpOp P ops Q j (fun a' w' => Till S e (listed.setIfInBounds j true) w' ∧ wpAnyT P md ops Q S e fuel (listed.setIfInBounds j true) a' w') a w) : wpAnyT P md ops Q S e (fuel + 1) listed a w :=
  ⟨fun h0 => (by rw [hr] at h0; cases h0), fun k hk => (by
    rw [hr] at hk
    simp at hk
    rcases hk with rfl | rfl
    · exact h1
    · exact h2)⟩
end
theorem wp_build0 {op : Oper} {a : Act} {w : World} {K : Act → World → Prop} {Q : Exit → Act → World → Prop} (ho : op.op = .buildSlice 24 0 #[]) (v' : Value) (w' : World)
    (hr : (Instr.buildSlice 24 0 #[]).run Tryz.prog w = .ok v' w') (h : K (a.put op.dst v') w') : op.wp Tryz.prog a w K Q := by
  unfold Oper.wp execOp
  simp only [ho, Array.map_empty, Sem.run_bind, hr, Result.andThen_ok]
  exact h
theorem wpList_build0 {ops : Array Oper} {rest : List Oper} {op : Oper} {a : Act} {w : World} {Q : Exit → Act → World → Prop} (hgd : op.guard = none) (ho : op.op = .buildSlice 24 0 #[]) (v' : Value) (w' : World)
    (hr : (Instr.buildSlice 24 0 #[]).run Tryz.prog w = .ok v' w') (h : wpList Tryz.prog ops Q rest (a.put op.dst v') w') : wpList Tryz.prog ops Q (op :: rest) a w :=
  wpList_plain hgd fun _ hK => wp_build0 ho v' w' hr (hK _ _ h)
theorem wp_build1 {op : Oper} {a : Act} {w : World} {K : Act → World → Prop} {Q : Exit → Act → World → Prop} (x : Operand) (ho : op.op = .buildSlice 24 1 #[(0, x)]) (v' : Value) (w' : World)
    (hr : (Instr.buildSlice 24 1 #[(0, a.eval x)]).run Tryz.prog w = .ok v' w') (h : K (a.put op.dst v') w') : op.wp Tryz.prog a w K Q := by
  unfold Oper.wp execOp
  simp only [ho, List.map_toArray, List.map_cons, List.map_nil, Sem.run_bind, hr, Result.andThen_ok]
  exact h
theorem step0 (B : Nat) (W : World) (hB : B ≤ W.heap.size) : ∃ W' g, (Instr.buildSlice 24 0 #[]).run Tryz.prog W = .ok (.slice (some ⟨g, 0, none⟩) 0 0) W' ∧ W'.ownsRow B 42 2 (.slice (some ⟨g, 0, none⟩) 0 0) 0 [] ∧ Fr (fun _ => False) W W' ∧ g = W.heap.size :=
  ⟨_, _, buildP0 W, own0 W B hB, (Fr.refl _ W).alloc _, rfl⟩
theorem step4 (p : Pr) (W : World) : ∃ W' g, (Instr.buildSlice 24 1 #[(0, .agg #[.string (str p.1), .string (str p.2)])]).run Tryz.prog W = .ok (.slice (some ⟨g, 0, none⟩) 1 1) W' ∧ PSl W' (some ⟨g, 0, none⟩) [p] ∧ Fr (fun _ => False) W W' ∧ g = W.heap.size ∧ g < W'.heap.size :=
  ⟨_, _, buildP (str p.1) (str p.2) W, .inr ⟨_, _, rfl, fun i y hy => by
    match i, hy with
    | 0, hy =>
      obtain rfl : p = y := by simpa using hy
      intro j v hj
      rw [Nat.zero_mul, Nat.zero_add, cell_of_row _ _ _ _ _ _ (heap_alloc_new W _)]
      simpa [encP] using hj
    | i + 1, hy => simp at hy, lt_of_heap (heap_alloc_new W _)⟩, (Fr.refl _ W).alloc _, rfl, lt_of_heap (heap_alloc_new W _)⟩
theorem step2 (B g : Nat) (a : Option Addr) (cap : Nat) (l : List Pr) (W : World) (hown : W.ownsRow B 42 2 (.slice (some ⟨g, 0, none⟩) 0 0) 0 []) (hl : PSl W a l) (hB : B ≤ W.heap.size) (hn : l.length ≤ 500) :
    ∃ v' W', (Builtin.append_ #[24, 24] 24 #[.slice (some ⟨g, 0, none⟩) 0 0, .slice a l.length cap]).run Tryz.prog W = .ok v' W' ∧ W'.ownsRow B 42 2 v' l.length (l.flatMap encP) ∧ Fr (fun k => k = g) W W' := by
  obtain ⟨v', W', hr, h1, h2⟩ := append_l B _ 0 [] a cap l W hown hl hB (by omega)
  rw [Nat.zero_add, List.nil_append] at h1
  exact ⟨v', W', hr, h1, (Fr.refl _ W).grown h2 (fun k hk => .inl (Option.some.inj hk).symm)⟩
theorem step5 (B : Nat) (v : Value) (a : Option Addr) (p : Pr) (l : List Pr) (W : World) (hown : W.ownsRow B 42 2 v l.length (l.flatMap encP)) (hp : PSl W a [p]) (hB : B ≤ W.heap.size) (hn : l.length ≤ 500) :
    ∃ v' W', (Builtin.append_ #[24, 24] 24 #[v, .slice a 1 1]).run Tryz.prog W = .ok v' W' ∧ PV W' v' (l ++ [p]) ∧ Fr (fun k => v.ownBlock = some k) W W' := by
  obtain ⟨v', W', hr, h1, h2⟩ := append_l B v l.length (l.flatMap encP) a 1 [p] W hown hp hB (by simp; omega)
  refine ⟨v', W', hr, pv_of_own (B := B) ?_, (Fr.refl _ W).grown h2 (fun k hk => .inl hk)⟩
  rw [List.length_append, List.flatMap_append]
  exact h1
theorem str_bk (s : ByteArray) : str s.data.toList = s := by
  obtain ⟨⟨l⟩⟩ := s
  rfl
theorem pb_of_own {W : World} {B g n c : Nat} {l : List Pr} (h : W.ownsRow B 42 2 (.slice (some ⟨g, 0, none⟩) n c) n (l.flatMap encP)) (hn : n = l.length) : PB W g 0 l := by
  subst hn
  obtain ⟨a, cap, hv, hp, _⟩ := pv_of_own h
  cases hv
  rcases hp with rfl | ⟨b, off, e, hp, _⟩
  · exact fun i y hy => by simp at hy
  · cases e; exact hp
theorem other_ps {W : World} {B g n c : Nat} {l : List Pr} (h : W.ownsRow B 42 2 (.slice (some ⟨g, 0, none⟩) n c) n (l.flatMap encP)) (hn : n = l.length) {q : Nat} (hq : q < l.length) (s : List UInt8) :
    B ≤ g ∧ n ≤ c ∧ c ≤ 9223372036854775807 ∧ (∃ u, W.cell? ⟨g, q * 2 + 1, none⟩ = some u) ∧ W.frozen? ⟨g, q * 2 + 1, none⟩ = false ∧ PSl (W.setCell ⟨g, q * 2 + 1, none⟩ (.string (str s))) (some ⟨g, 0, none⟩) (l.set q (l[q].1, s)) := by
  rcases h.2 with ⟨h0, _⟩ | ⟨g', cap, cur, hv, hb, hg, hlc, hcm, hcs, ht⟩
  · cases h0
  cases hv
  have hpb := pb_of_own h hn
  obtain ⟨c0, c1⟩ := hpb.cells q hq
  rw [Nat.zero_add] at c0 c1
  refine ⟨hb, hlc, hcm, ⟨_, c1⟩, frozen_of_row W g (q * 2 + 1) _ _ hg, .inr ⟨g, 0, rfl, fun i y hy => ?_, ?_⟩⟩
  · have hi : i < l.length := by
      have := (List.getElem?_eq_some_iff.1 hy).1
      rwa [List.length_set] at this
    obtain ⟨d0, d1⟩ := hpb.cells i hi
    intro j v hj
    rw [Nat.zero_add]
    rw [Nat.zero_add] at d0 d1
    rw [List.getElem?_set] at hy
    by_cases hiq : q = i
    · subst hiq
      rw [if_pos rfl, if_pos hi] at hy
      obtain rfl := Option.some.inj hy
      match j, hj with
      | 0, hj =>
        rw [World.cell?_setCell_other W _ _ _ (by intro e; injection e with _ e2 _; omega)]
        exact d0.trans hj
      | 1, hj =>
        rw [World.cell?_setCell_same W _ _ d1]; exact hj
      | j + 2, hj => simp [encP] at hj
    · rw [if_neg hiq, List.getElem?_eq_getElem hi] at hy
      obtain rfl := Option.some.inj hy
      match j, hj with
      | 0, hj =>
        rw [World.cell?_setCell_other W _ _ _ (by intro e; injection e with _ e2 _; omega)]
        exact d0.trans hj
      | 1, hj =>
        rw [World.cell?_setCell_other W _ _ _ (by intro e; injection e with _ e2 _; omega)]
        exact d1.trans hj
      | j + 2, hj => simp [encP] at hj
  · have := lt_of_heap hg
    simpa [World.setCell] using this
/-! ### plain -/
theorem sub_more {l : List Pr} {p : Pr} (h : rightB (l ++ [p]) = true) : subB l (l ++ [p]) = true ∧ subB (l ++ [p]) l = false ∧ eqB l (l ++ [p]) = false := by
  obtain ⟨h1, h2, h3⟩ := (rightB_iff _).1 h
  have hl : rightB l = true := (rightB_iff l).2 ⟨fun q hq => h1 q (List.mem_append_left _ hq), by
    rw [List.map_append] at h2; exact (List.nodup_append.1 h2).1, by rw [List.length_append] at h3; omega⟩
  have hnp : p ∉ l := fun hp => by
    rw [List.map_append] at h2
    exact (List.nodup_append.1 h2).2.2 p.1 (List.mem_map_of_mem hp) p.1 (by simp) rfl
  have hb : subB (l ++ [p]) l = false := by
    unfold subB
    rw [h, hl, List.all_append]
    simp [hnp]
  refine ⟨?_, hb, by rw [eqB_sub, hb, Bool.and_false]⟩
  unfold subB
  rw [h, hl]
  simp only [Bool.and_self, Bool.true_and, List.all_eq_true, List.contains_iff_mem]
  exact fun q hq => List.mem_append_left _ hq
theorem eqB_more {l : List Pr} {p : Pr} (h : eqB (l ++ [p]) (l ++ [p]) = true) : subB l (l ++ [p]) = true ∧ subB (l ++ [p]) l = false ∧ eqB l (l ++ [p]) = false := by
  unfold eqB at h
  simp only [Bool.and_eq_true] at h
  exact sub_more h.1.1
theorem nodup_inj {α : Type} {l : List α} (h : l.Nodup) {i j : Nat} (hi : i < l.length) (hj : j < l.length) (e : l[i] = l[j]) : i = j := by
  rw [List.nodup_iff_pairwise_ne, List.pairwise_iff_getElem] at h
  rcases Nat.lt_trichotomy i j with hlt | he | hlt
  · exact absurd e (h i j hi hj hlt)
  · exact he
  · exact absurd e.symm (h j i hj hi hlt)
theorem sub_turn {l m : List Pr} {q : Nat} (hq : q < l.length) (hqm : q < m.length) (hk : l[q].1 = m[q].1) (hv : l[q].2 ≠ m[q].2) (hkeys : l.map (·.1) = m.map (·.1)) : subB l m = false := by
  cases hl : rightB l with
  | false => unfold subB; rw [hl]; rfl
  | true =>
    cases hm : rightB m with
    | false => unfold subB; rw [hm]; simp
    | true =>
      have hnd := ((rightB_iff m).1 hm).2.1
      have hn : l[q] ∉ m := fun hmem => by
        obtain ⟨j, hj, he⟩ := List.getElem_of_mem hmem
        have : j = q := by
          by_cases hjq : j = q
          · exact hjq
          · exfalso
            have h1 : (m.map (·.1))[j]'(by simpa using hj) = (m.map (·.1))[q]'(by simpa using hqm) := by
              rw [List.getElem_map, List.getElem_map, he, hk]
            exact hjq (nodup_inj hnd _ _ h1)
        subst this
        exact hv (by rw [he])
      unfold subB
      rw [hl, hm]
      simp only [Bool.and_self, Bool.true_and]
      rw [List.all_eq_false]
      exact ⟨l[q], List.getElem_mem hq, by simpa using hn⟩
theorem turned {l : List Pr} {q : Nat} (hq : q < l.length) (v : List UInt8) (hv : l[q].2 ≠ v) : subB l (l.set q (l[q].1, v)) = false ∧ subB (l.set q (l[q].1, v)) l = false ∧ eqB l (l.set q (l[q].1, v)) = false := by
  have hqm : q < (l.set q (l[q].1, v)).length := by rw [List.length_set]; exact hq
  have hg : (l.set q (l[q].1, v))[q] = (l[q].1, v) := List.getElem_set_self _
  have hkeys : l.map (·.1) = (l.set q (l[q].1, v)).map (·.1) := by
    rw [List.map_set]
    apply List.ext_getElem
    · simp
    · intro i h1 h2
      rw [List.getElem_set]
      split
      · next h => subst h; simp
      · rfl
  have a1 := sub_turn hq hqm (by rw [hg]) (by rw [hg]; exact hv) hkeys
  have a2 := sub_turn hqm hq (by rw [hg]) (by rw [hg]; exact fun e => hv e.symm) hkeys.symm
  exact ⟨a1, a2, by rw [eqB_sub, a1]; rfl⟩
end Go.Proofs.YtcchhfkmhbjdmaaGreat
