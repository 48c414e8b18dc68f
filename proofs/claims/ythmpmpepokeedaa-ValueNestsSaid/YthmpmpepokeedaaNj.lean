/- Values: the document's parse walked: lists; Parse. -/
import Derived.Test.YthmpmpepokeedaaNi
set_option linter.unusedVariables false
set_option linter.unusedSimpArgs false
set_option pp.deepTerms true
set_option pp.maxSteps 100000
namespace Go.Proofs.Ythmpmpepokeedaa
open Go.RowKit
theorem infoV : (Try.prog.info? 36).map (fun i => (i.zero, i.size, i.bytes)) = some (some (.agg #[.int .i64 0, .int .i64 0, .string ⟨#[]⟩, .bool false, .slice none 0 0]), 5, 64) := by kernel_rfl
theorem VR.one {w : World} {D : Nat → Prop} {t : VT} {cs : List Value} (h : VR w D t cs) : ∀ v ∈ cs, v.oneCell' = true := by
  cases h
  intro v hv
  simp only [List.mem_cons, List.not_mem_nil, or_false] at hv
  rcases hv with rfl | rfl | rfl | rfl | rfl <;> rfl
theorem VR.lt {w : World} {D : Nat → Prop} {t : VT} {cs : List Value} (h : VR w D t cs) : VR w (fun i => D i ∧ i < w.heap.size) t cs := by
  induction h with
  | mk k n s b l a cap cs hlc hcap hs ha h ih =>
    refine .mk k n s b l a cap cs hlc hcap hs ?_ ih
    rcases ha with h0 | ⟨g, off, e, hg, hr⟩
    · exact .inl h0
    · cases l with
      | nil => exact .inl rfl
      | cons t r =>
        refine .inr ⟨g, off, e, ⟨hg, ?_⟩, hr⟩
        have h5 := (h 0 t rfl).five
        have hc := hr 0 t rfl 0 ((cs 0)[0]'(by omega)) (List.getElem?_eq_getElem (by omega))
        exact World.block_lt_of_cell? w _ hc
/-- A row of the document's values that is being made. -/
structure VRow (w : World) (B : Nat) (v : Value) (l : List VT) (xs : List Value) : Prop where
  own : w.ownsRow B 36 5 v l.length xs
  at_ : ∀ (i : Nat) (t : VT), l[i]? = some t → ∃ cs, cs.length = 5 ∧ (∀ (k : Nat) (u : Value), cs[k]? = some u → xs[i * 5 + k]? = some u) ∧ VR w (fun b => B ≤ b ∧ v.ownBlock ≠ some b) t cs
theorem VRow.ge {w : World} {B : Nat} {v : Value} {l : List VT} {xs : List Value} (h : VRow w B v l xs) (k : Nat) (hk : v.ownBlock = some k) : B ≤ k ∧ k < w.heap.size := by
  rcases h.own.2 with ⟨hv, _⟩ | ⟨g, cap, cur, rfl, hb, hg, _⟩
  · rw [hv] at hk; cases hk
  · cases hk; exact ⟨hb, lt_of_heap hg⟩
theorem VRow.fr {w w' : World} {B : Nat} {v : Value} {l : List VT} {xs : List Value} {F : Nat → Prop} (h : VRow w B v l xs) (hf : Fr F w w') (hF : ∀ k, B ≤ k → ¬ F k) : VRow w' B v l xs :=
  ⟨hf.own h.own (fun k hk => hF k (h.ge k hk).1), fun i a ha => by
    obtain ⟨cs, h5, hx, hr⟩ := h.at_ i a ha
    exact ⟨cs, h5, hx, hr.fr hf (fun k hk => hF k hk.1)⟩⟩
theorem VRow.push {w w2 w3 : World} {B : Nat} {v v' : Value} {l : List VT} {xs : List Value} {a : VT} {cs : List Value} (h : VRow w B v l xs) (hf : Fr (fun _ => False) w w2) (hr : VR w2 (fun b => w.heap.size ≤ b) a cs)
    (hB : B ≤ w.heap.size) (h1 : w3.ownsRow B 36 5 v' (l.length + 1) (xs ++ cs)) (h2 : w2.grownBy w3 v.ownBlock) (h4 : v'.ownBlock = v.ownBlock ∨ v'.ownBlock = some w2.heap.size) : VRow w3 B v' (l ++ [a]) (xs ++ cs) := by
  have hfg : Fr (fun k => v.ownBlock = some k) w2 w3 := (Fr.refl _ _).grown h2 (fun k hk => .inl hk)
  have hD : ∀ b, (v.ownBlock ≠ some b) → b < w2.heap.size → v'.ownBlock ≠ some b := fun b hb hlt e => by
    rcases h4 with h4 | h4
    · exact hb (h4 ▸ e)
    · rw [h4] at e; cases e; omega
  have hlx : xs.length = l.length * 5 := by have := h.own.1; simpa using this
  refine ⟨by rw [List.length_append]; exact h1, fun i y hy => ?_⟩
  by_cases hi : i < l.length
  · rw [List.getElem?_append_left hi] at hy
    obtain ⟨cs', h5, hx', hr'⟩ := h.at_ i y hy
    refine ⟨cs', h5, fun k u hu => ?_, ?_⟩
    · have hk5 : k < 5 := by have := (List.getElem?_eq_some_iff.1 hu).1; omega
      rw [List.getElem?_append_left (by omega)]; exact hx' k u hu
    · have hq := (hr'.frF hf).lt
      exact (hq.fr hfg (fun b hb e => hb.1.2 e)).mono (fun b hb => ⟨hb.1.1, hD b hb.1.2 hb.2⟩)
  · have hil : i = l.length := by
      have := (List.getElem?_eq_some_iff.1 hy).1
      rw [List.length_append] at this
      simp at this; omega
    subst hil
    rw [List.getElem?_append_right (Nat.le_refl _)] at hy
    simp at hy
    subst hy
    refine ⟨cs, hr.five, fun k u hu => by rw [List.getElem?_append_right (by omega), hlx, show l.length * 5 + k - l.length * 5 = k by omega]; exact hu, ?_⟩
    have hnv : ∀ b, w.heap.size ≤ b → v.ownBlock ≠ some b := fun b hb e => by have := (h.ge b e).2; omega
    exact (hr.lt.fr hfg (fun b hb e => hnv b hb.1 e)).mono (fun b hb => ⟨by have := hb.1; omega, hD b (hnv b hb.1) hb.2⟩)
theorem VRow.shape {w : World} {B : Nat} {v : Value} {l : List VT} {xs : List Value} (h : VRow w B v l xs) : ∃ a n c, v = .slice a n c := by
  rcases h.own.2 with ⟨hv, _⟩ | ⟨g, cap, cur, hv, _⟩
  · exact ⟨_, _, _, hv⟩
  · exact ⟨_, _, _, hv⟩
theorem VRow.done {w : World} {B : Nat} {v : Value} {l : List VT} {xs : List Value} (h : VRow w B v l xs) : VR w (fun b => B ≤ b) (.mk 4 0 [] false l) [.int .i64 4, .int .i64 0, .string ⟨#[]⟩, .bool false, v] := by
  rcases h.own.2 with ⟨hv, hn⟩ | ⟨g, cap, cur, hv, hb, hg, hlc, hcm, hcs, ht⟩
  · have hl : l = [] := List.eq_nil_of_length_eq_zero (by omega)
    subst hl
    rw [hv]
    exact .mk 4 0 [] false [] none 0 (fun _ => []) (Nat.le_refl _) (by decide) (by decide) (.inl rfl) (fun i t h => by simp at h)
  · rw [hv]
    have hx : ∀ (i : Nat) (t : VT), l[i]? = some t → VR w (fun b => B ≤ b) t ((xs.drop (i * 5)).take 5) ∧ ∀ (k : Nat) (u : Value), ((xs.drop (i * 5)).take 5)[k]? = some u → xs[i * 5 + k]? = some u := fun i t hi => by
      obtain ⟨cs, h5, hx, hr⟩ := h.at_ i t hi
      have he : (xs.drop (i * 5)).take 5 = cs := by
        apply List.ext_getElem?
        intro k
        rw [List.getElem?_take]
        split
        · rename_i hk
          rw [List.getElem?_drop, List.getElem?_eq_getElem (show k < cs.length by omega)]
          exact hx k _ (List.getElem?_eq_getElem (by omega))
        · rename_i hk
          rw [List.getElem?_eq_none (by omega)]
      rw [he]
      exact ⟨hr.mono (fun b hb => hb.1), hx⟩
    refine .mk 4 0 [] false l (some ⟨g, 0, none⟩) cap (fun i => (xs.drop (i * 5)).take 5) hlc (by unfold maxLen at hcm; omega) (by decide) (.inr ⟨g, 0, rfl, hb, fun i t hi k u hu => ?_⟩) (fun i t hi => (hx i t hi).1)
    have h1 := (hx i t hi).2 k u hu
    have hkl : i * 5 + k < xs.length := (List.getElem?_eq_some_iff.1 h1).1
    rw [cell_of_row w g (0 + i * 5 + k) _ _ _ hg, Nat.zero_add, ← Array.getElem?_toList]
    have hlx : xs.length = l.length * 5 := by have := h.own.1; simpa using this
    rw [← ht, List.getElem?_take] at h1
    split at h1
    · exact h1
    · cases h1
theorem buildV1 (cs : List Value) (h5 : cs.length = 5) (w : World) : (Instr.buildSlice 34 1 #[(0, .agg cs.toArray)]).run Try.prog w = .ok (.slice (some ⟨w.heap.size, 0, none⟩) 1 1) (w.alloc (.cells cs.toArray 36)) :=
  run_buildSlice_one w _ _ cs.toArray #[.int .i64 0, .int .i64 0, .string ⟨#[]⟩, .bool false, .slice none 0 0] Try.underlying34 (by rw [show cs.toArray.size = 5 by simpa using h5]; kernel_rfl) (by simp; omega) (by simp; omega)
theorem wpList_buildV1 {ops : Array Oper} {rest : List Oper} {op : Oper} {a : Act} {w : World} {Q : Exit → Act → World → Prop} (hgd : op.guard = none) (x : Operand) (ho : op.op = .buildSlice 34 1 #[(0, x)]) (cs : List Value) (hx : a.eval x = .agg cs.toArray) (h5 : cs.length = 5)
    (h : wpList Try.prog ops Q rest (a.put op.dst (.slice (some ⟨w.heap.size, 0, none⟩) 1 1)) (w.alloc (.cells cs.toArray 36))) : wpList Try.prog ops Q (op :: rest) a w :=
  wpList_plain hgd fun _ hK => by
    unfold Oper.wp execOp
    simp only [ho, hx, List.map_toArray, List.map_cons, List.map_nil, Sem.run_bind, Sem.run_pure, buildV1 cs h5, Result.andThen_ok]
    exact hK _ _ h
theorem toVs_append (l m : List AV) : toVs (l ++ m) = toVs l ++ toVs m := by rw [toVs_map, toVs_map, toVs_map, List.map_append]
theorem toVs_length (l : List AV) : (toVs l).length = l.length := by rw [toVs_map, List.length_map]
set_option maxRecDepth 20000 in
set_option maxHeartbeats 8000000 in
theorem rparse_bad (j d : Nat) (hj : d + j = 8) (l : List UInt8) (p : Nat) (h : UInt8) (s : List UInt8) (hd : l.drop p = h :: s) (hl : l.length ≤ 4611686018427387904) (hk : h = 108) (hbad : s = [] ∨ j = 0) (w : World) :
    Calls Try.prog 56 #[.string (str l), .int .i64 (p : Int), .int .i64 (d : Int)] w (RpP j l p w) := by
  obtain ⟨S, hS⟩ : ∃ x, x = str l := ⟨_, rfl⟩
  rw [← hS]
  have hSs : S.size = l.length := by rw [hS, str_size]
  obtain ⟨hg0, hs1, hlen1⟩ := drop_get hd
  have hx := run_at l S hS p h hg0
  have hpl : p < S.size := by omega
  have q0 : decide ((S.size : Int) ≤ (p : Int)) = false := decide_eq_false (by omega)
  have q0' : decide (S.size ≤ p) = false := decide_eq_false (by omega)
  have q0i : (p : Int) < (S.size : Int) := by omega
  have hsb : S.size ≤ 4611686018427387904 := by omega
  have HSS := Lib.hid (And.intro hS hSs)
  have HS1 := Lib.hid (And.intro hs1 hlen1)
  have HD0 := Lib.hid hd
  have HW1 := Lib.hid (rfl : w.alloc (.cells #[.int .i64 0, .int .i64 0, .string ⟨#[]⟩, .bool false, .slice none 0 0] 36) = w.alloc (.cells #[.int .i64 0, .int .i64 0, .string ⟨#[]⟩, .bool false, .slice none 0 0] 36))
  clear hg0 hd
  have k105 : ((h.toNat : Int) == 105) = false := beq_eq_false_iff_ne.2 (by subst hk; decide)
  have k105' : (h.toNat == 105) = false := beq_eq_false_iff_ne.2 (by subst hk; decide)
  have k115 : ((h.toNat : Int) == 115) = false := beq_eq_false_iff_ne.2 (by subst hk; decide)
  have k115' : (h.toNat == 115) = false := beq_eq_false_iff_ne.2 (by subst hk; decide)
  have k121 : ((h.toNat : Int) == 121) = false := beq_eq_false_iff_ne.2 (by subst hk; decide)
  have k121' : (h.toNat == 121) = false := beq_eq_false_iff_ne.2 (by subst hk; decide)
  have k110 : ((h.toNat : Int) == 110) = false := beq_eq_false_iff_ne.2 (by subst hk; decide)
  have k110' : (h.toNat == 110) = false := beq_eq_false_iff_ne.2 (by subst hk; decide)
  have k108 : ((h.toNat : Int) == 108) = true := by subst hk; rfl
  have k108' : (h.toNat == 108) = true := by subst hk; rfl
  obtain ⟨p2, hp2⟩ : ∃ q, q = p + 2 := ⟨_, rfl⟩
  have w2 : IntKind.i64.wrap ((p : Int) + 2) = (p2 : Int) := by rw [IntWalk.i64_in _ (by omega)]; omega
  have HD := Lib.hid (show decA j (l.drop p) = none by
    rw [HD0.out, hk]
    rcases hbad with rfl | rfl
    · cases j <;> rfl
    · rfl)
  by_cases hs0 : s.length < 1
  · have t1 : decide ((S.size : Int) < (p2 : Int)) = true := decide_eq_true (by omega)
    have t1' : decide (S.size < p2) = true := decide_eq_true (by omega)
    clear hk hbad hs0 hp2
    clear hS hSs hs1 hlen1 hl
    go_enter Try.func56, Try.ntmps56
    go_wp2_with (first | (with_reducible refine wpList_store_fresh (op := ⟨none, .store 36 _ _, _, _, _, _⟩) rfl 36 _ _ rfl w #[.int .i64 0, .int .i64 0, .string ⟨#[]⟩, .bool false, .slice none 0 0] #[.int .i64 0, .int .i64 0, .string ⟨#[]⟩, .bool false, .slice none 0 0] HW1.out rfl rfl rfl (by kernel_rfl) (by simp [Value.oneCell']) ?_))
    refine bodyPost_ret (results_cell_tmp_row rfl _ _ w.heap.size 36 #[.int .i64 0, .int .i64 0, .string ⟨#[]⟩, .bool false, .slice none 0 0] (0, 0) _ (.int .i64 (-1)) rfl rfl (heap_alloc_new w _) Try.underlying36 rfl (by kernel_rfl)) rfl ?_
    exact RpP.no HD.out ((Fr.refl _ _).alloc _)
  · have t1 : decide ((S.size : Int) < (p2 : Int)) = false := decide_eq_false (by omega)
    have t1' : decide (S.size < p2) = false := decide_eq_false (by omega)
    have hd8 : d = 8 := by
      rcases hbad with rfl | rfl
      · exact absurd (by decide) hs0
      · omega
    have t2 : decide ((8 : Int) ≤ (d : Int)) = true := decide_eq_true (by omega)
    have t2' : decide (8 ≤ d) = true := decide_eq_true (by omega)
    clear hk hbad hs0 hp2 hd8 hj
    clear hS hSs hs1 hlen1 hl
    go_enter Try.func56, Try.ntmps56
    go_wp2_with (first | (with_reducible refine wpList_store_fresh (op := ⟨none, .store 36 _ _, _, _, _, _⟩) rfl 36 _ _ rfl w #[.int .i64 0, .int .i64 0, .string ⟨#[]⟩, .bool false, .slice none 0 0] #[.int .i64 0, .int .i64 0, .string ⟨#[]⟩, .bool false, .slice none 0 0] HW1.out rfl rfl rfl (by kernel_rfl) (by simp [Value.oneCell']) ?_))
    refine bodyPost_ret (results_cell_tmp_row rfl _ _ w.heap.size 36 #[.int .i64 0, .int .i64 0, .string ⟨#[]⟩, .bool false, .slice none 0 0] (0, 0) _ (.int .i64 (-1)) rfl rfl (heap_alloc_new w _) Try.underlying36 rfl (by kernel_rfl)) rfl ?_
    exact RpP.no HD.out ((Fr.refl _ _).alloc _)
set_option maxRecDepth 20000 in
set_option maxHeartbeats 16000000 in
theorem rparse_calls (j : Nat) : ∀ (d : Nat) (hj : d + j = 8) (l : List UInt8) (p : Nat) (hp : p ≤ l.length) (hl : l.length ≤ 4611686018427387904) (w : World),
    Calls Try.prog 56 #[.string (str l), .int .i64 (p : Int), .int .i64 (d : Int)] w (RpP j l p w) := by
  induction j with
  | zero =>
    intro d hj l p hp hl w
    cases hd : l.drop p with
    | nil => exact rparse_end 0 d l p (by have := congrArg List.length hd; rw [List.length_drop] at this; simp at this; omega) hl w
    | cons h s =>
      by_cases hk : h = 108
      · exact rparse_bad 0 d hj l p h s hd hl hk (.inr rfl) w
      · exact rparse_leaf 0 d l p h s hd hl hk w
  | succ j ih =>
    intro d hj l p hp hl w
    cases hd : l.drop p with
    | nil => exact rparse_end (j + 1) d l p (by have := congrArg List.length hd; rw [List.length_drop] at this; simp at this; omega) hl w
    | cons h s =>
      by_cases hk : h = 108
      rotate_left
      · exact rparse_leaf (j + 1) d l p h s hd hl hk w
      cases hs : s with
      | nil => subst hs; exact rparse_bad (j + 1) d hj l p h [] hd hl hk (.inl rfl) w
      | cons c r =>
        have HIH := Lib.hid ih
        have HJ := Lib.hid (show d + 1 + j = 8 by omega)
        have hd7 : d ≤ 7 := by omega
        have t2 : decide ((8 : Int) ≤ (d : Int)) = false := decide_eq_false (by omega)
        have t2' : decide (8 ≤ d) = false := decide_eq_false (by omega)
        obtain ⟨i0, hi, hz0, hz1, hz2⟩ := info_parts infoV
        have HI := Lib.hid (And.intro hi (And.intro hz0 (And.intro hz1 hz2)))
        clear hi hz0 hz1 hz2 ih hj hp
        obtain ⟨S, hS⟩ : ∃ x, x = str l := ⟨_, rfl⟩
        rw [← hS]
        have hSs : S.size = l.length := by rw [hS, str_size]
        obtain ⟨hg0, hs1, hlen1⟩ := drop_get hd
        have hx := run_at l S hS p h hg0
        have hpl : p < S.size := by omega
        have q0 : decide ((S.size : Int) ≤ (p : Int)) = false := decide_eq_false (by omega)
        have q0' : decide (S.size ≤ p) = false := decide_eq_false (by omega)
        have q0i : (p : Int) < (S.size : Int) := by omega
        have hsb : S.size ≤ 4611686018427387904 := by omega
        have HSS := Lib.hid (And.intro hS hSs)
        have HS1 := Lib.hid (And.intro hs1 hlen1)
        have HD0 := Lib.hid hd
        have HW1 := Lib.hid (rfl : w.alloc (.cells #[.int .i64 0, .int .i64 0, .string ⟨#[]⟩, .bool false, .slice none 0 0] 36) = w.alloc (.cells #[.int .i64 0, .int .i64 0, .string ⟨#[]⟩, .bool false, .slice none 0 0] 36))
        clear hg0 hd
        have k105 : ((h.toNat : Int) == 105) = false := beq_eq_false_iff_ne.2 (by subst hk; decide)
        have k105' : (h.toNat == 105) = false := beq_eq_false_iff_ne.2 (by subst hk; decide)
        have k115 : ((h.toNat : Int) == 115) = false := beq_eq_false_iff_ne.2 (by subst hk; decide)
        have k115' : (h.toNat == 115) = false := beq_eq_false_iff_ne.2 (by subst hk; decide)
        have k121 : ((h.toNat : Int) == 121) = false := beq_eq_false_iff_ne.2 (by subst hk; decide)
        have k121' : (h.toNat == 121) = false := beq_eq_false_iff_ne.2 (by subst hk; decide)
        have k110 : ((h.toNat : Int) == 110) = false := beq_eq_false_iff_ne.2 (by subst hk; decide)
        have k110' : (h.toNat == 110) = false := beq_eq_false_iff_ne.2 (by subst hk; decide)
        have k108 : ((h.toNat : Int) == 108) = true := by subst hk; rfl
        have k108' : (h.toNat == 108) = true := by subst hk; rfl
        have hsl : s.length = r.length + 1 := by rw [hs]; rfl
        obtain ⟨p2, hp2⟩ : ∃ q, q = p + 2 := ⟨_, rfl⟩
        obtain ⟨p1, hp1⟩ : ∃ q, q = p + 1 := ⟨_, rfl⟩
        have w2 : IntKind.i64.wrap ((p : Int) + 2) = (p2 : Int) := by rw [IntWalk.i64_in _ (by omega)]; omega
        have w1 : IntKind.i64.wrap ((p : Int) + 1) = (p1 : Int) := by rw [IntWalk.i64_in _ (by omega)]; omega
        have i1 : (p1 : Int) < (S.size : Int) := by omega
        have i1' : p1 < S.size := by omega
        have hxc := run_at l S hS p1 c (by rw [hp1]; exact drop_at hs1 0 c (by rw [hs]; rfl))
        have t1 : decide ((S.size : Int) < (p2 : Int)) = false := decide_eq_false (by omega)
        have t1' : decide (S.size < p2) = false := decide_eq_false (by omega)
        obtain ⟨n, hn⟩ : ∃ n, n = c.toNat := ⟨_, rfl⟩
        have hn256 : n ≤ 255 := by rw [hn]; have := c.toNat_lt; omega
        have wn : IntKind.i64.wrap (c.toNat : Int) = (n : Int) := by rw [IntWalk.i64_in _ (by omega), hn]
        have hr2 : r = l.drop p2 := by
          have := hs1
          rw [hs] at this
          have h3 := congrArg (List.drop 1) this
          rw [List.drop_drop, List.drop_succ_cons, List.drop_zero] at h3
          rw [h3]; congr 1; omega
        have HRr := Lib.hid (show r = l.drop (l.length - r.length) ∧ r.length ≤ l.length ∧ p2 = l.length - r.length from ⟨by rw [show l.length - r.length = p2 by omega]; exact hr2, by omega, by omega⟩)
        have HDD := Lib.hid (show decA (j + 1) (l.drop p) = (decN (decA j) n r).map (fun x => (.row x.1, x.2)) by rw [HD0.out, hk, hs, hn]; rfl)
        have HLl := Lib.hid hl
        obtain ⟨Rb, hRb⟩ : ∃ g, g = w.heap.size := ⟨_, rfl⟩
        have hG2 : ((w.alloc (.cells #[.int .i64 0, .int .i64 0, .string ⟨#[]⟩, .bool false, .slice none 0 0] 36)).alloc (.cells #[.int .i64 0, .int .i64 0, .string ⟨#[]⟩, .bool false, .slice none 0 0] 36)).heap[Rb + 1]? = some (.cells #[.int .i64 0, .int .i64 0, .string ⟨#[]⟩, .bool false, .slice none 0 0] 36 (0, 0)) := by
          have h := heap_alloc_new (w.alloc (.cells #[.int .i64 0, .int .i64 0, .string ⟨#[]⟩, .bool false, .slice none 0 0] 36)) (.cells #[.int .i64 0, .int .i64 0, .string ⟨#[]⟩, .bool false, .slice none 0 0] 36)
          rw [World.size_alloc] at h
          rw [hRb]; exact h
        have hG1 : ((w.alloc (.cells #[.int .i64 0, .int .i64 0, .string ⟨#[]⟩, .bool false, .slice none 0 0] 36)).alloc (.cells #[.int .i64 0, .int .i64 0, .string ⟨#[]⟩, .bool false, .slice none 0 0] 36)).heap[Rb]? = some (.cells #[.int .i64 0, .int .i64 0, .string ⟨#[]⟩, .bool false, .slice none 0 0] 36 (0, 0)) := by
          rw [hRb]; exact ((Fr.refl (fun _ => False) _).alloc _).heap (heap_alloc_new w _) id
        have HG2 := Lib.hid hG2
        have HRb := Lib.hid hRb
        have HRB1 := Lib.hid (show (((w.alloc (.cells #[.int .i64 0, .int .i64 0, .string ⟨#[]⟩, .bool false, .slice none 0 0] 36)).alloc (.cells #[.int .i64 0, .int .i64 0, .string ⟨#[]⟩, .bool false, .slice none 0 0] 36)).setRow (Rb + 1) #[.int .i64 4, .int .i64 0, .string ⟨#[]⟩, .bool false, .slice none 0 0]).heap[Rb]? = some (.cells #[.int .i64 0, .int .i64 0, .string ⟨#[]⟩, .bool false, .slice none 0 0] 36 (0, 0)) from ((Fr.refl (fun k => k = Rb + 1) _).setRow (Rb + 1) _ (.inl rfl)).heap hG1 (by omega))
        have HVB1 := Lib.hid (show (((w.alloc (.cells #[.int .i64 0, .int .i64 0, .string ⟨#[]⟩, .bool false, .slice none 0 0] 36)).alloc (.cells #[.int .i64 0, .int .i64 0, .string ⟨#[]⟩, .bool false, .slice none 0 0] 36)).setRow (Rb + 1) #[.int .i64 4, .int .i64 0, .string ⟨#[]⟩, .bool false, .slice none 0 0]).heap[Rb + 1]? = some (.cells #[.int .i64 4, .int .i64 0, .string ⟨#[]⟩, .bool false, .slice none 0 0] 36 (0, 0)) from setRow_heap _ (Rb + 1) #[.int .i64 0, .int .i64 0, .string ⟨#[]⟩, .bool false, .slice none 0 0] _ 36 _ hG2)
        have HFS := Lib.hid (show Fr (fun _ => False) w (((w.alloc (.cells #[.int .i64 0, .int .i64 0, .string ⟨#[]⟩, .bool false, .slice none 0 0] 36)).alloc (.cells #[.int .i64 0, .int .i64 0, .string ⟨#[]⟩, .bool false, .slice none 0 0] 36)).setRow (Rb + 1) #[.int .i64 4, .int .i64 0, .string ⟨#[]⟩, .bool false, .slice none 0 0]) from (((Fr.refl _ w).alloc _).alloc _).setRow _ _ (.inr (by omega)))
        have HSZ := Lib.hid (show (((w.alloc (.cells #[.int .i64 0, .int .i64 0, .string ⟨#[]⟩, .bool false, .slice none 0 0] 36)).alloc (.cells #[.int .i64 0, .int .i64 0, .string ⟨#[]⟩, .bool false, .slice none 0 0] 36)).setRow (Rb + 1) #[.int .i64 4, .int .i64 0, .string ⟨#[]⟩, .bool false, .slice none 0 0]).heap.size = Rb + 2 by rw [hRb]; simp [World.setRow])
        generalize hW3 : ((w.alloc (.cells #[.int .i64 0, .int .i64 0, .string ⟨#[]⟩, .bool false, .slice none 0 0] 36)).alloc (.cells #[.int .i64 0, .int .i64 0, .string ⟨#[]⟩, .bool false, .slice none 0 0] 36)).setRow (Rb + 1) #[.int .i64 4, .int .i64 0, .string ⟨#[]⟩, .bool false, .slice none 0 0] = W3 at HRB1 HVB1 HFS HSZ
        have HW3 := Lib.hid hW3
        clear hW3 hk hs hsl hp2 hp1 hn hr2 hG1 hG2 hRb hpl
        clear hS hSs hs1 hlen1 hl
        go_enter Try.func56, Try.ntmps56
        go_wp2_with (first | (refine wpList_store_whole (op := ⟨none, .store 36 _ _, _, _, _, _⟩) rfl 36 _ _ rfl (Rb + 1) 36 #[.int .i64 0, .int .i64 0, .string ⟨#[]⟩, .bool false, .slice none 0 0] #[.int .i64 4, .int .i64 0, .string ⟨#[]⟩, .bool false, .slice none 0 0] (by rw [HRb.out]; rfl) rfl HG2.out rfl (by kernel_rfl) (by simp [Value.oneCell']) ?_))
        rw [HW3.out, ← HRb.out]
        go_loopw [1, 13] (fun a i wr => ∃ (u : Nat) (al : List AV) (xs : List Value) (rest : List UInt8) (v : Value), u ≤ n ∧ i = .int .i64 (u : Int) ∧ a = .int .i64 ((l.length - rest.length : Nat) : Int) ∧ Aside (rest = l.drop (l.length - rest.length)) ∧ rest.length ≤ l.length ∧ wr.heap[Rb]? = some (.cells #[.int .i64 0, .int .i64 0, .string ⟨#[]⟩, .bool false, .slice none 0 0] 36 (0, 0)) ∧ wr.heap[Rb + 1]? = some (.cells #[.int .i64 4, .int .i64 0, .string ⟨#[]⟩, .bool false, v] 36 (0, 0)) ∧ VRow wr (Rb + 2) v (toVs al) xs ∧ Aside (decN (decA j) u r = some (al, rest)) ∧ Fr (fun _ => False) w wr) (fun _ i _ => n - (intOf i).toNat)
        case atStart => exact ⟨0, [], [], r, .slice none 0 0, Nat.zero_le _, rfl, by rw [HRr.out.2.2], HRr.out.1, HRr.out.2.1, HRB1.out, HVB1.out, ⟨⟨rfl, .inl ⟨rfl, rfl⟩⟩, fun i t h => by simp [toVs] at h⟩, rfl, HFS.out⟩
        case round =>
          obtain ⟨u, al, xs, rest, v, hu, rfl, rfl, hrest, hrl, hRbr, hVbr, hvr, hdn, hfr⟩ := hrel
          have HF := Lib.hid hfr
          have HRbr := Lib.hid hRbr
          have HVbr := Lib.hid hVbr
          have HVR := Lib.hid hvr
          have HDN := Lib.hid (show decN (decA j) u r = some (al, rest) from hdn)
          have HRest := Lib.hid (show rest = l.drop (l.length - rest.length) from hrest)
          have hlen := decN_len j u r al rest hdn
          obtain ⟨va, vn, vc, rfl⟩ := hvr.shape
          obtain ⟨at1, hat1⟩ : ∃ q, q = l.length - rest.length := ⟨_, rfl⟩
          have HAt := Lib.hid (And.intro hat1 (show at1 ≤ l.length by omega))
          have HLn := Lib.hid (And.intro hlen.2 (toVs_length al))
          have HSz := Lib.hid (show Rb + 2 ≤ wr.heap.size by have := lt_of_heap hVbr; omega)
          rw [← hat1]
          clear hfr hRbr hVbr hvr hdn hrest hrl hlen hat1
          by_cases hlt : u < n
          · have hi0 : (u : Int) < (n : Int) := by omega
            have HC := Lib.hid (HIH.out (d + 1) HJ.out l at1 HAt.out.2 HLl.out wr)
            have hw1 : IntKind.i64.wrap ((d : Int) + 1) = ((d + 1 : Nat) : Int) := by rw [IntWalk.i64_in _ (by omega)]; omega
            obtain ⟨d1, hd1⟩ : ∃ x, x = d + 1 := ⟨_, rfl⟩
            rw [← hd1] at HC hw1
            rw [← HSS.out.1] at HC
            clear hd1
            go_wp2_with fail
            refine HC.out.mono ?_
            rintro e w5 ⟨cs1, pp, rfl, hcase, f5⟩
            have HF5 := Lib.hid f5
            have hdrop : l.drop at1 = rest := by rw [HAt.out.1]; exact HRest.out.symm
            rw [hdrop] at hcase
            cases hdc : decA j rest with
            | none =>
              rw [hdc] at hcase
              obtain ⟨rfl, rfl⟩ := hcase
              have HD := Lib.hid (show decA (j + 1) (l.drop p) = none by
                have h1 : decN (decA j) (u + 1) r = none := by rw [decN_snoc, HDN.out]; dsimp only; rw [hdc]
                have h2 := decN_stop (decA j) (u + 1) r h1 (n - (u + 1))
                rw [HDD.out, show n = u + 1 + (n - (u + 1)) by omega, h2]; rfl)
              have HRb6 := Lib.hid (show (w5.alloc (.cells #[.int .i64 0, .int .i64 0, .string ⟨#[]⟩, .bool false, .slice none 0 0] 36)).heap[Rb]? = some (.cells #[.int .i64 0, .int .i64 0, .string ⟨#[]⟩, .bool false, .slice none 0 0] 36 (0, 0)) from (f5.alloc _).heap HRbr.out id)
              have HF6 := Lib.hid ((HF.out.trans f5 (fun i hi => hi.elim)).alloc (.cells #[.int .i64 0, .int .i64 0, .string ⟨#[]⟩, .bool false, .slice none 0 0] 36))
              clear f5 hdc HC hdrop
              go_wp2_with (first | (with_reducible refine wpList_store_fresh (op := ⟨none, .store 36 _ _, _, _, _, _⟩) rfl 36 _ _ rfl w5 #[.int .i64 0, .int .i64 0, .string ⟨#[]⟩, .bool false, .slice none 0 0] #[.int .i64 0, .int .i64 0, .string ⟨#[]⟩, .bool false, .slice none 0 0] rfl rfl rfl rfl (by kernel_rfl) (by simp [Value.oneCell']) ?_) | (with_reducible refine wpList_store_whole (op := ⟨none, .store 36 _ _, _, _, _, _⟩) rfl 36 _ _ rfl Rb 36 #[.int .i64 0, .int .i64 0, .string ⟨#[]⟩, .bool false, .slice none 0 0] #[.int .i64 0, .int .i64 0, .string ⟨#[]⟩, .bool false, .slice none 0 0] rfl rfl HRb6.out rfl (by kernel_rfl) (by simp [Value.oneCell']) ?_))
              refine bodyPost_ret (results_cell_tmp_row rfl _ _ Rb 36 #[.int .i64 0, .int .i64 0, .string ⟨#[]⟩, .bool false, .slice none 0 0] (0, 0) _ (.int .i64 (-1)) rfl rfl (setRow_heap _ Rb #[.int .i64 0, .int .i64 0, .string ⟨#[]⟩, .bool false, .slice none 0 0] _ 36 _ HRb6.out) Try.underlying36 rfl (by kernel_rfl)) rfl ?_
              exact RpP.no HD.out (HF6.out.setRow _ _ (.inr (by rw [HRb.out]; exact Nat.le_refl _)))
            | some x =>
              obtain ⟨a1, rest1⟩ := x
              rw [hdc] at hcase
              obtain ⟨rfl, hrl1, hrd1, hr1⟩ := hcase
              have HR1 := Lib.hid hr1
              have h5 := hr1.five
              have HL5 := Lib.hid h5
              have HL15 := Lib.hid (show cs1.length = 1 * 5 from h5)
              have HO5 := Lib.hid hr1.one
              have HDN2 := Lib.hid (show decN (decA j) (u + 1) r = some (al ++ [a1], rest1) by rw [decN_snoc, HDN.out]; dsimp only; rw [hdc])
              have HRd1 := Lib.hid (And.intro hrd1 hrl1)
              obtain ⟨at2, hat2⟩ : ∃ q, q = l.length - rest1.length := ⟨_, rfl⟩
              have HAt2 := Lib.hid hat2
              rw [← hat2]
              have hF56 : Fr (fun _ => False) w5 (w5.alloc (.cells cs1.toArray 36)) := (Fr.refl _ _).alloc _
              have hx6 : (w5.alloc (.cells cs1.toArray 36)).rangeAt w5.heap.size 0 cs1 := rangeAt_all (heap_alloc_new w5 _)
              have hVb6 : (w5.alloc (.cells cs1.toArray 36)).heap[Rb + 1]? = some (.cells #[.int .i64 4, .int .i64 0, .string ⟨#[]⟩, .bool false, .slice va vn vc] 36 (0, 0)) := hF56.heap (f5.heap HVbr.out id) id
              have cV6 : (w5.alloc (.cells cs1.toArray 36)).cell? ⟨Rb + 1, 4, none⟩ = some (.slice va vn vc) := (cell_of_row _ _ 4 _ _ _ hVb6).trans rfl
              have HX6 := Lib.hid hx6
              have HVb6 := Lib.hid hVb6
              have HF56 := Lib.hid hF56
              have HRb6 := Lib.hid (hF56.heap (f5.heap HRbr.out id) id)
              have HLi := Lib.hid (show (Try.prog.info? 36).map (·.size) = some cs1.length by rw [h5]; exact info36)
              have HLi2 := Lib.hid (show (Try.prog.info? 36).map (·.size) = some cs1.toArray.size by rw [show cs1.toArray.size = 5 by simpa using h5]; exact info36)
              have HZ5 := Lib.hid (show (#[.int .i64 0, .int .i64 0, .string ⟨#[]⟩, .bool false, .slice none 0 0] : Array Value).size = cs1.toArray.size by simpa using h5.symm)
              have HOA := Lib.hid (show ∀ v ∈ cs1.toArray.toList, v.oneCell' = true by simpa using hr1.one)
              have HOW := Lib.hid (((Fr.refl (fun _ => False) (w5.alloc (.cells cs1.toArray 36))).alloc (.cells cs1.toArray 36)).own (hF56.own (f5.own HVR.out.own (fun _ _ => id)) (fun _ _ => id)) (fun _ _ => id))
              have HB6 := Lib.hid (show Rb + 2 ≤ w5.heap.size + 1 + 1 by have := HSz.out; have := f5.size; omega)
              have hat2n : ¬ ((at2 : Int) < 0) := by omega
              have hat2d : decide ((at2 : Int) < 0) = false := decide_eq_false (by omega)
              have HNews := Lib.hid (show ∀ (j : Nat) (u : Value), cs1[j]? = some u → ((w5.alloc (.cells cs1.toArray 36)).alloc (.cells cs1.toArray 36)).cell? ((⟨(w5.alloc (.cells cs1.toArray 36)).heap.size, 0, none⟩ : Addr).add j) = some u from fun j u hj => by
                have hh := heap_alloc_new (w5.alloc (.cells cs1.toArray 36)) (.cells cs1.toArray 36)
                rw [Addr.add_lit, Nat.zero_add, cell_of_row _ _ j _ _ _ hh]
                simpa using hj)
              clear f5 hdc HC hdrop hr1 hrl1 hrd1 hat2 hx6 hVb6 hF56 h5
              go_wp2_with (first | (with_reducible refine wpList_store_fresh (op := ⟨none, .store 36 _ _, _, _, _, _⟩) rfl 36 _ _ rfl w5 #[.int .i64 0, .int .i64 0, .string ⟨#[]⟩, .bool false, .slice none 0 0] cs1.toArray rfl rfl rfl HZ5.out HLi2.out HOA.out ?_) | (with_reducible refine wpList_load_mid (op := ⟨some 138, _, _, _, _, _⟩) rfl 36 _ rfl w5.heap.size 0 rfl cs1 _ HX6.out Try.underlying36 rfl HLi.out ?_) | (refine wpList_buildV1 rfl _ rfl cs1 rfl HL5.out ?_) | (refine wpList_append_own_at (o := ⟨some 140, _, _, _, _, _⟩) _ rfl _ _ 34 rfl (Rb + 2) 36 i0 (.agg #[.int .i64 0, .int .i64 0, .string ⟨#[]⟩, .bool false, .slice none 0 0]) 5 64 Try.underlying34 HI.out.1 HI.out.2.1 HI.out.2.2.1 HI.out.2.2.2 rfl (by decide) (.slice va vn vc) _ _ rfl HOW.out ⟨(w5.alloc (.cells cs1.toArray 36)).heap.size, 0, none⟩ 1 1 cs1 rfl HL15.out HNews.out HO5.out ?c3 ?c4 ?c5 ?_))
              case c3 => have := HLn.out; unfold maxLen; omega
              case c4 => have := HLn.out; omega
              case c5 => have := HB6.out; simp; omega
              intro v' w7 hown' hgrow hnil hat
              have hpush := HVR.out.push (w2 := (w5.alloc (.cells cs1.toArray 36)).alloc (.cells cs1.toArray 36)) (w3 := w7) (v' := v') ((HF5.out.trans HF56.out (fun i hi => hi.elim)).alloc _) (HR1.out.frF (HF56.out.alloc _)) HSz.out hown' hgrow (by simp only [World.size_alloc]; exact hat)
              have hfg : Fr (fun k => some k = (Value.slice va vn vc).ownBlock) w5 w7 := (HF56.out.alloc (.cells cs1.toArray 36) |>.mono (fun i hi => hi.elim)).grown hgrow (fun k hk => .inl hk.symm)
              have hge := HVR.out.ge
              have hRb7 : w7.heap[Rb]? = some (.cells #[.int .i64 0, .int .i64 0, .string ⟨#[]⟩, .bool false, .slice none 0 0] 36 (0, 0)) := hfg.heap (HF5.out.heap HRbr.out id) (fun e => by have := (hge Rb e.symm).1; omega)
              have hVb7 : w7.heap[Rb + 1]? = some (.cells #[.int .i64 4, .int .i64 0, .string ⟨#[]⟩, .bool false, .slice va vn vc] 36 (0, 0)) := hfg.heap (HF5.out.heap HVbr.out id) (fun e => by have := (hge (Rb + 1) e.symm).1; omega)
              have cV7 : w7.cell? ⟨Rb + 1, 4, none⟩ = some (.slice va vn vc) := (cell_of_row w7 _ 4 _ _ _ hVb7).trans rfl
              have fV7 : w7.frozen? ⟨Rb + 1, 4, none⟩ = false := frozen_of_row w7 _ _ _ _ hVb7
              obtain ⟨va', vn', vc', rfl⟩ := hpush.shape
              have HVb8 := Lib.hid (show (w7.setCell ⟨Rb + 1, 4, none⟩ (.slice va' vn' vc')).heap[Rb + 1]? = some (.cells #[.int .i64 4, .int .i64 0, .string ⟨#[]⟩, .bool false, .slice va' vn' vc'] 36 (0, 0)) from heap_setCell_same w7 (Rb + 1) 4 _ _ _ hVb7)
              have hF78 : Fr (fun k => k = Rb + 1) w7 (w7.setCell ⟨Rb + 1, 4, none⟩ (.slice va' vn' vc')) := (Fr.refl _ _).setCell _ _ (.inl rfl)
              have HRb8 := Lib.hid (hF78.heap hRb7 (by omega))
              have HVR8 := Lib.hid (hpush.fr hF78 (fun k hk e => by omega))
              have HF8 := Lib.hid (show Fr (fun _ => False) w (w7.setCell ⟨Rb + 1, 4, none⟩ (.slice va' vn' vc')) from ((HF.out.trans HF5.out (fun i hi => hi.elim)).trans hfg (fun i hi => .inr (by have := (hge i hi.symm).1; have := HRb.out; omega))).trans hF78 (fun i hi => .inr (by have := HRb.out; omega)))
              clear hown' hgrow hnil hat hpush hfg hge hRb7 hVb7 hF78 cV6
              go_wp2_with fail
              go_roundw
              case rel => exact ⟨u + 1, al ++ [a1], xs ++ cs1, rest1, _, by omega, by go_num, by rw [HAt2.out], HRd1.out.1, HRd1.out.2, HRb8.out, HVb8.out, by rw [toVs_append]; exact HVR8.out, HDN2.out, HF8.out⟩
              case measure => simp [intOf]; omega
          · obtain rfl : u = n := by omega
            have hge : ¬ (u : Int) < (u : Int) := by omega
            have HD := Lib.hid (show decA (j + 1) (l.drop p) = some (.row al, rest) by rw [HDD.out, HDN.out]; rfl)
            have HXR := Lib.hid (show wr.rangeAt (Rb + 1) 0 [.int .i64 4, .int .i64 0, .string ⟨#[]⟩, .bool false, .slice va vn vc] from rangeAt_all HVbr.out)
            have HLi := Lib.hid (show (Try.prog.info? 36).map (·.size) = some ([.int .i64 4, .int .i64 0, .string ⟨#[]⟩, .bool false, .slice va vn vc] : List Value).length from info36)
            have HFin := Lib.hid (show VR (wr.setRow Rb #[.int .i64 4, .int .i64 0, .string ⟨#[]⟩, .bool false, .slice va vn vc]) (fun i => w.heap.size ≤ i) (toV (.row al)) [.int .i64 4, .int .i64 0, .string ⟨#[]⟩, .bool false, .slice va vn vc] from (HVR.out.done.fr ((Fr.refl (fun k => k = Rb) wr).setRow Rb #[.int .i64 4, .int .i64 0, .string ⟨#[]⟩, .bool false, .slice va vn vc] (.inl rfl)) (fun i hi e => by omega)).mono (fun i hi => by have := HRb.out; omega))
            clear hlt
            go_wp2_with (first | (with_reducible refine wpList_load_mid (op := ⟨some 143, _, _, _, _, _⟩) rfl 36 _ rfl (Rb + 1) 0 rfl [.int .i64 4, .int .i64 0, .string ⟨#[]⟩, .bool false, .slice va vn vc] _ HXR.out Try.underlying36 rfl HLi.out ?_) | (with_reducible refine wpList_store_whole (op := ⟨none, .store 36 _ _, _, _, _, _⟩) rfl 36 _ _ rfl Rb 36 #[.int .i64 0, .int .i64 0, .string ⟨#[]⟩, .bool false, .slice none 0 0] #[.int .i64 4, .int .i64 0, .string ⟨#[]⟩, .bool false, .slice va vn vc] rfl rfl HRbr.out rfl (by kernel_rfl) (by simp [Value.oneCell']) ?_))
            refine bodyPost_ret (results_cell_tmp_row rfl _ _ Rb 36 #[.int .i64 4, .int .i64 0, .string ⟨#[]⟩, .bool false, .slice va vn vc] (0, 0) _ (.int .i64 (at1 : Int)) rfl rfl (setRow_heap wr Rb #[.int .i64 0, .int .i64 0, .string ⟨#[]⟩, .bool false, .slice none 0 0] _ 36 _ HRbr.out) Try.underlying36 rfl (by kernel_rfl)) rfl ?_
            exact RpP.yes HD.out (by rw [HAt.out.1]; exact HRest.out) HAt.out.2 HFin.out (HF.out.setRow _ _ (.inr (by rw [HRb.out]; exact Nat.le_refl _)))
end Go.Proofs.Ythmpmpepokeedaa
