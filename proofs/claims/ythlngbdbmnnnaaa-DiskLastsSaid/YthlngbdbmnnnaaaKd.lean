/- The disk's failure. -/
import Derived.Test.YthlngbdbmnnnaaaKc
set_option linter.unusedVariables false
set_option linter.unusedSimpArgs false
namespace Go.Proofs.Ythlngbdbmnnnaaa
open Go.RowKit
/-- What a method of a disk leaves. -/
def Left (F : Nat → Prop) (w : World) (g : Nat) (D' : Dk) (v : Value) (e : Ending) (w' : World) : Prop :=
  e = .returned v ∧ ∃ F' : Nat → Prop, (∀ i, F' i → F i ∨ w.heap.size ≤ i) ∧ Fr F w w' ∧ DRep F' w' g D'

theorem DRep.fr {F : Nat → Prop} {w w' : World} {g : Nat} {D : Dk} (h : DRep F w g D) {G : Nat → Prop} (hf : Fr G w w') (hG : ∀ i, F i → ¬ G i) : DRep F w' g D := by
  obtain ⟨gl, wv, hg, hl, ho, h1, h2, h3⟩ := h.ex
  exact ⟨⟨gl, wv, hf.heap hg (hG _ h1), hf.heap hl (hG _ h2), hf.own ho (fun k hk => hG _ (h3 k hk)), h1, h2, h3⟩, h.len, h.most, h.wf, h.cnt, fun i hi => Nat.lt_of_lt_of_le (h.low i hi) hf.size⟩
theorem DRep.put {F : Nat → Prop} {w w' : World} {g : Nat} {D : Dk} (h : DRep F w g D) (D' : Dk) (hn : D'.n = D.n) (hl : D'.lasts = D.lasts) (hw : D'.wait = D.wait) (hc : 0 ≤ D'.count) (hf : Fr (fun i => i = g) w w')
    (hg' : ∀ lv wv, w.heap[g]? = some (.cells #[lv, wv, .int .i64 D.cutAt, .int .u64 D.keep, .int .i64 D.torn, .int .i64 D.count, .bool D.down] 85 (0, 0)) →
      w'.heap[g]? = some (.cells #[lv, wv, .int .i64 D'.cutAt, .int .u64 D'.keep, .int .i64 D'.torn, .int .i64 D'.count, .bool D'.down] 85 (0, 0))) : DRep F w' g D' := by
  obtain ⟨gl, wv, hg, hgl, ho, h1, h2, h3⟩ := h.ex
  have ne1 : gl ≠ g := fun e => by subst e; rw [hg] at hgl; simp at hgl
  have ne2 : ∀ k, wv.ownBlock = some k → k ≠ g := fun k hk e => by
    subst e
    rcases ho.2 with ⟨rfl, _⟩ | ⟨g', cap, cur, rfl, _, h5, _⟩
    · simp [Value.ownBlock] at hk
    · simp [Value.ownBlock] at hk; subst hk; rw [hg] at h5; simp at h5
  refine ⟨⟨gl, wv, by rw [hn]; exact hg' _ _ hg, by rw [hl]; exact hf.heap hgl ne1, by rw [hw]; exact hf.own ho ne2, h1, h2, h3⟩, by rw [hl, hn]; exact h.len, by rw [hn]; exact h.most, by rw [hw, hn]; exact h.wf, hc, fun i hi => Nat.lt_of_lt_of_le (h.low i hi) hf.size⟩
theorem wvForm {w : World} {wv : Value} {m : Nat} {xs : List Value} (ho : w.ownsRow 0 89 65 wv m xs) : (wv = .slice none 0 0 ∧ m = 0) ∨ ∃ gw c, wv = .slice (some ⟨gw, 0, none⟩) m c := by
  rcases ho.2 with h | ⟨g', cap, cur, h, _⟩
  · exact .inl h
  · exact .inr ⟨_, cap, h⟩
theorem own_nil (w : World) : w.ownsRow 0 89 65 (.slice none 0 0) 0 [] := World.ownsRow_nil _ _ _ _

theorem settle_any_44 {F : Nat → Prop} {w : World} {g : Nat} {D : Dk} (hR : DRep F w g D) (f : Nat → Nat) (hm : D.wait.length ≤ 1000000) (hf : ∀ i, f i ≤ 64)
    (hcl : ∀ (i : Nat) (W : World), i < D.wait.length → Fr F w W → Calls Try.prog 44 #[.int .i64 i] W fun e W' => e = .returned (.int .i64 (f i)) ∧ W' = W) :
    Calls Try.prog 43 #[.pointer (some ⟨g, 0, none⟩), .func (.func 44) #[] #[]] w fun e w' => e = .returned (.tuple #[]) ∧
      DRep F w' g { D with lasts := settle f 0 D.wait D.lasts, wait := [] } ∧ Fr F w w' := by
  obtain ⟨gl, wv, hg, hl, ho, hFg, hFl, hFw⟩ := hR.ex
  have hln : (settle f 0 D.wait D.lasts).length = 64 * D.n := settle_length f D.n _ 0 _ hR.wf hR.len
  rcases wvForm ho with ⟨rfl, h0⟩ | ⟨gw, c, rfl⟩
  · have hw : D.wait = [] := List.eq_nil_of_length_eq_zero h0
    refine (settle_nil_44  hg).mono ?_
    rintro e w' ⟨rfl, h1, h2⟩
    have hgl : gl ≠ g := fun e => by subst e; rw [hg] at hl; simp at hl
    refine ⟨rfl, ⟨⟨gl, _, h1, ?_, own_nil _, hFg, hFl, fun k hk => by simp [Value.ownBlock] at hk⟩, hln, hR.most, fun x hx => (by cases hx), hR.cnt, fun i hi => Nat.lt_of_lt_of_le (hR.low i hi) h2.size⟩, h2.mono (fun i hi => .inl (by subst hi; exact hFg))⟩
    show w'.heap[gl]? = some (.cells (bcells (settle f 0 D.wait D.lasts)).toArray 5 (0, 0))
    rw [hw]
    exact h2.heap hl hgl
  · refine (settle_44  f hg hl ho hR.len hR.most hR.wf hm hf (fun i W hi hW => hcl i W hi (hW.mono (fun j hj => .inl (by subst hj; exact hFl))))).mono ?_
    rintro e w' ⟨rfl, h1, h2, h3⟩
    exact ⟨rfl, ⟨⟨gl, _, h1, h2, own_nil _, hFg, hFl, fun k hk => by simp [Value.ownBlock] at hk⟩, hln, hR.most, fun x hx => (by cases hx), hR.cnt, fun i hi => Nat.lt_of_lt_of_le (hR.low i hi) h3.size⟩, h3.mono (fun i hi => .inl (by rcases hi with rfl | rfl; exact hFg; exact hFl))⟩

theorem settle_any_45 (c1 c2 c3 : Value) {F : Nat → Prop} {w : World} {g : Nat} {D : Dk} (hR : DRep F w g D) (f : Nat → Nat) (hm : D.wait.length ≤ 1000000) (hf : ∀ i, f i ≤ 64)
    (hcl : ∀ (i : Nat) (W : World), i < D.wait.length → Fr F w W → Calls Try.prog 45 #[.int .i64 i, c1, c2, c3] W fun e W' => e = .returned (.int .i64 (f i)) ∧ W' = W) :
    Calls Try.prog 43 #[.pointer (some ⟨g, 0, none⟩), .func (.func 45) #[] #[c1, c2, c3]] w fun e w' => e = .returned (.tuple #[]) ∧
      DRep F w' g { D with lasts := settle f 0 D.wait D.lasts, wait := [] } ∧ Fr F w w' := by
  obtain ⟨gl, wv, hg, hl, ho, hFg, hFl, hFw⟩ := hR.ex
  have hln : (settle f 0 D.wait D.lasts).length = 64 * D.n := settle_length f D.n _ 0 _ hR.wf hR.len
  rcases wvForm ho with ⟨rfl, h0⟩ | ⟨gw, c, rfl⟩
  · have hw : D.wait = [] := List.eq_nil_of_length_eq_zero h0
    refine (settle_nil_45 c1 c2 c3 hg).mono ?_
    rintro e w' ⟨rfl, h1, h2⟩
    have hgl : gl ≠ g := fun e => by subst e; rw [hg] at hl; simp at hl
    refine ⟨rfl, ⟨⟨gl, _, h1, ?_, own_nil _, hFg, hFl, fun k hk => by simp [Value.ownBlock] at hk⟩, hln, hR.most, fun x hx => (by cases hx), hR.cnt, fun i hi => Nat.lt_of_lt_of_le (hR.low i hi) h2.size⟩, h2.mono (fun i hi => .inl (by subst hi; exact hFg))⟩
    show w'.heap[gl]? = some (.cells (bcells (settle f 0 D.wait D.lasts)).toArray 5 (0, 0))
    rw [hw]
    exact h2.heap hl hgl
  · refine (settle_45 c1 c2 c3 f hg hl ho hR.len hR.most hR.wf hm hf (fun i W hi hW => hcl i W hi (hW.mono (fun j hj => .inl (by subst hj; exact hFl))))).mono ?_
    rintro e w' ⟨rfl, h1, h2, h3⟩
    exact ⟨rfl, ⟨⟨gl, _, h1, h2, own_nil _, hFg, hFl, fun k hk => by simp [Value.ownBlock] at hk⟩, hln, hR.most, fun x hx => (by cases hx), hR.cnt, fun i hi => Nat.lt_of_lt_of_le (hR.low i hi) h3.size⟩, h3.mono (fun i hi => .inl (by rcases hi with rfl | rfl; exact hFg; exact hFl))⟩

theorem crash_up {F : Nat → Prop} {w : World} {g : Nat} {D : Dk} (hR : DRep F w g D) (keep torn : Int) (hk0 : 0 ≤ keep) (hk1 : keep ≤ 18446744073709551615) (hm : D.wait.length ≤ 1000000) (hd : D.down = false) :
    Calls Try.prog 17 #[.pointer (some ⟨g, 0, none⟩), .int .u64 keep, .int .i64 torn] w (Left F w g (D.crash keep torn) (.tuple #[])) := by
  obtain ⟨gl, wv, hg, hl, ho, hFg, hFl, hFw⟩ := hR.ex
  have hlt := lt_of_heap hg
  have h6 := (dcells hg).c6
  have h1 := (dcells hg).c1
  rw [hd] at h6
  obtain ⟨m, hmm⟩ : ∃ m, m = D.wait.length := ⟨_, rfl⟩
  have HM := Lib.hid hmm
  obtain ⟨a, c, hwv⟩ : ∃ a c, wv = .slice a m c := by
    rcases wvForm ho with ⟨h, h0⟩ | ⟨gw, c, h⟩
    · exact ⟨none, 0, by rw [h, hmm, h0]⟩
    · exact ⟨_, c, by rw [h, hmm]⟩
  rw [hwv] at h1
  have HR := Lib.hid hR
  have Hd := Lib.hid hd
  have Hbig := Lib.hid hm
  rw [← hmm] at hm
  clear hmm hwv hR hg hl ho hd
  go_enter Try.func17, Try.ntmps17
  go_wp2_with fail
  have hfr : Fr (fun _ => False) w (((w.alloc (.cells #[.int .u64 keep] 23)).alloc (.cells #[.int .i64 torn] 3)).alloc (.cells #[.int .i64 ((m : Int) - 1)] 3)) := (((Fr.refl _ _).alloc _).alloc _).alloc _
  have hR1 := HR.out.fr hfr (fun i _ => id)
  have hb0 := heap_alloc_new w (.cells #[.int .u64 keep] 23)
  have hb1 := heap_alloc_new (w.alloc (.cells #[.int .u64 keep] 23)) (.cells #[.int .i64 torn] 3)
  have hb2 := heap_alloc_new ((w.alloc (.cells #[.int .u64 keep] 23)).alloc (.cells #[.int .i64 torn] 3)) (.cells #[.int .i64 ((m : Int) - 1)] 3)
  have hs1 : (w.alloc (.cells #[.int .u64 keep] 23)).heap.size = w.heap.size + 1 := by simp
  have hs2 : ((w.alloc (.cells #[.int .u64 keep] 23)).alloc (.cells #[.int .i64 torn] 3)).heap.size = w.heap.size + 2 := by simp
  rw [hs1] at hb1
  rw [hs2] at hb2
  have hb0' := (Below.heap_alloc ((w.alloc (.cells #[.int .u64 keep] 23)).alloc (.cells #[.int .i64 torn] 3)) (.cells #[.int .i64 ((m : Int) - 1)] 3) w.heap.size (by simp; omega)).trans ((Below.heap_alloc (w.alloc (.cells #[.int .u64 keep] 23)) (.cells #[.int .i64 torn] 3) w.heap.size (by simp)).trans hb0)
  have hb1' := (Below.heap_alloc ((w.alloc (.cells #[.int .u64 keep] 23)).alloc (.cells #[.int .i64 torn] 3)) (.cells #[.int .i64 ((m : Int) - 1)] 3) (w.heap.size + 1) (by simp)).trans hb1
  have hF0 : ∀ k, w.heap.size ≤ k → ¬ F k := fun k hk hF => by have := HR.out.low k hF; omega
  refine (settle_any_45 _ _ _ hR1 (crashN keep torn D.wait.length) Hbig.out (crashN_le _ _ _) (fun i W hi hW => crash1_any i D.wait.length keep torn _ W w.heap.size (w.heap.size + 1 + 1) (w.heap.size + 1) hk0 hk1 (by rw [HM.out]) hi Hbig.out
    ((cell_of_row W _ 0 _ _ _ (hW.heap hb0' (hF0 _ (by omega)))).trans rfl) ((cell_of_row W _ 0 _ _ _ (hW.heap hb2 (hF0 _ (by omega)))).trans rfl) ((cell_of_row W _ 0 _ _ _ (hW.heap hb1' (hF0 _ (by omega)))).trans rfl))).mono ?_
  rintro e w1 ⟨rfl, hR2, hfr2⟩
  obtain ⟨gl1, wv1, hg1, -, -, -, -, -⟩ := hR2.ex
  have HR2 := Lib.hid hR2
  have HF2 := Lib.hid hfr2
  have HF1 := Lib.hid hfr
  have hc2 := (dcells hg1).c2
  have hc3 := (dcells hg1).c3
  have hc4 := (dcells hg1).c4
  have hc6 := (dcells hg1).c6
  have hz2 : w1.frozen? ⟨g, 2, none⟩ = false := frozen_of_row w1 g 2 _ _ hg1
  have hz3 : w1.frozen? ⟨g, 3, none⟩ = false := frozen_of_row w1 g 3 _ _ hg1
  have hz4 : w1.frozen? ⟨g, 4, none⟩ = false := frozen_of_row w1 g 4 _ _ hg1
  have hz6 : w1.frozen? ⟨g, 6, none⟩ = false := frozen_of_row w1 g 6 _ _ hg1
  have HFF := Lib.hid hFg
  clear hg1 hR2 hfr2 hfr hR1 hb0 hb1 hb2 hs1 hs2 hb0' hb1' hF0 h6 h1 hlt hFg hFl hFw
  go_wp2
  go_end0
  refine ⟨rfl, F, fun i hi => .inl hi, ?_, ?_⟩
  · exact ((((((HF1.out.mono (fun i hi => hi.elim)).trans HF2.out (fun i hi => .inl hi)).setCell _ _ (.inl HFF.out)).setCell _ _ (.inl HFF.out)).setCell _ _ (.inl HFF.out)).setCell _ _ (.inl HFF.out))
  · refine HR2.out.put _ (by simp [Dk.crash, Hd.out]) (by simp [Dk.crash, Hd.out]) (by simp [Dk.crash, Hd.out]) (by simp [Dk.crash, Hd.out]; exact HR.out.cnt) ?_ ?_
    · repeat first | exact Fr.refl _ _ | refine Fr.setCell ?_ _ _ (.inl rfl)
    intro lv wv hg
    have e := heap_setCell_same _ g 6 _ 85 (.bool true) (heap_setCell_same _ g 4 _ 85 (.int .i64 0) (heap_setCell_same _ g 3 _ 85 (.int .u64 0) (heap_setCell_same _ g 2 _ 85 (.int .i64 0) hg)))
    rw [e]
    simp [Dk.crash, Hd.out]
theorem crash_any {F : Nat → Prop} {w : World} {g : Nat} {D : Dk} (hR : DRep F w g D) (keep torn : Int) (hk0 : 0 ≤ keep) (hk1 : keep ≤ 18446744073709551615) (hm : D.wait.length ≤ 1000000) :
    Calls Try.prog 17 #[.pointer (some ⟨g, 0, none⟩), .int .u64 keep, .int .i64 torn] w (Left F w g (D.crash keep torn) (.tuple #[])) := by
  cases hd : D.down
  · exact crash_up hR keep torn hk0 hk1 hm hd
  · obtain ⟨gl, wv, hg, -, -, -, -, -⟩ := hR.ex
    have h6 := (dcells hg).c6
    have hlt := lt_of_heap hg
    rw [hd] at h6
    have HR := Lib.hid hR
    have Hd := Lib.hid hd
    clear hg hR hd
    go_enter Try.func17, Try.ntmps17
    go_wp2
    go_end0
    have hfr : Fr (fun _ => False) w ((w.alloc (.cells #[.int .u64 keep] 23)).alloc (.cells #[.int .i64 torn] 3)) := ((Fr.refl _ _).alloc _).alloc _
    refine ⟨rfl, F, fun i hi => .inl hi, hfr.mono (fun i hi => hi.elim), ?_⟩
    have e : D.crash keep torn = D := by simp [Dk.crash, Hd.out]
    rw [e]
    exact HR.out.fr hfr (fun i _ => id)
end Go.Proofs.Ythlngbdbmnnnaaa
