/- DiskLasts: the four rows of strings beside the disk. -/
import Derived.Test.YthlngbdbmnnnaaaQc
import Derived.Test.YthlngbdbmnnnaaaKn
set_option linter.unusedVariables false
set_option linter.unusedSimpArgs false
namespace Go.Proofs.Ythlngbdbmnnnaaa
open Go.RowKit
def strs (l : List (List UInt8)) : List Value := l.map fun s => .string (str s)
/-- Four slices in T, each a row of the call's own, no two in one block. -/
structure May (base : Nat) (w : World) (T : Nat) (v : Nat → Value) (ms : Nat → List (List UInt8)) : Prop where
  row : w.heap[T]? = some (.cells #[v 0, v 1, v 2, v 3] 38 (0, 0))
  own : ∀ p, p < 4 → w.ownsRow base 9 1 (v p) (ms p).length (strs (ms p))
  dis : ∀ p q k, p < 4 → q < 4 → p ≠ q → (v p).ownBlock = some k → (v q).ownBlock ≠ some k
  ge : base ≤ T
def mayBlk (T : Nat) (v : Nat → Value) (i : Nat) : Prop := i = T ∨ ∃ p, p < 4 ∧ (v p).ownBlock = some i
theorem own_type {w : World} {base : Nat} {v : Value} {n : Nat} {xs : List Value} (h : w.ownsRow base 9 1 v n xs) {k : Nat} (hk : v.ownBlock = some k) : base ≤ k ∧ k < w.heap.size ∧ ∃ cs, w.heap[k]? = some (.cells cs 9 (0, 0)) := by
  rcases h.2 with ⟨rfl, _⟩ | ⟨g, cap, cur, rfl, hg, hh, _⟩
  · simp [Value.ownBlock] at hk
  · simp [Value.ownBlock] at hk
    subst hk
    exact ⟨hg, lt_of_heap hh, _, hh⟩
theorem May.ne {base : Nat} {w : World} {T : Nat} {v : Nat → Value} {ms : Nat → List (List UInt8)} (h : May base w T v ms) {p k : Nat} (hp : p < 4) (hk : (v p).ownBlock = some k) : k ≠ T := by
  rintro rfl
  obtain ⟨_, _, cs, hc⟩ := own_type (h.own p hp) hk
  rw [h.row] at hc
  simp at hc
theorem May.lt {base : Nat} {w : World} {T : Nat} {v : Nat → Value} {ms : Nat → List (List UInt8)} (h : May base w T v ms) : ∀ i, mayBlk T v i → i < w.heap.size ∧ base ≤ i := by
  rintro i (rfl | ⟨p, hp, hk⟩)
  · exact ⟨lt_of_heap h.row, h.ge⟩
  · have := own_type (h.own p hp) hk
    exact ⟨this.2.1, this.1⟩
theorem May.kept {base : Nat} {w w' : World} {T : Nat} {v : Nat → Value} {ms : Nat → List (List UInt8)} (h : May base w T v ms) (hk : ∀ i, mayBlk T v i → w'.heap[i]? = w.heap[i]?) : May base w' T v ms :=
  ⟨(hk T (.inl rfl)).trans h.row, fun p hp => by
    obtain ⟨h1, h2⟩ := h.own p hp
    refine ⟨h1, ?_⟩
    rcases h2 with h2 | ⟨g, cap, cur, e, hg, hh, r⟩
    · exact .inl h2
    · exact .inr ⟨g, cap, cur, e, hg, (hk g (.inr ⟨p, hp, by rw [e]; rfl⟩)).trans hh, r⟩, h.dis, h.ge⟩
/-- The p-th has grown. -/
theorem May.grown {base : Nat} {w w3 : World} {T : Nat} {v : Nat → Value} {ms : Nat → List (List UInt8)} (h : May base w T v ms) {p : Nat} (hp : p < 4) {g' cap : Nat} {s : List UInt8} {H : Nat}
    (hown : w3.ownsRow base 9 1 (.slice (some ⟨g', 0, none⟩) ((ms p).length + 1) cap) ((ms p).length + 1) (strs (ms p) ++ [.string (str s)]))
    (hkeep : ∀ k, k < w.heap.size → some k ≠ (v p).ownBlock → w3.heap[k]? = w.heap[k]?) (hat : (v p).ownBlock = some g' ∨ g' = H) (hH : w.heap.size ≤ H) :
    May base (w3.setCell ⟨T, p, none⟩ (.slice (some ⟨g', 0, none⟩) ((ms p).length + 1) cap)) T (fun q => if q = p then .slice (some ⟨g', 0, none⟩) ((ms p).length + 1) cap else v q) (fun q => if q = p then ms p ++ [s] else ms q) := by
  have hTlt : T < w.heap.size := lt_of_heap h.row
  have hT : some T ≠ (v p).ownBlock := fun e => h.ne hp e.symm rfl
  have hrow : w3.heap[T]? = some (.cells #[v 0, v 1, v 2, v 3] 38 (0, 0)) := (hkeep T hTlt hT).trans h.row
  have hg'T : g' ≠ T := by
    rcases hat with h1 | h1
    · exact h.ne hp h1
    · omega
  refine ⟨?_, fun q hq => ?_, fun q r k hq hr hqr hk => ?_, h.ge⟩
  · rw [heap_setCell_same w3 T p _ _ _ hrow]
    have : p = 0 ∨ p = 1 ∨ p = 2 ∨ p = 3 := by omega
    rcases this with rfl | rfl | rfl | rfl <;> rfl
  · have hfs : Fr (fun i => i = T) w3 (w3.setCell ⟨T, p, none⟩ (.slice (some ⟨g', 0, none⟩) ((ms p).length + 1) cap)) := (Fr.refl _ _).setCell _ _ (.inl rfl)
    by_cases e : q = p
    · subst e
      simp only [if_true]
      have := hfs.own hown (fun k hk => by simp [Value.ownBlock] at hk; subst hk; exact hg'T)
      simpa [strs] using this
    · simp only [e, if_false]
      obtain ⟨h1, h2⟩ := h.own q hq
      refine hfs.own (base := base) ⟨h1, ?_⟩ (fun k hk => h.ne hq hk)
      rcases h2 with h2 | ⟨g, cap', cur, e1, hg, hh, r⟩
      · exact .inl h2
      · have hgb : (v q).ownBlock = some g := by rw [e1]; rfl
        exact .inr ⟨g, cap', cur, e1, hg, (hkeep g (lt_of_heap hh) (fun e2 => h.dis q p g hq hp e hgb e2.symm)).trans hh, r⟩
  · by_cases e1 : q = p
    · have e2 : ¬ r = p := fun e2 => hqr (e1.trans e2.symm)
      simp only [e1, if_true, e2, if_false] at hk ⊢
      simp [Value.ownBlock] at hk
      subst hk
      rcases hat with h1 | h1
      · exact h.dis p r g' hp hr (fun e3 => e2 e3.symm) h1
      · intro h2
        have := (own_type (h.own r hr) h2).2.1
        omega
    · simp only [e1, if_false] at hk ⊢
      by_cases e2 : r = p
      · simp only [e2, if_true]
        intro h2
        simp [Value.ownBlock] at h2
        subst h2
        rcases hat with h1 | h1
        · exact h.dis q p g' hq hp (fun e3 => e1 e3) hk h1
        · have := (own_type (h.own q hq) hk).2.1
          omega
      · simp only [e2, if_false]
        exact h.dis q r k hq hr hqr hk
theorem onp_mono {Pr Pr' : Nat → Prop} {w : World} {g : Nat} {D : Dk} (h : OnP Pr w g D) (hp : ∀ i, Pr' i → Pr i) : OnP Pr' w g D := by
  obtain ⟨F, hR, h1, h2⟩ := h
  exact ⟨F, hR, fun i hi => h1 i (hp i hi), fun i hi hq => h2 i hi (hp i hq)⟩
theorem onp_grown {base T N : Nat} {w W4 : World} {g : Nat} {D : Dk} {v v' : Nat → Value} (h : OnP (fun i => i < base ∨ mayBlk T v i ∨ i = N) w g D) (hf : Fr (mayBlk T v) w W4)
    (hnew : ∀ i, mayBlk T v' i → mayBlk T v i ∨ w.heap.size ≤ i) (hlt : ∀ i, mayBlk T v' i → i < W4.heap.size) : OnP (fun i => i < base ∨ mayBlk T v' i) W4 g D := by
  obtain ⟨F, hR, h1, h2⟩ := h
  refine ⟨F, hR.fr hf (fun i hi hg => h2 i hi (.inr (.inl hg))), fun i hi => ?_, fun i hi hp => ?_⟩
  · rcases hi with hi | hi
    · exact Nat.lt_of_lt_of_le (h1 i (.inl hi)) hf.size
    · exact hlt i hi
  · rcases hp with hp | hp
    · exact h2 i hi (.inl hp)
    · rcases hnew i hp with hp | hp
      · exact h2 i hi (.inr (.inl hp))
      · have := hR.low _ hi; omega
theorem may_new {base : Nat} {w : World} (h : base ≤ w.heap.size) : May base (w.alloc (.cells #[.slice none 0 0, .slice none 0 0, .slice none 0 0, .slice none 0 0] 38)) w.heap.size (fun _ => .slice none 0 0) (fun _ => []) :=
  ⟨heap_alloc_new w _, fun p _ => ⟨rfl, .inl ⟨rfl, rfl⟩⟩, fun p q k _ _ _ hk => by simp [Value.ownBlock] at hk, h⟩
theorem run_buildSlice_str {P : Program} (w : World) (t e : TypeId) (x : ByteArray) (hu : P.underlying t = some (.slice e)) (hi : (P.info? e).map (fun i => (i.size, i.zero)) = some (1, some (.string ⟨#[]⟩))) :
    (Instr.buildSlice t 1 #[(0, .string x)]).run P w = .ok (.slice (some ⟨w.heap.size, 0, none⟩) 1 1) (w.alloc (.cells #[.string x] e)) := by
  cases hq : P.info? e with
  | none => simp [hq] at hi
  | some i =>
    simp only [hq, Option.map_some, Option.some.injEq, Prod.mk.injEq] at hi
    obtain ⟨hs, hz⟩ := hi
    simp [Instr.buildSlice, run_underlying hu, sizeOf, typeInfo, zeroValue, hq, hz, hs, Value.cells, Instr.fill]
    have e1 : ∀ f : Nat → Value, (Array.map f (Array.range 1)).setIfInBounds 0 (Value.string x) = #[.string x] := fun f => by
      rw [show Array.range 1 = #[0] from by decide]; simp
    simp only [newRow, newObj, e1]
    simp [e1]
    rfl
theorem wp_buildSlice_str {P : Program} {op : Oper} {a : Act} {w : World} {K : Act → World → Prop} {Q : Exit → Act → World → Prop} (t : TypeId) (x : Operand) (ho : op.op = .buildSlice t 1 #[(0, x)]) (e : TypeId) (s : ByteArray)
    (hx : a.eval x = .string s) (hu : P.underlying t = some (.slice e)) (hi : (P.info? e).map (fun i => (i.size, i.zero)) = some (1, some (.string ⟨#[]⟩)))
    (h : K (a.put op.dst (.slice (some ⟨w.heap.size, 0, none⟩) 1 1)) (w.alloc (.cells #[.string s] e))) : op.wp P a w K Q := by
  unfold Oper.wp execOp
  simp only [ho, hx, List.map_toArray, List.map_cons, List.map_nil, Sem.run_bind, Sem.run_pure, Result.andThen_ok, run_buildSlice_str w t e s hu hi]
  exact h
theorem strs_get (l : List (List UInt8)) (k : Nat) (s : List UInt8) (h : l[k]? = some s) : (strs l)[k]? = some (.string (str s)) := by simp [strs, h]
theorem strs_length (l : List (List UInt8)) : (strs l).length = l.length := by simp [strs]
/-- The p-th row, for a walk. -/
theorem May.look {base : Nat} {w : World} {T : Nat} {v : Nat → Value} {ms : Nat → List (List UInt8)} (h : May base w T v ms) (p : Nat) (hp : p < 4) :
    ∃ A cap, v p = .slice A (ms p).length cap ∧ (ms p).length ≤ cap ∧ (ms p = [] ∨ ∃ b, A = some ⟨b, 0, none⟩) ∧ ∀ k s, (ms p)[k]? = some s → ∀ b, A = some ⟨b, 0, none⟩ → w.cell? ⟨b, k, none⟩ = some (.string (str s)) := by
  have ho := h.own p hp
  rcases ho.2 with ⟨e, h0⟩ | ⟨g, cap, cur, e, hg, hh, hc, r⟩
  · refine ⟨none, 0, by rw [e, h0], by omega, .inl (List.length_eq_zero_iff.mp h0), fun k s hk b hb => by cases hb⟩
  · refine ⟨some ⟨g, 0, none⟩, cap, e, hc, .inr ⟨g, rfl⟩, fun k s hk b hb => ?_⟩
    cases hb
    have := World.ownsRow.cells ho (g := g) (by rw [e]; rfl) k _ (strs_get _ k s hk)
    rwa [Addr.add_mid, Nat.zero_add] at this
theorem May.cell {base : Nat} {w : World} {T : Nat} {v : Nat → Value} {ms : Nat → List (List UInt8)} (h : May base w T v ms) (p : Nat) (hp : p < 4) : w.cell? ⟨T, p, none⟩ = some (v p) :=
  (cell_of_row w T p _ _ _ h.row).trans (by
    have : p = 0 ∨ p = 1 ∨ p = 2 ∨ p = 3 := by omega
    rcases this with rfl | rfl | rfl | rfl <;> rfl)
theorem May.at {base : Nat} {w : World} {T : Nat} {v : Nat → Value} {ms : Nat → List (List UInt8)} (h : May base w T v ms) {p : Nat} (hp : p < 4) {b m cap k : Nat} {s : List UInt8} (hv : v p = .slice (some ⟨b, 0, none⟩) m cap) (hs : (ms p)[k]? = some s) :
    w.cell? ⟨b, k, none⟩ = some (.string (str s)) := by
  have := World.ownsRow.cells (h.own p hp) (g := b) (by rw [hv]; rfl) k _ (strs_get _ k s hs)
  rwa [Addr.add_mid, Nat.zero_add] at this
end Go.Proofs.Ythlngbdbmnnnaaa
