/- What arguments read as. -/
import Derived.Test.YthmpmpepokeedaaL1
import Derived.ProofKit
import Derived.OpenShut
import Derived.ShutString
import Derived.ChangeOld
import Derived.SizedLaws
import Derived.Deep.Slices
import Derived.Deep.Strs
set_option linter.unusedVariables false
set_option linter.unusedSimpArgs false
namespace Go.Proofs.Ythmpmpepokeedaa
open Go.RowKit Go.ChangeShapes Go.WideShapes

/-- The slice at A of l.length elements holds l, 'size' cells an element. -/
def SlR {α : Type} (w : World) (A : Option Addr) (size : Nat) (f : α → List Value) (l : List α) : Prop :=
  ∀ i x, l[i]? = some x → ∃ b off, A = some ⟨b, off, none⟩ ∧ w.rangeAt b (off + i * size) (f x)
theorem SlR.fr {α : Type} {w w' : World} {A : Option Addr} {size : Nat} {f : α → List Value} {l : List α} {F : Nat → Prop} (h : SlR w A size f l) (hf : Fr F w w') (hF : ∀ b off, A = some ⟨b, off, none⟩ → ¬ F b) : SlR w' A size f l := fun i x hx => by
  obtain ⟨b, off, rfl, hr⟩ := h i x hx
  exact ⟨b, off, rfl, fun j v hj => hf.cell (hr j v hj) (hF b off rfl)⟩
theorem SlR.frF {α : Type} {w w' : World} {A : Option Addr} {size : Nat} {f : α → List Value} {l : List α} (h : SlR w A size f l) (hf : Fr (fun _ => False) w w') : SlR w' A size f l := h.fr hf (fun _ _ _ => id)

section
variable {H : Type} {enc : TypeId × Value → H} {P : Program} {w : World}
theorem cells_range {base : Nat} {a : Addr} {n : Nat} {cs : List Value} (h : w.cells? base a n = some cs) (hn : 0 < n) : a.spot = none ∧ w.rangeAt a.block a.off cs ∧ cs.length = n := by
  obtain ⟨_, hlen, hc⟩ := World.cells?_some h
  have h0 := hc 0 hn
  have hs : a.spot = none := by
    have : a.add 0 = a := by simp [Addr.add]
    rw [this, List.getElem?_eq_getElem (by omega)] at h0
    cases hsp : a.spot with
    | none => rfl
    | some b =>
      exfalso
      simp only [World.cell?, hsp, Option.isSome_some, if_true] at h0
      split at h0 <;> cases h0
  refine ⟨hs, fun j v hj => ?_, hlen⟩
  have hjl : j < n := by have := (List.getElem?_eq_some_iff.1 hj).1; omega
  have := hc j hjl
  rw [hj] at this
  obtain ⟨b, o, sp⟩ := a
  simp at hs; subst hs
  rwa [Addr.add_mid] at this
variable (enc P w) in
/-- What cells of type t can be: f of something that meets wf. -/
def Flat (t : TypeId) {α : Type} (f : α → List Value) (wf : α → Prop) : Prop :=
  ∀ (base : Nat) (spare : Nat → Bool) (held : Bool) (fuel : Nat) (cs : List Value) (x : DataW H × List MemPlace), DataW.trod enc P w base spare held fuel t cs = some x → ∃ y, cs = f y ∧ wf y
theorem flat_int {t : TypeId} {k : IntKind} (ht : P.underlying t = some (.int k)) : Flat enc P w t (fun n : Int => [.int k n]) (fun n => (Lit.int k n).wf = true) := fun base spare held fuel cs x h => by
  obtain ⟨n, rfl, _, hw⟩ := DataW.trod_int ht h
  exact ⟨n, rfl, hw⟩
theorem flat_bool {t : TypeId} (ht : P.underlying t = some .bool) : Flat enc P w t (fun b : Bool => [.bool b]) (fun _ => True) := fun base spare held fuel cs x h => by
  obtain ⟨n, rfl, _⟩ := DataW.trod_bool ht h
  exact ⟨n, rfl, trivial⟩
theorem flat_string {t : TypeId} (ht : P.underlying t = some .string) : Flat enc P w t (fun s : ByteArray => [.string s]) (fun s => s.size ≤ maxLen) := fun base spare held fuel cs x h => by
  obtain ⟨n, rfl, _, hw⟩ := DataW.trod_string ht h
  exact ⟨n, rfl, hw⟩
/-- A field of a struct. -/
theorem flat_field {t : TypeId} {fs : Array Field} {fuel : Nat} {cs : List Value} {x : DataW H × List MemPlace} {base : Nat} {spare : Nat → Bool} {held : Bool} (ht : P.underlying t = some (.struct fs)) (h : DataW.trod enc P w base spare held fuel t cs = some x)
    {α : Type} {f : α → List Value} {wf : α → Prop} (i off : Nat) (ty : TypeId) (n : Nat) (hi : (fs[i]?).map (fun fd => (fd.offset, fd.type)) = some (off, ty)) (hc : P.cellsOf ty = n) (hf : Flat enc P w ty f wf) : ∃ y, (cs.drop off).take n = f y ∧ wf y := by
  obtain ⟨xs, m, _, rfl, hl, hlen, hx⟩ := DataW.trod_struct ht h
  obtain ⟨fd, hfd, he⟩ := Option.map_eq_some_iff.1 hi
  simp only [Prod.mk.injEq] at he
  have h1 := hx i fd hfd
  rw [List.getElem?_eq_getElem (by rw [hlen]; exact (Array.getElem?_eq_some_iff.1 hfd).1), he.1, he.2, hc] at h1
  exact hf _ _ _ _ _ _ h1
theorem struct_len {t : TypeId} {fs : Array Field} {fuel : Nat} {cs : List Value} {x : DataW H × List MemPlace} {base : Nat} {spare : Nat → Bool} {held : Bool} (ht : P.underlying t = some (.struct fs)) (h : DataW.trod enc P w base spare held fuel t cs = some x) : cs.length = P.cellsOf t := by
  obtain ⟨xs, n, _, rfl, hl, hlen, hx⟩ := DataW.trod_struct ht h
  exact hl
/-- A slice that came in. -/
theorem slice_open {t e : TypeId} {a : Option Addr} {len cap : Nat} {d : DataW H} {ps : List MemPlace} (ht : P.underlying t = some (.slice e)) {α : Type} {f : α → List Value} {wf : α → Prop} (hf : Flat enc P w e f wf) (hc : 0 < P.cellsOf e)
    {base : Nat} {spare : Nat → Bool} {held : Bool} (h : DataW.Trod enc P w base spare held t (.slice a len cap) d ps) :
    ∃ l : List α, l.length = len ∧ len ≤ cap ∧ cap ≤ maxLen ∧ SlR w a (P.cellsOf e) f l ∧ ∀ y ∈ l, wf y := by
  obtain ⟨fuel, h⟩ := h
  rcases Deep.open_slice ht (show DataW.trod enc P w base spare held fuel t [.slice a len cap] = some (d, ps) from h) with ⟨h1, _⟩ | ⟨ad, len', cap', m, n, D, Pl, h1, _, hl, hm, hmm, _, hx⟩
  · simp at h1
    obtain ⟨rfl, rfl, rfl⟩ := h1
    exact ⟨[], rfl, Nat.le_refl _, Nat.zero_le _, fun i x hx => (by simp at hx), fun y hy => by cases hy⟩
  · simp at h1
    obtain ⟨rfl, rfl, rfl⟩ := h1
    have hlm : len ≤ m := by rw [hmm]; split <;> omega
    have hex : ∀ i, i < len → ∃ y : α, w.cells? base (ad.add (i * P.cellsOf e)) (P.cellsOf e) = some (f y) ∧ wf y := fun i hi => by
      obtain ⟨cs', h2, h3⟩ := hx i (by omega)
      obtain ⟨y, rfl, hy⟩ := hf _ _ _ _ _ _ h3
      exact ⟨y, h2, hy⟩
    have hex' : ∀ k, k ≤ len → ∃ l : List α, l.length = k ∧ ∀ i y, l[i]? = some y → w.cells? base (ad.add (i * P.cellsOf e)) (P.cellsOf e) = some (f y) ∧ wf y := by
      intro k
      induction k with
      | zero => intro _; exact ⟨[], rfl, fun i y hy => by simp at hy⟩
      | succ k ih =>
        intro hk
        obtain ⟨l, hl1, hl2⟩ := ih (by omega)
        obtain ⟨y, hy⟩ := hex k (by omega)
        refine ⟨l ++ [y], by simp [hl1], fun i z hz => ?_⟩
        by_cases hi : i < l.length
        · rw [List.getElem?_append_left hi] at hz; exact hl2 i z hz
        · rw [List.getElem?_append_right (by omega)] at hz
          have : i - l.length = 0 := by
            have := (List.getElem?_eq_some_iff.1 hz).1
            simp at this; omega
          rw [this] at hz
          simp at hz; subst hz
          have : i = k := by omega
          subst this; exact hy
    obtain ⟨l, hl1, hl2⟩ := hex' len (Nat.le_refl _)
    refine ⟨l, hl1, hl, hm, fun i x hxx => ?_, fun y hy => ?_⟩
    · obtain ⟨hs, hr, _⟩ := cells_range (hl2 i x hxx).1 hc
      obtain ⟨b, o, sp⟩ := ad
      have hsp : sp = none := by
        unfold Addr.add at hs
        split at hs
        · exact hs
        · have hl0 : 0 < l.length := by have := (List.getElem?_eq_some_iff.1 hxx).1; omega
          obtain ⟨x0, hx0⟩ : ∃ x0, l[0]? = some x0 := ⟨_, List.getElem?_eq_getElem hl0⟩
          have h9 := (cells_range (hl2 0 x0 hx0).1 hc).1
          simpa [Addr.add] using h9
      subst hsp
      rw [Addr.add_mid] at hr
      exact ⟨b, o, rfl, hr⟩
    · obtain ⟨i, hi⟩ := List.getElem?_of_mem hy
      exact (hl2 i y hi).2
end
end Go.Proofs.Ythmpmpepokeedaa
