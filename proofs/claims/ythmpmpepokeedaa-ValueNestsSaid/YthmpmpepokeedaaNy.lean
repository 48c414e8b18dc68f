/- Values: what an argument of type Value reads as. -/
import Derived.Test.YthmpmpepokeedaaNr
set_option linter.unusedVariables false
set_option linter.unusedSimpArgs false
namespace Go.Proofs.Ythmpmpepokeedaa
open Go.RowKit Go.ChangeShapes Go.WideShapes
theorem wf_of {k n : Int} {s : List UInt8} {b : Bool} {l : List VT} (hn : (Lit.int .i64 n).wf = true) (h : ∀ (i : Nat) (t : VT), l[i]? = some t → WfA (ofV t)) : WfA (ofV (.mk k n s b l)) := by
  have hi : inI n := by
    have := hn
    have e1 : IntKind.i64.min = -9223372036854775808 := rfl
    have e2 : IntKind.i64.max = 9223372036854775807 := rfl
    simp [Lit.wf, inI] at this ⊢
    omega
  rw [ofV]
  by_cases h1 : k = 1
  · rw [if_pos h1]; exact .int n hi
  by_cases h2 : k = 2
  · rw [if_neg h1, if_pos h2]; exact .text s
  by_cases h3 : k = 3
  · rw [if_neg h1, if_neg h2, if_pos h3]; exact .yes b
  by_cases h4 : k = 4
  · rw [if_neg h1, if_neg h2, if_neg h3, if_pos h4, ofVs_map]
    refine .row _ fun a ha => ?_
    obtain ⟨t, ht, rfl⟩ := List.mem_map.1 ha
    obtain ⟨i, hi⟩ := List.getElem?_of_mem ht
    exact h i t hi
  · rw [if_neg h1, if_neg h2, if_neg h3, if_neg h4]; exact .non
set_option maxRecDepth 20000 in
theorem open_VW {H : Type} {enc : TypeId × Value → H} {w : World} {base : Nat} {spare : Nat → Bool} {held : Bool} : ∀ (fuel : Nat) (cs : List Value) (x : DataW H × List MemPlace),
    DataW.trod enc Try.prog w base spare held fuel 36 cs = some x → ∃ t, VR w (fun _ => True) t cs ∧ WfA (ofV t) := by
  intro fuel
  induction fuel using Nat.strongRecOn with
  | ind fuel ih =>
    intro cs x h
    have hl := struct_len Try.underlying36 h
    rw [show Try.prog.cellsOf 36 = 5 by kernel_rfl] at hl
    obtain ⟨k, h0, w0⟩ := flat_field Try.underlying36 h 0 0 3 1 rfl (by kernel_rfl) (flat_int Try.underlying3)
    obtain ⟨n, h1, w1⟩ := flat_field Try.underlying36 h 1 1 3 1 rfl (by kernel_rfl) (flat_int Try.underlying3)
    obtain ⟨s, h2, w2⟩ := flat_field Try.underlying36 h 2 2 9 1 rfl (by kernel_rfl) (flat_string Try.underlying9)
    obtain ⟨b, h3, w3⟩ := flat_field Try.underlying36 h 3 3 4 1 rfl (by kernel_rfl) (flat_bool Try.underlying4)
    obtain ⟨xs, m, rfl, rfl, _, hlen, hx⟩ := DataW.trod_struct Try.underlying36 h
    have h4 := hx 4 _ rfl
    rw [List.getElem?_eq_getElem (by rw [hlen]; decide)] at h4
    match cs, hl with
    | [c0, c1, c2, c3, c4], _ =>
      simp at h0 h1 h2 h3
      subst h0; subst h1; subst h2; subst h3
      have h4' : DataW.trod enc Try.prog w base spare held m 34 [c4] = some (xs[4]'(by rw [hlen]; decide)) := h4
      have hs : s.data.toList.length ≤ 9223372036854775807 := by
        have : s.size ≤ maxLen := w2
        have e2 : s.data.toList.length = s.size := by rw [Array.length_toList]; rfl
        rw [e2]; exact this
      rw [← bstr s]
      rcases DataW.trod_slice Try.underlying34 h4' with ⟨he, _⟩ | ⟨ad, len, cap, elems, rest, m', rfl, he, _, _, hlc, hcm, hel, hem, _, _⟩
      · simp at he
        subst he
        exact ⟨.mk k n s.data.toList b [], .mk k n _ b [] none 0 (fun _ => []) (Nat.le_refl _) (by omega) hs (.inl rfl) (fun i t ht => by simp at ht), wf_of w1 (fun i t ht => by simp at ht)⟩
      · simp at he
        subst he
        rw [show Try.prog.cellsOf 36 = 5 by kernel_rfl] at hem
        have hex : ∀ i, i < len → ∃ y t, w.cells? base (ad.add (i * 5)) 5 = some y ∧ VR w (fun _ => True) t y ∧ WfA (ofV t) := fun i hi => by
          have h5 := hem i hi
          rw [List.getElem?_eq_getElem (by omega)] at h5
          obtain ⟨y, hy, h6⟩ := Option.bind_eq_some_iff.1 h5
          obtain ⟨t, ht⟩ := ih m' (by omega) y _ h6
          exact ⟨y, t, hy, ht⟩
        have hex' : ∀ k, k ≤ len → ∃ (l : List VT) (f : Nat → List Value), l.length = k ∧ ∀ i y, l[i]? = some y → w.cells? base (ad.add (i * 5)) 5 = some (f i) ∧ VR w (fun _ => True) y (f i) ∧ WfA (ofV y) := by
          intro k
          induction k with
          | zero => intro _; exact ⟨[], fun _ => [], rfl, fun i y hy => by simp at hy⟩
          | succ k ihk =>
            intro hk
            obtain ⟨l, f, hl1, hl2⟩ := ihk (by omega)
            obtain ⟨y, t, hy, ht⟩ := hex k (by omega)
            refine ⟨l ++ [t], fun i => if i = k then y else f i, by simp [hl1], fun i z hz => ?_⟩
            by_cases hi : i < l.length
            · rw [List.getElem?_append_left hi] at hz
              show w.cells? base (ad.add (i * 5)) 5 = some (if i = k then y else f i) ∧ VR w (fun _ => True) z (if i = k then y else f i) ∧ WfA (ofV z)
              rw [if_neg (by omega)]
              exact hl2 i z hz
            · rw [List.getElem?_append_right (by omega)] at hz
              have h9 : i - l.length = 0 := by
                have := (List.getElem?_eq_some_iff.1 hz).1
                simp at this; omega
              rw [h9] at hz
              simp at hz; subst hz
              have : i = k := by omega
              subst this
              show w.cells? base (ad.add (i * 5)) 5 = some (if i = i then y else f i) ∧ VR w (fun _ => True) t (if i = i then y else f i) ∧ WfA (ofV t)
              rw [if_pos rfl]
              exact ⟨hy, ht⟩
        obtain ⟨l, f, hl1, hl2⟩ := hex' len (Nat.le_refl _)
        subst hl1
        refine ⟨.mk k n s.data.toList b l, .mk k n _ b l (some ad) cap f hlc hcm hs ?_ (fun i t ht => (hl2 i t ht).2.1), wf_of w1 (fun i t ht => (hl2 i t ht).2.2)⟩
        by_cases hz : l = []
        · exact .inl hz
        · have hl0 : 0 < l.length := List.length_pos_iff.2 hz
          obtain ⟨x0, hx0⟩ : ∃ x0, l[0]? = some x0 := ⟨_, List.getElem?_eq_getElem hl0⟩
          have h9 := (cells_range (hl2 0 x0 hx0).1 (by decide)).1
          obtain ⟨g, o, sp⟩ := ad
          have hsp : sp = none := by simpa [Addr.add] using h9
          subst hsp
          refine .inr ⟨g, o, rfl, trivial, fun i t ht => ?_⟩
          obtain ⟨_, hr, _⟩ := cells_range (hl2 i t ht).1 (by decide)
          rw [Addr.add_mid] at hr
          exact hr
end Go.Proofs.Ythmpmpepokeedaa
