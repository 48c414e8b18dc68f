/- BlobTells: the row. -/
import Derived.Test.YtcchhfkmhbjdmaaGreatRows
import Derived.Test.YtcchhfkmhbjdmaaGreatPm1
import Derived.Test.YtcchhfkmhbjdmaaGreatQc5
set_option linter.unusedVariables false
set_option linter.unusedSimpArgs false
namespace Go.Proofs.YtcchhfkmhbjdmaaGreat
open Go.ChangeShapes Go.WideShapes Go.ChangeAt Go.RowKit
theorem str_back (s : ByteArray) : str s.data.toList = s := by
  obtain ⟨⟨l⟩⟩ := s
  rfl
set_option maxRecDepth 20000 in
theorem flatP {H : Type} {enc : TypeId × Value → H} {w : World} : Flat enc Tryz.prog w 42 encP (fun _ => True) := fun base spare held fuel cs x h => by
  have hl := struct_len Tryz.underlying42 h
  rw [show Tryz.prog.cellsOf 42 = 2 by kernel_rfl] at hl
  obtain ⟨K, h0, w0⟩ := flat_field Tryz.underlying42 h 0 0 9 1 rfl (by kernel_rfl) (flat_string Tryz.underlying9)
  obtain ⟨V, h1, w1⟩ := flat_field Tryz.underlying42 h 1 1 9 1 rfl (by kernel_rfl) (flat_string Tryz.underlying9)
  match cs, hl with
  | [c0, c1], _ =>
    simp at h0 h1
    subst h0; subst h1
    exact ⟨(K.data.toList, V.data.toList), by rw [encP, str_back, str_back], trivial⟩
set_option maxRecDepth 20000 in
theorem open_H {H : Type} {enc : TypeId × Value → H} {w : World} {base : Nat} {spare : Nat → Bool} {held : Bool} (fuel : Nat) (cs : List Value) (x : DataW H × List MemPlace) (h : DataW.trod enc Tryz.prog w base spare held fuel 23 cs = some x) :
    ∃ g : Hd, cs = [.string (str g.id), .int .i64 g.ver, .string (str g.nonce)] ∧ DataW.weights Tryz.prog 23 x.1 = [g.id.length, g.nonce.length] := by
  obtain ⟨xs, m, _, rfl, hl, hlen, hx⟩ := DataW.trod_struct Tryz.underlying23 h
  rw [show Tryz.prog.cellsOf 23 = 3 by kernel_rfl] at hl
  match cs, hl with
  | [c0, c1, c2], _ =>
    match xs, hlen with
    | [x0, x1, x2], _ =>
      have a0 : DataW.trod enc Tryz.prog w base spare held m 9 (([c0, c1, c2].drop 0).take (Tryz.prog.cellsOf 9)) = [x0, x1, x2][0]? := hx 0 _ rfl
      have a1 : DataW.trod enc Tryz.prog w base spare held m 3 (([c0, c1, c2].drop 1).take (Tryz.prog.cellsOf 3)) = [x0, x1, x2][1]? := hx 1 _ rfl
      have a2 : DataW.trod enc Tryz.prog w base spare held m 9 (([c0, c1, c2].drop 2).take (Tryz.prog.cellsOf 9)) = [x0, x1, x2][2]? := hx 2 _ rfl
      rw [show Tryz.prog.cellsOf 9 = 1 by kernel_rfl] at a0 a2
      rw [show Tryz.prog.cellsOf 3 = 1 by kernel_rfl] at a1
      simp at a0 a1 a2
      obtain ⟨I, e0, f0, _⟩ := DataW.trod_string Tryz.underlying9 a0
      obtain ⟨v, e1, f1, _⟩ := DataW.trod_int Tryz.underlying3 a1
      obtain ⟨N, e2, f2, _⟩ := DataW.trod_string Tryz.underlying9 a2
      refine ⟨⟨I.data.toList, v, N.data.toList⟩, ?_, ?_⟩
      · simp at e0 e1 e2
        rw [e0, e1, e2, str_back, str_back]
      · rw [f0, f1, f2]
        simp [DataW.weights, DataW.weightsEach, Tryz.underlying23]
namespace blobTells
set_option maxRecDepth 100000 in
theorem lifted (os : Os) (started : os.Started) (H : Type) (enc : TypeId × Value → H) :
    ReturnsInHanded {} Tryz.checked os 3 .any (Rows.blobTellsSpec.pre6 enc Tryz.prog Tryz.f3 Rows.blobTellsRow.domain false) (Rows.blobTellsSpec.post enc Tryz.prog Tryz.f3 false true false false) := by
  refine returnsInHanded_of_change_sized (C := Tryz.checked) own started (by kernel_rfl) Tryz.func3
    (ChangeSpec.witness6 (enc := enc) (C := Tryz.checked) false ⟨#[], #[.string ⟨#[]⟩, .agg #[.string ⟨#[]⟩, .int .i64 0, .string ⟨#[]⟩], .slice none 0 0, .string ⟨#[]⟩, .string ⟨#[]⟩], []⟩ 8 (by kernel_rfl) (by kernel_rfl) (by kernel_rfl) (by kernel_rfl)) ?_
  intro W base args ds gs before hval0 hW hcnd hsz0 _
  have hval : ∀ (j : Nat) t v, Tryz.f3.params[j]? = some t → args[j]? = some v → Value.okWide Tryz.prog W .any base t v := hval0
  have hW' := hW
  obtain ⟨p, q, hA0, hV, rfl, hfz, hnd⟩ := hW
  have hA : DataW.TrodAll enc Tryz.prog W 0 (fun _ => true) true Tryz.f3.params.toList args.toList ds p := hA0
  rw [Tryz.params3] at hA hval
  obtain ⟨v0, vs0, d0, ds0, p0, q0, hargs, rfl, rfl, h0, r0⟩ := trodAll_cons hA
  obtain ⟨v1, vs1, d1, ds1, p1, q1, rfl, rfl, rfl, h1, r1⟩ := trodAll_cons r0
  obtain ⟨v2, vs2, d2, ds2, p2, q2, rfl, rfl, rfl, h2, r2⟩ := trodAll_cons r1
  obtain ⟨v3, vs3, d3, ds3, p3, q3, rfl, rfl, rfl, h3, r3⟩ := trodAll_cons r2
  obtain ⟨v4, vs4, d4, ds4, p4, q4, rfl, rfl, rfl, h4, r4⟩ := trodAll_cons r3
  obtain ⟨rfl, rfl, rfl⟩ := trodAll_nil r4
  obtain rfl : args = #[v0, v1, v2, v3, v4] := by cases args; simp_all
  obtain ⟨rfl, rfl⟩ := trodVars_none hV
  obtain ⟨a2, len2, cap2, rfl⟩ := okWide_slice Tryz.underlying24 (hval 2 24 v2 rfl rfl)
  obtain ⟨c1, rfl, hc1⟩ := okWide_struct Tryz.underlying23 (hval 1 23 v1 rfl rfl)
  have k0 := h0
  have k1 := h1
  have k2 := h2
  have k3 := h3
  have k4 := h4
  have lt0 : ∀ x ∈ p0, x.block < W.heap.size := by obtain ⟨m, hm⟩ := k0; exact DataW.trod_lt m _ _ _ hm
  have lt1 : ∀ x ∈ p1, x.block < W.heap.size := by obtain ⟨m, hm⟩ := k1; exact DataW.trod_lt m _ _ _ hm
  have lt2 : ∀ x ∈ p2, x.block < W.heap.size := by obtain ⟨m, hm⟩ := k2; exact DataW.trod_lt m _ _ _ hm
  have lt3 : ∀ x ∈ p3, x.block < W.heap.size := by obtain ⟨m, hm⟩ := k3; exact DataW.trod_lt m _ _ _ hm
  have lt4 : ∀ x ∈ p4, x.block < W.heap.size := by obtain ⟨m, hm⟩ := k4; exact DataW.trod_lt m _ _ _ hm
  obtain ⟨key, rfl, _, _, hs0⟩ := Go.ChangeMaps.open_string Tryz.underlying9 (hval 0 9 v0 rfl rfl) h0
  obtain ⟨f1, hf1⟩ := h1
  obtain ⟨h, hv1, hw1⟩ := open_H _ _ _ hf1
  obtain rfl : c1 = #[.string (str h.id), .int .i64 h.ver, .string (str h.nonce)] := by
    have : c1.toList = _ := hv1
    rw [← Array.toArray_toList (xs := c1), this]
  obtain ⟨l, hl2, hlc2, hcm2, hr2, hwf2⟩ := slice_open Tryz.underlying24 flatP (by rw [show Tryz.prog.cellsOf 42 = 2 by kernel_rfl]; omega) h2
  rw [show Tryz.prog.cellsOf 42 = 2 by kernel_rfl] at hr2
  have hcm2' : cap2 ≤ 9223372036854775807 := hcm2
  obtain ⟨text, rfl, _, _, hs3⟩ := Go.ChangeMaps.open_string Tryz.underlying9 (hval 3 9 v3 rfl rfl) h3
  obtain ⟨b, rfl, _, _, hs4⟩ := Go.ChangeMaps.open_string Tryz.underlying9 (hval 4 9 v4 rfl rfl) h4
  rw [← str_back key, ← str_back text, ← str_back b]
  clear hA0 hval0 hsz0
  subst hl2
  refine (btells_walk key.data.toList text.data.toList b.data.toList h a2 cap2 l W (PSl.of_sl hr2) hlc2 hcm2').mono fun e W' ⟨he, hfr⟩ => ?_
  have bel := hfr.toBelow
  subst he
  exact ⟨_, rfl, _, _, _, [], _, [], hW', trodAll_mk1 (shut_bool Tryz.underlying4 _), (trodAll_cons_mk (Below.trod laidOut (by kernel_rfl) (of_decide_eq_true (by kernel_rfl)) k0 bel lt0) (trodAll_cons_mk (Below.trod laidOut (by kernel_rfl) (of_decide_eq_true (by kernel_rfl)) k1 bel lt1) (trodAll_cons_mk (Below.trod laidOut (by kernel_rfl) (of_decide_eq_true (by kernel_rfl)) k2 bel lt2) (trodAll_cons_mk (Below.trod laidOut (by kernel_rfl) (of_decide_eq_true (by kernel_rfl)) k3 bel lt3) (trodAll_cons_mk (Below.trod laidOut (by kernel_rfl) (of_decide_eq_true (by kernel_rfl)) k4 bel lt4) trodAll_mk0))))), rfl, bel.frame _, fun h => by cases h⟩
theorem over : Rows.blobTellsRow.holds Tryz.pinned (OpenSpec.ofChange Rows.blobTellsSpec) :=
  OpenClaim.holds_of_wide 3 Tryz.f3 rfl rfl rfl rfl rfl rfl rfl ⟨rfl, rfl, rfl, rfl, rfl⟩ rfl rfl rfl rfl rfl (by kernel_rfl) Tryz.func3 (by kernel_rfl)
    (of_decide_eq_true (by kernel_rfl)) (by unfold Func.isWrapper; first | (rw [if_pos (by decide +kernel)]; kernel_rfl) | (rw [if_neg (by decide +kernel)]; exact ⟨rfl, rfl⟩))
    (fun os started H enc _ => lifted os started H enc)
theorem proved : Rows.BlobTellsSaid := over
end blobTells
/-- The row, under a short name, for the claim. -/
theorem blobTells_holds : Rows.BlobTellsSaid := blobTells.proved
#print axioms blobTells_holds
end Go.Proofs.YtcchhfkmhbjdmaaGreat
