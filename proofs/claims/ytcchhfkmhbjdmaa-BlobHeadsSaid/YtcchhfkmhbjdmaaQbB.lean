/- BlobHeads: the row. -/
import Derived.Test.YtcchhfkmhbjdmaaRows
import Derived.Test.YtcchhfkmhbjdmaaPm1
import Derived.Test.YtcchhfkmhbjdmaaQbA
set_option linter.unusedVariables false
set_option linter.unusedSimpArgs false
namespace Go.Proofs.Ytcchhfkmhbjdmaa
open Go.ChangeShapes Go.WideShapes Go.ChangeAt Go.RowKit
theorem str_back (s : ByteArray) : str s.data.toList = s := by
  obtain ⟨⟨l⟩⟩ := s
  rfl
set_option maxRecDepth 20000 in
theorem flatP {H : Type} {enc : TypeId × Value → H} {w : World} : Flat enc Try.prog w 138 encP (fun _ => True) := fun base spare held fuel cs x h => by
  have hl := struct_len Try.underlying138 h
  rw [show Try.prog.cellsOf 138 = 2 by kernel_rfl] at hl
  obtain ⟨K, h0, w0⟩ := flat_field Try.underlying138 h 0 0 9 1 rfl (by kernel_rfl) (flat_string Try.underlying9)
  obtain ⟨V, h1, w1⟩ := flat_field Try.underlying138 h 1 1 9 1 rfl (by kernel_rfl) (flat_string Try.underlying9)
  match cs, hl with
  | [c0, c1], _ =>
    simp at h0 h1
    subst h0; subst h1
    exact ⟨(K.data.toList, V.data.toList), by rw [encP, str_back, str_back], trivial⟩
set_option maxRecDepth 20000 in
theorem open_H {H : Type} {enc : TypeId × Value → H} {w : World} {base : Nat} {spare : Nat → Bool} {held : Bool} (fuel : Nat) (cs : List Value) (x : DataW H × List MemPlace) (h : DataW.trod enc Try.prog w base spare held fuel 83 cs = some x) :
    ∃ g : Hd, cs = [.string (str g.id), .int .i64 g.ver, .string (str g.nonce)] ∧ DataW.weights Try.prog 83 x.1 = [g.id.length, g.nonce.length] := by
  obtain ⟨xs, m, _, rfl, hl, hlen, hx⟩ := DataW.trod_struct Try.underlying83 h
  rw [show Try.prog.cellsOf 83 = 3 by kernel_rfl] at hl
  match cs, hl with
  | [c0, c1, c2], _ =>
    match xs, hlen with
    | [x0, x1, x2], _ =>
      have a0 : DataW.trod enc Try.prog w base spare held m 9 (([c0, c1, c2].drop 0).take (Try.prog.cellsOf 9)) = [x0, x1, x2][0]? := hx 0 _ rfl
      have a1 : DataW.trod enc Try.prog w base spare held m 3 (([c0, c1, c2].drop 1).take (Try.prog.cellsOf 3)) = [x0, x1, x2][1]? := hx 1 _ rfl
      have a2 : DataW.trod enc Try.prog w base spare held m 9 (([c0, c1, c2].drop 2).take (Try.prog.cellsOf 9)) = [x0, x1, x2][2]? := hx 2 _ rfl
      rw [show Try.prog.cellsOf 9 = 1 by kernel_rfl] at a0 a2
      rw [show Try.prog.cellsOf 3 = 1 by kernel_rfl] at a1
      simp at a0 a1 a2
      obtain ⟨I, e0, f0, _⟩ := DataW.trod_string Try.underlying9 a0
      obtain ⟨v, e1, f1, _⟩ := DataW.trod_int Try.underlying3 a1
      obtain ⟨N, e2, f2, _⟩ := DataW.trod_string Try.underlying9 a2
      refine ⟨⟨I.data.toList, v, N.data.toList⟩, ?_, ?_⟩
      · simp at e0 e1 e2
        rw [e0, e1, e2, str_back, str_back]
      · rw [f0, f1, f2]
        simp [DataW.weights, DataW.weightsEach, Try.underlying83]
namespace blobHeads
set_option maxRecDepth 100000 in
theorem lifted (os : Os) (started : os.Started) (H : Type) (enc : TypeId × Value → H) :
    ReturnsInHanded {} Try.checked os 16 .any (Rows.blobHeadsSpec.pre6 enc Try.prog Try.f16 Rows.blobHeadsRow.domain false) (Rows.blobHeadsSpec.post enc Try.prog Try.f16 false true false false) := by
  refine returnsInHanded_of_change_sized (C := Try.checked) own started (by kernel_rfl) Try.func16
    (ChangeSpec.witness6 (enc := enc) (C := Try.checked) false ⟨#[], #[.string ⟨#[]⟩, .agg #[.string ⟨#[]⟩, .int .i64 0, .string ⟨#[]⟩], .agg #[.string ⟨#[]⟩, .int .i64 0, .string ⟨#[]⟩], .slice none 0 0, .string ⟨#[]⟩], []⟩ 8 (by kernel_rfl) (by kernel_rfl) (by kernel_rfl) (by kernel_rfl)) ?_
  intro W base args ds gs before hval0 hW hcnd hsz0 _
  have hval : ∀ (j : Nat) t v, Try.f16.params[j]? = some t → args[j]? = some v → Value.okWide Try.prog W .any base t v := hval0
  have hW' := hW
  obtain ⟨p, q, hA0, hV, rfl, hfz, hnd⟩ := hW
  have hA : DataW.TrodAll enc Try.prog W 0 (fun _ => true) true Try.f16.params.toList args.toList ds p := hA0
  rw [Try.params16] at hA hval
  obtain ⟨v0, vs0, d0, ds0, p0, q0, hargs, rfl, rfl, h0, r0⟩ := trodAll_cons hA
  obtain ⟨v1, vs1, d1, ds1, p1, q1, rfl, rfl, rfl, h1, r1⟩ := trodAll_cons r0
  obtain ⟨v2, vs2, d2, ds2, p2, q2, rfl, rfl, rfl, h2, r2⟩ := trodAll_cons r1
  obtain ⟨v3, vs3, d3, ds3, p3, q3, rfl, rfl, rfl, h3, r3⟩ := trodAll_cons r2
  obtain ⟨v4, vs4, d4, ds4, p4, q4, rfl, rfl, rfl, h4, r4⟩ := trodAll_cons r3
  obtain ⟨rfl, rfl, rfl⟩ := trodAll_nil r4
  obtain rfl : args = #[v0, v1, v2, v3, v4] := by cases args; simp_all
  obtain ⟨rfl, rfl⟩ := trodVars_none hV
  obtain ⟨a3, len3, cap3, rfl⟩ := okWide_slice Try.underlying84 (hval 3 84 v3 rfl rfl)
  obtain ⟨c1, rfl, hc1⟩ := okWide_struct Try.underlying83 (hval 1 83 v1 rfl rfl)
  obtain ⟨c2, rfl, hc2⟩ := okWide_struct Try.underlying83 (hval 2 83 v2 rfl rfl)
  have k0 := h0
  have k1 := h1
  have k2 := h2
  have k3 := h3
  have k4 := h4
  have lt0 : ∀ x ∈ p0, x.block < W.heap.size := by obtain ⟨m, hm⟩ := k0; exact DataW.trod_lt m _ _ _ hm
  have lt1 : ∀ x ∈ p1, x.block < W.heap.size := by obtain ⟨m, hm⟩ := k1; exact DataW.trod_lt m _ _ _ hm
  have lt2 : ∀ x ∈ p2, x.block < W.heap.size := by obtain ⟨m, hm⟩ := k2; exact DataW.trod_lt m _ _ _ hm
  have lt3 : ∀ x ∈ p3, x.block < W.heap.size := by obtain ⟨m, hm⟩ := k3; exact DataW.trod_lt m _ _ _ hm
  have lt4 : ∀ x ∈ p4, x.block < W.heap.size := by obtain ⟨m, hm⟩ := k4; exact DataW.trod_lt m _ _ _ hm
  obtain ⟨key, rfl, hd0, _, hs0⟩ := Go.ChangeMaps.open_string Try.underlying9 (hval 0 9 v0 rfl rfl) h0
  obtain ⟨f1, hf1⟩ := h1
  obtain ⟨g, hv1, hw1⟩ := open_H _ _ _ hf1
  obtain rfl : c1 = #[.string (str g.id), .int .i64 g.ver, .string (str g.nonce)] := by
    have : c1.toList = _ := hv1
    rw [← Array.toArray_toList (xs := c1), this]
  obtain ⟨f2, hf2⟩ := h2
  obtain ⟨h, hv2, hw2⟩ := open_H _ _ _ hf2
  obtain rfl : c2 = #[.string (str h.id), .int .i64 h.ver, .string (str h.nonce)] := by
    have : c2.toList = _ := hv2
    rw [← Array.toArray_toList (xs := c2), this]
  obtain ⟨l, hl3, hlc3, hcm3, hr3, hwf3⟩ := slice_open Try.underlying84 flatP (by rw [show Try.prog.cellsOf 138 = 2 by kernel_rfl]; omega) h3
  rw [show Try.prog.cellsOf 138 = 2 by kernel_rfl] at hr3
  have hcm3' : cap3 ≤ 9223372036854775807 := hcm3
  obtain ⟨text, rfl, hd4, _, hs4⟩ := Go.ChangeMaps.open_string Try.underlying9 (hval 4 9 v4 rfl rfl) h4
  rw [Try.params16] at hsz0
  have hrb : reachBytes ≤ 140737488355328 := Nat.le_of_lt reachBytes_lt
  have z0 : key.data.toList.length ≤ 140737488355328 := Nat.le_trans (sized_string (j := 0) hsz0 rfl (by rw [hd0]; rfl)) hrb
  have z4 : text.data.toList.length ≤ 140737488355328 := Nat.le_trans (sized_string (j := 4) hsz0 rfl (by rw [hd4]; rfl)) hrb
  have z1 : ∀ n ∈ DataW.weights Try.prog 83 d1, n ≤ 140737488355328 := fun n hn => by
    have := List.all_eq_true.1 hsz0 _ (DataW.weights_mem_each (j := 1) rfl rfl n hn)
    exact Nat.le_trans (of_decide_eq_true this) hrb
  have z2 : ∀ n ∈ DataW.weights Try.prog 83 d2, n ≤ 140737488355328 := fun n hn => by
    have := List.all_eq_true.1 hsz0 _ (DataW.weights_mem_each (j := 2) rfl rfl n hn)
    exact Nat.le_trans (of_decide_eq_true this) hrb
  rw [← str_back key, ← str_back text]
  clear hA0 hval0 hsz0
  subst hl3
  refine (heads_walk key.data.toList text.data.toList g h a3 cap3 l z0 z4 (z1 _ (by rw [hw1]; simp)) (z1 _ (by rw [hw1]; simp)) (z2 _ (by rw [hw2]; simp)) (z2 _ (by rw [hw2]; simp)) W (PSl.of_sl hr3) hlc3 hcm3').mono fun e W' ⟨he, hfr⟩ => ?_
  have bel := hfr.toBelow
  subst he
  exact ⟨_, rfl, _, _, _, [], _, [], hW', trodAll_mk1 (shut_bool Try.underlying4 _), (trodAll_cons_mk (Below.trod laidOut (by kernel_rfl) (of_decide_eq_true (by kernel_rfl)) k0 bel lt0) (trodAll_cons_mk (Below.trod laidOut (by kernel_rfl) (of_decide_eq_true (by kernel_rfl)) k1 bel lt1) (trodAll_cons_mk (Below.trod laidOut (by kernel_rfl) (of_decide_eq_true (by kernel_rfl)) k2 bel lt2) (trodAll_cons_mk (Below.trod laidOut (by kernel_rfl) (of_decide_eq_true (by kernel_rfl)) k3 bel lt3) (trodAll_cons_mk (Below.trod laidOut (by kernel_rfl) (of_decide_eq_true (by kernel_rfl)) k4 bel lt4) trodAll_mk0))))), rfl, bel.frame _, fun h => by cases h⟩
theorem over : Rows.blobHeadsRow.holds Try.pinned (OpenSpec.ofChange Rows.blobHeadsSpec) :=
  OpenClaim.holds_of_wide 16 Try.f16 rfl rfl rfl rfl rfl rfl rfl ⟨rfl, rfl, rfl, rfl, rfl⟩ rfl rfl rfl rfl rfl (by kernel_rfl) Try.func16 (by kernel_rfl)
    (of_decide_eq_true (by kernel_rfl)) (by unfold Func.isWrapper; first | (rw [if_pos (by decide +kernel)]; kernel_rfl) | (rw [if_neg (by decide +kernel)]; exact ⟨rfl, rfl⟩))
    (fun os started H enc _ => lifted os started H enc)
theorem proved : Rows.BlobHeadsSaid := over
end blobHeads
/-- The row, under a short name, for the claim. -/
theorem blobHeads_holds : Rows.BlobHeadsSaid := blobHeads.proved
#print axioms blobHeads_holds
end Go.Proofs.Ytcchhfkmhbjdmaa
