/- ShaTells: no strings. -/
import Derived.Test.YtcchhfkmhbjdmaaJo
import Derived.Test.YtcchhfkmhbjdmaaL3
import Derived.Deep.Upon
set_option linter.unusedVariables false
set_option linter.unusedSimpArgs false
set_option pp.deepTerms true
set_option pp.maxSteps 100000
namespace Go.Proofs.Ytcchhfkmhbjdmaa
open Go.RowKit Go.ChangeShapes Go.WideShapes
section
variable {ops : Array Oper} {rest : List Oper} {op : Oper} {a : Act} {w : World} {Q : Exit → Act → World → Prop}
set_option maxRecDepth 20000 in
theorem wpList_append_none (hgd : Region.wanted op (yielded ops a.tmps) = true) (s y : Operand) (ho : op.op = .call { callee := .builtin .append, args := #[s, y], argTypes := #[42, 42] })
    (g : Nat) (A : Option Addr) (c : Nat) (hs : a.eval s = .slice (some ⟨g, 0, none⟩) 0 0) (hy : a.eval y = .slice A 0 c)
    (hk : wpList Try.prog ops Q rest (a.put op.dst (.slice (some ⟨g, 0, none⟩) 0 0)) w) : wpList Try.prog ops Q (op :: rest) a w := by
  refine wpList_step fun K hK => ?_
  rw [if_pos hgd]
  obtain ⟨i0, hi0⟩ : ∃ i0, Try.prog.info? 9 = some i0 := ⟨_, rfl⟩
  have hsrc : Src Try.prog i0.size 42 (.slice A 0 c) 0 [] w := by
    cases A with
    | none => exact Src.ofNil w Try.underlying42 c
    | some ad => exact Src.ofSlice w Try.underlying42 ad 0 c [] (by simp) (fun j u hj => by simp at hj) (fun u hu => by cases hu)
  have hr := run_append_nothing (P := Try.prog) w 42 42 op.type 9 i0 Try.underlying42 hi0 (some ⟨g, 0, none⟩) 0 0 (Nat.le_refl _) (.slice A 0 c) hsrc
  unfold Oper.wp execOp
  simp only [ho, resolve, invoke, builtin, Sem.run_bind, Sem.run_pure, Result.andThen_ok, List.map_toArray, List.map_cons, List.map_nil, hs, hy, hr]
  exact hK _ _ hk
end
set_option maxRecDepth 20000 in
set_option maxHeartbeats 1000000 in
theorem tells_nil (A : Option Addr) (c : Nat) (w : World) : Calls Try.prog 7 #[.slice A 0 c] w fun e w' => e = .returned (.bool true) ∧ Fr (fun _ => False) w w' := by
  obtain ⟨DS, hDS⟩ : ∃ D, D = str (dig []) := ⟨_, rfl⟩
  have HSum := Lib.hid (show ∀ w T K, TRep w T K Tal.new → Calls Try.prog 30 #[.pointer (some ⟨T, 0, none⟩)] w fun e w' => e = .returned (.string DS) ∧ Fr (fun _ => False) w w' from fun w T K h => by
    rw [hDS, dig_sum, Tal.add_nil _ (by decide)]; exact sha_sum T K _ (by decide) w h)
  have HRef := Lib.hid (show ∀ w, Calls Try.prog 31 #[.string ⟨#[]⟩] w fun e w' => e = .returned (.string DS) ∧ Fr (fun _ => False) w w' from fun w => by
    rw [hDS]; exact ref_sum [] (by decide) w)
  have HOf := Lib.hid (show ∀ (w : World) g, g < w.heap.size → Calls Try.prog 33 #[.slice (some ⟨g, 0, none⟩) 0 0] w fun e w' => e = .returned (.string DS) ∧ Fr (fun _ => False) w w' from fun w g hg => by
    rw [hDS]; exact sha_of g 0 [] w (fun j s hj => by simp at hj) (by decide) (by decide) hg)
  clear hDS
  go_enter Try.func7, Try.ntmps7
  go_wp2_with fail
  refine (sha_awake _).mono ?_
  rintro e w1 ⟨rfl, h1⟩
  have HF1 := Lib.hid h1
  clear h1
  go_wp2_with fail
  refine (few_nil A c w1).mono ?_
  rintro e w2 ⟨rfl, rfl⟩
  go_wp2_with fail
  refine (sha_new _).mono ?_
  rintro e w3 ⟨T, K, rfl, h3, hT, hK, hf3⟩
  have H3 := Lib.hid h3
  have HF3 := Lib.hid (HF1.out.trans hf3 (fun i hi => hi.elim))
  clear h3 hf3 hT hK
  go_wp2_with fail
  go_loopw [4, 5] (fun v4 v5 wr => v4 = .string ⟨#[]⟩ ∧ v5 = .int .i64 0 ∧ TRep wr T K Tal.new ∧ Fr (fun _ => False) w wr) (fun _ _ _ => 0)
  case atStart => exact ⟨rfl, rfl, H3.out, HF3.out⟩
  case round =>
    obtain ⟨rfl, rfl, ht, hf⟩ := hrel
    have H4 := Lib.hid ht
    have HF4 := Lib.hid hf
    clear ht hf H3 HF3
    go_wp2_with fail
    refine (HSum.out wr T K H4.out).mono ?_
    rintro e w6 ⟨rfl, hf6⟩
    have HF6 := Lib.hid (HF4.out.trans hf6 (fun i hi => hi.elim))
    clear hf6
    go_wp2_with fail
    refine (HRef.out w6).mono ?_
    rintro e w7 ⟨rfl, hf7⟩
    have HF7 := Lib.hid (HF6.out.trans hf7 (fun i hi => hi.elim))
    have HF8 := Lib.hid (HF7.out.alloc (.cells #[] 9))
    have HOf9 := Lib.hid (HOf.out (w7.alloc (.cells #[] 9)) w7.heap.size (by rw [World.size_alloc]; omega))
    clear hf7
    go_wp2_with (with_reducible refine wpList_append_none (op := ⟨some 55, _, _, _, _, _⟩) (by kernel_rfl) _ _ rfl w7.heap.size A c rfl rfl ?_)
    refine HOf9.out.mono ?_
    rintro e w10 ⟨rfl, hf10⟩
    have HF10 := Lib.hid (HF8.out.trans hf10 (fun i hi => hi.elim))
    clear hf10
    go_wp2_with fail
    refine (HRef.out w10).mono ?_
    rintro e w11 ⟨rfl, hf11⟩
    have HF11 := Lib.hid (HF10.out.trans hf11 (fun i hi => hi.elim))
    clear hf11
    go_wp2_with fail
    go_ret
    exact ⟨by simp, HF11.out⟩
/-! ### the argument -/
theorem weights_mem {H : Type} {P : Program} {e : TypeId} : ∀ {ds : List (DataW H)} {d : DataW H}, d ∈ ds → ∀ n ∈ d.weights P e, n ∈ DataW.weightsAll P e ds
  | d0 :: ds, d, hd, n, hn => by
    simp only [DataW.weightsAll, List.mem_append]
    rcases List.mem_cons.1 hd with rfl | hd
    · exact .inl hn
    · exact .inr (weights_mem hd n hn)
  | [], _, hd, _, _ => by cases hd
theorem strs_open {H : Type} {enc : TypeId × Value → H} {P : Program} {w : World} {t e : TypeId} {a : Option Addr} {len cap : Nat} {d : DataW H} {ps : List MemPlace} (ht : P.underlying t = some (.slice e)) (he : P.underlying e = some .string) (hc : P.cellsOf e = 1)
    {base : Nat} {spare : Nat → Bool} {held : Bool} (h : DataW.Trod enc P w base spare held t (.slice a len cap) d ps) (R : Nat) (hw : ∀ n ∈ d.weights P t, n ≤ R) :
    len = 0 ∨ ∃ (b o : Nat) (parts : List (List UInt8)), a = some ⟨b, o, none⟩ ∧ parts.length = len ∧ len ≤ cap ∧ cap ≤ maxLen ∧ (∀ j s, parts[j]? = some s → w.cell? ⟨b, o + j, none⟩ = some (.string (str s))) ∧ (∀ s ∈ parts, s.length ≤ R) := by
  obtain ⟨fuel, h⟩ := h
  rcases Deep.open_slice1 ht hc (show DataW.trod enc P w base spare held fuel t [.slice a len cap] = some (d, ps) from h) with ⟨h1, _⟩ | ⟨ad, len', cap', m, n, V, D, Pl, h1, hb, hl, hm, hmm, hx, hv⟩
  · simp at h1
    exact .inl h1.2.1
  · simp at h1
    obtain ⟨rfl, rfl, rfl⟩ := h1
    have hlm : len ≤ m := by rw [hmm]; split <;> omega
    by_cases h0 : len = 0
    · exact .inl h0
    · refine .inr ?_
      have hV : ∀ i, i < m → ∃ s : ByteArray, V i = .string s ∧ D i = .lit (.string s.data.toList) := fun i hi => by
        obtain ⟨_, h2⟩ := hv i hi
        obtain ⟨s, h3, h4, _⟩ := DataW.trod_string he h2
        simp at h3 h4
        exact ⟨s, h3, h4.1⟩
      have hsp : ad.spot = none := by
        obtain ⟨s, hs, _⟩ := hV 0 (by omega)
        have h2 := (hv 0 (by omega)).1
        rw [hs] at h2
        have : ad.add 0 = ad := by simp [Addr.add]
        rw [this] at h2
        cases hsq : ad.spot with
        | none => rfl
        | some b =>
          exfalso
          simp only [World.cell?, hsq, Option.isSome_some, if_true] at h2
          split at h2 <;> cases h2
      obtain ⟨b, o, sp⟩ := ad
      simp at hsp
      subst hsp
      refine ⟨b, o, (List.range len).map fun i => match V i with | .string s => s.data.toList | _ => [], rfl, by simp, hl, hm, fun j s hj => ?_, fun s hs => ?_⟩
      · have hjl : j < len := by
          have := (List.getElem?_eq_some_iff.1 hj).1
          simpa using this
        obtain ⟨s', h2, _⟩ := hV j (by omega)
        have h3 := (hv j (by omega)).1
        rw [Addr.add_mid, h2] at h3
        rw [List.getElem?_map, List.getElem?_range hjl] at hj
        simp [h2] at hj
        rw [h3, ← hj]
        congr 2
      · rw [List.mem_map] at hs
        obtain ⟨i, hi, rfl⟩ := hs
        have hi := List.mem_range.1 hi
        obtain ⟨s', h2, h3⟩ := hV i (by omega)
        rw [h2]
        simp only [Prod.mk.injEq] at hx
        refine hw _ ?_
        rw [hx.1]
        simp only [DataW.weights, ht, List.mem_cons, List.mem_append]
        refine .inr (.inl (weights_mem (d := D i) (List.mem_map.2 ⟨i, List.mem_range.2 hi, rfl⟩) _ ?_))
        rw [h3]
        simp [DataW.weights]
end Go.Proofs.Ytcchhfkmhbjdmaa
