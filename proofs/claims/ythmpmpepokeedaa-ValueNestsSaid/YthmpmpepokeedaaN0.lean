/- Ways in a region that draws its order. -/
import Derived.Test.YthmpmpepokeedaaL1
set_option linter.unusedVariables false
set_option linter.unusedSimpArgs false
namespace Go.Proofs.Ythmpmpepokeedaa
section
variable {P : Program} {ops : Array Oper} {Q : Exit → Act → World → Prop} {md : Region.Mode} {S : World → Prop} {e : Nat}
def edgeB (md : Region.Mode) (ops : Array Oper) (k j : Nat) : Bool := match ops[k]? with
  | some o => o.after.any fun ed => Region.binds md ed && ed.on == j
  | none => false
def pathB (md : Region.Mode) (ops : Array Oper) (i : Nat) : Nat → List Nat → Bool
  | k, [] => edgeB md ops k i
  | k, j :: l => edgeB md ops k j && pathB md ops i j l
theorem reach_of_path {i : Nat} : ∀ (l : List Nat) (k : Nat), pathB md ops i k l = true → ∃ n, reachB md ops i n k = true
  | [], k, h => ⟨1, by
    simp only [pathB, edgeB] at h
    unfold reachB
    cases hk : ops[k]? with
    | none => rw [hk] at h; cases h
    | some o =>
      rw [hk] at h
      obtain ⟨ed, hed, hb⟩ := Array.any_eq_true'.1 h
      simp only [Bool.and_eq_true] at hb
      exact Array.any_eq_true'.2 ⟨ed, hed, by rw [hb.1, hb.2]; rfl⟩⟩
  | j :: l, k, h => by
    simp only [pathB, Bool.and_eq_true] at h
    obtain ⟨n, hn⟩ := reach_of_path l j h.2
    refine ⟨n + 1, ?_⟩
    have h1 := h.1
    unfold edgeB at h1
    unfold reachB
    cases hk : ops[k]? with
    | none => rw [hk] at h1; cases h1
    | some o =>
      rw [hk] at h1
      obtain ⟨ed, hed, hb⟩ := Array.any_eq_true'.1 h1
      simp only [Bool.and_eq_true, beq_iff_eq] at hb
      exact Array.any_eq_true'.2 ⟨ed, hed, by rw [hb.1, hb.2, hn]; simp⟩
/-- Take number i first; that the breaker waits for it is shown by a way. -/
theorem wpAnyT_path {i : Nat} {p : List Nat} {oi : Oper} {v : Value} {fuel : Nat} {listed : Array Bool} {a : Act} {w : World} (hi : ops[i]? = some oi)
    (hb : (Region.noSelect ops && Region.free md ops listed i && (Region.ready md ops listed).contains i && decide (e ≠ i) && decide (listed.size = ops.size) && closedB md ops listed) = true) (hp : pathB md ops i e p = true)
    (hQ : ∀ c a w, Q (.panic c) (a.put oi.dst v) w → Q (.panic c) a w) (hS : S w) (hy : YieldsIf P ops S oi v a)
    (h : wpAnyT P md ops Q S e fuel (listed.setIfInBounds i true) (a.put oi.dst v) w) : wpAnyT P md ops Q S e (fuel + 1) listed a w := by
  simp only [Bool.and_eq_true, decide_eq_true_eq] at hb
  obtain ⟨⟨⟨⟨⟨hs, hf⟩, hr⟩, hei⟩, hsz⟩, hc⟩ := hb
  obtain ⟨n, hw⟩ := reach_of_path p e hp
  exact wpAnyT_first hi (Region.noSelect_spec hs) hQ hw hei fuel listed a w hsz (closed_of hc) (Region.free_spec hi hf) (by simpa using hr) hy hS h
theorem wpOp_guarded {i : Nat} {o : Oper} {a : Act} {w : World} {K0 : Act → World → Prop} (hi : ops[i]? = some o) (hg : Region.wanted o (yielded ops a.tmps) = true) (h : ∀ K : Act → World → Prop, (∀ a' w', K0 a' w' → K a' w') → o.wp P a w K Q) : wpOp P ops Q i K0 a w := by
  unfold wpOp
  simp only [hi]
  rw [if_pos hg]
  exact .inl (h _ (fun _ _ h => h))
theorem wpAnyT_done {listed : Array Bool} (he : listed.getD e true = true) : ∀ (fuel : Nat) (a : Act) (w : World), wpAny P md ops Q fuel listed a w → wpAnyT P md ops Q S e fuel listed a w := by
  intro fuel
  induction fuel generalizing listed with
  | zero => intro a w h; exact h
  | succ n ih =>
    intro a w h
    refine ⟨h.1, fun i hi => wpOp_mono (fun a' w' h' => ?_) (h.2 i hi)⟩
    have h2 : (listed.setIfInBounds i true).getD e true = true := by
      cases hq : (listed.setIfInBounds i true).getD e true with
      | true => rfl
      | false => rw [getD_set_false hq] at he; cases he
    exact ⟨fun hf => (by rw [h2] at hf; cases hf), ih h2 a' w' h'⟩
end
end Go.Proofs.Ythmpmpepokeedaa
