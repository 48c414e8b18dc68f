/- A region that draws its order: what only looks comes first, what is left is a chain. The facts that the loads want need hold only till one operation, the breaker, comes up. -/
import Derived.Test.YthmpmpepokeedaaL0
set_option linter.unusedVariables false
set_option linter.unusedSimpArgs false
namespace Go.Proofs.Ythmpmpepokeedaa
section
variable {P : Program} {ops : Array Oper} {Q : Exit → Act → World → Prop} {md : Region.Mode} {S : World → Prop} {e : Nat}

theorem getD_set_false {listed : Array Bool} {i k : Nat} (h : (listed.setIfInBounds i true).getD k true = false) : listed.getD k true = false := by
  by_cases hik : i = k
  · subst hik
    by_cases hi : i < listed.size
    · simp [hi] at h
    · simp [hi] at h
  · rw [getD_set_ne true hik] at h; exact h

/-- What is listed has all it waits for listed. -/
def Closed (md : Region.Mode) (ops : Array Oper) (listed : Array Bool) : Prop :=
  ∀ j oj, ops[j]? = some oj → listed.getD j false = true → ∀ ed ∈ oj.after, Region.binds md ed = true → listed.getD ed.on false = true
def closedB (md : Region.Mode) (ops : Array Oper) (listed : Array Bool) : Bool :=
  (List.range ops.size).all fun j => match ops[j]? with
    | some oj => !listed.getD j false || oj.after.all fun ed => !Region.binds md ed || listed.getD ed.on false
    | none => true
theorem closed_of {listed : Array Bool} (h : closedB md ops listed = true) : Closed md ops listed := by
  intro j oj hj hl ed hed hb
  simp only [closedB, List.all_eq_true, List.mem_range] at h
  have h1 := h j (Array.getElem?_eq_some_iff.1 hj).1
  simp only [hj, hl, Bool.not_true, Bool.false_or, Array.all_eq_true_iff_forall_mem] at h1
  have h2 := h1 ed hed
  simpa [hb] using h2
theorem Closed.set {listed : Array Bool} (h : Closed md ops listed) {i : Nat} (hi : i ∈ Region.ready md ops listed) : Closed md ops (listed.setIfInBounds i true) := by
  obtain ⟨hun, oi, hoi, hall⟩ := mem_ready.1 hi
  intro j oj hj hl ed hed hb
  have up : listed.getD ed.on false = true → (listed.setIfInBounds i true).getD ed.on false = true := fun hh => getD_set_true hh
  by_cases hij : i = j
  · subst hij
    obtain rfl : oj = oi := Option.some.inj (hj.symm.trans hoi)
    exact up (hall ed hed hb)
  · rw [getD_set_ne false hij] at hl
    exact up (h j oj hj hl ed hed hb)
/-- Does e wait for i, by way of others? -/
def reachB (md : Region.Mode) (ops : Array Oper) (i : Nat) : Nat → Nat → Bool
  | 0, _ => false
  | n + 1, k => match ops[k]? with
    | some o => o.after.any fun ed => Region.binds md ed && (ed.on == i || reachB md ops i n ed.on)
    | none => false
theorem reach_listed {listed : Array Bool} (hc : Closed md ops listed) {i : Nat} : ∀ (n k : Nat), reachB md ops i n k = true → listed.getD k false = true → listed.getD i false = true
  | 0, _, h, _ => by cases h
  | n + 1, k, h, hl => by
    unfold reachB at h
    cases hk : ops[k]? with
    | none => simp [hk] at h
    | some o =>
      rw [hk] at h
      obtain ⟨ed, hed, hb⟩ := Array.any_eq_true'.1 h
      simp only [Bool.and_eq_true, Bool.or_eq_true, beq_iff_eq] at hb
      have h1 := hc k o hk hl ed hed hb.1
      rcases hb.2 with h2 | h2
      · rw [← h2]; exact h1
      · exact reach_listed hc n ed.on h2 h1
theorem reach_ready {listed : Array Bool} (hc : Closed md ops listed) {i n : Nat} (hr : reachB md ops i n e = true) (hun : listed.getD i false = false) : e ∉ Region.ready md ops listed := by
  intro he
  obtain ⟨_, oe, hoe, hall⟩ := mem_ready.1 he
  cases n with
  | zero => cases hr
  | succ n =>
    unfold reachB at hr
    rw [hoe] at hr
    obtain ⟨ed, hed, hb⟩ := Array.any_eq_true'.1 hr
    simp only [Bool.and_eq_true, Bool.or_eq_true, beq_iff_eq] at hb
    have h1 := hall ed hed hb.1
    have : listed.getD i false = true := by
      rcases hb.2 with h2 | h2
      · rw [← h2]; exact h1
      · exact reach_listed hc n ed.on h2 h1
    rw [hun] at this; cases this

/-- S, as long as e hasn't come up. -/
def Till (S : World → Prop) (e : Nat) (listed : Array Bool) (w : World) : Prop := listed.getD e true = false → S w
def wpAnyT (P : Program) (md : Region.Mode) (ops : Array Oper) (Q : Exit → Act → World → Prop) (S : World → Prop) (e : Nat) : Nat → Array Bool → Act → World → Prop
  | 0, listed, a, w => Region.ready md ops listed = [] ∧ Q .normal a w
  | fuel + 1, listed, a, w =>
    (Region.ready md ops listed = [] → Q .normal a w) ∧
    ∀ i ∈ Region.ready md ops listed, wpOp P ops Q i (fun a' w' => Till S e (listed.setIfInBounds i true) w' ∧ wpAnyT P md ops Q S e fuel (listed.setIfInBounds i true) a' w') a w
theorem wpAny_of_till : ∀ (fuel : Nat) (listed : Array Bool) (a : Act) (w : World), wpAnyT P md ops Q S e fuel listed a w → wpAny P md ops Q fuel listed a w
  | 0, _, _, _, h => h
  | fuel + 1, _, _, _, h => ⟨h.1, fun i hi => wpOp_mono (fun a' w' h' => wpAny_of_till fuel _ a' w' h'.2) (h.2 i hi)⟩

theorem wpAnyT_first {i n : Nat} {oi : Oper} {v : Value} (hi : ops[i]? = some oi) (hsel : ∀ (j : Nat) (o : Oper) cs b, ops[j]? = some o → o.op ≠ .select cs b)
    (hQ : ∀ c a w, Q (.panic c) (a.put oi.dst v) w → Q (.panic c) a w) (hw : reachB md ops i n e = true) (hei : e ≠ i) :
    ∀ (fuel : Nat) (listed : Array Bool) (a : Act) (w : World), listed.size = ops.size → Closed md ops listed →
      (∀ j oj, ops[j]? = some oj → j ≠ i → listed.getD j true = false → (∀ ed ∈ oj.after, Region.binds md ed = true → ed.on ≠ i) → oi.apart ops oj = true) →
      i ∈ Region.ready md ops listed → YieldsIf P ops S oi v a → S w →
      wpAnyT P md ops Q S e fuel (listed.setIfInBounds i true) (a.put oi.dst v) w → wpAnyT P md ops Q S e (fuel + 1) listed a w := by
  intro fuel
  induction fuel with
  | zero =>
    intro listed a w _ _ _ hr hy hS H
    refine ⟨fun h => (by rw [h] at hr; cases hr), fun j hj => ?_⟩
    by_cases hji : j = i
    · subst hji; exact hy.wpOp hi hS ⟨fun _ => hS, H⟩
    · have := ready_mono hj hji
      rw [H.1] at this
      cases this
  | succ fuel ih =>
    intro listed a w hsz hcl hfree hr hy hS H
    refine ⟨fun h => (by rw [h] at hr; cases hr), fun j hj => ?_⟩
    by_cases hji : j = i
    · subst hji; exact hy.wpOp hi hS ⟨fun _ => hS, H⟩
    · have h1 := H.2 j (ready_mono hj hji)
      obtain ⟨hjun, oj, hoj, hall⟩ := mem_ready.1 hj
      have hiun0 : listed.getD i false = false := getD_both (mem_ready.1 hr).1
      have hje : j ≠ e := fun he => by subst he; exact reach_ready hcl hw hiun0 hj
      have hnot : ∀ ed ∈ oj.after, Region.binds md ed = true → ed.on ≠ i := fun ed hed hb heq => by
        have h1 := hall ed hed hb
        rw [heq, hiun0] at h1; cases h1
      have h2 := wpOp_putIf hoj (hfree j oj hoj hji hjun hnot) (fun cs b => hsel i oi cs b hi) (fun cs b => hsel j oj cs b hoj) hQ hy h1
      have hfree' : ∀ k ok, ops[k]? = some ok → k ≠ i → (listed.setIfInBounds j true).getD k true = false →
          (∀ ed ∈ ok.after, Region.binds md ed = true → ed.on ≠ i) → oi.apart ops ok = true := fun k ok hk hki hun hno => hfree k ok hk hki (getD_set_false hun) hno
      have heun : ((listed.setIfInBounds i true).setIfInBounds j true).getD e true = false := by
        have helt : e < ops.size := by
          cases n with
          | zero => cases hw
          | succ n =>
            unfold reachB at hw
            cases hq : ops[e]? with
            | none => simp [hq] at hw
            | some o => exact (Array.getElem?_eq_some_iff.1 hq).1
        rw [getD_set_ne true hje, getD_set_ne true (Ne.symm hei)]
        cases hq : listed.getD e false with
        | true => rw [reach_listed hcl n e hw hq] at hiun0; cases hiun0
        | false => exact getD_in (by omega) hq
      refine wpOp_mono (fun a' w' h3 => ?_) h2
      have hS' : S w' := h3.2.1 heun
      refine ⟨fun _ => hS', ih (listed.setIfInBounds j true) a' w' (by simpa using hsz) (hcl.set hj) hfree' (ready_mono hr (Ne.symm hji)) h3.1 hS' ?_⟩
      rw [Array.setIfInBounds_comm _ _ hji]
      exact h3.2.2
/-- Take number i first. -/
theorem wpAnyT_take {i n : Nat} {oi : Oper} {v : Value} {fuel : Nat} {listed : Array Bool} {a : Act} {w : World} (hi : ops[i]? = some oi)
    (hb : (Region.noSelect ops && Region.free md ops listed i && (Region.ready md ops listed).contains i && reachB md ops i n e && decide (e ≠ i) && decide (listed.size = ops.size) && closedB md ops listed) = true)
    (hQ : ∀ c a w, Q (.panic c) (a.put oi.dst v) w → Q (.panic c) a w) (hS : S w) (hy : YieldsIf P ops S oi v a)
    (h : wpAnyT P md ops Q S e fuel (listed.setIfInBounds i true) (a.put oi.dst v) w) : wpAnyT P md ops Q S e (fuel + 1) listed a w := by
  simp only [Bool.and_eq_true, decide_eq_true_eq] at hb
  obtain ⟨⟨⟨⟨⟨⟨hs, hf⟩, hr⟩, hw⟩, hei⟩, hsz⟩, hc⟩ := hb
  exact wpAnyT_first hi (Region.noSelect_spec hs) hQ hw hei fuel listed a w hsz (closed_of hc) (Region.free_spec hi hf) (by simpa using hr) hy hS h
/-- What is left comes one behind the other. -/
def chainB (md : Region.Mode) (ops : Array Oper) : List Nat → Array Bool → Bool
  | [], listed => (Region.ready md ops listed).isEmpty
  | i :: l, listed => Region.ready md ops listed == [i] && (ops[i]?).isSome && chainB md ops l (listed.setIfInBounds i true)
/-- One operation that may break S, or must show it anew. -/
theorem wpAnyT_one {i : Nat} {oi : Oper} {fuel : Nat} {listed : Array Bool} {a : Act} {w : World} (hi : ops[i]? = some oi) (hr : Region.ready md ops listed = [i]) 
    (h : wpOp P ops Q i (fun a' w' => Till S e (listed.setIfInBounds i true) w' ∧ wpAnyT P md ops Q S e fuel (listed.setIfInBounds i true) a' w') a w) : wpAnyT P md ops Q S e (fuel + 1) listed a w :=
  ⟨fun h0 => (by rw [hr] at h0; cases h0), fun j hj => (by rw [hr] at hj; obtain rfl : j = i := by simpa using hj
                                                           exact h)⟩
/-- The chain at the end, as a list of operations. -/
theorem wpAny_chain : ∀ (l : List Nat) (listed : Array Bool) (fuel : Nat) (a : Act) (w : World), chainB md ops l listed = true → l.length ≤ fuel →
    wpList P ops Q (l.filterMap (ops[·]?)) a w → wpAny P md ops Q fuel listed a w
  | [], listed, fuel, a, w, hc, _, h => by
    have h0 : Region.ready md ops listed = [] := by simpa [chainB] using hc
    cases fuel with
    | zero => exact ⟨h0, h⟩
    | succ n => exact ⟨fun _ => h, fun j hj => (by rw [h0] at hj; cases hj)⟩
  | i :: l, listed, fuel, a, w, hc, hl, h => by
    simp only [chainB, Bool.and_eq_true, beq_iff_eq] at hc
    obtain ⟨⟨hr, hs⟩, hc⟩ := hc
    obtain ⟨oi, hoi⟩ := Option.isSome_iff_exists.1 hs
    cases fuel with
    | zero => simp at hl
    | succ n =>
      refine ⟨fun h0 => (by rw [hr] at h0; cases h0), fun j hj => ?_⟩
      rw [hr] at hj
      obtain rfl : j = i := by simpa using hj
      have ih := fun a' w' hh => wpAny_chain l (listed.setIfInBounds j true) n a' w' hc (by simp at hl; omega) hh
      rw [List.filterMap_cons_some hoi] at h
      unfold wpOp
      simp only [hoi]
      unfold wpList at h
      split
      · rename_i hwant
        rw [if_pos hwant] at h
        exact h.imp (Oper.wp_mono ih) id
      · rename_i hwant
        rw [if_neg hwant] at h
        exact ih _ _ h
/-- S may be forgotten where nothing that wants it is left. -/
theorem wpAnyT_of_any (hforever : True) : ∀ (l : List Nat) (listed : Array Bool) (fuel : Nat) (a : Act) (w : World), chainB md ops l listed = true → l.length ≤ fuel → (listed.getD e true = true ∨ l.head? = some e) →
    wpList P ops Q (l.filterMap (ops[·]?)) a w → wpAnyT P md ops Q S e fuel listed a w
  | [], listed, fuel, a, w, hc, _, _, h => by
    have h0 : Region.ready md ops listed = [] := by simpa [chainB] using hc
    cases fuel with
    | zero => exact ⟨h0, h⟩
    | succ n => exact ⟨fun _ => h, fun j hj => (by rw [h0] at hj; cases hj)⟩
  | i :: l, listed, fuel, a, w, hc, hl, he, h => by
    simp only [chainB, Bool.and_eq_true, beq_iff_eq] at hc
    obtain ⟨⟨hr, hs⟩, hc⟩ := hc
    obtain ⟨oi, hoi⟩ := Option.isSome_iff_exists.1 hs
    have hun : listed.getD i true = false := (mem_ready.1 (show i ∈ Region.ready md ops listed by rw [hr]; simp)).1
    have helisted : (listed.setIfInBounds i true).getD e true = true := by
      rcases he with he | he
      · cases hq : (listed.setIfInBounds i true).getD e true with
        | true => rfl
        | false => rw [getD_set_false hq] at he; cases he
      · obtain rfl : i = e := by simpa using he
        cases hq : (listed.setIfInBounds i true).getD i true with
        | true => rfl
        | false =>
          by_cases hi : i < listed.size
          · simp [hi] at hq
          · simp [hi] at hq
    cases fuel with
    | zero => simp at hl
    | succ n =>
      refine ⟨fun h0 => (by rw [hr] at h0; cases h0), fun j hj => ?_⟩
      rw [hr] at hj
      obtain rfl : j = i := by simpa using hj
      have ih := fun a' w' hh => (⟨fun hf => (by rw [helisted] at hf; cases hf), wpAnyT_of_any hforever l (listed.setIfInBounds j true) n a' w' hc (by simp at hl; omega) (.inl helisted) hh⟩ : Till S e (listed.setIfInBounds j true) w' ∧ wpAnyT P md ops Q S e n (listed.setIfInBounds j true) a' w')
      rw [List.filterMap_cons_some hoi] at h
      unfold wpOp
      simp only [hoi]
      unfold wpList at h
      split
      · rename_i hwant
        rw [if_pos hwant] at h
        exact h.imp (Oper.wp_mono ih) id
      · rename_i hwant
        rw [if_neg hwant] at h
        exact ih _ _ h
theorem wpOp_plain {i : Nat} {o : Oper} {a : Act} {w : World} {K0 : Act → World → Prop} (hi : ops[i]? = some o) (hg : o.guard = none) (h : ∀ K : Act → World → Prop, (∀ a' w', K0 a' w' → K a' w') → o.wp P a w K Q) : wpOp P ops Q i K0 a w := by
  unfold wpOp
  simp only [hi]
  rw [if_pos (by simp [Region.wanted, hg])]
  exact .inl (h K0 (fun _ _ h => h))
theorem yieldsIf_plain {o : Oper} {v : Value} {a : Act} (hg : o.guard = none) (h : ∀ w, S w → (execOp a.eval o).run P w = .ok (.value v) w) : YieldsIf P ops S o v a := .inl ⟨by simp [Region.wanted, hg], h⟩
theorem yieldsIf_load {o : Oper} {a : Act} (hg : o.guard = none) (ty : TypeId) (x : Operand) (ho : o.op = .load ty x)
    (b off : Nat) (hx : a.eval x = .pointer (some ⟨b, off, none⟩)) (cs : List Value) (d : TypeDesc) (hS : ∀ w, S w → w.rangeAt b off cs)
    (hu : P.underlying ty = some d) (hd : d.isRow = true) (hi : (P.info? ty).map (·.size) = some cs.length) : YieldsIf P ops S o (.agg cs.toArray) a :=
  yieldsIf_load_mid (by simp [Region.wanted, hg]) ty x ho b off hx cs d hS hu hd hi
/-- The beginning. -/
theorem wp_region_till {id : Nat} {a : Act} {w : World} (S : World → Prop) (e : Nat) (hm : P.follows .mixedOrders = true)
    (h : wpAnyT P .any ops Q S e ops.size (Array.replicate ops.size false) a w.drew) : (Code.region id ops true).wp P Q a w :=
  wp_region_any hm (wpAny_of_till _ _ _ _ h)
end
end Go.Proofs.Ythmpmpepokeedaa
