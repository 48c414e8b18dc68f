/- Labels: pairs, their order, their text and back (plain). -/
import Derived.Test.YtcchhfkmhbjdmaaGreatLa
set_option linter.unusedVariables false
set_option linter.unusedSimpArgs false
namespace Go.Proofs.YtcchhfkmhbjdmaaGreat
abbrev Pr := List UInt8 × List UInt8
/-! ### the order of bytes -/
theorem bl_irrefl : ∀ a : List UInt8, Op.bytesLess a a = false
  | [] => rfl
  | x :: a => by
    simp only [Op.bytesLess, Bool.or_eq_false_iff, Bool.and_eq_false_iff]
    exact ⟨decide_eq_false (UInt8.lt_irrefl x), .inr (bl_irrefl a)⟩
theorem bl_trans : ∀ a b c : List UInt8, Op.bytesLess a b = true → Op.bytesLess b c = true → Op.bytesLess a c = true
  | _, [], _, h, _ => by simp [Op.bytesLess] at h
  | _, _ :: _, [], _, h => by simp [Op.bytesLess] at h
  | [], _ :: _, _ :: _, _, _ => rfl
  | x :: a, y :: b, z :: c, h, k => by
    simp only [Op.bytesLess, Bool.or_eq_true, Bool.and_eq_true, decide_eq_true_eq, beq_iff_eq] at h k ⊢
    rcases h with h | ⟨rfl, h⟩
    · rcases k with k | ⟨rfl, k⟩
      · exact .inl (UInt8.lt_trans h k)
      · exact .inl h
    · rcases k with k | ⟨rfl, k⟩
      · exact .inl k
      · exact .inr ⟨rfl, bl_trans a b c h k⟩
theorem bl_total : ∀ a b : List UInt8, Op.bytesLess a b = false → Op.bytesLess b a = false → a = b
  | [], [], _, _ => rfl
  | [], _ :: _, h, _ => by simp [Op.bytesLess] at h
  | _ :: _, [], _, h => by simp [Op.bytesLess] at h
  | x :: a, y :: b, h, k => by
    simp only [Op.bytesLess, Bool.or_eq_false_iff, Bool.and_eq_false_iff, decide_eq_false_iff_not, beq_eq_false_iff_ne] at h k
    have e : x = y := UInt8.le_antisymm (UInt8.not_lt.1 k.1) (UInt8.not_lt.1 h.1)
    subst e
    rw [bl_total a b (h.2.resolve_left (fun hh => hh rfl)) (k.2.resolve_left (fun hh => hh rfl))]
theorem bl_asymm (a b : List UInt8) (h : Op.bytesLess a b = true) : Op.bytesLess b a = false := by
  cases k : Op.bytesLess b a with
  | false => rfl
  | true => rw [← bl_irrefl a, bl_trans a b a h k]
theorem bl_cmp_iff : ∀ a b : List UInt8, Lib.compareBytes a b < 0 ↔ Op.bytesLess a b = true
  | [], [] => by simp [Lib.compareBytes, Op.bytesLess]
  | [], _ :: _ => by simp [Lib.compareBytes, Op.bytesLess]
  | _ :: _, [] => by simp [Lib.compareBytes, Op.bytesLess]
  | x :: a, y :: b => by
    have e : Lib.compareBytes (x :: a) (y :: b) = if x < y then -1 else if y < x then 1 else Lib.compareBytes a b := rfl
    have e2 : Op.bytesLess (x :: a) (y :: b) = (decide (x < y) || (x == y && Op.bytesLess a b)) := rfl
    rw [e, e2]
    by_cases h : x < y
    · rw [if_pos h, decide_eq_true h]; simp
    · rw [if_neg h, decide_eq_false h, Bool.false_or]
      by_cases k : y < x
      · rw [if_pos k, show (x == y) = false from beq_eq_false_iff_ne.2 (fun e => by subst e; exact UInt8.lt_irrefl _ k)]; simp
      · have e : x = y := UInt8.le_antisymm (UInt8.not_lt.1 k) (UInt8.not_lt.1 h)
        rw [if_neg k, bl_cmp_iff a b, e]; simp
theorem bl_cmp (a b : List UInt8) : decide (Lib.compareBytes a b < 0) = Op.bytesLess a b := by
  cases h : Op.bytesLess a b with
  | true => exact decide_eq_true ((bl_cmp_iff a b).2 h)
  | false => exact decide_eq_false (fun k => by rw [(bl_cmp_iff a b).1 k] at h; cases h)
/-! ### what is right -/
def prOk (p : Pr) : Bool := decide (0 < p.1.length) && decide (p.1.length ≤ 32) && decide (p.2.length ≤ 64)
def okAt (l : List Pr) (j : Nat) : Bool := match l[j]? with
  | some p => prOk p && !((l.take j).map (·.1)).contains p.1
  | none => true
def rightB (l : List Pr) : Bool := (List.range l.length).all (okAt l) && decide (l.length ≤ 8)
theorem rightB_iff (l : List Pr) : rightB l = true ↔ (∀ p ∈ l, prOk p = true) ∧ (l.map (·.1)).Nodup ∧ l.length ≤ 8 := by
  unfold rightB
  rw [Bool.and_eq_true, List.all_eq_true, decide_eq_true_eq, ← and_assoc]
  apply and_congr_left
  intro _
  simp only [List.mem_range]
  have hat : ∀ j (hj : j < l.length), okAt l j = (prOk l[j] && !((l.take j).map (·.1)).contains l[j].1) := fun j hj => by unfold okAt; rw [List.getElem?_eq_getElem hj]
  constructor
  · intro h
    refine ⟨fun p hp => ?_, ?_⟩
    · obtain ⟨j, hj, rfl⟩ := List.getElem_of_mem hp
      have := h j hj
      rw [hat j hj, Bool.and_eq_true] at this
      exact this.1
    · rw [List.nodup_iff_pairwise_ne, List.pairwise_iff_getElem]
      intro i j hi hj hij
      rw [List.length_map] at hi hj
      have := h j hj
      rw [hat j hj, Bool.and_eq_true, Bool.not_eq_true'] at this
      intro he
      have hc : ((l.take j).map (·.1)).contains l[j].1 = true := by
        rw [List.contains_iff_mem, List.mem_map]
        refine ⟨l[i], ?_, by simpa using he⟩
        rw [List.mem_take_iff_getElem]
        exact ⟨i, by omega, rfl⟩
      rw [this.2] at hc; cases hc
  · rintro ⟨h1, h2⟩ j hj
    rw [hat j hj, h1 _ (List.getElem_mem hj), Bool.true_and, Bool.not_eq_true']
    cases hc : ((l.take j).map (·.1)).contains l[j].1 with
    | false => rfl
    | true =>
      exfalso
      rw [List.contains_iff_mem, List.mem_map] at hc
      obtain ⟨p, hp, he⟩ := hc
      rw [List.mem_take_iff_getElem] at hp
      obtain ⟨i, hi, rfl⟩ := hp
      rw [List.nodup_iff_pairwise_ne, List.pairwise_iff_getElem] at h2
      exact h2 i j (by rw [List.length_map]; omega) (by rw [List.length_map]; exact hj) (by omega) (by simpa using he)
theorem rightB_perm {l m : List Pr} (h : l.Perm m) : rightB l = rightB m := by
  rw [Bool.eq_iff_iff, rightB_iff, rightB_iff, h.length_eq, (h.map (·.1)).nodup_iff]
  constructor
  · exact fun ⟨a, b⟩ => ⟨fun p hp => a p (h.mem_iff.2 hp), b⟩
  · exact fun ⟨a, b⟩ => ⟨fun p hp => a p (h.mem_iff.1 hp), b⟩
theorem rightB_nodup {l : List Pr} (h : (l.map (·.1)).Nodup) : l.Nodup := by
  rw [List.nodup_iff_pairwise_ne, List.pairwise_iff_getElem] at *
  intro i j hi hj hij he
  exact h i j (by simpa using hi) (by simpa using hj) hij (by simp [he])
/-! ### sorted -/
def leP (a b : Pr) : Prop := Op.bytesLess b.1 a.1 = false
/-- How far in the row the pair x goes: behind all from whose keys on its key isn't less. -/
def posF (x : Pr) (out : List Pr) : Nat → Nat
  | 0 => 0
  | k + 1 => if Op.bytesLess x.1 (out.getD k ([], [])).1 then posF x out k else k + 1
def insP (out : List Pr) (x : Pr) : List Pr := out.take (posF x out out.length) ++ [x] ++ out.drop (posF x out out.length)
def sortR (l : List Pr) : List Pr := l.foldl insP []
theorem posF_le (x : Pr) (out : List Pr) : ∀ k, posF x out k ≤ k
  | 0 => Nat.le_refl _
  | k + 1 => by
    unfold posF; split
    · exact Nat.le_succ_of_le (posF_le x out k)
    · exact Nat.le_refl _
theorem posF_above (x : Pr) (out : List Pr) : ∀ k j, posF x out k ≤ j → j < k → Op.bytesLess x.1 (out.getD j ([], [])).1 = true
  | 0, j, _, h => absurd h (Nat.not_lt_zero _)
  | k + 1, j, h1, h2 => by
    unfold posF at h1
    split at h1
    · rename_i hb
      by_cases e : j = k
      · rw [e]; exact hb
      · exact posF_above x out k j h1 (by omega)
    · omega
theorem posF_below (x : Pr) (out : List Pr) : ∀ k j, posF x out k = j + 1 → Op.bytesLess x.1 (out.getD j ([], [])).1 = false
  | 0, j, h => by cases h
  | k + 1, j, h => by
    unfold posF at h
    split at h
    · exact posF_below x out k j h
    · rename_i hb
      obtain rfl : k = j := by omega
      simpa using hb
theorem insP_perm (out : List Pr) (x : Pr) : (insP out x).Perm (out ++ [x]) := by
  unfold insP
  rw [List.append_assoc, List.singleton_append]
  refine (List.perm_middle (a := x)).trans ?_
  rw [List.take_append_drop]
  exact (List.perm_append_singleton x out).symm
theorem insP_sorted (out : List Pr) (x : Pr) (h : out.Pairwise leP) : (insP out x).Pairwise leP := by
  have hk := posF_le x out out.length
  have ha := posF_above x out out.length
  have hb := posF_below x out out.length
  unfold insP
  generalize posF x out out.length = k at hk ha hb ⊢
  rw [List.append_assoc, List.pairwise_append, List.singleton_append, List.pairwise_cons]
  rw [List.pairwise_iff_getElem] at h
  have hlow : ∀ i (hi : i < out.length), i < k → leP out[i] x := fun i hi hik => by
    obtain ⟨m, rfl⟩ : ∃ m, k = m + 1 := ⟨k - 1, by omega⟩
    have h1 := hb m rfl
    rw [List.getD_eq_getElem?_getD, List.getElem?_eq_getElem (by omega), Option.getD_some] at h1
    by_cases e : i = m
    · subst e; exact h1
    · have h2 := h i m hi (by omega) (by omega)
      unfold leP at h2 ⊢
      cases q : Op.bytesLess x.1 out[i].1 with
      | false => rfl
      | true =>
        cases q2 : Op.bytesLess out[i].1 (out[m]'(by omega)).1 with
        | true => rw [show Op.bytesLess x.1 (out[m]'(by omega)).1 = true from bl_trans _ _ _ q q2] at h1; cases h1
        | false =>
          have := bl_total _ _ q2 h2
          rw [this] at q
          rw [q] at h1; cases h1
  have hhigh : ∀ i (hi : i < out.length), k ≤ i → leP x out[i] := fun i hi hik => by
    have h1 := ha i hik hi
    rw [List.getD_eq_getElem?_getD, List.getElem?_eq_getElem hi] at h1
    exact bl_asymm _ _ h1
  refine ⟨?_, ⟨?_, ?_⟩, ?_⟩
  · rw [List.pairwise_iff_getElem]
    intro i j hi hj hij
    simp only [List.length_take] at hi hj
    simp only [List.getElem_take]
    exact h i j (by omega) (by omega) hij
  · intro y hy
    obtain ⟨i, hi, rfl⟩ := List.getElem_of_mem hy
    simp only [List.length_drop] at hi
    rw [List.getElem_drop]
    exact hhigh _ _ (by omega)
  · rw [List.pairwise_iff_getElem]
    intro i j hi hj hij
    simp only [List.length_drop] at hi hj
    simp only [List.getElem_drop]
    exact h _ _ _ _ (by omega)
  · intro y hy z hz
    obtain ⟨i, hi, rfl⟩ := List.getElem_of_mem hy
    simp only [List.length_take] at hi
    rw [List.getElem_take]
    rcases List.mem_cons.1 hz with rfl | hz
    · exact hlow _ _ (by omega)
    · obtain ⟨j, hj, rfl⟩ := List.getElem_of_mem hz
      simp only [List.length_drop] at hj
      rw [List.getElem_drop]
      exact h _ _ _ _ (by omega)
theorem foldl_sort (l : List Pr) : ∀ out : List Pr, out.Pairwise leP → (l.foldl insP out).Pairwise leP ∧ (l.foldl insP out).Perm (out ++ l) := by
  induction l with
  | nil => intro out h; exact ⟨h, by simp⟩
  | cons x l ih =>
    intro out h
    have := ih (insP out x) (insP_sorted out x h)
    refine ⟨this.1, this.2.trans ?_⟩
    have h2 := (insP_perm out x).append_right l
    rwa [List.append_assoc] at h2
theorem sortR_sorted (l : List Pr) : (sortR l).Pairwise leP := (foldl_sort l [] List.Pairwise.nil).1
theorem sortR_perm (l : List Pr) : (sortR l).Perm l := (foldl_sort l [] List.Pairwise.nil).2
theorem sort_unique {l m : List Pr} (hk : (l.map (·.1)).Nodup) (hl : l.Pairwise leP) (hm : m.Pairwise leP) (hp : l.Perm m) : l = m := by
  refine List.Perm.eq_of_pairwise (fun a b ha hb hab hba => ?_) hl hm hp
  have he : a.1 = b.1 := (bl_total _ _ hab hba).symm
  have hb' : b ∈ l := hp.mem_iff.2 hb
  obtain ⟨i, hi, rfl⟩ := List.getElem_of_mem ha
  obtain ⟨j, hj, rfl⟩ := List.getElem_of_mem hb'
  have h2 := hk
  rw [List.nodup_iff_pairwise_ne, List.pairwise_iff_getElem] at h2
  rcases Nat.lt_trichotomy i j with h | h | h
  · exact absurd (by rw [List.getElem_map, List.getElem_map]; exact he) (h2 i j (by simpa using hi) (by simpa using hj) h)
  · subst h; rfl
  · exact absurd (by rw [List.getElem_map, List.getElem_map]; exact he.symm) (h2 j i (by simpa using hj) (by simpa using hi) h)
theorem sortR_of {l m : List Pr} (hk : (l.map (·.1)).Nodup) (hm : m.Pairwise leP) (hp : m.Perm l) : m = sortR l :=
  sort_unique ((hp.map (·.1)).nodup_iff.2 hk) hm (sortR_sorted l) (hp.trans (sortR_perm l).symm)
theorem sortR_congr {l m : List Pr} (hk : (l.map (·.1)).Nodup) (hp : l.Perm m) : sortR l = sortR m :=
  sortR_of ((hp.map (·.1)).nodup_iff.1 hk) (sortR_sorted l) ((sortR_perm l).trans hp)
theorem sortR_same {l : List Pr} (hk : (l.map (·.1)).Nodup) (hl : l.Pairwise leP) : sortR l = l := (sortR_of hk hl (List.Perm.refl _)).symm
theorem sortR_length (l : List Pr) : (sortR l).length = l.length := (sortR_perm l).length_eq
/-! ### their text -/
def encS (s : List UInt8) : List UInt8 := UInt8.ofNat s.length :: s
def encB (p : Pr) : List UInt8 := encS p.1 ++ encS p.2
def textP (l : List Pr) : List UInt8 := l.flatMap encB
def textOf (l : List Pr) : List UInt8 := textP (sortR l)
/-- One string off a text. -/
def tk : List UInt8 → Option (List UInt8 × List UInt8)
  | [] => none
  | c :: r => if r.length < c.toNat then none else some (r.take c.toNat, r.drop c.toNat)
theorem tk_len {s k r : List UInt8} (h : tk s = some (k, r)) : s = encS k ++ r ∧ k.length < 256 ∧ r.length < s.length := by
  cases s with
  | nil => cases h
  | cons c s =>
    have h : (if s.length < c.toNat then none else some (s.take c.toNat, s.drop c.toNat)) = some (k, r) := h
    by_cases hl : s.length < c.toNat
    · rw [if_pos hl] at h; cases h
    · rw [if_neg hl] at h
      obtain ⟨rfl, rfl⟩ := Prod.mk.inj (Option.some.inj h)
      have hlen : (s.take c.toNat).length = c.toNat := by rw [List.length_take]; omega
      have := c.toNat_lt
      refine ⟨?_, by omega, by simp; omega⟩
      unfold encS
      rw [hlen, List.cons_append, List.take_append_drop]
      simp
theorem tk_enc (k r : List UInt8) (h : k.length < 256) : tk (encS k ++ r) = some (k, r) := by
  have e : (UInt8.ofNat k.length).toNat = k.length := by simp; omega
  unfold encS
  rw [List.cons_append, tk, e, if_neg (by rw [List.length_append]; omega)]
  simp
/-- A text as pairs, and whether it was one (with n rounds at most). -/
def rawF : Nat → List UInt8 → List Pr × Bool
  | 0, _ => ([], true)
  | _ + 1, [] => ([], true)
  | n + 1, c :: s => match tk (c :: s) with
    | none => ([([], [])], false)
    | some (k, r) => match tk r with
      | none => ([(k, [])], false)
      | some (v, r2) => ((k, v) :: (rawF n r2).1, (rawF n r2).2)
theorem rawF_text : ∀ (n : Nat) (s : List UInt8) (out : List Pr), s.length ≤ n → rawF n s = (out, true) → s = textP out ∧ ∀ p ∈ out, p.1.length < 256 ∧ p.2.length < 256
  | 0, s, out, hn, h => by
    obtain rfl : s = [] := List.eq_nil_of_length_eq_zero (by omega)
    simp [rawF] at h; subst h
    exact ⟨rfl, fun p hp => by cases hp⟩
  | n + 1, [], out, hn, h => by
    simp [rawF] at h; subst h
    exact ⟨rfl, fun p hp => by cases hp⟩
  | n + 1, c :: s, out, hn, h => by
    unfold rawF at h
    cases h1 : tk (c :: s) with
    | none => rw [h1] at h; simp at h
    | some x =>
      obtain ⟨k, r⟩ := x
      rw [h1] at h
      dsimp only at h
      cases h2 : tk r with
      | none => rw [h2] at h; simp at h
      | some y =>
        obtain ⟨v, r2⟩ := y
        rw [h2] at h
        dsimp only at h
        obtain ⟨e1, l1, q1⟩ := tk_len h1
        obtain ⟨e2, l2, q2⟩ := tk_len h2
        simp only [Prod.mk.injEq] at h
        obtain ⟨rfl, hb⟩ := h
        have ih := rawF_text n r2 (rawF n r2).1 (by simp at hn q1; omega) (by rw [← hb])
        refine ⟨?_, ?_⟩
        · rw [e1, e2]
          conv => lhs; rw [ih.1]
          simp [textP, encB, List.append_assoc]
        · intro p hp
          rcases List.mem_cons.1 hp with rfl | hp
          · exact ⟨l1, l2⟩
          · exact ih.2 p hp
theorem rawF_enc : ∀ (l : List Pr) (n : Nat), (∀ p ∈ l, p.1.length < 256 ∧ p.2.length < 256) → (textP l).length ≤ n → rawF n (textP l) = (l, true)
  | [], 0, _, _ => rfl
  | [], _ + 1, _, _ => rfl
  | p :: l, 0, _, h => by simp [textP, encB, encS] at h
  | p :: l, n + 1, hl, h => by
    have hp := hl p (by simp)
    have e : textP (p :: l) = encS p.1 ++ (encS p.2 ++ textP l) := by simp [textP, encB]
    rw [e] at h ⊢
    have h1 := tk_enc p.1 (encS p.2 ++ textP l) hp.1
    have h2 := tk_enc p.2 (textP l) hp.2
    have ih := rawF_enc l n (fun q hq => hl q (by simp [hq])) (by simp [encS] at h; omega)
    unfold encS at h1 h2 ⊢
    rw [List.cons_append] at h1 ⊢
    rw [rawF, h1]
    dsimp only
    rw [h2]
    dsimp only
    rw [ih]
theorem textL_inj {l m : List Pr} (hl : ∀ p ∈ l, p.1.length < 256 ∧ p.2.length < 256) (hm : ∀ p ∈ m, p.1.length < 256 ∧ p.2.length < 256) (h : textP l = textP m) : l = m := by
  have h1 := rawF_enc l _ hl (Nat.le_refl _)
  rw [h, rawF_enc m _ hm (Nat.le_refl _)] at h1
  exact (Prod.mk.inj h1).1.symm
theorem right_small {l : List Pr} (h : rightB l = true) : ∀ p ∈ l, p.1.length < 256 ∧ p.2.length < 256 := fun p hp => by
  have := ((rightB_iff l).1 h).1 p hp
  simp only [prOk, Bool.and_eq_true, decide_eq_true_eq] at this
  omega
/-- What is parsed, if anything. -/
def parseO (s : List UInt8) : Option (List Pr) := if (rawF s.length s).2 = true ∧ rightB (rawF s.length s).1 = true ∧ textOf (rawF s.length s).1 = s then some (rawF s.length s).1 else none
theorem parse_text {l : List Pr} (h : rightB l = true) : parseO (textOf l) = some (sortR l) := by
  have hs : rightB (sortR l) = true := by rw [rightB_perm (sortR_perm l)]; exact h
  have hr := rawF_enc (sortR l) _ (right_small hs) (Nat.le_refl _)
  have hn := ((rightB_iff l).1 h).2.1
  unfold parseO textOf
  rw [hr, if_pos]
  refine ⟨rfl, hs, ?_⟩
  show textP (sortR (sortR l)) = _
  rw [← sortR_congr hn (sortR_perm l).symm]
/-! ### one within the other -/
def subB (a b : List Pr) : Bool := rightB a && rightB b && a.all (fun p => b.contains p)
def eqB (a b : List Pr) : Bool := rightB a && rightB b && decide (sortR a = sortR b)
theorem nodup_perm {a b : List Pr} (ha : a.Nodup) (hb : b.Nodup) (h1 : ∀ p ∈ a, p ∈ b) (h2 : ∀ p ∈ b, p ∈ a) : a.Perm b := by
  rw [List.perm_iff_count]
  intro p
  by_cases h : p ∈ a
  · rw [ha.count, hb.count, if_pos h, if_pos (h1 p h)]
  · rw [ha.count, hb.count, if_neg h, if_neg (fun k => h (h2 p k))]
theorem eqB_sub (a b : List Pr) : eqB a b = (subB a b && subB b a) := by
  unfold eqB subB
  cases ha : rightB a with
  | false => simp
  | true =>
    cases hb : rightB b with
    | false => simp
    | true =>
      have na := ((rightB_iff a).1 ha).2.1
      have nb := ((rightB_iff b).1 hb).2.1
      rw [Bool.eq_iff_iff]
      simp only [Bool.true_and, decide_eq_true_eq, Bool.and_eq_true, List.all_eq_true, List.contains_iff_mem]
      constructor
      · intro h
        have hp : a.Perm b := (sortR_perm a).symm.trans (h ▸ sortR_perm b)
        exact ⟨fun p hp' => hp.mem_iff.1 hp', fun p hp' => hp.mem_iff.2 hp'⟩
      · rintro ⟨h1, h2⟩
        exact sortR_congr na (nodup_perm (rightB_nodup na) (rightB_nodup nb) h1 h2)
end Go.Proofs.YtcchhfkmhbjdmaaGreat
