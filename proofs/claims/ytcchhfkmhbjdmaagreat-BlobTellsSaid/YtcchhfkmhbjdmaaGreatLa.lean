/- Labels: the plain model (names' runes, pairs, their order, their text). -/
import Derived.Test.YtcchhfkmhbjdmaaGreatPm1
import Derived.Laws.RangeAny
import Derived.Lib.OthersKept
import Derived.Lib.Bytealg
set_option linter.unusedVariables false
set_option linter.unusedSimpArgs false
namespace Go.Proofs.YtcchhfkmhbjdmaaGreat
/-! ### runes -/
/-- A letter of names. -/
def letB (r : Nat) : Bool := (decide (97 ≤ r) && decide (r ≤ 122)) || (decide (48 ≤ r) && decide (r ≤ 57)) || decide (r = 45) || (decide (945 ≤ r) && decide (r ≤ 969))
def oneB (c : UInt8) : Bool := (decide (97 ≤ c.toNat) && decide (c.toNat ≤ 122)) || (decide (48 ≤ c.toNat) && decide (c.toNat ≤ 57)) || decide (c.toNat = 45)
def twoB (c d : UInt8) : Bool := (decide (c.toNat = 206) && decide (177 ≤ d.toNat) && decide (d.toNat ≤ 191)) || (decide (c.toNat = 207) && decide (128 ≤ d.toNat) && decide (d.toNat ≤ 137))
/-- The runes of a name's rest; 'f': it is the name's beginning. -/
def runesW : Bool → List UInt8 → Option Nat
  | _, [] => some 0
  | f, c :: r => if oneB c && !(f && decide (c.toNat = 45)) then (runesW false r).map (· + 1) else match r with
    | [] => none
    | d :: r' => if twoB c d then (runesW false r').map (· + 1) else none
def runesN (l : List UInt8) : Nat := (runesW true l).getD 0
def runesL (l : List UInt8) : Nat := if 32 < runesN l then 0 else runesN l
theorem runesW_one (f : Bool) (c : UInt8) (r : List UInt8) (h : (oneB c && !(f && decide (c.toNat = 45))) = true) : runesW f (c :: r) = (runesW false r).map (· + 1) := by
  rw [runesW.eq_def]; dsimp only; rw [if_pos h]
theorem runesW_two (f : Bool) (c d : UInt8) (r : List UInt8) (h : (oneB c && !(f && decide (c.toNat = 45))) = false) (h2 : twoB c d = true) : runesW f (c :: d :: r) = (runesW false r).map (· + 1) := by
  rw [runesW.eq_def]; dsimp only; rw [if_neg (by rw [h]; simp), if_pos h2]
theorem runesW_bad (f : Bool) (c : UInt8) (r : List UInt8) (h : (oneB c && !(f && decide (c.toNat = 45))) = false) (h2 : ∀ d r', r = d :: r' → twoB c d = false) : runesW f (c :: r) = none := by
  rw [runesW.eq_def]; dsimp only; rw [if_neg (by rw [h]; simp)]
  cases r with
  | nil => rfl
  | cons d r' => dsimp only; rw [if_neg (by rw [h2 d r' rfl]; simp)]
theorem runesW_le (f : Bool) (l : List UInt8) (n : Nat) (h : runesW f l = some n) : n ≤ l.length := by
  fun_induction runesW f l generalizing n with
  | case1 => simp at h; omega
  | case2 f c r hc ih =>
    simp only [Option.map_eq_some_iff] at h
    obtain ⟨m, hm, rfl⟩ := h
    have := ih m hm
    simp; omega
  | case3 => cases h
  | case4 f c hc d r' h2 ih =>
    simp only [Option.map_eq_some_iff] at h
    obtain ⟨m, hm, rfl⟩ := h
    have := ih m hm
    simp; omega
  | case5 => cases h
theorem runesN_le (l : List UInt8) : runesN l ≤ l.length := by
  unfold runesN
  cases h : runesW true l with
  | none => exact Nat.zero_le _
  | some n => exact runesW_le _ _ _ h
theorem sget (l : List UInt8) (pos : Nat) (h : pos < (str l).size) : (str l)[pos]'h = l[pos]'(by rw [← str_size l]; exact h) := by
  show (str l).data[pos]'_ = _
  simp [str]
theorem sget! (l : List UInt8) (pos : Nat) (h : pos < l.length) : (str l).get! pos = l[pos]'h := by
  show (str l).data[pos]! = _
  simp [str, getElem!_pos, h]
/-- What stands at a place, as the ranges see it. -/
theorem decode_one (l : List UInt8) (pos : Nat) (h : pos < l.length) (ha : l[pos].toNat < 128) : Utf8.decode (str l) pos = (l[pos].toNat, 1) := by
  have h' : pos < (str l).size := by rw [str_size]; exact h
  rw [decode_ascii (str l) pos h' (by rw [sget]; exact ha), sget]
theorem decode_two (l : List UInt8) (pos : Nat) (h : pos + 1 < l.length) (c d : UInt8) (hc : l[pos] = c) (hd : l[pos + 1] = d) (h2 : twoB c d = true) :
    Utf8.decode (str l) pos = ((c.toNat % 32) * 64 + d.toNat % 64, 2) := by
  have e0 : (str l).get! (pos + 0) = c := by rw [Nat.add_zero, sget! l pos (by omega), hc]
  have e1 : (str l).get! (pos + 1) = d := by rw [sget! l (pos + 1) h, hd]
  simp only [Utf8.decode, e0, e1, str_size]
  simp only [twoB, Bool.or_eq_true, Bool.and_eq_true, decide_eq_true_eq] at h2
  rw [if_neg (by omega), if_pos (by simp; omega), if_pos (by omega)]
theorem decode_bad (l : List UInt8) (pos : Nat) (h : pos < l.length) (ha : 128 ≤ l[pos].toNat) (hb : letB (Utf8.decode (str l) pos).1 = true) : ∃ h1 : pos + 1 < l.length, twoB l[pos] l[pos + 1] = true := by
  have hne : letB Utf8.runeError = false := by decide
  have hbig : ∀ c, 2048 ≤ c → letB c = false := fun c hc => by simp [letB]; omega
  have hb0 := l[pos].toNat_lt
  have e0 : (str l).get! (pos + 0) = l[pos] := by rw [Nat.add_zero, sget! l pos h]
  simp only [Utf8.decode, e0, str_size] at hb
  rw [if_neg (by omega)] at hb
  split at hb
  · rename_i h1
    simp only [Bool.and_eq_true, beq_iff_eq, decide_eq_true_eq] at h1
    have hlt : pos + 1 < l.length := by omega
    refine ⟨hlt, ?_⟩
    have hb1 := l[pos + 1].toNat_lt
    have e1 : (str l).get! (pos + 1) = l[pos + 1] := sget! l (pos + 1) hlt
    rw [e1] at hb h1
    split at hb
    · simp only [letB, Bool.or_eq_true, Bool.and_eq_true, decide_eq_true_eq] at hb
      simp only [twoB, Bool.or_eq_true, Bool.and_eq_true, decide_eq_true_eq]
      omega
    · rw [hne] at hb; cases hb
  · split at hb
    · split at hb
      · rename_i h3
        simp only [Bool.and_eq_true, decide_eq_true_eq] at h3
        rw [hbig _ (by omega)] at hb; cases hb
      · rw [hne] at hb; cases hb
    · split at hb
      · split at hb
        · rename_i h3
          simp only [Bool.and_eq_true, decide_eq_true_eq] at h3
          rw [hbig _ (by omega)] at hb; cases hb
        · rw [hne] at hb; cases hb
      · rw [hne] at hb; cases hb
theorem letB_two (c d : UInt8) (h : twoB c d = true) : letB ((c.toNat % 32) * 64 + d.toNat % 64) = true ∧ (c.toNat % 32) * 64 + d.toNat % 64 ≠ 45 ∧ oneB c = false := by
  simp only [twoB, Bool.or_eq_true, Bool.and_eq_true, decide_eq_true_eq] at h
  refine ⟨?_, by omega, ?_⟩
  · simp only [letB, Bool.or_eq_true, Bool.and_eq_true, decide_eq_true_eq]
    omega
  · simp only [oneB, Bool.or_eq_false_iff, Bool.and_eq_false_iff, decide_eq_false_iff_not]
    omega
theorem letB_one (c : UInt8) (h : c.toNat < 128) : letB c.toNat = oneB c := by
  unfold letB oneB
  rw [show decide (945 ≤ c.toNat) = false from decide_eq_false (by omega), Bool.false_and, Bool.or_false]
theorem oneB_lt (c : UInt8) (h : oneB c = true) : c.toNat < 128 := by
  simp only [oneB, Bool.or_eq_true, Bool.and_eq_true, decide_eq_true_eq] at h
  omega
/-- A round of a range over a name: a letter that may stand there. -/
theorem runes_go (l : List UInt8) (pos : Nat) (h : pos < l.length) (hl : letB (Utf8.decode (str l) pos).1 = true) (hd : ¬ (pos = 0 ∧ (Utf8.decode (str l) pos).1 = 45)) :
    runesW (decide (pos = 0)) (l.drop pos) = (runesW false (l.drop (pos + (Utf8.decode (str l) pos).2))).map (· + 1) ∧ pos + (Utf8.decode (str l) pos).2 ≤ l.length ∧ 1 ≤ (Utf8.decode (str l) pos).2 ∧ (Utf8.decode (str l) pos).2 ≤ 2 := by
  rw [List.drop_eq_getElem_cons h]
  by_cases ha : l[pos].toNat < 128
  · have e := decode_one l pos h ha
    rw [e] at hl hd ⊢
    dsimp only at hl hd ⊢
    rw [letB_one _ ha] at hl
    refine ⟨?_, by omega, by omega, by omega⟩
    rw [runesW_one]
    rw [hl, Bool.true_and, Bool.not_eq_true', Bool.and_eq_false_iff, decide_eq_false_iff_not, decide_eq_false_iff_not]
    exact Decidable.not_and_iff_not_or_not.1 hd
  · obtain ⟨h1, h2⟩ := decode_bad l pos h (by omega) hl
    have e := decode_two l pos h1 _ _ rfl rfl h2
    rw [e]
    dsimp only
    refine ⟨?_, by omega, by omega, by omega⟩
    have hn := (letB_two _ _ h2).2.2
    rw [List.drop_eq_getElem_cons h1, runesW_two _ _ _ _ (by rw [hn]; rfl) h2]
/-- A round that ends it. -/
theorem runes_stop (l : List UInt8) (pos : Nat) (h : pos < l.length) (hbad : letB (Utf8.decode (str l) pos).1 = false ∨ (pos = 0 ∧ (Utf8.decode (str l) pos).1 = 45)) : runesW (decide (pos = 0)) (l.drop pos) = none := by
  rw [List.drop_eq_getElem_cons h]
  by_cases ha : l[pos].toNat < 128
  · have e := decode_one l pos h ha
    rw [e] at hbad
    dsimp only at hbad
    rw [letB_one _ ha] at hbad
    refine runesW_bad _ _ _ ?_ (fun d r' _ => ?_)
    · rcases hbad with hb | ⟨h0, h45⟩
      · rw [hb]; rfl
      · rw [decide_eq_true h0, decide_eq_true h45]; simp
    · simp only [twoB, Bool.or_eq_false_iff, Bool.and_eq_false_iff, decide_eq_false_iff_not]
      omega
  · have h1 : oneB l[pos] = false := by
      cases hq : oneB l[pos] with
      | false => rfl
      | true => exact absurd (oneB_lt _ hq) ha
    refine runesW_bad _ _ _ (by rw [h1]; rfl) (fun d r hr => ?_)
    cases h2 : twoB l[pos] d with
    | false => rfl
    | true =>
      exfalso
      have hlt : pos + 1 < l.length := by
        have := congrArg List.length hr
        simp at this; omega
      have hd : l[pos + 1] = d := by
        rw [List.drop_eq_getElem_cons hlt] at hr
        exact (List.cons.inj hr).1
      have e := decode_two l pos hlt _ _ rfl hd h2
      rw [e] at hbad
      dsimp only at hbad
      have := letB_two _ _ h2
      rcases hbad with hb | ⟨_, h45⟩
      · rw [this.1] at hb; cases hb
      · exact this.2.1 h45
end Go.Proofs.YtcchhfkmhbjdmaaGreat
