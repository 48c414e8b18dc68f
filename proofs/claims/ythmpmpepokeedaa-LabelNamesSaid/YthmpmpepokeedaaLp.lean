/- LabelNames: the plain law and the walk. -/
import Derived.Test.YthmpmpepokeedaaLo
set_option linter.unusedVariables false
set_option linter.unusedSimpArgs false
set_option pp.deepTerms true
set_option pp.maxSteps 100000
namespace Go.Proofs.Ythmpmpepokeedaa
open Go.RowKit
theorem runesW_weaken (l : List UInt8) (n : Nat) (h : runesW true l = some n) : runesW false l = some n := by
  cases l with
  | nil => exact h
  | cons c r =>
    by_cases h1 : (oneB c && !(true && decide (c.toNat = 45))) = true
    · rw [runesW_one _ _ _ h1] at h
      rw [runesW_one _ _ _ (by
        simp only [Bool.and_eq_true] at h1
        rw [h1.1]; rfl)]
      exact h
    · have h1' : (oneB c && !(true && decide (c.toNat = 45))) = false := by simpa using h1
      cases r with
      | nil => rw [runesW_bad _ _ _ h1' (fun d r' e => by cases e)] at h; cases h
      | cons d r =>
        cases h2 : twoB c d with
        | false => rw [runesW_bad _ _ _ h1' (fun d' r' e => by cases e; exact h2)] at h; cases h
        | true =>
          rw [runesW_two _ _ _ _ h1' h2] at h
          rw [runesW_two _ _ _ _ (by rw [(letB_two c d h2).2.2]; rfl) h2]
          exact h
theorem runesW_append (f : Bool) (a : List UInt8) (n : Nat) (h : runesW f a = some n) (b : List UInt8) (m : Nat) (hb : runesW true b = some m) : runesW f (a ++ b) = some (n + m) := by
  fun_induction runesW f a generalizing n with
  | case1 f =>
    simp only [Option.some.injEq] at h
    subst h
    rw [List.nil_append, Nat.zero_add]
    cases f with
    | true => exact hb
    | false => exact runesW_weaken b m hb
  | case2 f c r hc ih =>
    simp only [Option.map_eq_some_iff] at h
    obtain ⟨k, hk, rfl⟩ := h
    rw [List.cons_append, runesW_one _ _ _ hc, ih k hk, Option.map_some]
    congr 1; omega
  | case3 => cases h
  | case4 f c hc d r' h2 ih =>
    simp only [Option.map_eq_some_iff] at h
    obtain ⟨k, hk, rfl⟩ := h
    rw [List.cons_append, List.cons_append, runesW_two _ _ _ _ (by simpa using hc) h2, ih k hk, Option.map_some]
    congr 1; omega
  | case5 => cases h
theorem runesW_twice (f : Bool) (l : List UInt8) (n : Nat) (h : runesW f l = some n) : l.length ≤ 2 * n := by
  fun_induction runesW f l generalizing n with
  | case1 => simp
  | case2 f c r hc ih =>
    simp only [Option.map_eq_some_iff] at h
    obtain ⟨m, hm, rfl⟩ := h
    have := ih m hm
    simp; omega
  | case3 => cases h
  | case4 f c hc d r' h2 ih =>
    simp only [Option.map_eq_some_iff] at h
    obtain ⟨m, hm, rfl⟩ := h
    have := ih m hm
    simp; omega
  | case5 => cases h
theorem runesL_some {l : List UInt8} {n : Nat} (hn : n = runesL l) (h : 0 < n) : runesW true l = some n ∧ n ≤ 32 := by
  unfold runesL runesN at hn
  cases hq : runesW true l with
  | none => rw [hq] at hn; simp at hn; omega
  | some k =>
    rw [hq] at hn
    simp only [Option.getD_some] at hn
    split at hn
    · omega
    · subst hn; exact ⟨rfl, by omega⟩
theorem runes_both {a b : List UInt8} {n m : Nat} (hn : n = runesL a) (hm : m = runesL b) (h1 : 0 < n) (h2 : 0 < m) : runesL (a ++ b) = if 32 < n + m then 0 else n + m := by
  have e := runesW_append true a n (runesL_some hn h1).1 b m (runesL_some hm h2).1
  unfold runesL runesN
  rw [e]; rfl
theorem runes_head {l : List UInt8} {n : Nat} (h : runesW true l = some n) (hn : 0 < n) : ∃ c r, l = c :: r ∧ c.toNat ≠ 45 := by
  cases l with
  | nil => simp [runesW] at h; omega
  | cons c r =>
    refine ⟨c, r, rfl, fun e => ?_⟩
    have h1 : (oneB c && !(true && decide (c.toNat = 45))) = false := by rw [decide_eq_true e]; simp
    rw [runesW_bad _ _ _ h1 (fun d r' _ => by
      simp only [twoB, Bool.or_eq_false_iff, Bool.and_eq_false_iff, decide_eq_false_iff_not]; omega)] at h
    cases h
theorem u8_num' (c : UInt8) : UInt8.ofNat c.toNat = c := by simp
/-- A letter, alone, is a name of one rune. -/
theorem rune_alone (l : List UInt8) (pos : Nat) (h : pos < l.length) (hl : letB (Utf8.decode (str l) pos).1 = true) (h45 : (Utf8.decode (str l) pos).1 ≠ 45) :
    ∃ m, Utf8.encode ((Utf8.decode (str l) pos).1 : Int) = str m ∧ runesL m = 1 ∧ m.length ≤ 2 := by
  by_cases ha : l[pos].toNat < 128
  · have e := decode_one l pos h ha
    rw [e] at hl h45 ⊢
    dsimp only at hl h45 ⊢
    generalize l[pos] = c at ha hl h45 ⊢
    rw [letB_one _ ha] at hl
    refine ⟨[c], ?_, ?_, by simp⟩
    · have hv : Utf8.valid (c.toNat : Int) = true := by simp [Utf8.valid]; omega
      simp only [Utf8.encode, hv, if_true, Int.toNat_natCast]
      rw [if_pos (by omega)]
      simp [str]
    · have h1 : (oneB c && !(true && decide (c.toNat = 45))) = true := by rw [hl, decide_eq_false h45]; rfl
      unfold runesL runesN
      rw [runesW_one _ _ _ h1]
      rfl
  · obtain ⟨h1, h2⟩ := decode_bad l pos h (by omega) hl
    have e := decode_two l pos h1 _ _ rfl rfl h2
    rw [e]
    dsimp only
    generalize l[pos] = c at h2 ⊢
    generalize l[pos + 1] = d at h2 ⊢
    have ho := (letB_two c d h2).2.2
    have h2' := h2
    simp only [twoB, Bool.or_eq_true, Bool.and_eq_true, decide_eq_true_eq] at h2'
    refine ⟨[c, d], ?_, ?_, by simp⟩
    · have hv : Utf8.valid (((c.toNat % 32) * 64 + d.toNat % 64 : Nat) : Int) = true := by simp [Utf8.valid]; omega
      simp only [Utf8.encode, hv, if_true, Int.toNat_natCast]
      rw [if_neg (by omega), if_pos (by omega)]
      have e1 : 0xC0 + (c.toNat % 32 * 64 + d.toNat % 64) / 64 = c.toNat := by omega
      have e2 : 0x80 + (c.toNat % 32 * 64 + d.toNat % 64) % 64 = d.toNat := by omega
      rw [e1, e2]
      simp [str]
    · unfold runesL runesN
      rw [runesW_two _ _ _ _ (by rw [ho]; rfl) h2]
      rfl
theorem run_conv_rune (r : Nat) (w : World) : (convert 21 9 (.int .i32 (r : Int))).run Try.prog w = .ok (.string (Utf8.encode (r : Int))) w := by
  simp [convert, run_underlying Try.underlying21, run_underlying Try.underlying9, Conv.intToString, go_sem]
end Go.Proofs.Ythmpmpepokeedaa
