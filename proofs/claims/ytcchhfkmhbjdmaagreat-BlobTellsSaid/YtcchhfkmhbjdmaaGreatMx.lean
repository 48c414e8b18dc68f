/- Labels: slices of slices. -/
import Derived.Test.YtcchhfkmhbjdmaaGreatMa
import Derived.Test.YtcchhfkmhbjdmaaGreatLu
set_option linter.unusedVariables false
set_option linter.unusedSimpArgs false
set_option pp.deepTerms true
set_option pp.maxSteps 100000
namespace Go.Proofs.YtcchhfkmhbjdmaaGreat
open Go.RowKit
theorem slice_to (a : Option Addr) (len cap j : Nat) (hj : j ≤ cap) (hc : cap ≤ 9223372036854775807) (W : World) : (Instr.slice 24 (.slice a len cap) none (some (.int .i64 (j : Int))) none).run Tryz.prog W = .ok (.slice (if cap = 0 then a else a.map (·.add (0 * 2))) j cap) W := by
  obtain ⟨i0, hi, hz0, hz1, hz2⟩ := info_parts infoP
  have h1 : ¬ ((j : Int) < 0) := by omega
  have h2 : ¬ ((cap : Int) < (j : Int)) := by omega
  have h3 : ¬ cap < j := by omega
  simp [Instr.slice, Instr.sliceBounds, run_underlying Tryz.underlying24, sizeOf, typeInfo, hi, hz1, Instr.sliceBound, asIntOf, hj]
theorem slice_from (a : Option Addr) (len cap j : Nat) (hj : j ≤ len) (hl : len ≤ cap) (hc : cap ≤ 9223372036854775807) (W : World) : (Instr.slice 24 (.slice a len cap) (some (.int .i64 (j : Int))) none none).run Tryz.prog W = .ok (.slice (if cap = j then a else a.map (·.add (j * 2))) (len - j) (cap - j)) W := by
  obtain ⟨i0, hi, hz0, hz1, hz2⟩ := info_parts infoP
  have h1 : ¬ ((j : Int) < 0) := by omega
  have h2 : ¬ ((cap : Int) < (j : Int)) := by omega
  have h3 : ¬ cap < j := by omega
  have h4 : ¬ len < j := by omega
  have h5 : ¬ ((len : Int) < (j : Int)) := by omega
  simp [Instr.slice, Instr.sliceBounds, run_underlying Tryz.underlying24, sizeOf, typeInfo, hi, hz1, Instr.sliceBound, asIntOf, hj]
theorem psl_take {W : World} {A : Option Addr} {o : List Pr} {C j : Nat} (h : PSl W A o) (hC : o.length ≤ C) : PSl W (if C = 0 then A else A.map (·.add (0 * 2))) (o.take j) := by
  rcases h with rfl | ⟨b, off, rfl, hp, hb⟩
  · exact .inl (by simp)
  by_cases h0 : C = 0
  · exact .inl (by rw [List.eq_nil_of_length_eq_zero (by omega : o.length = 0)]; simp)
  · rw [if_neg h0]
    refine .inr ⟨b, off + 0 * 2, by simp [Addr.add_mid], fun i y hy => ?_, hb⟩
    rw [show off + 0 * 2 = off by omega]
    rw [List.getElem?_take] at hy
    split at hy
    · exact hp i y hy
    · cases hy
theorem psl_drop {W : World} {A : Option Addr} {o : List Pr} {C j : Nat} (h : PSl W A o) (hC : o.length ≤ C) : PSl W (if C = j then A else A.map (·.add (j * 2))) (o.drop j) := by
  rcases h with rfl | ⟨b, off, rfl, hp, hb⟩
  · exact .inl (by simp)
  by_cases h0 : C = j
  · exact .inl (List.drop_eq_nil_of_le (by omega))
  · rw [if_neg h0]
    refine .inr ⟨b, off + j * 2, by simp [Addr.add_mid], fun i y hy => ?_, hb⟩
    rw [List.getElem?_drop] at hy
    have := hp (j + i) y hy
    rwa [show off + (j + i) * 2 = off + j * 2 + i * 2 by omega] at this
theorem stepA (B : Nat) (v : Value) (xs ys : List Pr) (a : Option Addr) (c : Nat) (W : World) (hown : W.ownsRow B 42 2 v xs.length (xs.flatMap encP)) (hp : PSl W a ys) (hB : B ≤ W.heap.size) (hn : xs.length + ys.length ≤ 1000) :
    ∃ v' W', (Builtin.append_ #[24, 24] 24 #[v, .slice a ys.length c]).run Tryz.prog W = .ok v' W' ∧ W'.ownsRow B 42 2 v' (xs ++ ys).length ((xs ++ ys).flatMap encP) ∧ Fr (fun k => v.ownBlock = some k) W W' := by
  obtain ⟨v', W', hr, h1, h2⟩ := append_l B v xs.length (xs.flatMap encP) a c ys W hown hp hB hn
  exact ⟨v', W', hr, by rw [List.length_append, List.flatMap_append]; exact h1, (Fr.refl _ W).grown h2 (fun k hk => .inl hk)⟩
theorem own_weaken {W : World} {B B' : Nat} {v : Value} {n : Nat} {xs : List Value} (h : W.ownsRow B 42 2 v n xs) (hB : B' ≤ B) : W.ownsRow B' 42 2 v n xs := by
  refine ⟨h.1, ?_⟩
  rcases h.2 with hn | ⟨g, cap, cur, rfl, hb, hr⟩
  · exact .inl hn
  · exact .inr ⟨g, cap, cur, rfl, Nat.le_trans hB hb, hr⟩
theorem rowp_shape {W : World} {B : Nat} {v : Value} {n : Nat} {xs : List Value} (h : W.ownsRow B 42 2 v n xs) : ∃ a m c, v = .slice a m c := by
  rcases h.2 with ⟨hn, _⟩ | ⟨g, cap, cur, hv, _⟩
  · exact ⟨_, _, _, hn⟩
  · exact ⟨_, _, _, hv⟩
end Go.Proofs.YtcchhfkmhbjdmaaGreat
