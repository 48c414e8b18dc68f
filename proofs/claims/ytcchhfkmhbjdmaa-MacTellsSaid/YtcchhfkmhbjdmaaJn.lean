/- ShaTells: few, strings in a row. -/
import Derived.Test.YtcchhfkmhbjdmaaJlm
set_option linter.unusedVariables false
set_option linter.unusedSimpArgs false
set_option pp.deepTerms true
set_option pp.maxSteps 100000
namespace Go.Proofs.Ytcchhfkmhbjdmaa
open Go.RowKit
theorem total_take (p : List (List UInt8)) (i : Nat) : (p.take i).flatten.length ≤ p.flatten.length := by
  conv => rhs; rw [← List.take_append_drop i p, List.flatten_append, List.length_append]
  omega
theorem take_next (p : List (List UInt8)) (i : Nat) (s : List UInt8) (h : p[i]? = some s) : (p.take (i + 1)).flatten = (p.take i).flatten ++ s := by
  rw [List.take_add_one, h, Option.toList_some, List.flatten_append]; simp
set_option maxRecDepth 20000 in
set_option maxHeartbeats 1000000 in
theorem few_some (B o cap : Nat) (parts : List (List UInt8)) (w : World) (hc : ∀ j s, parts[j]? = some s → w.cell? ⟨B, o + j, none⟩ = some (.string (str s))) (hs : ∀ s ∈ parts, s.length ≤ 140737488355328) (hlb : parts.length ≤ 9223372036854775807) :
    Calls Try.prog 27 #[.slice (some ⟨B, o, none⟩) parts.length cap] w fun e w' => (∃ r, e = .returned (.bool r) ∧ (r = true → parts.length ≤ 100 ∧ parts.flatten.length ≤ 4000)) ∧ w' = w := by
  have HC := Lib.hid hc
  have HS := Lib.hid hs
  obtain ⟨n, hn⟩ : ∃ n, n = parts.length := ⟨_, rfl⟩
  have HN := Lib.hid hn
  rw [← hn]
  have hnb : n ≤ 9223372036854775807 := by omega
  clear hc hs hn hlb
  go_enter Try.func27, Try.ntmps27
  go_wp2
  go_loopw [3, 4] (fun v3 v4 wr => ∃ (i m : Nat), i ≤ n ∧ i ≤ 100 ∧ v4 = .int .i64 i ∧ v3 = .int .i64 m ∧ m = (parts.take i).flatten.length ∧ m ≤ 4000 ∧ wr = w) (fun _ v _ => n - (intOf v).toNat)
  case atStart => exact ⟨0, 0, Nat.zero_le _, Nat.zero_le _, rfl, rfl, rfl, Nat.zero_le _, rfl⟩
  case round =>
    obtain ⟨i, m, hi, hi100, rfl, rfl, hm, hm4, hw⟩ := hrel
    have HM := Lib.hid hm
    have HW := Lib.hid hw
    clear hm hw
    by_cases hlt : i < n
    · have hx : (i : Int) < (n : Int) := by omega
      obtain ⟨s, hs⟩ : ∃ s, parts[i]? = some s := ⟨parts[i]'(by rw [← HN.out]; exact hlt), List.getElem?_eq_getElem (by rw [← HN.out]; exact hlt)⟩
      have c1 : wr.cell? ⟨B, o + i, none⟩ = some (.string (str s)) := by rw [HW.out]; exact HC.out i s hs
      obtain ⟨S, hS⟩ : ∃ S, S = str s := ⟨_, rfl⟩
      obtain ⟨k, hk⟩ : ∃ k, k = s.length := ⟨_, rfl⟩
      have hSs : S.size = k := by rw [hS, str_size, hk]
      rw [← hS] at c1
      have hkb : k ≤ 140737488355328 := by rw [hk]; exact HS.out s (List.mem_of_getElem? hs)
      obtain ⟨m2, hm2⟩ : ∃ m2, m2 = m + k := ⟨_, rfl⟩
      have hwm : IntKind.i64.wrap ((m : Int) + (k : Int)) = (m2 : Int) := by rw [IntWalk.i64_in _ (by omega)]; omega
      have hmk : (m : Int) + (k : Int) = (m2 : Int) := by omega
      have HM2 := Lib.hid (show m2 = (parts.take (i + 1)).flatten.length by rw [take_next _ _ _ hs, List.length_append, ← HM.out, hm2, hk])
      clear hs hS hk hm2
      by_cases h1 : 100 ≤ i
      · have d1 : decide ((100 : Int) ≤ (i : Int)) = true := decide_eq_true (by omega)
        clear h1
        go_wp2
        go_ret
        exact ⟨⟨false, rfl, fun h => by cases h⟩, HW.out⟩
      · have d1 : decide ((100 : Int) ≤ (i : Int)) = false := decide_eq_false (by omega)
        by_cases h2 : 4000 < m2
        · have d2 : decide ((4000 : Int) < (m2 : Int)) = true := decide_eq_true (by omega)
          clear h1 h2
          go_wp2
          go_ret
          exact ⟨⟨false, rfl, fun h => by cases h⟩, HW.out⟩
        · have d2 : decide ((4000 : Int) < (m2 : Int)) = false := decide_eq_false (by omega)
          have HI := Lib.hid (show i + 1 ≤ 100 ∧ m2 ≤ 4000 by omega)
          clear h1 h2
          go_wp2
          go_roundw
          case rel => exact ⟨i + 1, m2, by omega, HI.out.1, by go_num, rfl, HM2.out, HI.out.2, HW.out⟩
          case measure => simp [intOf]; omega
    · have HR := Lib.hid (show parts.length ≤ 100 ∧ parts.flatten.length ≤ 4000 by
        have h1 := HM.out
        rw [List.take_of_length_le (by rw [← HN.out]; omega)] at h1
        have := HN.out
        omega)
      go_wp2
      go_ret
      exact ⟨⟨true, rfl, fun _ => by rw [HN.out]; exact HR.out⟩, HW.out⟩
theorem few_nil (A : Option Addr) (cap : Nat) (w : World) : Calls Try.prog 27 #[.slice A 0 cap] w fun e w' => e = .returned (.bool true) ∧ w' = w := by
  go_enter Try.func27, Try.ntmps27
  go_wp2
  go_loopw [4] (fun v4 wr => v4 = .int .i64 0 ∧ wr = w) (fun _ _ => 0)
  case atStart => exact ⟨rfl, rfl⟩
  case round =>
    obtain ⟨rfl, hw⟩ := hrel
    have HW := Lib.hid hw
    clear hw
    go_wp2
    go_ret
    exact ⟨rfl, HW.out⟩
end Go.Proofs.Ytcchhfkmhbjdmaa
