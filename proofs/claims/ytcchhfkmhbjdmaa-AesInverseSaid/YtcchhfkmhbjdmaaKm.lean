/- What undoes a byte: the walk. -/
import Derived.Test.YtcchhfkmhbjdmaaKl
set_option linter.unusedVariables false
set_option linter.unusedSimpArgs false
set_option pp.deepTerms true
set_option pp.maxSteps 100000
namespace Go.Proofs.Ytcchhfkmhbjdmaa
open Go.RowKit
/-- Has what undoes a come by? -/
def by' (a : UInt8) (i : Nat) : Bool := (a != 0) && decide ((inv a).toNat < i)
theorem by_step (a : UInt8) (i : Nat) (hi : i < 256) : (mul a (UInt8.ofNat i) == 1) = true → by' a i = false ∧ by' a (i + 1) = true ∧ UInt8.ofNat i = inv a := by
  intro h
  rw [beq_iff_eq] at h
  obtain ⟨h1, h2⟩ := mul_one_unique _ _ h
  have h3 : (inv a).toNat = i := by rw [← h2]; simp; omega
  refine ⟨?_, ?_, h2⟩
  · simp [by', h3]
  · simp [by', h3, h1]
theorem by_stay (a : UInt8) (i : Nat) (hi : i < 256) : (mul a (UInt8.ofNat i) == 1) = false → by' a (i + 1) = by' a i := by
  intro h
  unfold by'
  by_cases h0 : a = 0
  · simp [h0]
  · have hne : (inv a).toNat ≠ i := fun e => by
      have : UInt8.ofNat i = inv a := by rw [← e]; simp
      rw [this, mul_inv a h0] at h
      simp at h
    have : ((inv a).toNat < i + 1) = ((inv a).toNat < i) := propext ⟨fun h => by omega, fun h => by omega⟩
    simp only [this]
set_option maxRecDepth 20000 in
set_option maxHeartbeats 4000000 in
theorem inverse_walk (a : UInt8) (w : World) : Calls Try.prog 6 #[.int .u8 (a.toNat : Int)] w fun e w' => e = .returned (.bool true) ∧ Fr (fun _ => False) w w' := by
  go_enter Try.func6, Try.ntmps6
  go_wp2_with fail
  refine (awake_true _).mono ?_
  rintro e w1 ⟨rfl, h1⟩
  have HF := Lib.hid h1
  clear h1
  go_wp2_with fail
  go_loop [3, 4, 5] (fun vn vw vi => ∃ (i : Nat) (n0 : Int) (x0 : UInt8), i ≤ 256 ∧ vi = .int .i64 i ∧ vn = .int .i64 n0 ∧ vw = .int .u8 (x0.toNat : Int) ∧ n0 = (if by' a i then 1 else 0) ∧ x0 = (if by' a i then inv a else 0)) (fun _ _ vi => 256 - (intOf vi).toNat)
  case atStart => exact ⟨0, 0, 0, Nat.zero_le _, rfl, rfl, rfl, by simp [by'], by simp [by']⟩
  case round =>
    obtain ⟨i, n0, x0, hi, rfl, rfl, rfl, hn, hx0⟩ := hrel
    have HN := Lib.hid hn
    have HX0 := Lib.hid hx0
    have hn0 : 0 ≤ n0 := by rw [hn]; split <;> omega
    have hn1 : n0 ≤ 1 := by rw [hn]; split <;> omega
    clear hn hx0
    have b0 := a.toNat_lt
    have b1 := x0.toNat_lt
    by_cases hlt : i < 256
    · have hcv : (i : Int) % 256 = ((UInt8.ofNat i).toNat : Int) := by simp
      have hcv2 : IntKind.u8.wrap (i : Int) = ((UInt8.ofNat i).toNat : Int) := by rw [IntKind.wrap_u8']; exact hcv
      obtain ⟨x, hx⟩ : ∃ x, x = UInt8.ofNat i := ⟨_, rfl⟩
      rw [← hx] at hcv hcv2
      have HX := Lib.hid hx
      clear hx
      have b2 := x.toNat_lt
      cases hq : (mul a x == 1)
      · have HS := Lib.hid (by_stay a i hlt (by rw [← HX.out]; exact hq))
        have hq' : (((mul a x).toNat : Int) == 1) = false := by have := toNat_beq (mul a x) 1; rw [hq] at this; exact this
        clear hq
        go_wp2_with (go_at_call 20; with_reducible refine (mul_calls a x _).mono ?_; rintro e w' ⟨rfl, rfl⟩)
        go_round
        case rel => exact ⟨i + 1, n0, x0, by omega, by go_num, rfl, rfl, by rw [HS.out]; exact HN.out, by rw [HS.out]; exact HX0.out⟩
        case measure => simp [intOf]; omega
      · have HS := Lib.hid (by_step a i hlt (by rw [← HX.out]; exact hq))
        have hq' : (((mul a x).toNat : Int) == 1) = true := by have := toNat_beq (mul a x) 1; rw [hq] at this; exact this
        clear hq
        go_wp2_with (go_at_call 20; with_reducible refine (mul_calls a x _).mono ?_; rintro e w' ⟨rfl, rfl⟩)
        go_round
        case rel =>
          obtain ⟨g1, g2, g3⟩ := HS.out
          have h0 := HN.out
          rw [g1] at h0
          exact ⟨i + 1, n0 + 1, x, by omega, by go_num, by go_num, by first | rfl | rw [hcv], by rw [g2, h0]; rfl, by rw [g2, HX.out, g3]; rfl⟩
        case measure => simp [intOf]; omega
    · have h256 : by' a i = (a != 0) := by
        have : (inv a).toNat < i := by have := (inv a).toNat_lt; omega
        simp [by', this]
      rw [h256] at HN HX0
      clear h256
      by_cases ha : a = 0
      · have hn := HN.out
        rw [show (a != 0) = false by simp [ha]] at hn
        have hqa : ((a.toNat : Int) == 0) = true := by rw [ha]; rfl
        have hqn : (n0 == 0) = true := by rw [hn]; rfl
        clear hn ha
        go_wp2
        go_ret
        exact ⟨rfl, HF.out⟩
      · have hn := HN.out
        have hx := HX0.out
        rw [show (a != 0) = true by simp [ha]] at hn hx
        have hx' : x0 = inv a := hx
        have HMI := Lib.hid (show mul x0 a = 1 by rw [hx', mul_comm]; exact mul_inv a ha)
        have hqa : ((a.toNat : Int) == 0) = false := by have := toNat_beq a 0; rw [show (a == 0) = false by simp [ha]] at this; exact this
        have hqn : (n0 == 1) = true := by rw [hn]; rfl
        obtain ⟨q, hq1⟩ : ∃ q, ((a.toNat : Int) == (x0.toNat : Int)) = q := ⟨_, rfl⟩
        have hq2 : (((box a).toNat : Int) == ((box x0).toNat : Int)) = q := by
          rw [← hq1, toNat_beq, toNat_beq, Bool.eq_iff_iff, beq_iff_eq, beq_iff_eq]
          exact ⟨box_inj, fun e => by rw [e]⟩
        clear hn hx hx' ha
        go_wp2_with fail
        refine (mul_calls x0 a _).mono ?_
        rintro e w' ⟨rfl, rfl⟩
        rw [HMI.out]
        go_wp2_with fail
        refine (box_calls a _).mono ?_
        rintro e w2 ⟨rfl, h2⟩
        have HF2 := Lib.hid (HF.out.trans h2 (fun i hi => hi.elim))
        clear h2
        go_wp2_with fail
        refine (box_calls x0 _).mono ?_
        rintro e w3 ⟨rfl, h3⟩
        have HF3 := Lib.hid (HF2.out.trans h3 (fun i hi => hi.elim))
        clear h3
        go_wp2_with fail
        go_ret
        exact ⟨rfl, HF3.out⟩
end Go.Proofs.Ytcchhfkmhbjdmaa
