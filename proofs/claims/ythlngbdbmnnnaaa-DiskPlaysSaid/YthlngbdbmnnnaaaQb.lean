/- Disks: the acts that come in; Few walked (no printed text). -/
import Derived.Test.YthlngbdbmnnnaaaQa
import Derived.Test.YthlngbdbmnnnaaaKk
import Derived.Test.YthlngbdbmnnnaaaKl
import Derived.BigQuiet
set_option linter.unusedVariables false
set_option linter.unusedSimpArgs false
set_option pp.deepTerms true
set_option pp.maxSteps 100000
namespace Go.Proofs.Ythlngbdbmnnnaaa
open Go.RowKit Go.ChangeShapes Go.WideShapes
/-- A cut: its number, what it keeps, how much of the last. -/
structure S31 where
  f0 : Int
  f1 : Int
  f2 : Int
/-- An act: its kind, its sector, its bytes, its cut. -/
structure S33 where
  f0 : Int
  f1 : Int
  f2 : ByteArray
  f3 : S31
def actCells (x : S33) : List Value := [.int .i64 x.f0, .int .i64 x.f1, .string x.f2, .int .i64 x.f3.f0, .int .u64 x.f3.f1, .int .i64 x.f3.f2]
def actWf (x : S33) : Prop := 0 ≤ x.f3.f1 ∧ x.f3.f1 ≤ 18446744073709551615
set_option maxRecDepth 20000 in
theorem flat33 {H : Type} {enc : TypeId × Value → H} {w : World} : Flat enc Try.prog w 33 actCells actWf := fun base spare held fuel cs x h => by
  have hl := struct_len Try.underlying33 h
  rw [show Try.prog.cellsOf 33 = 6 by kernel_rfl] at hl
  obtain ⟨a, h0, w0⟩ := flat_field Try.underlying33 h 0 0 3 1 rfl (by kernel_rfl) (flat_int Try.underlying3)
  obtain ⟨p, h1, w1⟩ := flat_field Try.underlying33 h 1 1 3 1 rfl (by kernel_rfl) (flat_int Try.underlying3)
  obtain ⟨s, h2, w2⟩ := flat_field Try.underlying33 h 2 2 9 1 rfl (by kernel_rfl) (flat_string Try.underlying9)
  obtain ⟨c, h3, w3, w4, w5⟩ := flat_field Try.underlying33 h 3 3 31 3 rfl (by kernel_rfl) flat31
  match cs, hl with
  | [c0, c1, c2, c3, c4, c5], _ =>
    simp [cutCells] at h0 h1 h2 h3
    obtain ⟨rfl, rfl, rfl⟩ := h3
    subst h0; subst h1; subst h2
    exact ⟨⟨a, p, s, ⟨c.1, c.2.1, c.2.2⟩⟩, rfl, (bounds_u64 w4).1, (bounds_u64 w4).2⟩
def Aside (p : Prop) : Prop := p
def fewA (l : List S33) : Bool := decide (l.length ≤ 200) && l.all (fun x => decide (x.f2.size ≤ 300))
set_option maxRecDepth 20000 in
set_option maxHeartbeats 4000000 in
theorem few_walk {w : World} {A : Option Addr} {l : List S33} {cap : Nat} (hr : SlR w A 6 actCells l) (hcap : l.length ≤ cap) (hl : l.length ≤ 9223372036854775807) :
    Calls Try.prog 11 #[.slice A l.length cap] w fun e w' => e = .returned (.bool (fewA l)) ∧ Fr (fun _ => False) w w' := by
  have HR := Lib.hid hr
  obtain ⟨rb, hrb⟩ : ∃ b, b = fewA l := ⟨_, rfl⟩
  rw [← hrb]
  have HRB := Lib.hid (show rb = (decide (l.length ≤ 200) && l.all (fun x => decide (x.f2.size ≤ 300))) from hrb)
  obtain ⟨n, hn⟩ : ∃ n, n = l.length := ⟨_, rfl⟩
  rw [← hn] at hcap hl ⊢
  have HN := Lib.hid hn
  clear hr hn hrb
  go_enter Try.func11, Try.ntmps11
  go_wp2_with fail
  go_loopw [3] (fun i wr => ∃ k : Nat, k ≤ n ∧ k ≤ 200 ∧ i = .int .i64 (k : Int) ∧ Fr (fun _ => False) w wr ∧ Aside (∀ v, v < k → ∀ x, l[v]? = some x → x.f2.size ≤ 300)) (fun i _ => n - (intOf i).toNat)
  case atStart => exact ⟨0, Nat.zero_le _, Nat.zero_le _, rfl, Fr.refl _ _, fun v hv => absurd hv (Nat.not_lt_zero _)⟩
  case round =>
    obtain ⟨k, hk, hk2, rfl, hfr, hall⟩ := hrel
    have HF := Lib.hid hfr
    have HAL := Lib.hid hall
    clear hfr hall
    by_cases hlt : k < n
    · have hkl : k < l.length := by rw [← HN.out]; exact hlt
      have hi0 : (k : Int) < (n : Int) := by omega
      obtain ⟨x, hx⟩ : ∃ x, l[k]? = some x := ⟨_, List.getElem?_eq_getElem hkl⟩
      by_cases h200 : 200 ≤ k
      · have t1 : decide ((200 : Int) ≤ (k : Int)) = true := decide_eq_true (by omega)
        have t1' : decide (200 ≤ k) = true := decide_eq_true (by omega)
        have HX := Lib.hid (show rb = false by rw [HRB.out, decide_eq_false (by omega)]; rfl)
        clear hx hkl h200
        go_wp2_with fail
        go_ret
        exact ⟨by rw [HX.out]; rfl, HF.out⟩
      · have t1 : decide ((200 : Int) ≤ (k : Int)) = false := decide_eq_false (by omega)
        have t1' : decide (200 ≤ k) = false := decide_eq_false (by omega)
        obtain ⟨b, off, rfl, hrg⟩ := HR.out k x hx
        obtain ⟨S, hS⟩ : ∃ S, S = x.f2 := ⟨_, rfl⟩
        have c2 : wr.cell? ⟨b, off + k * 6 + 2, none⟩ = some (.string S) := HF.out.cell (hrg 2 _ (by rw [hS]; rfl)) id
        have HXX := Lib.hid (And.intro hx hS)
        clear hrg hx hS hkl
        by_cases h300 : 300 < S.size
        · have t2 : decide ((300 : Int) < (S.size : Int)) = true := decide_eq_true (by omega)
          have t2' : decide (300 < S.size) = true := decide_eq_true (by omega)
          have HX := Lib.hid (show rb = false by
            rw [HRB.out, Bool.and_eq_false_iff]
            refine .inr (List.all_eq_false.2 ⟨x, List.mem_of_getElem? HXX.out.1, ?_⟩)
            rw [← HXX.out.2]; simpa using h300)
          go_wp2_with fail
          go_ret
          exact ⟨by rw [HX.out]; rfl, HF.out⟩
        · have t2 : decide ((300 : Int) < (S.size : Int)) = false := decide_eq_false (by omega)
          have t2' : decide (300 < S.size) = false := decide_eq_false (by omega)
          have HS3 := Lib.hid (show S.size ≤ 300 by omega)
          clear h300
          go_wp2_with fail
          go_roundw
          case rel =>
            refine ⟨k + 1, by omega, by omega, by go_num, HF.out, fun v hv y hy => ?_⟩
            by_cases hvk : v = k
            · subst hvk
              have := HXX.out.1.symm.trans hy
              cases this
              rw [← HXX.out.2]; exact HS3.out
            · exact HAL.out v (by omega) y hy
          case measure => simp [intOf]; omega
    · obtain rfl : k = n := by omega
      have hge : ¬ (k : Int) < (k : Int) := by omega
      have HX := Lib.hid (show rb = true by
        rw [HRB.out, decide_eq_true (by rw [← HN.out]; exact hk2), Bool.true_and, List.all_eq_true]
        intro x hx
        obtain ⟨v, hv, rfl⟩ := List.getElem_of_mem hx
        exact decide_eq_true (HAL.out v (by rw [HN.out]; exact hv) _ (List.getElem?_eq_getElem hv)))
      go_wp2_with fail
      go_ret
      exact ⟨by rw [HX.out]; rfl, HF.out⟩
theorem few_calls {w0 w : World} {A : Option Addr} {l : List S33} {cap : Nat} (hr : SlR w0 A 6 actCells l) (hf : Fr (fun _ => False) w0 w) (hcap : l.length ≤ cap) (hl : l.length ≤ 9223372036854775807) :
    Calls Try.prog 11 #[.slice A l.length cap] w fun e w' => ∃ b : Bool, e = .returned (.bool b) ∧ (b = true → l.length ≤ 200) ∧ Fr (fun _ => False) w0 w' := by
  refine (few_walk (hr.frF hf) hcap hl).mono ?_
  rintro e w' ⟨rfl, h⟩
  exact ⟨_, rfl, fun hb => by
    unfold fewA at hb
    rw [Bool.and_eq_true, decide_eq_true_eq] at hb
    exact hb.1, hf.trans h (fun i hi => hi.elim)⟩
end Go.Proofs.Ythlngbdbmnnnaaa
