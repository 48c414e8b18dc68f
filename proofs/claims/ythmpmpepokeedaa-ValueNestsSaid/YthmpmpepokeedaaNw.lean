/- Values: MustText of what is no text panics; panics: walked. -/
import Derived.Test.YthmpmpepokeedaaNq
import Derived.Defers
import Derived.Recover
import Derived.Laws.Pointers
set_option linter.unusedVariables false
set_option linter.unusedSimpArgs false
set_option pp.deepTerms true
set_option pp.maxSteps 100000
namespace Go.Proofs.Ythmpmpepokeedaa
open Go.RowKit
theorem catch_panicking (p : Addr) (x : Bool) (u : TypeId) (pv : Value) (older : List PanicEntry) (w : World) (hc : w.cell? p = some (.bool x)) (hz : w.frozen? p = false) :
    CallsD Try.prog 60 #[.pointer (some p)] (.panicking ({ v := .iface u pv, recovered := false } :: older)) w fun e u' w' =>
      e = .returned (.tuple #[]) ∧ u' = .panicking ({ v := .iface u pv, recovered := true } :: older) ∧ w' = w.setCell p (.bool true) := by
  refine callsD_of_wpS Try.func60 rfl fun c₀ cs hu => ?_
  apply wpS_seq
  apply wpS_region
  simp [wpOpsS, go_sem, recoverD, hu, Try.ntmps60, Exit.thenS]
  refine wpS_cond (t := true) (by simp [Act.eval, Array.replicate]) ?_
  simp only [if_true]
  apply wpS_region
  simp [wpOpsS, go_sem, hc, hz, bodyPostS, results, Try.results60]
theorem catch_idle (p : Addr) (w : World) :
    CallsD Try.prog 60 #[.pointer (some p)] .returning w fun e u' w' => e = .returned (.tuple #[]) ∧ u' = .returning ∧ w' = w := by
  refine callsD_of_wpS Try.func60 rfl fun c₀ cs hu => ?_
  apply wpS_seq
  apply wpS_region
  simp [wpOpsS, go_sem, recoverD, hu, Try.ntmps60, Exit.thenS]
  refine wpS_cond (t := false) (by simp [Act.eval, Array.replicate]) ?_
  simp only [Bool.false_eq_true, if_false]
  refine wpS_of_wp (wp_skip ?_)
  cases c₀
  simp_all [bodyPostS, results, Try.results60]
set_option maxRecDepth 20000 in
theorem must_nil (w : World) : Calls Try.prog 51 #[.nilIface] w fun e w' => (∃ u pv, e = .panicked [{ v := .iface u pv, recovered := false }]) ∧ Fr (fun _ => False) w w' := by
  go_enter Try.func51, Try.ntmps51
  go_wp2_with fail
  exact ⟨rfl, ⟨_, _, rfl⟩, (Fr.refl (fun _ => False) w).alloc _⟩
set_option maxRecDepth 20000 in
theorem must_int (n : Int) (w : World) : Calls Try.prog 51 #[.iface 3 (.int .i64 n)] w fun e w' => (∃ u pv, e = .panicked [{ v := .iface u pv, recovered := false }]) ∧ Fr (fun _ => False) w w' := by
  go_enter Try.func51, Try.ntmps51
  go_wp2_with fail
  exact ⟨rfl, ⟨_, _, rfl⟩, (Fr.refl (fun _ => False) w).alloc _⟩
set_option maxRecDepth 20000 in
theorem must_bool (n : Bool) (w : World) : Calls Try.prog 51 #[.iface 4 (.bool n)] w fun e w' => (∃ u pv, e = .panicked [{ v := .iface u pv, recovered := false }]) ∧ Fr (fun _ => False) w w' := by
  go_enter Try.func51, Try.ntmps51
  go_wp2_with fail
  exact ⟨rfl, ⟨_, _, rfl⟩, (Fr.refl (fun _ => False) w).alloc _⟩
set_option maxRecDepth 20000 in
theorem must_list (a : Option Addr) (n c : Nat) (w : World) : Calls Try.prog 51 #[.iface 58 (.slice a n c)] w fun e w' => (∃ u pv, e = .panicked [{ v := .iface u pv, recovered := false }]) ∧ Fr (fun _ => False) w w' := by
  go_enter Try.func51, Try.ntmps51
  go_wp2_with fail
  exact ⟨rfl, ⟨_, _, rfl⟩, (Fr.refl (fun _ => False) w).alloc _⟩
def isText : AV → Bool
  | .text _ => true
  | _ => false
theorem must_no (a : AV) (D : Nat → Prop) (v : Value) (w : World) (hr : AR w D a v) (h : isText a = false) : Calls Try.prog 51 #[v] w fun e w' => (∃ u pv, e = .panicked [{ v := .iface u pv, recovered := false }]) ∧ Fr (fun _ => False) w w' := by
  cases hr with
  | non => exact must_nil w
  | int n => exact must_int n w
  | text s hs => cases h
  | yes b => exact must_bool b w
  | row l g cap vs _ _ _ _ _ _ => exact must_list _ _ _ w
set_option maxRecDepth 20000 in
theorem panics_yes (v : Value) (w : World) (hm : ∀ W, Calls Try.prog 51 #[v] W fun e w' => (∃ u pv, e = .panicked [{ v := .iface u pv, recovered := false }]) ∧ Fr (fun _ => False) W w') :
    Calls Try.prog 30 #[v] w fun e w' => e = .returned (.bool true) ∧ Fr (fun _ => False) w w' := by
  have hmf : ∀ (fn : Fn) (first cap : Array Value) (w : World), (Instr.makeFunc fn first cap).run Try.prog w = .ok (.func fn first cap) w := fun _ _ _ _ => rfl
  have HM := Lib.hid hm
  clear hm
  obtain ⟨g, hg⟩ : ∃ g, g = w.heap.size := ⟨_, rfl⟩
  obtain ⟨w1, hw1⟩ : ∃ w1, w1 = w.alloc (.cells #[.bool false] 4) := ⟨_, rfl⟩
  have HB := Lib.hid (show w1.heap[g]? = some (.cells #[.bool false] 4 (0, 0)) by rw [hw1, hg]; exact heap_alloc_new w _)
  have HF := Lib.hid (show Fr (fun _ => False) w w1 by rw [hw1]; exact (Fr.refl _ _).alloc _)
  have HG := Lib.hid hg
  have HW := Lib.hid hw1
  clear hg hw1
  go_enter_defers Try.func30, Try.ntmps30
  go_wp2_with fail
  rw [← HG.out, ← HW.out]
  refine (HM.out w1).mono ?_
  rintro e w2 ⟨⟨u, pv, rfl⟩, f2⟩
  have hb := f2.heap HB.out id
  have hc : w2.cell? ⟨g, 0, none⟩ = some (.bool false) := (cell_of_row w2 g 0 _ _ _ hb).trans rfl
  have hz : w2.frozen? ⟨g, 0, none⟩ = false := frozen_of_row w2 _ _ _ _ hb
  have hx : (w2.setCell ⟨g, 0, none⟩ (.bool true)).cell? ⟨g, 0, none⟩ = some (.bool true) := (cell_of_row _ g 0 _ _ _ (heap_setCell_same w2 g 0 _ _ _ hb)).trans rfl
  have HFF := Lib.hid (show Fr (fun _ => False) w (w2.setCell ⟨g, 0, none⟩ (.bool true)) from (HF.out.trans f2 (fun i hi => hi.elim)).setCell _ _ (.inr (by rw [HG.out]; exact Nat.le_refl _)))
  clear hb f2
  go_wp2_with fail
  refine leaves_cons (f := 60) (args := #[.pointer (some ⟨g, 0, none⟩)]) (by simp) (by simp [go_sem]) ?_
  refine (catch_panicking ⟨g, 0, none⟩ false u pv [] _ hc hz).mono ?_
  rintro e u' w'' ⟨rfl, rfl, rfl⟩
  simp [Leaves, settle, results, Try.results30, go_sem, hx]
  exact HFF.out
set_option maxRecDepth 20000 in
theorem panics_no (s : ByteArray) (w : World) : Calls Try.prog 30 #[.iface 9 (.string s)] w fun e w' => e = .returned (.bool false) ∧ Fr (fun _ => False) w w' := by
  have hmf : ∀ (fn : Fn) (first cap : Array Value) (w : World), (Instr.makeFunc fn first cap).run Try.prog w = .ok (.func fn first cap) w := fun _ _ _ _ => rfl
  have HF := Lib.hid (show Fr (fun _ => False) w ((w.alloc (.cells #[.bool false] 4)).setCell ⟨w.heap.size, 0, none⟩ (.bool false)) from ((Fr.refl _ _).alloc _).setCell _ _ (.inr (Nat.le_refl _)))
  go_enter_defers Try.func30, Try.ntmps30
  go_wp2_with fail
  refine (must_calls s _).mono ?_
  rintro e w2 ⟨rfl, rfl⟩
  go_wp2_with fail
  refine leaves_cons (f := 60) (args := #[.pointer (some ⟨w.heap.size, 0, none⟩)]) (by simp) (by simp [go_sem]) ?_
  refine (catch_idle ⟨w.heap.size, 0, none⟩ _).mono ?_
  rintro e u' w'' ⟨rfl, rfl, rfl⟩
  simp [Leaves, settle, results, Try.results30, go_sem]
  exact (Fr.refl _ _).alloc _
end Go.Proofs.Ythmpmpepokeedaa
