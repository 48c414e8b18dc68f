/- A disk that a call made itself. -/
import Derived.Test.YthlngbdbmnnnaaaKh
set_option linter.unusedVariables false
set_option linter.unusedSimpArgs false
namespace Go.Proofs.Ythlngbdbmnnnaaa
open Go.RowKit
/-- A disk whose blocks are all younger than w0; nothing of w0 has turned. -/
def On (w0 w : World) (g : Nat) (D : Dk) : Prop := ∃ F : Nat → Prop, DRep F w g D ∧ Fr (fun _ => False) w0 w ∧ ∀ i, F i → w0.heap.size ≤ i
theorem On.fr {w0 w : World} {g : Nat} {D : Dk} (h : On w0 w g D) : Fr (fun _ => False) w0 w := h.elim fun _ h => h.2.1
/-- Bounds that the methods ask. -/
structure Fine (D : Dk) : Prop where
  k0 : 0 ≤ D.keep
  k1 : D.keep ≤ 18446744073709551615
  wl : D.wait.length < 1000000
  ct : D.count ≤ 1000000
theorem on_left {w0 w w' : World} {g : Nat} {D' : Dk} {F : Nat → Prop} {v : Value} {e : Ending} (hf : Fr (fun _ => False) w0 w) (hB : ∀ i, F i → w0.heap.size ≤ i) (h : Left F w g D' v e w') : e = .returned v ∧ On w0 w' g D' := by
  obtain ⟨rfl, F', h1, h2, h3⟩ := h
  exact ⟨rfl, F', h3, hf.trans h2 (fun i hi => .inr (hB i hi)), fun i hi => (h1 i hi).elim (hB i) (fun hge => Nat.le_trans hf.size hge)⟩
theorem on_write {w0 w : World} {g : Nat} {D : Dk} (h : On w0 w g D) (hf : Fine D) (p : Int) (s : ByteArray) :
    Calls Try.prog 13 #[.pointer (some ⟨g, 0, none⟩), .int .i64 p, .string s] w fun e w' => e = .returned (.int .i64 (D.writeE p s.data.toList)) ∧ On w0 w' g (D.write p s.data.toList) := by
  obtain ⟨F, hR, hfr, hB⟩ := h
  exact (write_any hR p s hf.k0 hf.k1 hf.wl hf.ct).mono fun e w' hl => on_left hfr hB hl
theorem on_flush {w0 w : World} {g : Nat} {D : Dk} (h : On w0 w g D) (hf : Fine D) :
    Calls Try.prog 14 #[.pointer (some ⟨g, 0, none⟩)] w fun e w' => e = .returned (.int .i64 D.flushE) ∧ On w0 w' g D.flush := by
  obtain ⟨F, hR, hfr, hB⟩ := h
  exact (flush_any hR hf.k0 hf.k1 (Nat.le_of_lt hf.wl) hf.ct).mono fun e w' hl => on_left hfr hB hl
theorem on_crash {w0 w : World} {g : Nat} {D : Dk} (h : On w0 w g D) (hf : Fine D) (k t : Int) (hk0 : 0 ≤ k) (hk1 : k ≤ 18446744073709551615) :
    Calls Try.prog 17 #[.pointer (some ⟨g, 0, none⟩), .int .u64 k, .int .i64 t] w fun e w' => e = .returned (.tuple #[]) ∧ On w0 w' g (D.crash k t) := by
  obtain ⟨F, hR, hfr, hB⟩ := h
  exact (crash_any hR k t hk0 hk1 (Nat.le_of_lt hf.wl)).mono fun e w' hl => on_left hfr hB hl
theorem on_arm {w0 w : World} {g : Nat} {D : Dk} (h : On w0 w g D) (a k t : Int) :
    Calls Try.prog 22 #[.pointer (some ⟨g, 0, none⟩), .agg #[.int .i64 a, .int .u64 k, .int .i64 t]] w fun e w' => e = .returned (.tuple #[]) ∧ On w0 w' g (D.arm a k t) := by
  obtain ⟨F, hR, hfr, hB⟩ := h
  exact (arm_any hR a k t).mono fun e w' hl => on_left hfr hB hl
theorem on_start {w0 w : World} {g : Nat} {D : Dk} (h : On w0 w g D) :
    Calls Try.prog 25 #[.pointer (some ⟨g, 0, none⟩)] w fun e w' => e = .returned (.tuple #[]) ∧ On w0 w' g D.start := by
  obtain ⟨F, hR, hfr, hB⟩ := h
  exact (start_any hR).mono fun e w' hl => on_left hfr hB hl
theorem on_read {w0 w : World} {g : Nat} {D : Dk} (h : On w0 w g D) (hf : Fine D) (p : Int) :
    Calls Try.prog 16 #[.pointer (some ⟨g, 0, none⟩), .int .i64 p] w fun e w' => e = .returned (.tuple #[.string (str (D.read p)), .int .i64 (D.asked p)]) ∧ w = w' := by
  obtain ⟨F, hR, hfr, hB⟩ := h
  exact read_any hR p (Nat.le_of_lt hf.wl)
theorem on_down {w0 w : World} {g : Nat} {D : Dk} (h : On w0 w g D) :
    Calls Try.prog 26 #[.pointer (some ⟨g, 0, none⟩)] w fun e w' => e = .returned (.bool D.down) ∧ w = w' := h.elim fun _ h => down_any h.1
theorem on_size {w0 w : World} {g : Nat} {D : Dk} (h : On w0 w g D) :
    Calls Try.prog 27 #[.pointer (some ⟨g, 0, none⟩)] w fun e w' => e = .returned (.int .i64 (D.n : Int)) ∧ w = w' := h.elim fun _ h => size_any h.1
theorem on_image {w0 w : World} {g : Nat} {D : Dk} (h : On w0 w g D) :
    Calls Try.prog 15 #[.pointer (some ⟨g, 0, none⟩)] w fun e w' => e = .returned (.string (str D.lasts)) ∧ w = w' := h.elim fun _ h => image_any h.1
theorem on_new (n : Nat) (w : World) (h0 : 1 ≤ n) (h1 : n ≤ 4096) :
    Calls Try.prog 12 #[.int .i64 n] w fun e w' => ∃ g, e = .returned (.tuple #[.pointer (some ⟨g, 0, none⟩), .int .i64 0]) ∧ On w w' g (Dk.new n) := by
  refine (new_yes n w h0 h1).mono ?_
  rintro e w' ⟨rfl, hf, hR⟩
  exact ⟨_, rfl, _, hR, hf, fun i hi => by omega⟩
end Go.Proofs.Ythlngbdbmnnnaaa
