/- A disk beside blocks that it leaves alone. -/
import Derived.Test.YthlngbdbmnnnaaaKj
set_option linter.unusedVariables false
set_option linter.unusedSimpArgs false
namespace Go.Proofs.Ythlngbdbmnnnaaa
open Go.RowKit
/-- Of Pr's blocks nothing has turned. -/
structure Kp (Pr : Nat → Prop) (w w' : World) : Prop where
  os : w'.os = w.os
  tape : w'.tape = w.tape
  output : w'.output = w.output
  size : w.heap.size ≤ w'.heap.size
  block : ∀ k, Pr k → w'.heap[k]? = w.heap[k]?
theorem Kp.refl (Pr : Nat → Prop) (w : World) : Kp Pr w w := ⟨rfl, rfl, rfl, Nat.le_refl _, fun _ _ => rfl⟩
theorem Kp.trans {Pr : Nat → Prop} {a b c : World} (h : Kp Pr a b) (k : Kp Pr b c) : Kp Pr a c := ⟨k.os.trans h.os, k.tape.trans h.tape, k.output.trans h.output, Nat.le_trans h.size k.size, fun i hi => (k.block i hi).trans (h.block i hi)⟩
theorem Kp.of_fr {Pr F : Nat → Prop} {a b : World} (h : Fr F a b) (h1 : ∀ i, Pr i → i < a.heap.size) (h2 : ∀ i, Pr i → ¬ F i) : Kp Pr a b := ⟨h.os, h.tape, h.output, h.size, fun i hi => h.block i (h1 i hi) (h2 i hi)⟩
theorem Kp.mono {Pr Pr' : Nat → Prop} {a b : World} (h : Kp Pr a b) (hp : ∀ i, Pr' i → Pr i) : Kp Pr' a b := ⟨h.os, h.tape, h.output, h.size, fun i hi => h.block i (hp i hi)⟩
theorem Kp.toFr {Pr : Nat → Prop} {a b : World} (h : Kp Pr a b) (hp : ∀ i, i < a.heap.size → Pr i) : Fr (fun _ => False) a b := ⟨h.os, h.tape, h.output, h.size, fun i hi _ => h.block i (hp i hi)⟩
/-- Below an elder world. -/
theorem Kp.old {Pr : Nat → Prop} {w a b : World} (h : Kp Pr a b) (hp : ∀ i, i < w.heap.size → Pr i) (hf : Fr (fun _ => False) w a) : Fr (fun _ => False) w b :=
  ⟨h.os.trans hf.os, h.tape.trans hf.tape, h.output.trans hf.output, Nat.le_trans hf.size h.size, fun i hi hn => (h.block i (hp i hi)).trans (hf.block i hi hn)⟩
theorem Kp.heap {Pr : Nat → Prop} {a b : World} (h : Kp Pr a b) {g : Nat} {o : Obj} (hg : a.heap[g]? = some o) (hp : Pr g) : b.heap[g]? = some o := (h.block g hp).trans hg
theorem Kp.cell {Pr : Nat → Prop} {a b : World} (h : Kp Pr a b) {p : Addr} {v : Value} (hc : a.cell? p = some v) (hp : Pr p.block) : b.cell? p = some v := (World.cell?_of_block (h.block p.block hp)).trans hc

def OnP (Pr : Nat → Prop) (w : World) (g : Nat) (D : Dk) : Prop := ∃ F : Nat → Prop, DRep F w g D ∧ (∀ i, Pr i → i < w.heap.size) ∧ (∀ i, F i → ¬ Pr i)
theorem onp_left {Pr : Nat → Prop} {w w' : World} {g : Nat} {D' : Dk} {F : Nat → Prop} {v : Value} {e : Ending} (h1 : ∀ i, Pr i → i < w.heap.size) (h2 : ∀ i, F i → ¬ Pr i) (h : Left F w g D' v e w') : e = .returned v ∧ OnP Pr w' g D' ∧ Kp Pr w w' := by
  obtain ⟨rfl, F', hF, hfr, hR⟩ := h
  refine ⟨rfl, ⟨F', hR, fun i hi => Nat.lt_of_lt_of_le (h1 i hi) hfr.size, fun i hi hp => ?_⟩, Kp.of_fr hfr h1 (fun i hp hf => h2 i hf hp)⟩
  rcases hF i hi with h | h
  · exact h2 i h hp
  · have := h1 i hp; omega
theorem onp_keep {Pr G : Nat → Prop} {w w' : World} {g : Nat} {D : Dk} (h : OnP Pr w g D) (hf : Fr G w w') (hG : ∀ i, G i → Pr i) : OnP Pr w' g D := by
  obtain ⟨F, hR, h1, h2⟩ := h
  exact ⟨F, hR.fr hf (fun i hi hg => h2 i hi (hG i hg)), fun i hi => Nat.lt_of_lt_of_le (h1 i hi) hf.size, h2⟩
theorem onp_more {Pr Pr' : Nat → Prop} {w : World} {g : Nat} {D : Dk} (h : OnP Pr w g D) (h1 : ∀ i, Pr' i → i < w.heap.size) (F' : ∀ F, DRep F w g D → (∀ i, F i → ¬ Pr i) → ∀ i, F i → ¬ Pr' i) : OnP Pr' w g D := by
  obtain ⟨F, hR, _, h2⟩ := h
  exact ⟨F, hR, h1, F' F hR h2⟩
/-- A new block is protected, too. -/
theorem onp_alloc {Pr : Nat → Prop} {w : World} {g : Nat} {D : Dk} (h : OnP Pr w g D) (o : Obj) : OnP (fun i => Pr i ∨ i = w.heap.size) (w.alloc o) g D := by
  obtain ⟨F, hR, h1, h2⟩ := h
  refine ⟨F, hR.fr ((Fr.refl (fun _ => False) _).alloc o) (fun _ _ => id), fun i hi => ?_, fun i hi hp => ?_⟩
  · rcases hi with hi | rfl
    · have := h1 i hi; simp; omega
    · simp
  · rcases hp with hp | rfl
    · exact h2 i hi hp
    · have := hR.low _ hi; omega
theorem onp_write {Pr : Nat → Prop} {w : World} {g : Nat} {D : Dk} (h : OnP Pr w g D) (hf : Fine D) (p : Int) (s : ByteArray) :
    Calls Try.prog 13 #[.pointer (some ⟨g, 0, none⟩), .int .i64 p, .string s] w fun e w' => e = .returned (.int .i64 (D.writeE p s.data.toList)) ∧ OnP Pr w' g (D.write p s.data.toList) ∧ Kp Pr w w' := by
  obtain ⟨F, hR, h1, h2⟩ := h
  exact (write_any hR p s hf.k0 hf.k1 hf.wl hf.ct).mono fun e w' hl => onp_left h1 h2 hl
theorem onp_flush {Pr : Nat → Prop} {w : World} {g : Nat} {D : Dk} (h : OnP Pr w g D) (hf : Fine D) :
    Calls Try.prog 14 #[.pointer (some ⟨g, 0, none⟩)] w fun e w' => e = .returned (.int .i64 D.flushE) ∧ OnP Pr w' g D.flush ∧ Kp Pr w w' := by
  obtain ⟨F, hR, h1, h2⟩ := h
  exact (flush_any hR hf.k0 hf.k1 (Nat.le_of_lt hf.wl) hf.ct).mono fun e w' hl => onp_left h1 h2 hl
theorem onp_crash {Pr : Nat → Prop} {w : World} {g : Nat} {D : Dk} (h : OnP Pr w g D) (hf : Fine D) (k t : Int) (hk0 : 0 ≤ k) (hk1 : k ≤ 18446744073709551615) :
    Calls Try.prog 17 #[.pointer (some ⟨g, 0, none⟩), .int .u64 k, .int .i64 t] w fun e w' => e = .returned (.tuple #[]) ∧ OnP Pr w' g (D.crash k t) ∧ Kp Pr w w' := by
  obtain ⟨F, hR, h1, h2⟩ := h
  exact (crash_any hR k t hk0 hk1 (Nat.le_of_lt hf.wl)).mono fun e w' hl => onp_left h1 h2 hl
theorem onp_arm {Pr : Nat → Prop} {w : World} {g : Nat} {D : Dk} (h : OnP Pr w g D) (a k t : Int) :
    Calls Try.prog 22 #[.pointer (some ⟨g, 0, none⟩), .agg #[.int .i64 a, .int .u64 k, .int .i64 t]] w fun e w' => e = .returned (.tuple #[]) ∧ OnP Pr w' g (D.arm a k t) ∧ Kp Pr w w' := by
  obtain ⟨F, hR, h1, h2⟩ := h
  exact (arm_any hR a k t).mono fun e w' hl => onp_left h1 h2 hl
theorem onp_start {Pr : Nat → Prop} {w : World} {g : Nat} {D : Dk} (h : OnP Pr w g D) :
    Calls Try.prog 25 #[.pointer (some ⟨g, 0, none⟩)] w fun e w' => e = .returned (.tuple #[]) ∧ OnP Pr w' g D.start ∧ Kp Pr w w' := by
  obtain ⟨F, hR, h1, h2⟩ := h
  exact (start_any hR).mono fun e w' hl => onp_left h1 h2 hl
theorem onp_read {Pr : Nat → Prop} {w : World} {g : Nat} {D : Dk} (h : OnP Pr w g D) (hf : Fine D) (p : Int) :
    Calls Try.prog 16 #[.pointer (some ⟨g, 0, none⟩), .int .i64 p] w fun e w' => e = .returned (.tuple #[.string (str (D.read p)), .int .i64 (D.asked p)]) ∧ w = w' :=
  h.elim fun F h => read_any h.1 p (Nat.le_of_lt hf.wl)
theorem onp_down {Pr : Nat → Prop} {w : World} {g : Nat} {D : Dk} (h : OnP Pr w g D) :
    Calls Try.prog 26 #[.pointer (some ⟨g, 0, none⟩)] w fun e w' => e = .returned (.bool D.down) ∧ w = w' := h.elim fun _ h => down_any h.1
theorem onp_size {Pr : Nat → Prop} {w : World} {g : Nat} {D : Dk} (h : OnP Pr w g D) :
    Calls Try.prog 27 #[.pointer (some ⟨g, 0, none⟩)] w fun e w' => e = .returned (.int .i64 (D.n : Int)) ∧ w = w' := h.elim fun _ h => size_any h.1
theorem onp_image {Pr : Nat → Prop} {w : World} {g : Nat} {D : Dk} (h : OnP Pr w g D) :
    Calls Try.prog 15 #[.pointer (some ⟨g, 0, none⟩)] w fun e w' => e = .returned (.string (str D.lasts)) ∧ w = w' := h.elim fun _ h => image_any h.1
theorem onp_new (n : Nat) (w : World) (h0 : 1 ≤ n) (h1 : n ≤ 4096) :
    Calls Try.prog 12 #[.int .i64 n] w fun e w' => ∃ g, e = .returned (.tuple #[.pointer (some ⟨g, 0, none⟩), .int .i64 0]) ∧ OnP (fun i => i < w.heap.size) w' g (Dk.new n) ∧ Fr (fun _ => False) w w' := by
  refine (new_yes n w h0 h1).mono ?_
  rintro e w' ⟨rfl, hf, hR⟩
  exact ⟨_, rfl, ⟨_, hR, fun i hi => Nat.lt_of_lt_of_le hi hf.size, fun i hi hp => by omega⟩, hf⟩
end Go.Proofs.Ythlngbdbmnnnaaa
