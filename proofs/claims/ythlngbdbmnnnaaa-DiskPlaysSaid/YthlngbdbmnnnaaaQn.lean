/- Disks: the disk beside what the document holds of one (no printed text). -/
import Derived.Test.YthlngbdbmnnnaaaQm
set_option linter.unusedVariables false
set_option linter.unusedSimpArgs false
namespace Go.Proofs.Ythlngbdbmnnnaaa
open Go.RowKit
/-- The blocks of what the document holds. -/
def Ow (u v : Value) (b : Nat) : Prop := u.ownBlock = some b ∨ v.ownBlock = some b
theorem RdV.kp {α : Type} {w w' : World} {k : Nat} {f : α → List Value} {v : Value} {l : List α} (h : RdV w k f v l) (hk : ∀ b, v.ownBlock = some b → w'.heap[b]? = w.heap[b]?) : RdV w' k f v l := by
  obtain ⟨A, c, rfl, hs, h1, h2⟩ := h
  refine ⟨A, c, rfl, fun i x hx => ?_, h1, h2⟩
  obtain ⟨b, off, rfl, hr⟩ := hs i x hx
  exact ⟨b, off, rfl, fun j u hj => (World.cell?_of_block (hk b rfl)).trans (hr j u hj)⟩
theorem RD.kp {w w' : World} {E : Dk} {u v : Value} (h : RD w E u v) (hk : ∀ b, Ow u v b → w'.heap[b]? = w.heap[b]?) : RD w' E u v := ⟨h.u.kp (fun b hb => hk b (.inl hb)), h.v.kp (fun b hb => hk b (.inr hb))⟩
/-- The disk D at g; what the document holds of E, by u and v; Z: variables' blocks. -/
structure Duo (Z : Nat → Prop) (w0 w : World) (g : Nat) (D E : Dk) (u v : Value) : Prop where
  rd : RD w E u v
  lt : ∀ i, Ow u v i → i < w.heap.size
  nz : ∀ i, Z i → ¬ Ow u v i
  zl : ∀ i, Z i → i < w.heap.size
  ge : ∀ i, Z i → w0.heap.size ≤ i
  on : OnP (fun i => Ow u v i ∨ i < w0.heap.size ∨ Z i) w g D
  fr : Fr (fun _ => False) w0 w
def Zk (Z : Nat → Prop) (w w' : World) : Prop := ∀ i o, Z i → w.heap[i]? = some o → w'.heap[i]? = some o
/-- A method of the disk has run. -/
theorem Duo.kp {Z : Nat → Prop} {w0 w w' : World} {g : Nat} {D D' E : Dk} {u v : Value} (h : Duo Z w0 w g D E u v) (ho : OnP (fun i => Ow u v i ∨ i < w0.heap.size ∨ Z i) w' g D') (hk : Kp (fun i => Ow u v i ∨ i < w0.heap.size ∨ Z i) w w') : Duo Z w0 w' g D' E u v ∧ Zk Z w w' :=
  ⟨⟨h.rd.kp (fun b hb => hk.block b (.inl hb)), fun i hi => Nat.lt_of_lt_of_le (h.lt i hi) hk.size, h.nz, fun i hi => Nat.lt_of_lt_of_le (h.zl i hi) hk.size, h.ge, ho, hk.old (fun i hi => .inr (.inl hi)) h.fr⟩, fun i o hi ho => hk.heap ho (.inr (.inr hi))⟩
/-- A variable's block has turned. -/
theorem Duo.move {Z G : Nat → Prop} {w0 w w' : World} {g : Nat} {D E : Dk} {u v : Value} (h : Duo Z w0 w g D E u v) (hf : Fr G w w') (hG : ∀ i, G i → Z i) : Duo Z w0 w' g D E u v :=
  ⟨h.rd.kp (fun k hk' => hf.block k (h.lt k hk') (fun hg => h.nz k (hG k hg) hk')), fun i hi => Nat.lt_of_lt_of_le (h.lt i hi) hf.size, h.nz, fun i hi => Nat.lt_of_lt_of_le (h.zl i hi) hf.size, h.ge,
    onp_keep h.on hf (fun i hi => .inr (.inr (hG i hi))), h.fr.trans hf (fun i hi => .inr (h.ge i (hG i hi)))⟩
/-- A variable is made. -/
theorem Duo.alloc {Z : Nat → Prop} {w0 w : World} {g : Nat} {D E : Dk} {u v : Value} (h : Duo Z w0 w g D E u v) (o : Obj) : Duo (fun i => Z i ∨ i = w.heap.size) w0 (w.alloc o) g D E u v := by
  have hf : Fr (fun _ => False) w (w.alloc o) := (Fr.refl _ _).alloc o
  have hs : (w.alloc o).heap.size = w.heap.size + 1 := World.size_alloc _ _
  obtain ⟨F, hR, h1, h2⟩ := h.on
  refine ⟨h.rd.kp (fun k hk' => hf.block k (h.lt k hk') id), fun i hi => Nat.lt_of_lt_of_le (h.lt i hi) hf.size, fun i hi hp => ?_, fun i hi => ?_, fun i hi => ?_, ⟨F, hR.fr hf (fun _ _ => id), fun i hi => ?_, fun i hi hp => ?_⟩, h.fr.alloc o⟩
  · rcases hi with hi | rfl
    · exact h.nz i hi hp
    · have := h.lt _ hp; omega
  · rcases hi with hi | rfl
    · have := h.zl i hi; omega
    · omega
  · rcases hi with hi | rfl
    · exact h.ge i hi
    · exact h.fr.size
  · rcases hi with hi | hi | hi | rfl
    · have := h1 i (.inl hi); omega
    · have := h1 i (.inr (.inl hi)); omega
    · have := h1 i (.inr (.inr hi)); omega
    · omega
  · rcases hp with hp | hp | hp | rfl
    · exact h2 i hi (.inl hp)
    · exact h2 i hi (.inr (.inl hp))
    · exact h2 i hi (.inr (.inr hp))
    · have := hR.low _ hi; omega
/-- A variable is forgotten. -/
theorem Duo.less {Z Z' : Nat → Prop} {w0 w : World} {g : Nat} {D E : Dk} {u v : Value} (h : Duo Z w0 w g D E u v) (hz : ∀ i, Z' i → Z i) : Duo Z' w0 w g D E u v := by
  obtain ⟨F, hR, h1, h2⟩ := h.on
  have hp : ∀ i, (Ow u v i ∨ i < w0.heap.size ∨ Z' i) → (Ow u v i ∨ i < w0.heap.size ∨ Z i) := fun i hi => by
    rcases hi with hi | hi | hi
    · exact .inl hi
    · exact .inr (.inl hi)
    · exact .inr (.inr (hz i hi))
  exact ⟨h.rd, h.lt, fun i hi => h.nz i (hz i hi), fun i hi => h.zl i (hz i hi), fun i hi => h.ge i (hz i hi), ⟨F, hR, fun i hi => h1 i (hp i hi), fun i hi hq => h2 i hi (hp i hq)⟩, h.fr⟩
/-- A function of the document has run. -/
theorem Duo.ref {Z : Nat → Prop} {w0 w w' : World} {g : Nat} {D E E' : Dk} {u v u' v' : Value} (h : Duo Z w0 w g D E u v) (hr : RD w' E' u' v') (hf : Fr (fun _ => False) w w') (hy : Yg w w' u v u' v') : Duo Z w0 w' g D E' u' v' ∧ Zk Z w w' := by
  refine ⟨⟨hr, fun i hi => ?_, fun i hz hm => ?_, fun i hi => Nat.lt_of_lt_of_le (h.zl i hi) hf.size, h.ge, ?_, h.fr.trans hf (fun i hi => hi.elim)⟩, fun i o hz ho => hf.heap ho id⟩
  · rcases hy i hi with h1 | h1
    · exact Nat.lt_of_lt_of_le (h.lt i h1) hf.size
    · exact h1.2
  · rcases hy i hm with h1 | h1
    · exact h.nz i hz h1
    · have := h.zl i hz; omega
  · obtain ⟨F, hR, h1, h2⟩ := h.on
    refine ⟨F, hR.fr hf (fun _ _ => id), fun i hi => ?_, fun i hi hp => ?_⟩
    · rcases hi with hi | hi | hi
      · rcases hy i hi with h3 | h3
        · exact Nat.lt_of_lt_of_le (h.lt i h3) hf.size
        · exact h3.2
      · exact Nat.lt_of_lt_of_le hi (h.fr.trans hf (fun i hi => hi.elim)).size
      · exact Nat.lt_of_lt_of_le (h.zl i hi) hf.size
    · rcases hp with hp | hp | hp
      · rcases hy i hp with h3 | h3
        · exact h2 i hi (.inl h3)
        · have := hR.low _ hi; omega
      · exact h2 i hi (.inr (.inl hp))
      · exact h2 i hi (.inr (.inr hp))
/-- At the beginning. -/
theorem duo_new {w2 w3 w4 : World} {g : Nat} {D : Dk} {u v : Value} (ho : OnP (fun i => i < w2.heap.size) w3 g D) (h23 : Fr (fun _ => False) w2 w3)
    (hr : RD w4 D u v) (hf : Fr (fun _ => False) w3 w4) (hy : ∀ b, Ow u v b → w3.heap.size ≤ b ∧ b < w4.heap.size) :
    Duo (fun _ => False) w2 w4 g D D u v := by
  obtain ⟨F, hR, h1, h2⟩ := ho
  refine ⟨hr, fun i hi => (hy i hi).2, fun i hi => hi.elim, fun i hi => hi.elim, fun i hi => hi.elim, ⟨F, hR.fr hf (fun _ _ => id), fun i hi => ?_, fun i hi hp => ?_⟩, h23.trans hf (fun i hi => hi.elim)⟩
  · rcases hi with hi | hi | hi
    · exact (hy i hi).2
    · exact Nat.lt_of_lt_of_le (Nat.lt_of_lt_of_le hi h23.size) hf.size
    · exact hi.elim
  · rcases hp with hp | hp | hp
    · have := hR.low _ hi; have := (hy i hp).1; omega
    · exact h2 i hi hp
    · exact hp
section
variable {Z : Nat → Prop} {w0 w : World} {g n m : Nat} {D E : Dk} {u v : Value}
theorem duo_write (h : Duo Z w0 w g D E u v) (hf : Fine D) (p : Int) (s : ByteArray) :
    Calls Try.prog 13 #[.pointer (some ⟨g, 0, none⟩), .int .i64 p, .string s] w fun e w' => e = .returned (.int .i64 (D.writeE p s.data.toList)) ∧ Duo Z w0 w' g (D.write p s.data.toList) E u v ∧ Zk Z w w' :=
  (onp_write h.on hf p s).mono fun e w' ⟨he, ho, hk⟩ => ⟨he, h.kp ho hk⟩
theorem duo_flush (h : Duo Z w0 w g D E u v) (hf : Fine D) :
    Calls Try.prog 14 #[.pointer (some ⟨g, 0, none⟩)] w fun e w' => e = .returned (.int .i64 D.flushE) ∧ Duo Z w0 w' g D.flush E u v ∧ Zk Z w w' :=
  (onp_flush h.on hf).mono fun e w' ⟨he, ho, hk⟩ => ⟨he, h.kp ho hk⟩
theorem duo_crash (h : Duo Z w0 w g D E u v) (hf : Fine D) (k t : Int) (hk0 : 0 ≤ k) (hk1 : k ≤ 18446744073709551615) :
    Calls Try.prog 17 #[.pointer (some ⟨g, 0, none⟩), .int .u64 k, .int .i64 t] w fun e w' => e = .returned (.tuple #[]) ∧ Duo Z w0 w' g (D.crash k t) E u v ∧ Zk Z w w' :=
  (onp_crash h.on hf k t hk0 hk1).mono fun e w' ⟨he, ho, hk⟩ => ⟨he, h.kp ho hk⟩
theorem duo_arm (h : Duo Z w0 w g D E u v) (a k t : Int) :
    Calls Try.prog 22 #[.pointer (some ⟨g, 0, none⟩), .agg #[.int .i64 a, .int .u64 k, .int .i64 t]] w fun e w' => e = .returned (.tuple #[]) ∧ Duo Z w0 w' g (D.arm a k t) E u v ∧ Zk Z w w' :=
  (onp_arm h.on a k t).mono fun e w' ⟨he, ho, hk⟩ => ⟨he, h.kp ho hk⟩
theorem duo_start (h : Duo Z w0 w g D E u v) :
    Calls Try.prog 25 #[.pointer (some ⟨g, 0, none⟩)] w fun e w' => e = .returned (.tuple #[]) ∧ Duo Z w0 w' g D.start E u v ∧ Zk Z w w' :=
  (onp_start h.on).mono fun e w' ⟨he, ho, hk⟩ => ⟨he, h.kp ho hk⟩
theorem duo_sl (h : Duo Z w0 w g D E u v) : ∃ A a c A' a' c', u = .slice A a c ∧ v = .slice A' a' c' := h.rd.sl
theorem duo_zk {w' : World} (h : Duo Z w0 w g D E u v) (hf : Fr (fun _ => False) w w') : Duo Z w0 w' g D E u v ∧ Zk Z w w' := ⟨h.move hf (fun _ hi => hi.elim), fun i o _ ho => hf.heap ho id⟩
theorem Duo.recast {E' : Dk} (h : Duo Z w0 w g D E u v) (h1 : E'.n = E.n) (h2 : E'.lasts = E.lasts) (h3 : E'.wait = E.wait) : Duo Z w0 w g D E' u v := ⟨⟨by rw [h1, h2]; exact h.rd.u, by rw [h3]; exact h.rd.v⟩, h.lt, h.nz, h.zl, h.ge, h.on, h.fr⟩
theorem duo_put (h : Duo Z w0 w g D E u v) (hW : Wd n m E) (hm : m < 99999) (hn : n ≤ 100000) (p : Int) (s : ByteArray) :
    Calls Try.prog 19 #[.agg (refRow E u v), .int .i64 p, .string s] w fun e w' => ∃ u' v', e = .returned (.tuple #[.agg (refRow (E.write p s.data.toList) u' v'), .int .i64 (E.writeE p s.data.toList)]) ∧ Duo Z w0 w' g D (E.write p s.data.toList) u' v' ∧ Zk Z w w' := by
  have hs : str s.data.toList = s := by apply ByteArray.ext; simp [str]
  have hc := refput_calls E hW hm hn p s.data.toList u v w h.rd
  rw [hs] at hc
  refine hc.mono ?_
  rintro e w' ⟨u', v', rfl, hr, hf, hy⟩
  exact ⟨u', v', rfl, h.ref hr hf hy⟩
theorem duo_rflush (h : Duo Z w0 w g D E u v) (hW : Wd n m E) (hm : m < 99999) (hn : n ≤ 100000) :
    Calls Try.prog 21 #[.agg (refRow E u v)] w fun e w' => ∃ u' v', e = .returned (.tuple #[.agg (refRow E.flush u' v'), .int .i64 E.flushE]) ∧ Duo Z w0 w' g D E.flush u' v' ∧ Zk Z w w' := by
  refine (refflush_calls E hW hm hn u v w h.rd).mono ?_
  rintro e w' ⟨u', v', rfl, hr, hf, hy⟩
  exact ⟨u', v', rfl, h.ref hr hf hy⟩
theorem duo_rcrash (h : Duo Z w0 w g D E u v) (hW : Wd n m E) (hm : m < 99999) (hn : n ≤ 100000) (k t : Int) (hk0 : 0 ≤ k) (hk1 : k ≤ 18446744073709551615) :
    Calls Try.prog 24 #[.agg (refRow E u v), .int .u64 k, .int .i64 t] w fun e w' => ∃ u' v', e = .returned (.agg (refRow (E.crash k t) u' v')) ∧ Duo Z w0 w' g D (E.crash k t) u' v' ∧ Zk Z w w' := by
  refine (refcrash_calls E hW (by omega) hn k t hk0 hk1 u v w h.rd).mono ?_
  rintro e w' ⟨u', v', rfl, hr, hf, hy⟩
  exact ⟨u', v', rfl, h.ref hr hf hy⟩
theorem duo_rarm (h : Duo Z w0 w g D E u v) (a k t : Int) :
    Calls Try.prog 23 #[.agg (refRow E u v), .agg #[.int .i64 a, .int .u64 k, .int .i64 t]] w fun e w' => e = .returned (.agg (refRow (E.arm a k t) u v)) ∧ Duo Z w0 w' g D (E.arm a k t) u v ∧ Zk Z w w' := by
  obtain ⟨Au, nu, cu, Av, nv, cv, hu, hv⟩ := duo_sl h
  by_cases ha : a < 1
  · have e0 : E.arm a k t = { E with cutAt := 0, keep := 0, torn := 0, count := 0 } := if_pos ha
    rw [e0]
    subst hu; subst hv
    refine (armref_yes Au Av _ cu _ cv E.cutAt E.keep E.torn E.count a k t E.down w ha).mono ?_
    rintro e w' ⟨rfl, hf⟩
    have := duo_zk h hf
    exact ⟨rfl, this.1.recast rfl rfl rfl, this.2⟩
  · have e0 : E.arm a k t = { E with cutAt := a, keep := k, torn := t, count := 0 } := if_neg ha
    rw [e0]
    subst hu; subst hv
    refine (armref_no Au Av _ cu _ cv E.cutAt E.keep E.torn E.count a k t E.down w ha).mono ?_
    rintro e w' ⟨rfl, hf⟩
    have := duo_zk h hf
    exact ⟨rfl, this.1.recast rfl rfl rfl, this.2⟩
theorem duo_rread (h : Duo Z w0 w g D E u v) (hW : Wd n m E) (hm : m < 99999) (hn : n ≤ 100000) (p : Int) :
    Calls Try.prog 20 #[.agg (refRow E u v), .int .i64 p] w fun e w' => e = .returned (.tuple #[.string (str (E.read p)), .int .i64 (E.asked p)]) ∧ Duo Z w0 w' g D E u v ∧ Zk Z w w' := by
  refine (refread_calls E hW hm hn p u v w h.rd).mono ?_
  rintro e w' ⟨rfl, hf⟩
  exact ⟨rfl, duo_zk h hf⟩
theorem duo_rimage (h : Duo Z w0 w g D E u v) (hW : Wd n m E) (hn : n ≤ 100000) :
    Calls Try.prog 28 #[.agg (refRow E u v)] w fun e w' => e = .returned (.string (str E.lasts)) ∧ Duo Z w0 w' g D E u v ∧ Zk Z w w' := by
  refine (refimage_calls E hW hn u v w h.rd).mono ?_
  rintro e w' ⟨rfl, hf⟩
  exact ⟨rfl, duo_zk h hf⟩
end
end Go.Proofs.Ythlngbdbmnnnaaa
