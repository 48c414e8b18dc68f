/- DiskPlays: the disk beside what the reference holds. -/
import Derived.Test.YthlngbdbmnnnaaaKr
import Derived.Test.YthlngbdbmnnnaaaKs
set_option linter.unusedVariables false
set_option linter.unusedSimpArgs false
namespace Go.Proofs.Ythlngbdbmnnnaaa
open Go.RowKit Go.ChangeShapes Go.WideShapes Go.Proofs.YthlngbdbmnnnaaaW.PrintWords Go.Proofs.YthlngbdbmnnnaaaW.PrintLast Go.Proofs.YthlngbdbmnnnaaaW.PrintMore PDiskPlays
def actCells (x : S33) : List Value := [.int .i64 x.f0, .int .i64 x.f1, .string x.f2, .int .i64 x.f3.f0, .int .u64 x.f3.f1, .int .i64 x.f3.f2]
theorem acts_read {w : World} {A : Option Addr} {l : List S33} (h : SlR w A 6 actCells l) (hl : l.length ≤ 9223372036854775807) : Kd.C k33 w A l.length l := by
  refine ⟨rfl, hl, fun hn => ?_⟩
  obtain ⟨b, off, hA, _⟩ := h 0 _ (List.getElem?_eq_getElem hn)
  refine ⟨_, hA, fun j p hp => ⟨actCells p, rfl, k33_mk w p, fun i u hu => ?_⟩⟩
  obtain ⟨b', off', hA', hr⟩ := h j p hp
  rw [hA] at hA'
  injection hA' with hA'
  injection hA' with h1 h2
  subst h1; subst h2
  have := hr i u hu
  rw [Nat.add_assoc] at this
  unfold Addr.add
  split
  · rename_i h0
    have h0' : j * 6 + i = 0 := h0
    rw [h0'] at this; exact this
  · exact this
theorem drawn_fr {w w' : World} (h : Drawn0 w w') : Fr (fun _ => False) w w' := by
  obtain ⟨n, rfl⟩ := h.out
  exact (Fr.refl _ _).drewN n
theorem Fr.of_kept {w w' : World} {S : Nat → Prop} (h : Kept w w' S) (ho : w'.os = w.os) (ht : w'.tape = w.tape) (hu : w'.output = w.output) : Fr S w w' := ⟨ho, ht, hu, h.1, h.2⟩
/-- Seven cells of a block are written. -/
def put7 (w : World) (M : Nat) (v0 v1 v2 v3 v4 v5 v6 : Value) : World := ((((((w.setCell ⟨M, 0, none⟩ v0).setCell ⟨M, 1, none⟩ v1).setCell ⟨M, 2, none⟩ v2).setCell ⟨M, 3, none⟩ v3).setCell ⟨M, 4, none⟩ v4).setCell ⟨M, 5, none⟩ v5).setCell ⟨M, 6, none⟩ v6
theorem put7_fr (w : World) (M : Nat) (v0 v1 v2 v3 v4 v5 v6 : Value) : Fr (fun i => i = M) w (put7 w M v0 v1 v2 v3 v4 v5 v6) := by
  unfold put7
  repeat first | with_reducible exact Fr.refl _ _ | refine Fr.setCell ?_ _ _ (.inl rfl)
theorem put7_heap {w : World} {M : Nat} {a0 a1 a2 a3 a4 a5 a6 : Value} {t : TypeId} (h : w.heap[M]? = some (.cells #[a0, a1, a2, a3, a4, a5, a6] t (0, 0))) (v0 v1 v2 v3 v4 v5 v6 : Value) : (put7 w M v0 v1 v2 v3 v4 v5 v6).heap[M]? = some (.cells #[v0, v1, v2, v3, v4, v5, v6] t (0, 0)) := by
  obtain ⟨w1, hw1⟩ : ∃ x, x = w.setCell ⟨M, 0, none⟩ v0 := ⟨_, rfl⟩
  have h1 : w1.heap[M]? = some (.cells #[v0, a1, a2, a3, a4, a5, a6] t (0, 0)) := by rw [hw1]; exact heap_setCell_same w M 0 _ t v0 h
  obtain ⟨w2, hw2⟩ : ∃ x, x = w1.setCell ⟨M, 1, none⟩ v1 := ⟨_, rfl⟩
  have h2 : w2.heap[M]? = some (.cells #[v0, v1, a2, a3, a4, a5, a6] t (0, 0)) := by rw [hw2]; exact heap_setCell_same w1 M 1 _ t v1 h1
  obtain ⟨w3, hw3⟩ : ∃ x, x = w2.setCell ⟨M, 2, none⟩ v2 := ⟨_, rfl⟩
  have h3 : w3.heap[M]? = some (.cells #[v0, v1, v2, a3, a4, a5, a6] t (0, 0)) := by rw [hw3]; exact heap_setCell_same w2 M 2 _ t v2 h2
  obtain ⟨w4, hw4⟩ : ∃ x, x = w3.setCell ⟨M, 3, none⟩ v3 := ⟨_, rfl⟩
  have h4 : w4.heap[M]? = some (.cells #[v0, v1, v2, v3, a4, a5, a6] t (0, 0)) := by rw [hw4]; exact heap_setCell_same w3 M 3 _ t v3 h3
  obtain ⟨w5, hw5⟩ : ∃ x, x = w4.setCell ⟨M, 4, none⟩ v4 := ⟨_, rfl⟩
  have h5 : w5.heap[M]? = some (.cells #[v0, v1, v2, v3, v4, a5, a6] t (0, 0)) := by rw [hw5]; exact heap_setCell_same w4 M 4 _ t v4 h4
  obtain ⟨w6, hw6⟩ : ∃ x, x = w5.setCell ⟨M, 5, none⟩ v5 := ⟨_, rfl⟩
  have h6 : w6.heap[M]? = some (.cells #[v0, v1, v2, v3, v4, v5, a6] t (0, 0)) := by rw [hw6]; exact heap_setCell_same w5 M 5 _ t v5 h5
  obtain ⟨w7, hw7⟩ : ∃ x, x = w6.setCell ⟨M, 6, none⟩ v6 := ⟨_, rfl⟩
  have h7 : w7.heap[M]? = some (.cells #[v0, v1, v2, v3, v4, v5, v6] t (0, 0)) := by rw [hw7]; exact heap_setCell_same w6 M 6 _ t v6 h6
  unfold put7
  rw [← hw1, ← hw2, ← hw3, ← hw4, ← hw5, ← hw6, ← hw7]
  exact h7
def mRow (E : Dk) (u v : Value) : Array Value := #[u, v, .int .i64 E.cutAt, .int .u64 E.keep, .int .i64 E.torn, .int .i64 E.count, .bool E.down]
/-- The disk D at g; what the reference holds of E, in P's blocks, by u and v; Z: variables' blocks. -/
structure Duo (P Z : Nat → Prop) (w0 w : World) (g : Nat) (D E : Dk) (u v : Value) : Prop where
  ru : Kd.R Kd.string 9 w w0.heap.size P u (secs E.n E.lasts)
  rv : Kd.R k94 94 w w0.heap.size P v (E.wait.map toS)
  lt : ∀ i, P i → i < w.heap.size
  nz : ∀ i, Z i → ¬ P i
  zl : ∀ i, Z i → i < w.heap.size
  ge : ∀ i, Z i → w0.heap.size ≤ i
  on : OnP (fun i => P i ∨ i < w0.heap.size ∨ Z i) w g D
  fr : Fr (fun _ => False) w0 w
def Zk (Z : Nat → Prop) (w w' : World) : Prop := ∀ i o, Z i → w.heap[i]? = some o → w'.heap[i]? = some o
theorem Duo.below {P Z : Nat → Prop} {w0 w : World} {g : Nat} {D E : Dk} {u v : Value} (h : Duo P Z w0 w g D E u v) : Below w0.heap.size w0 w := h.fr.below (Nat.le_refl _) (fun _ _ => id)
/-- A method of the disk has run. -/
theorem Duo.kp {P Z : Nat → Prop} {w0 w w' : World} {g : Nat} {D D' E : Dk} {u v : Value} (h : Duo P Z w0 w g D E u v) (ho : OnP (fun i => P i ∨ i < w0.heap.size ∨ Z i) w' g D') (hk : Kp (fun i => P i ∨ i < w0.heap.size ∨ Z i) w w') : Duo P Z w0 w' g D' E u v ∧ Zk Z w w' :=
  ⟨⟨Kd.R_step h.ru (fun k hk' _ => hk.block k (.inl hk')), Kd.R_step h.rv (fun k hk' _ => hk.block k (.inl hk')), fun i hi => Nat.lt_of_lt_of_le (h.lt i hi) hk.size, h.nz, fun i hi => Nat.lt_of_lt_of_le (h.zl i hi) hk.size, h.ge, ho, hk.old (fun i hi => .inr (.inl hi)) h.fr⟩, fun i o hi ho => hk.heap ho (.inr (.inr hi))⟩
/-- A variable's block has turned. -/
theorem Duo.move {P Z G : Nat → Prop} {w0 w w' : World} {g : Nat} {D E : Dk} {u v : Value} (h : Duo P Z w0 w g D E u v) (hf : Fr G w w') (hG : ∀ i, G i → Z i) : Duo P Z w0 w' g D E u v :=
  ⟨Kd.R_step h.ru (fun k hk' hl => hf.block k hl (fun hg => h.nz k (hG k hg) hk')), Kd.R_step h.rv (fun k hk' hl => hf.block k hl (fun hg => h.nz k (hG k hg) hk')), fun i hi => Nat.lt_of_lt_of_le (h.lt i hi) hf.size, h.nz, fun i hi => Nat.lt_of_lt_of_le (h.zl i hi) hf.size, h.ge,
    onp_keep h.on hf (fun i hi => .inr (.inr (hG i hi))), h.fr.trans hf (fun i hi => .inr (h.ge i (hG i hi)))⟩
/-- A variable is made. -/
theorem Duo.alloc {P Z : Nat → Prop} {w0 w : World} {g : Nat} {D E : Dk} {u v : Value} (h : Duo P Z w0 w g D E u v) (o : Obj) : Duo P (fun i => Z i ∨ i = w.heap.size) w0 (w.alloc o) g D E u v := by
  have hf : Fr (fun _ => False) w (w.alloc o) := (Fr.refl _ _).alloc o
  have hs : (w.alloc o).heap.size = w.heap.size + 1 := World.size_alloc _ _
  obtain ⟨F, hR, h1, h2⟩ := h.on
  refine ⟨Kd.R_step h.ru (fun k _ hl => hf.block k hl id), Kd.R_step h.rv (fun k _ hl => hf.block k hl id), fun i hi => Nat.lt_of_lt_of_le (h.lt i hi) hf.size, fun i hi hp => ?_, fun i hi => ?_, fun i hi => ?_, ⟨F, hR.fr hf (fun _ _ => id), fun i hi => ?_, fun i hi hp => ?_⟩, h.fr.alloc o⟩
  · rcases hi with hi | rfl
    · exact h.nz i hi hp
    · have := h.lt _ hp; omega
  · rcases hi with hi | rfl
    · have := h.zl i hi; omega
    · omega
  · rcases hi with hi | rfl
    · exact h.ge i hi
    · exact h.fr.size
  · rcases hi with hi | hi | hi | rfl
    · have := h1 i (.inl hi); omega
    · have := h1 i (.inr (.inl hi)); omega
    · have := h1 i (.inr (.inr hi)); omega
    · omega
  · rcases hp with hp | hp | hp | rfl
    · exact h2 i hi (.inl hp)
    · exact h2 i hi (.inr (.inl hp))
    · exact h2 i hi (.inr (.inr hp))
    · have := hR.low _ hi; omega
/-- A variable is forgotten. -/
theorem Duo.less {P Z Z' : Nat → Prop} {w0 w : World} {g : Nat} {D E : Dk} {u v : Value} (h : Duo P Z w0 w g D E u v) (hz : ∀ i, Z' i → Z i) : Duo P Z' w0 w g D E u v := by
  obtain ⟨F, hR, h1, h2⟩ := h.on
  have hp : ∀ i, (P i ∨ i < w0.heap.size ∨ Z' i) → (P i ∨ i < w0.heap.size ∨ Z i) := fun i hi => by
    rcases hi with hi | hi | hi
    · exact .inl hi
    · exact .inr (.inl hi)
    · exact .inr (.inr (hz i hi))
  exact ⟨h.ru, h.rv, h.lt, fun i hi => h.nz i (hz i hi), fun i hi => h.zl i (hz i hi), fun i hi => h.ge i (hz i hi), ⟨F, hR, fun i hi => h1 i (hp i hi), fun i hi hq => h2 i hi (hp i hq)⟩, h.fr⟩
/-- A function of the reference has run. -/
theorem Duo.ref {P Z : Nat → Prop} {w0 w w' : World} {g : Nat} {D E E' : Dk} {u v u' v' : Value} (h : Duo P Z w0 w g D E u v)
    (hu : Kd.R Kd.string 9 w' w0.heap.size (fun k => (P k ∨ P k) ∨ w.heap.size ≤ k) u' (secs E'.n E'.lasts)) (hv : Kd.R k94 94 w' w0.heap.size (fun k => (P k ∨ P k) ∨ w.heap.size ≤ k) v' (E'.wait.map toS))
    (hb : Below w0.heap.size w0 w') (hk : Kept w w' (fun k => P k ∨ P k)) : ∃ P', Duo P' Z w0 w' g D E' u' v' ∧ Zk Z w w' := by
  have hf : Fr (fun k => P k ∨ P k) w w' := Fr.of_kept hk (hb.os.trans h.fr.os.symm) (hb.tape.trans h.fr.tape.symm) (hb.output.trans h.fr.output.symm)
  refine ⟨fun k => ((P k ∨ P k) ∨ w.heap.size ≤ k) ∧ k < w'.heap.size, ⟨Kd.R_mono (Kd.R_bound hu) (fun k hk => ⟨hk.1, hk.2.2.1⟩), Kd.R_mono (Kd.R_bound hv) (fun k hk => ⟨hk.1, hk.2.2.1⟩), fun i hi => hi.2, fun i hz hm => ?_, fun i hi => Nat.lt_of_lt_of_le (h.zl i hi) hf.size, h.ge, ?_, Fr.of_below hb⟩, fun i o hz ho => hf.heap ho (fun hp => h.nz i hz (hp.elim id id))⟩
  · rcases hm.1 with hp | hp
    · exact h.nz i hz (hp.elim id id)
    · have := h.zl i hz; omega
  · obtain ⟨F, hR, h1, h2⟩ := h.on
    refine ⟨F, hR.fr hf (fun i hi hg => h2 i hi (.inl (hg.elim id id))), fun i hi => ?_, fun i hi hp => ?_⟩
    · rcases hi with hi | hi | hi
      · exact hi.2
      · exact Nat.lt_of_lt_of_le hi hb.size
      · exact Nat.lt_of_lt_of_le (h.zl i hi) hf.size
    · rcases hp with hp | hp | hp
      · rcases hp.1 with hp | hp
        · exact h2 i hi (.inl (hp.elim id id))
        · have := hR.low _ hi; omega
      · exact h2 i hi (.inr (.inl hp))
      · exact h2 i hi (.inr (.inr hp))
/-- At the beginning. -/
theorem duo_new {w2 w3 w4 : World} {g : Nat} {D : Dk} {u v : Value} (ho : OnP (fun i => i < w2.heap.size) w3 g D) (h23 : Fr (fun _ => False) w2 w3)
    (hu : Kd.R Kd.string 9 w4 w3.heap.size (fun _ => True) u (secs D.n D.lasts)) (hv : Kd.R k94 94 w4 w3.heap.size (fun _ => True) v (D.wait.map toS)) (hb : Below w3.heap.size w3 w4) :
    Duo (fun k => w3.heap.size ≤ k ∧ k < w4.heap.size) (fun _ => False) w2 w4 g D D u v := by
  have hf : Fr (fun _ => False) w3 w4 := Fr.of_below hb
  obtain ⟨F, hR, h1, h2⟩ := ho
  refine ⟨Kd.R_lower (Kd.R_mono (Kd.R_bound hu) (fun k hk => ⟨hk.2.1, hk.2.2.1⟩)) h23.size, Kd.R_lower (Kd.R_mono (Kd.R_bound hv) (fun k hk => ⟨hk.2.1, hk.2.2.1⟩)) h23.size, fun i hi => hi.2, fun i hi => hi.elim, fun i hi => hi.elim, fun i hi => hi.elim, ⟨F, hR.fr hf (fun _ _ => id), fun i hi => ?_, fun i hi hp => ?_⟩, h23.trans hf (fun i hi => hi.elim)⟩
  · rcases hi with hi | hi | hi
    · exact hi.2
    · exact Nat.lt_of_lt_of_le (Nat.lt_of_lt_of_le hi h23.size) hf.size
    · exact hi.elim
  · rcases hp with hp | hp | hp
    · have := hR.low _ hi; omega
    · exact h2 i hi hp
    · exact hp
theorem Wd.fine {n m : Nat} {D : Dk} (h : Wd n m D) (hm : m < 1000000) : Fine D := ⟨h.k0, h.k1, by have := h.len; omega, by have := h.c1; omega⟩
section
variable {P Z : Nat → Prop} {w0 w : World} {g n m : Nat} {D E : Dk} {u v : Value}
theorem duo_write (h : Duo P Z w0 w g D E u v) (hf : Fine D) (p : Int) (s : ByteArray) :
    Calls Try.prog 13 #[.pointer (some ⟨g, 0, none⟩), .int .i64 p, .string s] w fun e w' => e = .returned (.int .i64 (D.writeE p s.data.toList)) ∧ Duo P Z w0 w' g (D.write p s.data.toList) E u v ∧ Zk Z w w' :=
  (onp_write h.on hf p s).mono fun e w' ⟨he, ho, hk⟩ => ⟨he, h.kp ho hk⟩
theorem duo_flush (h : Duo P Z w0 w g D E u v) (hf : Fine D) :
    Calls Try.prog 14 #[.pointer (some ⟨g, 0, none⟩)] w fun e w' => e = .returned (.int .i64 D.flushE) ∧ Duo P Z w0 w' g D.flush E u v ∧ Zk Z w w' :=
  (onp_flush h.on hf).mono fun e w' ⟨he, ho, hk⟩ => ⟨he, h.kp ho hk⟩
theorem duo_crash (h : Duo P Z w0 w g D E u v) (hf : Fine D) (k t : Int) (hk0 : 0 ≤ k) (hk1 : k ≤ 18446744073709551615) :
    Calls Try.prog 17 #[.pointer (some ⟨g, 0, none⟩), .int .u64 k, .int .i64 t] w fun e w' => e = .returned (.tuple #[]) ∧ Duo P Z w0 w' g (D.crash k t) E u v ∧ Zk Z w w' :=
  (onp_crash h.on hf k t hk0 hk1).mono fun e w' ⟨he, ho, hk⟩ => ⟨he, h.kp ho hk⟩
theorem duo_arm (h : Duo P Z w0 w g D E u v) (a k t : Int) :
    Calls Try.prog 22 #[.pointer (some ⟨g, 0, none⟩), .agg #[.int .i64 a, .int .u64 k, .int .i64 t]] w fun e w' => e = .returned (.tuple #[]) ∧ Duo P Z w0 w' g (D.arm a k t) E u v ∧ Zk Z w w' :=
  (onp_arm h.on a k t).mono fun e w' ⟨he, ho, hk⟩ => ⟨he, h.kp ho hk⟩
theorem duo_start (h : Duo P Z w0 w g D E u v) :
    Calls Try.prog 25 #[.pointer (some ⟨g, 0, none⟩)] w fun e w' => e = .returned (.tuple #[]) ∧ Duo P Z w0 w' g D.start E u v ∧ Zk Z w w' :=
  (onp_start h.on).mono fun e w' ⟨he, ho, hk⟩ => ⟨he, h.kp ho hk⟩
theorem duo_put (h : Duo P Z w0 w g D E u v) (hW : Wd n m E) (hm : m < 100000) (hn : n ≤ 100000) (p : Int) (s : ByteArray) :
    Calls Try.prog 19 #[.agg (mRow E u v), .int .i64 p, .string s] w fun e w' => ∃ P' u' v', e = .returned (.tuple #[.agg (mRow (E.write p s.data.toList) u' v'), .int .i64 (E.writeE p s.data.toList)]) ∧ Duo P' Z w0 w' g D (E.write p s.data.toList) u' v' ∧ Zk Z w w' := by
  have hr := put_ref hW hm hn p s.data.toList (3 * m + 100) (Nat.le_refl _)
  rw [show str s.data.toList = s by apply ByteArray.ext; simp [str]] at hr
  refine (keyloftref08_Put.calls _ P u _ P v _ _ _ _ _ _ p s _ _ _ _ _ _ _ _ w0 w h.below h.ru h.rv hr).mono ?_
  rintro e w' ⟨u', v', rfl, hu, hv, hb, hk⟩
  have hn' : (E.write p s.data.toList).n = E.n := (wd_write hW p _).nn.trans hW.nn.symm
  rw [← hn'] at hu
  obtain ⟨P', hd, hz⟩ := h.ref hu hv hb hk
  exact ⟨P', u', v', rfl, hd, hz⟩
theorem duo_rflush (h : Duo P Z w0 w g D E u v) (hW : Wd n m E) (hm : m < 100000) (hn : n ≤ 100000) :
    Calls Try.prog 21 #[.agg (mRow E u v)] w fun e w' => ∃ P' u' v', e = .returned (.tuple #[.agg (mRow E.flush u' v'), .int .i64 E.flushE]) ∧ Duo P' Z w0 w' g D E.flush u' v' ∧ Zk Z w w' := by
  refine (keyloftref08_Flush.calls _ P u _ P v _ _ _ _ _ _ _ _ _ _ _ _ _ _ w0 w h.below h.ru h.rv (flush_ref hW hm hn (3 * m + 100) (Nat.le_refl _))).mono ?_
  rintro e w' ⟨u', v', rfl, hu, hv, hb, hk⟩
  rw [← show E.flush.n = E.n from (wd_flush hW).nn.trans hW.nn.symm] at hu
  obtain ⟨P', hd, hz⟩ := h.ref hu hv hb hk
  exact ⟨P', u', v', rfl, hd, hz⟩
theorem duo_rcrash (h : Duo P Z w0 w g D E u v) (hW : Wd n m E) (hm : m < 100000) (hn : n ≤ 100000) (k t : Int) (hk0 : 0 ≤ k) :
    Calls Try.prog 24 #[.agg (mRow E u v), .int .u64 k, .int .i64 t] w fun e w' => ∃ P' u' v', e = .returned (.agg (mRow (E.crash k t) u' v')) ∧ Duo P' Z w0 w' g D (E.crash k t) u' v' ∧ Zk Z w w' := by
  refine (keyloftref08_Crash.calls _ P u _ P v _ _ _ _ _ _ k t _ _ _ _ _ _ _ w0 w h.below h.ru h.rv (crash_ref hW hm hn k t hk0 (3 * m + 100) (Nat.le_refl _))).mono ?_
  rintro e w' ⟨u', v', rfl, hu, hv, hb, hk⟩
  rw [← show (E.crash k t).n = E.n from (wd_crash hW k t).nn.trans hW.nn.symm] at hu
  obtain ⟨P', hd, hz⟩ := h.ref hu hv hb hk
  exact ⟨P', u', v', rfl, hd, hz⟩
theorem duo_sl (h : Duo P Z w0 w g D E u v) : ∃ A a c A' a' c', u = .slice A a c ∧ v = .slice A' a' c' := by
  obtain ⟨Au, cu, hu⟩ := Kd.R_slice h.ru
  obtain ⟨Av, cv, hv⟩ := Kd.R_slice h.rv
  exact ⟨_, _, _, _, _, _, hu, hv⟩
theorem duo_zk {w' : World} (h : Duo P Z w0 w g D E u v) (hf : Fr (fun _ => False) w w') : Duo P Z w0 w' g D E u v ∧ Zk Z w w' := ⟨h.move hf (fun _ hi => hi.elim), fun i o _ ho => hf.heap ho id⟩
theorem Duo.recast {E' : Dk} (h : Duo P Z w0 w g D E u v) (h1 : E'.n = E.n) (h2 : E'.lasts = E.lasts) (h3 : E'.wait = E.wait) : Duo P Z w0 w g D E' u v := ⟨by rw [h1, h2]; exact h.ru, by rw [h3]; exact h.rv, h.lt, h.nz, h.zl, h.ge, h.on, h.fr⟩
theorem duo_rarm (h : Duo P Z w0 w g D E u v) (a k t : Int) :
    Calls Try.prog 23 #[.agg (mRow E u v), .agg #[.int .i64 a, .int .u64 k, .int .i64 t]] w fun e w' => e = .returned (.agg (mRow (E.arm a k t) u v)) ∧ Duo P Z w0 w' g D (E.arm a k t) u v ∧ Zk Z w w' := by
  obtain ⟨Au, cu, hu⟩ := Kd.R_slice h.ru
  obtain ⟨Av, cv, hv⟩ := Kd.R_slice h.rv
  by_cases ha : a < 1
  · have e0 : E.arm a k t = { E with cutAt := 0, keep := 0, torn := 0, count := 0 } := if_pos ha
    rw [e0]
    subst hu; subst hv
    refine (armref_yes Au Av _ cu _ cv E.cutAt E.keep E.torn E.count a k t E.down w ha).mono ?_
    rintro e w' ⟨rfl, hf⟩
    have := duo_zk h hf
    exact ⟨rfl, this.1.recast rfl rfl rfl, this.2⟩
  · have e0 : E.arm a k t = { E with cutAt := a, keep := k, torn := t, count := 0 } := if_neg ha
    rw [e0]
    subst hu; subst hv
    refine (armref_no Au Av _ cu _ cv E.cutAt E.keep E.torn E.count a k t E.down w ha).mono ?_
    rintro e w' ⟨rfl, hf⟩
    have := duo_zk h hf
    exact ⟨rfl, this.1.recast rfl rfl rfl, this.2⟩
theorem duo_rread (h : Duo P Z w0 w g D E u v) (hW : Wd n m E) (hm : m < 100000) (p : Int) :
    Calls Try.prog 20 #[.agg (mRow E u v), .int .i64 p] w fun e w' => e = .returned (.tuple #[.string (str (E.read p)), .int .i64 (E.asked p)]) ∧ Duo P Z w0 w' g D E u v ∧ Zk Z w w' := by
  have ru := h.ru
  have rv := h.rv
  obtain ⟨Au, cu, rfl⟩ := Kd.R_slice ru
  obtain ⟨Av, cv, rfl⟩ := Kd.R_slice rv
  have r1 := Kd.R_reads' ru
  have r2 := Kd.R_reads' rv
  refine (keyloftref08_Read.calls (m + 10) Au cu _ Av cv _ _ _ _ _ _ p _ _ w r1.2.2 r1.2.1 r2.2.2 r2.2.1 (read_ref hW hm p (m + 10) (Nat.le_refl _))).mono ?_
  rintro e w' ⟨rfl, hb⟩
  have := duo_zk h (Fr.of_below hb)
  exact ⟨rfl, this.1, this.2⟩
theorem duo_rimage (h : Duo P Z w0 w g D E u v) (hW : Wd n m E) (hn : n ≤ 100000) :
    Calls Try.prog 28 #[.agg (mRow E u v)] w fun e w' => e = .returned (.string (str E.lasts)) ∧ Duo P Z w0 w' g D E u v ∧ Zk Z w w' := by
  have ru := h.ru
  have rv := h.rv
  obtain ⟨Au, cu, rfl⟩ := Kd.R_slice ru
  obtain ⟨Av, cv, rfl⟩ := Kd.R_slice rv
  have r1 := Kd.R_reads' ru
  have r2 := Kd.R_reads' rv
  refine (keyloftref08_Image.calls (n + 10) Au cu _ Av cv _ _ _ _ _ _ _ w r1.2.2 r1.2.1 r2.2.2 r2.2.1 (image_ref hW hn (n + 10) (Nat.le_refl _))).mono ?_
  rintro e w' ⟨rfl, hb⟩
  have := duo_zk h (Fr.of_below hb)
  exact ⟨rfl, this.1, this.2⟩
end
end Go.Proofs.Ythlngbdbmnnnaaa
