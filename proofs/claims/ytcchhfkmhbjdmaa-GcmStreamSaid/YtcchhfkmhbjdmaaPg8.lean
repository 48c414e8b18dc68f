/- A region that draws its order, in a round; slices.Chunk over bytes. -/
import Derived.RangeFuncNested
import Derived.RangeFuncBound
import Derived.RangeFuncCalls
import Derived.RangeFuncLeaves
import Derived.Shelf.Abstract
import Derived.Shelf.RegionOpen
import Derived.OwnWalkIn
import Derived.TacticsInMore
import Derived.LoopNIn
import Derived.LoopIn
import Derived.Test.YtcchhfkmhbjdmaaPg5
import Derived.Test.YtcchhfkmhbjdmaaPg7
set_option linter.unusedVariables false
set_option linter.unusedSimpArgs false
set_option pp.deepTerms true
set_option pp.maxSteps 100000
namespace Go.Proofs.Ytcchhfkmhbjdmaa
open Go.RowKit Go.Shelf
attribute [local go_sem] Oper.semAt_some
section
variable {P : Program} {ops : Array Oper} {Q : Exit → Act → World → Prop} {md : Region.Mode} {l n : Nat}
theorem rows_round {row : String} {args : Array Value} {w : World} {R : Value → World → Prop} (h : Rows P row args w R) : RowsIn (Fence.wide.inRound l) n P row args w R := fun c cs _ =>
  let ⟨v, w', r, s⟩ := h c cs; ⟨v, w', r, stepsIn_wide.2 s⟩
theorem oper_round {o : Oper} {a : Act} {w : World} {K : Act → World → Prop} (hd : ∀ c, o.op ≠ .defer c) (h : o.wp P a w K Q) : o.wpIn (Fence.wide.inRound l) n P a w K Q := by
  refine ⟨fun _ _ => trivial, ?_⟩
  rw [show (Fence.wide.inRound l).round = some l from rfl, Oper.semAt_some l _ _ hd]
  unfold Oper.wp at h
  generalize (execOp a.eval o).run P w = r at *
  cases r with
  | ok x w' =>
    cases x <;> simp only [Oper.upon] at h <;> simp only [Oper.uponIn] <;>
      first
        | exact h
        | exact ⟨fun hh => (by cases hh), CallsIn.inRound l (callsIn_wide.2 h)⟩
        | exact ⟨fun hh => (by cases hh), rows_round h⟩
        | exact h.elim
  | halt x w' => cases x <;> simp only [Oper.upon] at h <;> simp only [Oper.uponIn] <;> first | exact h | exact h.elim
def noDefer (ops : Array Oper) : Bool := ops.all fun o => match o.op with
  | .defer _ => false
  | _ => true
theorem noDefer_at {i : Nat} {o : Oper} (h : noDefer ops = true) (ho : ops[i]? = some o) : ∀ c, o.op ≠ .defer c := by
  intro c hc
  unfold noDefer at h
  rw [Array.all_eq_true_iff_forall_mem] at h
  have := h o (Array.mem_of_getElem? ho)
  rw [hc] at this
  cases this
theorem any_round (hnd : noDefer ops = true) (hlo : ∀ a w, ¬ Q .outgrown a w) : ∀ (fuel : Nat) (listed : Array Bool) (a : Act) (w : World), wpAny P md ops Q fuel listed a w → wpAnyIn (Fence.wide.inRound l) n P md ops Q fuel listed a w
  | 0, _, _, _, h => h
  | fuel + 1, listed, a, w, h => ⟨h.1, fun i hi => by
    have h1 := h.2 i hi
    unfold wpOp at h1
    unfold wpOpIn
    cases ho : ops[i]? with
    | none => simp only [ho] at h1; exact any_round hnd hlo fuel _ _ _ h1
    | some o =>
      simp only [ho] at h1 ⊢
      split
      · rename_i hw
        simp only [hw, if_true] at h1
        rcases h1 with h1 | ⟨_, a', w', h1⟩
        · exact Oper.wpIn_mono (fun a' w' h' => any_round hnd hlo fuel _ a' w' h') (oper_round (noDefer_at hnd ho) h1)
        · exact absurd h1 (hlo a' w')
      · rename_i hw
        simp only [hw] at h1
        exact ⟨fun _ _ => trivial, any_round hnd hlo fuel _ _ _ h1⟩⟩
/-- A region that draws its order, in a round. -/
theorem wpIn_region_till {id : Nat} {a : Act} {w : World} (S : World → Prop) (e : Nat) (hm : P.follows .mixedOrders = true) (hnd : noDefer ops = true) (hlo : ∀ a w, ¬ Q .outgrown a w)
    (h : wpAnyT P .any ops Q S e ops.size (Array.replicate ops.size false) a w.drew) : (Code.region id ops true).wpIn (Fence.wide.inRound l) n P Q a w :=
  wpIn_region_any hm (any_round hnd hlo _ _ _ _ (wpAny_of_till _ _ _ _ h))
end
/-- Ranges over chunks: what has come. -/
def fins (m k : Nat) : List (Fin m) := (List.finRange m).take k
theorem fins_succ (m k : Nat) (h : k < m) : fins m (k + 1) = fins m k ++ [⟨k, h⟩] := by
  unfold fins
  rw [List.take_add_one, List.getElem?_eq_getElem (by simpa using h)]
  simp
theorem fins_length (m k : Nat) (h : k ≤ m) : (fins m k).length = k := by simp [fins]; omega
theorem fins_val (m : Nat) : (fins m m).map Fin.val = List.range m := by
  unfold fins
  rw [List.take_of_length_le (by simp)]
  apply List.ext_getElem <;> simp
/-- The blocks that the iterator looks at are as they were. -/
def Kp3 (a b c : Nat) (W W' : World) : Prop := W.heap.size ≤ W'.heap.size ∧ ∀ k, (k = a ∨ k = b ∨ k = c) → W'.heap[k]? = W.heap[k]?
theorem Kp3.trans {a b c : Nat} {X Y Z : World} (h : Kp3 a b c X Y) (k : Kp3 a b c Y Z) : Kp3 a b c X Z := ⟨Nat.le_trans h.1 k.1, fun i hi => (k.2 i hi).trans (h.2 i hi)⟩
theorem Kp3.refl (a b c : Nat) (X : World) : Kp3 a b c X X := ⟨Nat.le_refl _, fun _ _ => rfl⟩
theorem Kp3.of_fr {a b c : Nat} {F : Nat → Prop} {X Y : World} (h : Fr F X Y) (ha : a < X.heap.size ∧ ¬ F a) (hb : b < X.heap.size ∧ ¬ F b) (hc : c < X.heap.size ∧ ¬ F c) : Kp3 a b c X Y :=
  ⟨h.size, fun k hk => by rcases hk with rfl | rfl | rfl; exact h.block _ ha.1 ha.2; exact h.block _ hb.1 hb.2; exact h.block _ hc.1 hc.2⟩
set_option maxHeartbeats 1000000 in
theorem chunk_calls (a : Option Addr) (len cap : Nat) (w : World) :
    Calls Try.prog 116 #[.slice a len cap, .int .i64 16] w fun e w' => e = .returned (.func (.func 135) #[] #[.pointer (some ⟨w.heap.size, 0, none⟩), .pointer (some ⟨w.heap.size + 1, 0, none⟩)]) ∧ w' = (w.alloc (.cells #[.slice a len cap] 27)).alloc (.cells #[.int .i64 16] 3) := by
  go_enter Try.func116, Try.ntmps116
  go_wp2_with fail
  go_ret
  exact ⟨rfl, rfl⟩
/-- The chunk that comes as number k. -/
def encC (b len m : Nat) (k : Fin m) : Array Value := #[.slice (some ⟨b, 16 * k.1, none⟩) (min 16 (len - 16 * k.1)) (min 16 (len - 16 * k.1))]
set_option maxRecDepth 100000 in
set_option maxHeartbeats 2000000 in
theorem chunk1_in (n l Bs Bn b len cap m : Nat) (hm : m = (len + 15) / 16) (hlc : len ≤ cap) (hcap : len ≤ 1000000) (J Jx : List (Fin m) → World → Prop) (hJd : ∀ pre W, J pre W → J pre W.drew)
    (hY : ∀ pre x W, J pre W → pre.length < m → YieldAt Fence.wide (n - 1) Try.prog l (encC b len m x) W fun e W' =>
      (e = .returned (.bool true) ∧ J (pre ++ [x]) W' ∧ Kp3 Bs Bn b W W') ∨ (e = .returned (.bool false) ∧ Jx (pre ++ [x]) W'))
    (W : World) (hBs : W.cell? ⟨Bs, 0, none⟩ = some (.slice (some ⟨b, 0, none⟩) len cap)) (hBn : W.cell? ⟨Bn, 0, none⟩ = some (.int .i64 16)) (h0 : J [] W) :
    CallsIn Fence.wide n Try.prog 135 #[.func (.yield l) #[] #[], .pointer (some ⟨Bs, 0, none⟩), .pointer (some ⟨Bn, 0, none⟩)] W fun e W' => (∃ v, e = .returned v) ∧
      ((∃ ys, ys = fins m m ∧ J ys W') ∨ (∃ pre, (∃ k, k ≤ m ∧ pre = fins m k) ∧ Jx pre W')) := by
  refine callsIn_of_wp Try.func135 rfl trivial ?_ rfl
  simp only [Try.ntmps135, List.size_toArray, List.length_cons, List.length_nil, Nat.reduceAdd, Nat.reduceSub, Array.replicate_succ, Array.replicate_zero, List.push_toArray, List.append_toArray, List.nil_append, List.cons_append]
  gi_wp2
  gi_loopw [4] (fun i wr => ∃ k : Nat, k ≤ m ∧ i = .int .i64 ((16 * k : Nat) : Int) ∧ J (fins m k) wr ∧ Kp3 Bs Bn b W wr)
    (fun i _ => len + 16 - (intOf i).toNat)
  case atStart => exact ⟨0, Nat.zero_le _, rfl, h0, Kp3.refl _ _ _ _⟩
  case round =>
    obtain ⟨k, hk, rfl, hJs, hnx⟩ := hrel
    have hbs : wr.cell? ⟨Bs, 0, none⟩ = some (.slice (some ⟨b, 0, none⟩) len cap) := (World.cell?_of_block (a := ⟨Bs, 0, none⟩) (hnx.2 Bs (.inl rfl))).trans hBs
    have hbn : wr.cell? ⟨Bn, 0, none⟩ = some (.int .i64 16) := (World.cell?_of_block (a := ⟨Bn, 0, none⟩) (hnx.2 Bn (.inr (.inl rfl)))).trans hBn
    by_cases hlt : 16 * k < len
    · have hkm : k < m := by omega
      obtain ⟨fn, tmps, assign, body, hy, hR⟩ := hY _ ⟨k, hkm⟩ wr.drew (hJd _ _ hJs) (by rw [fins_length _ _ hk]; exact hkm)
      unfold encC at hy
      dsimp only at hy
      rw [← fins_succ m k hkm] at hR
      have HR := Lib.hid hR
      have HJ := Lib.hid hJs
      have HN := Lib.hid (show Kp3 Bs Bn b W wr.drew from hnx)
      have hbs2 : wr.drew.cell? ⟨Bs, 0, none⟩ = some (.slice (some ⟨b, 0, none⟩) len cap) := hbs
      have hbn2 : wr.drew.cell? ⟨Bn, 0, none⟩ = some (.int .i64 16) := hbn
      obtain ⟨q, hq⟩ : ∃ q, q = 16 * k := ⟨_, rfl⟩
      rw [← hq] at hy hlt ⊢
      have hqx : (q : Int) < (len : Int) := by omega
      obtain ⟨c, hc⟩ : ∃ c, c = min 16 (len - q) := ⟨_, rfl⟩
      rw [← hc] at hy
      have HQ := Lib.hid hq
      have HC := Lib.hid hc
      have HKM := Lib.hid (show k < m ∧ m = (len + 15) / 16 ∧ k ≤ m from ⟨hkm, hm, hk⟩)
      have hql : q ≤ len := by omega
      have hqc : q ≤ cap := by omega
      have hc1 : c ≤ 16 := by omega
      have hc2 : q + c ≤ len := by omega
      have hc3 : q + c ≤ cap := by omega
      have hmin : min (16 : Int) ((len - q : Nat) : Int) = (c : Int) := by omega
      obtain ⟨d, hd⟩ : ∃ d, d = q + c := ⟨_, rfl⟩
      have hw : IntKind.i64.wrap ((q : Int) + (c : Int)) = (d : Int) := by rw [IntWalk.i64_in _ (by omega)]; omega
      have hdq : c = d - q := by omega
      rw [hdq] at hy
      have hd1 : q ≤ d := by omega
      have hd0 : q < d := by omega
      have hd4 : ¬ d - q = 0 := by omega
      have hd5 : 0 < d - q := by omega
      have hd2 : d ≤ len := by omega
      have hd3 : d ≤ cap := by omega
      obtain ⟨q2, hq2⟩ : ∃ d, d = q + 16 := ⟨_, rfl⟩
      have hw2 : IntKind.i64.wrap ((q : Int) + 16) = (q2 : Int) := by rw [IntWalk.i64_in _ (by omega)]; omega
      have HQ2 := Lib.hid (show q2 = 16 * (k + 1) ∧ q2 = q + 16 by omega)
      clear hdq hd hq2
      clear hR hJs hnx hBs hBn h0 hY hq hc hkm hk hm
      gi_wp2
      refine wpIn_wide.2 ?_
      refine wp_region_still_tail 6 (by kernel_rfl) (by kernel_rfl) ?_
      simp only [List.take_succ_cons, List.take_zero, List.drop_succ_cons, List.drop_zero]
      change wpStill _ _ wr.drew (fun a' => wpList _ _ _ _ a' wr.drew) _ _
      repeat still_step
      refine wpStill_nil ?_
      go_wp2
      gi_wp2
      refine ⟨fun h => (by cases h), HR.out.mono ?_⟩
      rintro e W3 (⟨rfl, hJ3, hk3⟩ | ⟨rfl, hJx3⟩)
      · have HK3 := Lib.hid (HN.out.trans hk3)
        have HJ3 := Lib.hid hJ3
        have hbn3 : W3.cell? ⟨Bn, 0, none⟩ = some (.int .i64 16) := (World.cell?_of_block (a := ⟨Bn, 0, none⟩) (hk3.2 Bn (.inr (.inl rfl)))).trans hbn2
        clear hJ3 hk3
        gi_wp2
        go_roundw
        case rel => exact ⟨k + 1, by have := HKM.out; omega, by rw [HQ2.out.1], HJ3.out, HK3.out⟩
        case measure => have := HQ2.out.2; simp [intOf]; omega
      · have HJx := Lib.hid hJx3
        clear hJx3
        gi_wp2
        refine bodyPost_ret (results_none rfl _ _ _) rfl ?_
        exact ⟨⟨_, rfl⟩, .inr ⟨_, ⟨k + 1, by have := HKM.out; omega, rfl⟩, HJx.out⟩⟩
    · obtain rfl : k = m := by omega
      have HJ := Lib.hid hJs
      obtain ⟨q, hq⟩ : ∃ q, q = 16 * k := ⟨_, rfl⟩
      rw [← hq] at hlt ⊢
      have hqx : ¬ (q : Int) < (len : Int) := by omega
      clear hJs hnx hq hm hY
      gi_wp2
      go_end0
      exact ⟨⟨_, rfl⟩, .inl HJ.out⟩
theorem grown_drew (w : World) : w.grownBy w.drew none := ⟨rfl, rfl, rfl, Nat.le_refl _, fun _ _ _ => rfl⟩
theorem chunk_stops (n Bs Bn b len cap m : Nat) (hm : m = (len + 15) / 16) (hlc : len ≤ cap) (hcap : len ≤ 1000000) (w : World) (h1 : Bs < w.heap.size) (h2 : Bn < w.heap.size)
    (hBs : w.cell? ⟨Bs, 0, none⟩ = some (.slice (some ⟨b, 0, none⟩) len cap)) (hBn : w.cell? ⟨Bn, 0, none⟩ = some (.int .i64 16)) :
    SeqStopsK Fence.wide n Try.prog 135 #[.pointer (some ⟨Bs, 0, none⟩), .pointer (some ⟨Bn, 0, none⟩)] (encC b len m) (Kp3 Bs Bn b) (fun ys => ys = fins m m) (fun pre => ∃ k, k ≤ m ∧ pre = fins m k) m w := fun l J Jx W hW hJ hJx hY h0 =>
  chunk1_in n l Bs Bn b len cap m hm hlc hcap J Jx (fun pre W h => hJ pre W W.drew none h (grown_drew W) (fun r e => by cases e)) hY W ((hW.cell (p := ⟨Bs, 0, none⟩) h1).trans hBs) ((hW.cell (p := ⟨Bn, 0, none⟩) h2).trans hBn) h0
end Go.Proofs.Ytcchhfkmhbjdmaa
