/- Labels: the library's Values, AppendSeq, Collect at pairs. -/
import Derived.RangeFuncNested
import Derived.RangeFuncBound
import Derived.RangeFuncCalls
import Derived.RangeFuncLeaves
import Derived.Shelf.Abstract
import Derived.OwnWalkIn
import Derived.TacticsInMore
import Derived.LoopNIn
import Derived.LoopIn
import Derived.Test.YtcchhfkmhbjdmaaGreatLe
set_option linter.unusedVariables false
set_option linter.unusedSimpArgs false
set_option pp.deepTerms true
set_option pp.maxSteps 100000
namespace Go.Proofs.YtcchhfkmhbjdmaaGreat
open Go.RowKit Go.Shelf
attribute [local go_sem] Oper.semAt_some
theorem infoP : (Tryz.prog.info? 42).map (fun i => (i.zero, i.size, i.bytes)) = some (some (.agg #[.string ⟨#[]⟩, .string ⟨#[]⟩]), 2, 32) := by kernel_rfl
theorem sizeP : (Tryz.prog.info? 42).map (fun i => (i.size, i.zero)) = some (2, some (.agg #[.string ⟨#[]⟩, .string ⟨#[]⟩])) := by kernel_rfl
theorem buildP (K V : ByteArray) (w : World) : (Instr.buildSlice 24 1 #[(0, .agg #[.string K, .string V])]).run Tryz.prog w = .ok (.slice (some ⟨w.heap.size, 0, none⟩) 1 1) (w.alloc (.cells #[.string K, .string V] 42)) :=
  run_buildSlice_one w 24 42 #[.string K, .string V] #[.string ⟨#[]⟩, .string ⟨#[]⟩] Tryz.underlying24 sizeP (by simp) (by simp)
/-- The blocks that the iterator looks at are as they were. -/
def Kp2 (a b : Nat) (W W' : World) : Prop := W.heap.size ≤ W'.heap.size ∧ ∀ k, (k = a ∨ k = b) → W'.heap[k]? = W.heap[k]?
theorem Kp2.trans {a b : Nat} {X Y Z : World} (h : Kp2 a b X Y) (k : Kp2 a b Y Z) : Kp2 a b X Z := ⟨Nat.le_trans h.1 k.1, fun i hi => (k.2 i hi).trans (h.2 i hi)⟩
theorem Kp2.refl (a b : Nat) (X : World) : Kp2 a b X X := ⟨Nat.le_refl _, fun _ _ => rfl⟩
theorem Kp2.of_fr {a b : Nat} {F : Nat → Prop} {X Y : World} (h : Fr F X Y) (ha : a < X.heap.size ∧ ¬ F a) (hb : b < X.heap.size ∧ ¬ F b) : Kp2 a b X Y :=
  ⟨h.size, fun k hk => by rcases hk with rfl | rfl; exact h.block _ ha.1 ha.2; exact h.block _ hb.1 hb.2⟩
theorem PB.kp {w w' : World} {a b off : Nat} {l : List Pr} (h : PB w b off l) (hk : w'.heap[b]? = w.heap[b]?) : PB w' b off l := fun i x hx j v hj => (World.cell?_of_block (a := ⟨b, off + i * 2 + j, none⟩) hk).trans (h i x hx j v hj)
def finsP (m k : Nat) : List (Fin m) := (List.finRange m).take k
theorem finsP_succ (m k : Nat) (h : k < m) : finsP m (k + 1) = finsP m k ++ [⟨k, h⟩] := by
  unfold finsP
  rw [List.take_add_one, List.getElem?_eq_getElem (by simpa using h)]
  simp
theorem finsP_length (m k : Nat) (h : k ≤ m) : (finsP m k).length = k := by simp [finsP]; omega
theorem fins_all (m : Nat) : finsP m m = List.finRange m := by
  unfold finsP
  exact List.take_of_length_le (by simp)
set_option maxHeartbeats 1000000 in
theorem values_calls (a : Option Addr) (len cap : Nat) (w : World) :
    Calls Tryz.prog 45 #[.slice a len cap] w fun e w' => e = .returned (.func (.func 70) #[] #[.pointer (some ⟨w.heap.size, 0, none⟩)]) ∧ w' = w.alloc (.cells #[.slice a len cap] 24) := by
  go_enter Tryz.func45, Tryz.ntmps45
  go_wp2_with fail
  go_ret
  exact ⟨rfl, rfl⟩
def encV (l : List Pr) (k : Fin l.length) : Array Value := #[.agg #[.string (str l[k.1].1), .string (str l[k.1].2)]]
set_option maxRecDepth 100000 in
set_option maxHeartbeats 2000000 in
theorem values1_in (n lp VB b off cap : Nat) (a : Option Addr) (l : List Pr) (ha : l ≠ [] → a = some ⟨b, off, none⟩) (hlc : l.length ≤ cap) (hcap : cap ≤ 9223372036854775807) (hbig : l.length ≤ 1000000) (J Jx : List (Fin l.length) → World → Prop) (hJa : ∀ pre W o, J pre W → J pre (W.alloc o))
    (hY : ∀ pre x W, J pre W → pre.length < l.length → YieldAt Fence.wide (n - 1) Tryz.prog lp (encV l x) W fun e W' =>
      (e = .returned (.bool true) ∧ J (pre ++ [x]) W' ∧ Kp2 VB b W W') ∨ (e = .returned (.bool false) ∧ Jx (pre ++ [x]) W'))
    (W : World) (hVB : W.cell? ⟨VB, 0, none⟩ = some (.slice a l.length cap)) (hlt1 : VB < W.heap.size) (hlt2 : b < W.heap.size) (hPB : PB W b off l) (h0 : J [] W) :
    CallsIn Fence.wide n Tryz.prog 70 #[.func (.yield lp) #[] #[], .pointer (some ⟨VB, 0, none⟩)] W fun e W' => (∃ v, e = .returned v) ∧
      ((∃ ys, ys = finsP l.length l.length ∧ J ys W') ∨ (∃ pre, (∃ k, k ≤ l.length ∧ pre = finsP l.length k) ∧ Jx pre W')) := by
  refine callsIn_of_wp Tryz.func70 rfl trivial ?_ rfl
  simp only [Tryz.ntmps70, List.size_toArray, List.length_cons, List.length_nil, Nat.reduceAdd, Nat.reduceSub, Array.replicate_succ, Array.replicate_zero, List.push_toArray, List.append_toArray, List.nil_append, List.cons_append]
  obtain ⟨m, hm⟩ : ∃ m, m = l.length := ⟨_, rfl⟩
  have HPB := Lib.hid hPB
  have HM := Lib.hid hm
  rw [← hm] at hVB hlc hbig
  clear hPB hm
  gi_wp2
  gi_loopw [7] (fun i wr => ∃ k : Nat, k ≤ m ∧ i = .int .i64 (k : Int) ∧ J (finsP l.length k) wr ∧ Kp2 VB b W wr)
    (fun i _ => m - (intOf i).toNat)
  case atStart => exact ⟨0, Nat.zero_le _, rfl, h0, Kp2.refl _ _ _⟩
  case round =>
    obtain ⟨k, hk, rfl, hJs, hnx⟩ := hrel
    by_cases hlt : k < m
    · have hkl : k < l.length := by rw [← HM.out]; exact hlt
      obtain rfl := ha (by intro e; rw [e] at hkl; cases hkl)
      obtain ⟨c0, c1⟩ := (HPB.out.kp (a := VB) (hnx.2 b (.inr rfl))).cells k hkl
      have hy := hY _ ⟨k, hkl⟩ (wr.alloc (.cells #[.string (str l[k].1), .string (str l[k].2)] 42)) (hJa _ _ _ hJs) (by rw [finsP_length _ _ (by omega)]; exact hkl)
      obtain ⟨fn, tmps, assign, body, hy, hR⟩ := hy
      unfold encV at hy
      dsimp only at hy
      obtain ⟨K, hK⟩ : ∃ s, s = str l[k].1 := ⟨_, rfl⟩
      obtain ⟨V, hV⟩ : ∃ s, s = str l[k].2 := ⟨_, rfl⟩
      rw [← hK] at hy hR c0
      rw [← hV] at hy hR c1
      rw [← finsP_succ l.length k hkl] at hR
      have HR := Lib.hid hR
      have HN := Lib.hid (show Kp2 VB b W (wr.alloc (.cells #[.string K, .string V] 42)) from hnx.trans (Kp2.of_fr ((Fr.refl (fun _ => False) wr).alloc _) ⟨Nat.lt_of_lt_of_le hlt1 hnx.1, id⟩ ⟨Nat.lt_of_lt_of_le hlt2 hnx.1, id⟩))
      have hi0 : (k : Int) < (m : Int) := by omega
      clear hR hJs hnx hVB h0 hY hK hV ha hlt1 hlt2
      gi_wp2
      refine ⟨fun h => (by cases h), HR.out.mono ?_⟩
      rintro e W3 (⟨rfl, hJ3, hk3⟩ | ⟨rfl, hJx3⟩)
      · have HK3 := Lib.hid (HN.out.trans hk3)
        have HJ3 := Lib.hid hJ3
        clear hJ3 hk3
        gi_wp2
        go_roundw
        case rel => exact ⟨k + 1, by omega, by go_num, HJ3.out, HK3.out⟩
        case measure => simp [intOf]; omega
      · have HJx := Lib.hid hJx3
        clear hJx3
        gi_wp2
        refine bodyPost_ret (results_none rfl _ _ _) rfl ?_
        exact ⟨⟨_, rfl⟩, .inr ⟨_, ⟨k + 1, by omega, rfl⟩, HJx.out⟩⟩
    · obtain rfl : k = m := by omega
      rw [HM.out] at hJs
      have HJ := Lib.hid hJs
      have hge : ¬ (k : Int) < (k : Int) := by omega
      clear hJs hnx hY
      gi_wp2
      go_end0
      exact ⟨⟨_, rfl⟩, .inl HJ.out⟩
theorem values_stops (n VB b off cap : Nat) (a : Option Addr) (l : List Pr) (ha : l ≠ [] → a = some ⟨b, off, none⟩) (hlc : l.length ≤ cap) (hcap : cap ≤ 9223372036854775807) (hbig : l.length ≤ 1000000) (w : World) (h1 : VB < w.heap.size) (h2 : b < w.heap.size)
    (hVB : w.cell? ⟨VB, 0, none⟩ = some (.slice a l.length cap)) (hPB : PB w b off l) :
    SeqStopsK Fence.wide n Tryz.prog 70 #[.pointer (some ⟨VB, 0, none⟩)] (encV l) (Kp2 VB b) (fun ys => ys = finsP l.length l.length) (fun pre => ∃ k, k ≤ l.length ∧ pre = finsP l.length k) l.length w := fun lp J Jx W hW hJ hJx hY h0 =>
  values1_in n lp VB b off cap a l ha hlc hcap hbig J Jx (fun pre W' o h => hJ pre W' (W'.alloc o) none h (World.grownBy_alloc W' o none) (fun r e => by cases e)) hY W ((hW.cell (p := ⟨VB, 0, none⟩) h1).trans hVB) (Nat.lt_of_lt_of_le h1 hW.size) (Nat.lt_of_lt_of_le h2 hW.size) (hPB.kp (a := VB) (hW.block b h2)) h0
end Go.Proofs.YtcchhfkmhbjdmaaGreat
