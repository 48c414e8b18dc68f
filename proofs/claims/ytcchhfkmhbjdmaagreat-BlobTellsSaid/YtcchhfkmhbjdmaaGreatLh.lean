/- Labels: sorted, walked. -/
import Derived.Test.YtcchhfkmhbjdmaaGreatLg
set_option linter.unusedVariables false
set_option linter.unusedSimpArgs false
set_option pp.deepTerms true
set_option pp.maxSteps 100000
namespace Go.Proofs.YtcchhfkmhbjdmaaGreat
open Go.RowKit Go.Shelf Go.Sort
def cmpP (x y : Pr) : Int := Lib.compareBytes x.1 y.1
theorem ltP (x y : Pr) : ltOf cmpP x y = Op.bytesLess x.1 y.1 := bl_cmp x.1 y.1
theorem swoP : SWO (ltOf cmpP) where
  irrefl x := by rw [ltP]; exact bl_irrefl _
  trans x y z h k := by rw [ltP] at *; exact bl_trans _ _ _ h k
  ntrans x y z h k := by
    rw [ltP] at *
    cases q : Op.bytesLess x.1 z.1 with
    | false => rfl
    | true =>
      cases q2 : Op.bytesLess y.1 x.1 with
      | true => rw [bl_trans _ _ _ q2 q] at k; cases k
      | false => rw [← bl_total _ _ h q2, q] at k; cases k
set_option maxHeartbeats 1000000 in
theorem collect_calls (VB b off cap : Nat) (a : Option Addr) (l : List Pr) (ha : l ≠ [] → a = some ⟨b, off, none⟩) (hlc : l.length ≤ cap) (hcap : cap ≤ 9223372036854775807) (hbig : l.length ≤ 1000000) (w : World) (h1 : VB < w.heap.size) (h2 : b < w.heap.size)
    (hVB : w.cell? ⟨VB, 0, none⟩ = some (.slice a l.length cap)) (hPB : PB w b off l) :
    Calls Tryz.prog 68 #[.func (.func 70) #[] #[.pointer (some ⟨VB, 0, none⟩)]] w fun e w' => ∃ v, e = .returned v ∧ w'.ownsRow w.heap.size 42 2 v l.length (l.flatMap encP) ∧ (v = .slice none 0 0 ↔ l = []) ∧ Fr (fun _ => False) w w' := by
  have HC := Lib.hid (appendSeq_calls VB b off cap a l ha hlc hcap hbig w h1 h2 hVB hPB)
  clear ha hlc hcap hbig h1 h2 hVB hPB
  go_enter Tryz.func68, Tryz.ntmps68
  go_wp2_with fail
  refine HC.out.mono ?_
  rintro e w1 ⟨v, rfl, ho, hn, hf⟩
  have HO := Lib.hid ho
  have HN := Lib.hid hn
  have HF := Lib.hid hf
  clear ho hn hf
  go_wp2_with fail
  go_ret
  exact ⟨v, rfl, HO.out, HN.out, HF.out⟩
set_option maxHeartbeats 1000000 in
theorem cmp_calls (x y : Pr) (W : World) : Calls Tryz.prog 46 #[.agg #[.string (str x.1), .string (str x.2)], .agg #[.string (str y.1), .string (str y.2)]] W fun e w' => e = .returned (.int .i64 (cmpP x y)) ∧ ∃ q os', w' = grow (W.drewN q) os' := by
  have hcon : ∀ W', Calls Tryz.prog 47 #[.string (str x.1), .string (str y.1)] W' fun e w' => e = .returned (.int .i64 (cmpP x y)) ∧ w' = W' := fun W' => by
    have h := Any.strings_Compare lays106 (str x.1) (str y.1) W'
    rw [str_list, str_list] at h
    exact h
  have HC := Lib.hid hcon
  clear hcon
  generalize cmpP x y = r at HC ⊢
  generalize str x.1 = X at HC ⊢
  generalize str y.1 = Y at HC ⊢
  generalize str x.2 = X2
  generalize str y.2 = Y2
  go_enter Tryz.func46, Tryz.ntmps46
  go_wp2_with fail
  refine (HC.out _).mono ?_
  rintro e w' ⟨rfl, hww⟩
  rw [hww]
  clear hww w'
  go_wp2_with fail
  go_ret
  exact ⟨rfl, 0, _, by rw [alloc_eq_grow, alloc_eq_grow, grow_grow]; rfl⟩
theorem isAggP (w : World) : (isAgg 42).run Tryz.prog w = .ok true w := Tryz.isAgg42 w
theorem hlenP (n : Nat) (W : World) (h : n ≤ 12) : Calls Tryz.prog 89 #[.int .u64 n] W fun e w' => (∃ l : Int, e = .returned (.int .i64 l)) ∧ w' = W :=
  (Any.bits_Len bitsLen n W (by omega) (by omega)).mono fun _ _ ⟨he, hw⟩ => ⟨⟨_, he⟩, hw⟩
theorem flat_get (l : List Pr) (t : Nat) (ht : t < l.length * 2) : (l.flatMap encP)[t]? = some ((encP l.toArray[t / 2]!)[t % 2]!) := by
  have hk : t / 2 < l.length := by omega
  have e : l.toArray[t / 2]! = l[t / 2] := by simp [hk]
  rw [e]
  have h := flat_take encP 2 l (fun _ _ => rfl) (t / 2) l[t / 2] (List.getElem?_eq_getElem hk) (t % 2) ((encP l[t / 2])[t % 2]!) (by
    have : t % 2 = 0 ∨ t % 2 = 1 := by omega
    rcases this with h | h <;> rw [h] <;> rfl)
  rwa [show t / 2 * 2 + t % 2 = t by omega] at h
theorem holds_of_cells {w : World} {g : Nat} {l : List Pr} {cur : Array Value} (hg : w.heap[g]? = some (.cells cur 42 (0, 0))) (ht : cur.toList.take (l.length * 2) = l.flatMap encP) : HoldsK encP 2 w g 0 l.toArray := by
  intro t hts
  rw [size_flatK] at hts
  have hts' : t < l.length * 2 := by simpa using hts
  rw [get_flatK _ _ _ _ (by simpa using hts')]
  have hc := flat_get l t hts'
  rw [← ht, List.getElem?_take_of_lt hts'] at hc
  refine ⟨?_, frozen_of_row w _ _ _ _ hg⟩
  rw [Nat.zero_add, cell_of_row w g t _ _ _ hg, ← Array.getElem?_toList, hc]
  rfl
theorem pb_of_holds {w : World} {g : Nat} {d : Array Pr} (h : HoldsK encP 2 w g 0 d) : PB w g 0 d.toList := by
  intro i x hx j v hj
  have hi : i < d.size := by
    rcases Nat.lt_or_ge i d.size with h | h
    · exact h
    · rw [List.getElem?_eq_none (by simpa using h)] at hx; cases hx
  have hx' : d[i]! = x := by
    rw [Array.getElem?_toList, Array.getElem?_eq_getElem hi] at hx
    rw [getElem!_pos d i hi]
    exact Option.some.inj hx
  have hj2 : j < 2 := by
    rcases Nat.lt_or_ge j 2 with h | h
    · exact h
    · rw [List.getElem?_eq_none (by rw [encP_len]; exact h)] at hj; cases hj
  have hc := (h.cell hi hj2).1
  rw [hx'] at hc
  rw [hc]
  have : j = 0 ∨ j = 1 := by omega
  rcases this with rfl | rfl <;> simpa [encP] using hj
theorem fr_sort (w : World) (g m : Nat) (dk : Array Pr) (os : Array Obj) : Fr (fun k => k = g) w (sortWorldK encP 2 w g 0 m dk os) := by
  refine ⟨rfl, rfl, rfl, ?_, fun i hi hne => ?_⟩
  · exact size_sortWorldK_c _ _ _ _ _ _ _ _
  · unfold sortWorldK putRowK putRow mapBlock grow Sort.ahead
    simp only
    rw [Array.getElem?_append_left (by simpa using hi), Array.getElem?_modify, if_neg (fun e => hne e.symm)]
set_option maxHeartbeats 1000000 in
theorem sortFunc_calls (g cap : Nat) (l : List Pr) (h12 : l.length ≤ 12) (w : World) (cur : Array Value) (hg : w.heap[g]? = some (.cells cur 42 (0, 0))) (ht : cur.toList.take (l.length * 2) = l.flatMap encP) :
    Calls Tryz.prog 69 #[.slice (some ⟨g, 0, none⟩) l.length cap, .func (.func 46) #[] #[]] w fun e w' => e = .returned (.tuple #[]) ∧ ∃ m : List Pr, m.Perm l ∧ m.Pairwise leP ∧ PB w' g 0 m ∧ Fr (fun k => k = g) w w' := by
  have eg : ∀ args w, (callFunc 46 args).run Tryz.prog w = .ok (.enter 46 args) w := enters_of Tryz.func46 (by kernel_rfl) rfl
  have hH := holds_of_cells hg ht
  have hcon := AnyQ.slices_SortFunc_small_sorted sortP 2 Tryz.isAgg42 Tryz.sizeOf42 encP (fun _ => rfl) encP_one cmpP 46 #[] swoP g 0 cap l.toArray w eg (fun _ _ _ _ x y => cmp_calls x y _) hH (lt_of_heap hg) (by simpa using h12) hlenP
  refine hcon.mono ?_
  rintro e w' ⟨he, d', n, os, hp, hs, rfl⟩
  have hsz : d'.size = l.length := by rw [hp.1]; simp
  refine ⟨he, d'.toList, ?_, ?_, ?_, fr_sort _ _ _ _ _⟩
  · have h := hp.2.2
    have e1 : d'.extract 0 l.toArray.size = d' := by rw [show l.toArray.size = d'.size by rw [hsz]; simp]; simp
    have e2 : l.toArray.extract 0 l.toArray.size = l.toArray := by simp
    rw [e1, e2] at h
    exact h
  · rw [List.pairwise_iff_getElem]
    intro i j hi hj hij
    have h := hs i j (Nat.zero_le _) hij (by simpa [hsz] using hj)
    rw [ltP, getElem!_pos d' j (by simpa using hj), getElem!_pos d' i (by simpa using hi)] at h
    simpa [leP] using h
  · exact pb_of_holds (holdsK_sortWorldK_c _ _ _ _ _ l.toArray d' n os hH (lt_of_heap hg) (by rw [hsz]; simp))
end Go.Proofs.YtcchhfkmhbjdmaaGreat
