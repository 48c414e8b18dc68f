/- Disks: the document's fail, walked (no printed text). -/
import Derived.Test.YthlngbdbmnnnaaaQh
import Derived.Test.YthlngbdbmnnnaaaKs
import Derived.RegionTactic
import Derived.BigRegion
import Derived.ChangeAlike
import Derived.Lib.AtoiErrMem
set_option linter.unusedVariables false
set_option linter.unusedSimpArgs false
set_option pp.deepTerms true
set_option pp.maxSteps 100000
namespace Go.Proofs.Ythlngbdbmnnnaaa
open Go.RowKit
def put7 (w : World) (M : Nat) (v0 v1 v2 v3 v4 v5 v6 : Value) : World := ((((((w.setCell ⟨M, 0, none⟩ v0).setCell ⟨M, 1, none⟩ v1).setCell ⟨M, 2, none⟩ v2).setCell ⟨M, 3, none⟩ v3).setCell ⟨M, 4, none⟩ v4).setCell ⟨M, 5, none⟩ v5).setCell ⟨M, 6, none⟩ v6
theorem put7_fr (w : World) (M : Nat) (v0 v1 v2 v3 v4 v5 v6 : Value) : Fr (fun i => i = M) w (put7 w M v0 v1 v2 v3 v4 v5 v6) := by
  unfold put7
  repeat first | with_reducible exact Fr.refl _ _ | refine Fr.setCell ?_ _ _ (.inl rfl)
theorem put7_heap {w : World} {M : Nat} {a0 a1 a2 a3 a4 a5 a6 : Value} {t : TypeId} (h : w.heap[M]? = some (.cells #[a0, a1, a2, a3, a4, a5, a6] t (0, 0))) (v0 v1 v2 v3 v4 v5 v6 : Value) : (put7 w M v0 v1 v2 v3 v4 v5 v6).heap[M]? = some (.cells #[v0, v1, v2, v3, v4, v5, v6] t (0, 0)) := by
  obtain ⟨w1, hw1⟩ : ∃ x, x = w.setCell ⟨M, 0, none⟩ v0 := ⟨_, rfl⟩
  have h1 : w1.heap[M]? = some (.cells #[v0, a1, a2, a3, a4, a5, a6] t (0, 0)) := by rw [hw1]; exact heap_setCell_same w M 0 _ t v0 h
  obtain ⟨w2, hw2⟩ : ∃ x, x = w1.setCell ⟨M, 1, none⟩ v1 := ⟨_, rfl⟩
  have h2 : w2.heap[M]? = some (.cells #[v0, v1, a2, a3, a4, a5, a6] t (0, 0)) := by rw [hw2]; exact heap_setCell_same w1 M 1 _ t v1 h1
  obtain ⟨w3, hw3⟩ : ∃ x, x = w2.setCell ⟨M, 2, none⟩ v2 := ⟨_, rfl⟩
  have h3 : w3.heap[M]? = some (.cells #[v0, v1, v2, a3, a4, a5, a6] t (0, 0)) := by rw [hw3]; exact heap_setCell_same w2 M 2 _ t v2 h2
  obtain ⟨w4, hw4⟩ : ∃ x, x = w3.setCell ⟨M, 3, none⟩ v3 := ⟨_, rfl⟩
  have h4 : w4.heap[M]? = some (.cells #[v0, v1, v2, v3, a4, a5, a6] t (0, 0)) := by rw [hw4]; exact heap_setCell_same w3 M 3 _ t v3 h3
  obtain ⟨w5, hw5⟩ : ∃ x, x = w4.setCell ⟨M, 4, none⟩ v4 := ⟨_, rfl⟩
  have h5 : w5.heap[M]? = some (.cells #[v0, v1, v2, v3, v4, a5, a6] t (0, 0)) := by rw [hw5]; exact heap_setCell_same w4 M 4 _ t v4 h4
  obtain ⟨w6, hw6⟩ : ∃ x, x = w5.setCell ⟨M, 5, none⟩ v5 := ⟨_, rfl⟩
  have h6 : w6.heap[M]? = some (.cells #[v0, v1, v2, v3, v4, v5, a6] t (0, 0)) := by rw [hw6]; exact heap_setCell_same w5 M 5 _ t v5 h5
  obtain ⟨w7, hw7⟩ : ∃ x, x = w6.setCell ⟨M, 6, none⟩ v6 := ⟨_, rfl⟩
  have h7 : w7.heap[M]? = some (.cells #[v0, v1, v2, v3, v4, v5, v6] t (0, 0)) := by rw [hw7]; exact heap_setCell_same w6 M 6 _ t v6 h6
  unfold put7
  rw [← hw1, ← hw2, ← hw3, ← hw4, ← hw5, ← hw6, ← hw7]
  exact h7
theorem settle_step (f : Nat → Nat) (W : List Wr) (k : Nat) (hk : k < W.length) (L : List UInt8) : settle f 0 (W.take (k + 1)) L = splice (settle f 0 (W.take k) L) (64 * W[k].place.toNat) (W[k].data.take (f k)) := by
  rw [List.take_succ_eq_append_getElem hk, settle_snoc, List.length_take, Nat.min_eq_left (Nat.le_of_lt hk), Nat.zero_add]
theorem settle_cut (f : Nat → Nat) (W : List Wr) (k : Nat) (hf : ∀ j, k ≤ j → f j = 0) (L : List UInt8) : ∀ m, k ≤ m → m ≤ W.length → settle f 0 (W.take m) L = settle f 0 (W.take k) L
  | m, h1, h2 => by
    obtain ⟨d, rfl⟩ : ∃ d, m = k + d := ⟨m - k, by omega⟩
    clear h1
    induction d with
    | zero => rfl
    | succ d ih => rw [← Nat.add_assoc, settle_step f W (k + d) (by omega), hf _ (by omega), List.take_zero, splice_nil]; exact ih (by omega)
def refRow (E : Dk) (u v : Value) : Array Value := #[u, v, .int .i64 E.cutAt, .int .u64 E.keep, .int .i64 E.torn, .int .i64 E.count, .bool E.down]
/-- What the document holds of a disk reads so. -/
structure RD (w : World) (E : Dk) (u v : Value) : Prop where
  u : RdV w 1 strC u (secs E.n E.lasts)
  v : RdV w 2 wrC v E.wait
theorem RD.frF {w w' : World} {E : Dk} {u v : Value} (h : RD w E u v) (hf : Fr (fun _ => False) w w') : RD w' E u v := ⟨h.u.frF hf, h.v.frF hf⟩
/-- Where the rows lie that a function hands back. -/
def Yg (w w' : World) (u v u' v' : Value) : Prop := ∀ b, (u'.ownBlock = some b ∨ v'.ownBlock = some b) → (u.ownBlock = some b ∨ v.ownBlock = some b) ∨ (w.heap.size ≤ b ∧ b < w'.heap.size)
theorem own_lt {w : World} {B : Nat} {e : TypeId} {k n : Nat} {v : Value} {xs : List Value} (h : w.ownsRow B e k v n xs) : ∀ b, v.ownBlock = some b → b < w.heap.size := fun b hb => by
  rcases h.2 with ⟨rfl, _⟩ | ⟨g, cap, cur, rfl, _, hg, _⟩
  · cases hb
  · cases hb; exact lt_of_heap hg
/-- A disk whose power failed, as the document has it. -/
def failD (E : Dk) (keep torn : Int) : Dk := { E with lasts := settle (crashN keep torn E.wait.length) 0 E.wait E.lasts, wait := [], cutAt := 0, keep := 0, torn := 0, down := true }
theorem own_fr {w w' : World} {B : Nat} {e : TypeId} {k n : Nat} {v : Value} {xs : List Value} {F : Nat → Prop} (h : w.ownsRow B e k v n xs) (hf : Fr F w w') (hF : ∀ j, v.ownBlock = some j → ¬ F j) : w'.ownsRow B e k v n xs := by
  refine ⟨h.1, ?_⟩
  rcases h.2 with h0 | ⟨g, cap, cur, rfl, hb, hg, hr⟩
  · exact .inl h0
  · exact .inr ⟨g, cap, cur, rfl, hb, hf.heap hg (hF g rfl), hr⟩
set_option maxRecDepth 20000 in
set_option maxHeartbeats 8000000 in
theorem reffail_calls (E : Dk) {n m : Nat} (hW : Wd n m E) (hm : m ≤ 100000) (hn : n ≤ 100000) (keep torn : Int) (hk0 : 0 ≤ keep) (hk1 : keep ≤ 18446744073709551615) (u v : Value) (w : World) (hR : RD w E u v) :
    Calls Try.prog 48 #[.agg (refRow E u v), .int .u64 keep, .int .i64 torn] w fun e w' => ∃ u', e = .returned (.agg (refRow (failD E keep torn) u' (.slice none 0 0))) ∧ RD w' (failD E keep torn) u' (.slice none 0 0) ∧ Fr (fun _ => False) w w' ∧ ∀ b, u'.ownBlock = some b → w.heap.size ≤ b ∧ b < w'.heap.size := by
  obtain ⟨A1, c1, rfl, hs1, hlc1, hcc1⟩ := hR.u
  obtain ⟨A2, c2, rfl, hs2, hlc2, hcc2⟩ := hR.v
  have hsl : (secs E.n E.lasts).length = n := by rw [secs_length, hW.nn]
  rw [hsl] at hlc1
  obtain ⟨len, hlen⟩ : ∃ x, x = E.wait.length := ⟨_, rfl⟩
  rw [hsl, ← hlen]
  rw [← hlen] at hlc2
  have hll : len ≤ m := by rw [hlen]; exact hW.len
  unfold refRow
  obtain ⟨BX, hBX⟩ : ∃ b, b = w.heap.size := ⟨_, rfl⟩
  obtain ⟨row, hrow⟩ : ∃ r : Array Value, r = #[.slice A1 n c1, .slice A2 len c2, .int .i64 E.cutAt, .int .u64 E.keep, .int .i64 E.torn, .int .i64 E.count, .bool E.down] := ⟨_, rfl⟩
  obtain ⟨zrow, hzrow⟩ : ∃ r : Array Value, r = #[.slice none 0 0, .slice none 0 0, .int .i64 0, .int .u64 0, .int .i64 0, .int .i64 0, .bool false] := ⟨_, rfl⟩
  obtain ⟨w0, hw0⟩ : ∃ x, x = (w.alloc (.cells #[.slice A1 n c1, .slice A2 len c2, .int .i64 E.cutAt, .int .u64 E.keep, .int .i64 E.torn, .int .i64 E.count, .bool E.down] 48)).alloc (.cells #[.slice none 0 0, .slice none 0 0, .int .i64 0, .int .u64 0, .int .i64 0, .int .i64 0, .bool false] 48) := ⟨_, rfl⟩
  have hsz0 : w0.heap.size = BX + 2 := by rw [hw0, hBX]; simp
  have hf0 : Fr (fun _ => False) w w0 := by rw [hw0]; exact ((Fr.refl _ _).alloc _).alloc _
  have hb0 : w0.heap[BX]? = some (.cells row 48 (0, 0)) := by rw [hw0, hBX, hrow]; exact ((Fr.refl (fun _ => False) _).alloc _).heap (heap_alloc_new w _) id
  have hz0 : w0.heap[BX + 1]? = some (.cells zrow 48 (0, 0)) := by
    have h := heap_alloc_new (w.alloc (.cells #[.slice A1 n c1, .slice A2 len c2, .int .i64 E.cutAt, .int .u64 E.keep, .int .i64 E.torn, .int .i64 E.count, .bool E.down] 48)) (.cells #[.slice none 0 0, .slice none 0 0, .int .i64 0, .int .u64 0, .int .i64 0, .int .i64 0, .bool false] 48)
    rw [World.size_alloc] at h
    rw [hw0, hBX, hzrow]; exact h
  obtain ⟨w1, hw1⟩ : ∃ x, x = w0.alloc (.cells #[] 9) := ⟨_, rfl⟩
  have hf1 : Fr (fun _ => False) w0 w1 := by rw [hw1]; exact (Fr.refl _ _).alloc _
  have hown0 : w1.ownsRow (BX + 2) 9 1 (.slice (some ⟨BX + 2, 0, none⟩) 0 0) 0 [] := by rw [hw1, ← hsz0]; exact rows_own0 w0 _ (Nat.le_refl _)
  have hsz1 : w1.heap.size = BX + 3 := by rw [hw1]; simp [hsz0]
  have hu1 : RdV w1 1 strC (.slice A1 n c1) (secs E.n E.lasts) := ⟨A1, c1, by rw [hsl], (hs1.frF hf0).frF hf1, by rw [hsl]; exact hlc1, hcc1⟩
  obtain ⟨v', w2, hap, hown, hgr⟩ := rows_append rowS (BX + 2) _ 0 [] (.slice A1 n c1) (secs E.n E.lasts) 37 w1 hown0 hu1 (by omega) (by rw [hsl]; omega)
  rw [Nat.zero_add, List.nil_append] at hown
  obtain ⟨A3, a3, c3, rfl⟩ : ∃ A a c, v' = .slice A a c := by
    rcases hown.2 with ⟨h, _⟩ | ⟨g, cap, cur, h, _⟩ <;> exact ⟨_, _, _, h⟩
  have hf2 : Fr (fun j => j = BX + 2) w1 w2 := (Fr.refl _ _).grown hgr (fun k hk => .inl (Option.some.inj hk).symm)
  have hb2 := hf2.heap (hf1.heap hb0 id) (by omega)
  have hz2 := hf2.heap (hf1.heap hz0 id) (by omega)
  have hF2 : Fr (fun _ => False) w w2 := (hf0.trans hf1 (fun i hi => hi.elim)).trans hf2 (fun i hi => .inr (by omega))
  have hs22 := hs2.frF hF2
  have hblk : ∀ k, (Value.slice A3 a3 c3).ownBlock = some k → BX + 2 ≤ k := fun k hk => by
    rcases hown.2 with ⟨e, _⟩ | ⟨g, cap, cur, e, hb, _⟩
    · rw [e] at hk; cases hk
    · rw [e] at hk; cases hk; exact hb
  have hA2 : ∀ b off, A2 = some ⟨b, off, none⟩ → 0 < len → b < BX := fun b off e hpos => by
    obtain ⟨b', off', e', hr⟩ := hs2 0 _ (List.getElem?_eq_getElem (by omega))
    rw [e] at e'; cases e'
    have := hr 0 (.int .i64 E.wait[0].place) rfl
    rw [hBX]
    exact Lib.lt_of_cell this
  have c0 : w1.cell? ⟨BX, 0, none⟩ = some (.slice A1 n c1) := by rw [cell_of_row w1 _ 0 _ _ _ (hf1.heap hb0 id), hrow]; rfl
  have HB2 := Lib.hid hb2
  have HZ2 := Lib.hid hz2
  have HF2 := Lib.hid hF2
  have HS2 := Lib.hid hs22
  have HOwn := Lib.hid hown
  have HBlk := Lib.hid hblk
  have HA2 := Lib.hid hA2
  have HW := Lib.hid hW
  have HLen := Lib.hid hlen
  have HRow := Lib.hid hrow
  have HZrow := Lib.hid hzrow
  have HBX := Lib.hid hBX
  have hsz2 := hf2.size
  have HW0 := hw0.symm
  have HW1 := hw1.symm
  have HX := hBX.symm
  clear hR hs1 hs2 hsl hlc1 hlen hrow hzrow hw0 hf0 hb0 hz0 hw1 hf1 hown0 hu1 hown hgr hf2 hb2 hz2 hF2 hs22 hblk hA2 hW hBX
  go_enter Try.func48, Try.ntmps48
  go_wp2_with (first
    | (refine wpList_append_run rfl _ _ rfl _ _ hap ?_))
  go_loopw [8] (fun i wr => ∃ k : Nat, k ≤ len ∧ i = .int .i64 (k : Int) ∧ wr.ownsRow (BX + 2) 9 1 (.slice A3 a3 c3) n ((secs n (settle (crashN keep torn len) 0 (E.wait.take k) E.lasts)).flatMap strC) ∧ Fr (fun j => (Value.slice A3 a3 c3).ownBlock = some j) w2 wr) (fun i _ => len - (intOf i).toNat)
  case atStart =>
    refine ⟨0, Nat.zero_le _, rfl, ?_, Fr.refl _ _⟩
    have h := HOwn.out
    rw [secs_length, HW.out.nn] at h
    exact h
  case round =>
    obtain ⟨k, hk, rfl, hown, hfr⟩ := hrel
    have HO := Lib.hid hown
    have HF := Lib.hid hfr
    have hbx := hfr.heap HB2.out (fun h => by have := HBlk.out _ h; omega)
    rw [HRow.out] at hbx
    have HBr := Lib.hid hbx
    have b0 : wr.cell? ⟨BX, 0, none⟩ = some (.slice A1 n c1) := (cell_of_row wr _ 0 _ _ _ hbx).trans rfl
    have b1 : wr.cell? ⟨BX, 1, none⟩ = some (.slice A2 len c2) := (cell_of_row wr _ 1 _ _ _ hbx).trans rfl
    have b5 : wr.cell? ⟨BX, 5, none⟩ = some (.int .i64 E.count) := (cell_of_row wr _ 5 _ _ _ hbx).trans rfl
    clear hown hfr hbx
    by_cases hlt : k < len
    · have d1 : decide ((k : Int) < (len : Int)) = true := decide_eq_true (by omega)
      have d1' : decide (k < len) = true := decide_eq_true hlt
      by_cases h64 : k < 64
      · have d2 : decide ((k : Int) < 64) = true := decide_eq_true (by omega)
        have d2' : decide (k < 64) = true := decide_eq_true h64
        have hkw : k < E.wait.length := by rw [← HLen.out]; exact hlt
        obtain ⟨x, hx⟩ : ∃ x, x = E.wait[k] := ⟨_, rfl⟩
        have hgx : E.wait[k]? = some x := by rw [hx]; exact List.getElem?_eq_getElem hkw
        obtain ⟨p0, p1, pl⟩ := HW.out.W x (List.mem_of_getElem? hgx)
        obtain ⟨b2, off2, rfl, hr2⟩ := HS2.out k x hgx
        have hb2lt := HA2.out b2 off2 rfl (by omega)
        obtain ⟨p, hp⟩ : ∃ p : Nat, x.place = p := ⟨x.place.toNat, by omega⟩
        obtain ⟨D, hD⟩ : ∃ s, s = str x.data := ⟨_, rfl⟩
        have q0 : wr.cell? ⟨b2, off2 + k * 2, none⟩ = some (.int .i64 (p : Int)) := by
          rw [← hp]
          exact HF.out.cell (hr2 0 _ rfl) (fun h => by have h' : BX + 2 ≤ b2 := HBlk.out _ h; omega)
        have q1 : wr.cell? ⟨b2, off2 + k * 2 + 1, none⟩ = some (.string D) := by
          rw [hD]
          exact HF.out.cell (hr2 1 _ rfl) (fun h => by have h' : BX + 2 ≤ b2 := HBlk.out _ h; omega)
        obtain ⟨w3, hw3⟩ : ∃ w3, w3 = wr.alloc (.cells #[.int .i64 (p : Int), .string D] 94) := ⟨_, rfl⟩
        have hf3 : Fr (fun _ => False) wr w3 := by rw [hw3]; exact (Fr.refl _ _).alloc _
        have HW3 := hw3.symm
        have hWB : w3.heap[wr.heap.size]? = some (.cells #[.int .i64 (p : Int), .string D] 94 (0, 0)) := by rw [hw3]; exact heap_alloc_new wr _
        have r0 : w3.cell? ⟨wr.heap.size, 0, none⟩ = some (.int .i64 (p : Int)) := (cell_of_row w3 _ 0 _ _ _ hWB).trans rfl
        have r1 : w3.cell? ⟨wr.heap.size, 1, none⟩ = some (.string D) := (cell_of_row w3 _ 1 _ _ _ hWB).trans rfl
        have hbx3 := hf3.heap HBr.out id
        have s1 : w3.cell? ⟨BX, 1, none⟩ = some (.slice (some ⟨b2, off2, none⟩) len c2) := (cell_of_row w3 _ 1 _ _ _ hbx3).trans rfl
        have HXx := Lib.hid hx
        have HPx := Lib.hid (And.intro hp pl)
        have HDx := Lib.hid hD
        have HF3 := Lib.hid (HF.out.trans hf3 (fun i hi => hi.elim))
        have HO3 := Lib.hid (own_fr HO.out hf3 (fun _ _ => id))
        have HKW := Lib.hid hkw
        have HStep := Lib.hid (settle_step (crashN keep torn len) E.wait k hkw E.lasts)
        have hDs : D.size = 64 := by rw [hD, str_size, pl]
        have hpn : p < n := by omega
        have hlw : IntKind.i64.wrap ((len : Int) - 1) = (len : Int) - 1 := IntWalk.i64_in _ (by omega)
        clear hx hp hD hw3 hf3 hWB hbx3 hgx p0 p1 pl hr2
        by_cases hz : keep / 2 ^ k % 2 = 0
        · have hbit : ((keep / 2 ^ k).tmod 2 == 0) = true := by
            rw [Int.tmod_eq_emod_of_nonneg (Int.ediv_nonneg hk0 (Int.pow_nonneg (by omega)))]; exact beq_iff_eq.2 hz
          have hc : crashN keep torn len k = 0 := by unfold crashN; rw [if_pos (.inr hz)]
          have HC := Lib.hid hc
          clear hz hc
          go_wp2_with fail
          go_roundw
          case rel =>
            refine ⟨k + 1, by omega, by go_num, ?_, HF3.out⟩
            rw [HStep.out, HC.out, List.take_zero, splice_nil]
            exact HO3.out
          case measure => simp [intOf]; omega
        · have hbit : ((keep / 2 ^ k).tmod 2 == 0) = false := by
            rw [Int.tmod_eq_emod_of_nonneg (Int.ediv_nonneg hk0 (Int.pow_nonneg (by omega)))]; exact beq_eq_false_iff_ne.2 hz
          obtain ⟨L, hL⟩ : ∃ L, L = settle (crashN keep torn len) 0 (E.wait.take k) E.lasts := ⟨_, rfl⟩
          have hLl : L.length = 64 * n := by
            rw [hL]; exact settle_length _ n _ _ _ (fun y hy => HW.out.W y (List.mem_of_mem_take hy)) HW.out.L
          have hO3 := HO3.out
          rw [← hL] at hO3
          have hO4 : w3.ownsRow (BX + 2) 9 1 (.slice A3 a3 c3) (secs n L).length ((secs n L).flatMap strC) := by rw [secs_length]; exact hO3
          obtain ⟨g, cap, HVV, hnc, hcm, hgB, hgl, hcg, hfg, hset⟩ := own_set hO4 (p := p) (by rw [secs_length]; exact hpn)
          rw [secs_length] at HVV hnc
          have hsec := secs_get n L p hpn
          rw [List.getElem?_eq_getElem (by rw [secs_length]; exact hpn)] at hsec
          obtain ⟨S0, hS0⟩ : ∃ s, s = (secs n L)[p]'(by rw [secs_length]; exact hpn) := ⟨_, rfl⟩
          rw [← hS0] at hcg
          have hS0e : S0 = str ((L.drop (64 * p)).take 64) := by rw [hS0]; exact Option.some.inj hsec
          have hS0s : S0.size = 64 := by rw [hS0e, str_size, sec_length n L p hpn hLl]
          have HSet := Lib.hid (show ∀ N, N ≤ 64 → (w3.setCell ⟨g, p, none⟩ (.string (str (x.data.take N ++ ((L.drop (64 * p)).take 64).drop N)))).ownsRow (BX + 2) 9 1 (.slice A3 a3 c3) n ((secs n (splice L (64 * p) (x.data.take N))).flatMap strC) from fun N hN => by
            have h := hset (str (x.data.take N ++ ((L.drop (64 * p)).take 64).drop N))
            rw [secs_length] at h
            rw [secs_splice n L p _ hpn hLl (by simp; omega), show (x.data.take N).length = N by simp [HPx.out.2]; omega]
            exact h)
          have HS0 := Lib.hid hS0e
          have HLL := Lib.hid hL
          have HBk := HBlk.out
          have HG := Lib.hid hgl
          clear hL hLl hO3 hO4 hset hsec hS0 hS0e HO HO3
          obtain ⟨e1', e2', e3'⟩ : (some ⟨g, 0, none⟩ : Option Addr) = A3 ∧ n = a3 ∧ cap = c3 := by
            injection HVV with h1 h2 h3; exact ⟨h1.symm, h2.symm, h3.symm⟩
          subst e1'
          subst e2'
          subst e3'
          clear HVV
          have g2 : (p : Int) < (n : Int) := by omega
          have g3 : (0 : Int) ≤ (p : Int) := by omega
          by_cases hlast : k + 1 = len
          · have e1 : ((k : Int) == (len : Int) - 1) = true := beq_iff_eq.2 (by omega)
            by_cases ht : torn < 64
            · have d3 : decide (torn < 64) = true := decide_eq_true ht
              by_cases ht0 : torn < 0
              · have d4 : decide (torn < 0) = true := decide_eq_true ht0
                obtain ⟨X1, hX1⟩ : ∃ s, D.extract 0 0 = s := ⟨_, rfl⟩
                obtain ⟨X2, hX2⟩ : ∃ s, S0.extract 0 64 = s := ⟨_, rfl⟩
                obtain ⟨X3, hX3⟩ : ∃ s, X1 ++ X2 = s := ⟨_, rfl⟩
                have hN64 : 0 ≤ 64 := by omega
                have hX1e : X1 = str (x.data.take (0)) := by rw [← hX1, HDx.out, str_take]
                have hX2e : X2 = str (((L.drop (64 * p)).take 64).drop (0)) := by
                  rw [← hX2, HS0.out]
                  have h64 := str_drop ((L.drop (64 * p)).take 64) (0)
                  rwa [show (str ((L.drop (64 * p)).take 64)).size = 64 by rw [← HS0.out]; exact hS0s] at h64
                have hX3e : X3 = str (x.data.take (0) ++ ((L.drop (64 * p)).take 64).drop (0)) := by rw [← hX3, hX1e, hX2e, str_append]
                have hX1s : X1.size ≤ 64 := by rw [hX1e, str_size, List.length_take]; omega
                have hX2s : X2.size ≤ 64 := by rw [hX2e, str_size, List.length_drop, List.length_take]; omega
                have hz1 : X1.size + X2.size ≤ 9223372036854775807 := by omega
                have hz2 : ¬ 9223372036854775807 < X1.size + X2.size := by omega
                have HX3 := Lib.hid (show X2 = str (x.data.take (0) ++ ((L.drop (64 * p)).take 64).drop (0)) from by rw [hX2e, List.take_zero, List.nil_append])
                have HCr := Lib.hid (show crashN keep torn len k = 0 from by unfold crashN; rw [if_neg (by intro h; rcases h with h | h; omega; exact hz h), if_pos hlast]; omega)
                clear hX1e hX2e hX3e hX1s hX2s hz
                go_wp2_with fail
                go_region
                all_goals
                  have hfe : Fr (fun j => j = g) w3 (w3.setCell ⟨g, p, none⟩ (.string X2)).drew := ((Fr.refl (fun j => j = g) w3).setCell ⟨g, p, none⟩ _ (.inl rfl)).drew
                  have HFE := Lib.hid (HF3.out.trans hfe (fun i hi => .inl (by rw [hi]; rfl)))
                  have HOE := Lib.hid (show (w3.setCell ⟨g, p, none⟩ (.string X2)).drew.ownsRow (BX + 2) 9 1 (.slice (some ⟨g, 0, none⟩) n cap) n ((secs n (settle (crashN keep torn len) 0 (E.wait.take (k + 1)) E.lasts)).flatMap strC) from by
                    have h := HSet.out (0) hN64
                    rw [HStep.out, HCr.out, ← HXx.out, ← HLL.out, HPx.out.1, Int.toNat_natCast]
                    rw [HX3.out]
                    exact own_fr h (Fr.refl (fun _ => False) _).drew (fun _ _ => id))
                  clear hfe
                  generalize hWf : (w3.setCell ⟨g, p, none⟩ (.string X2)).drew = Wf at HFE HOE ⊢
                  clear hWf
                  go_wp2_with fail
                  go_roundw
                  case rel => exact ⟨k + 1, by omega, by go_num, HOE.out, HFE.out⟩
                  case measure => simp [intOf]; omega
              · have d4 : decide (torn < 0) = false := decide_eq_false ht0
                have d5 : (0 : Int) ≤ torn := by omega
                have d6 : torn ≤ 64 := by omega
                obtain ⟨X1, hX1⟩ : ∃ s, D.extract 0 torn.toNat = s := ⟨_, rfl⟩
                obtain ⟨X2, hX2⟩ : ∃ s, S0.extract torn.toNat 64 = s := ⟨_, rfl⟩
                obtain ⟨X3, hX3⟩ : ∃ s, X1 ++ X2 = s := ⟨_, rfl⟩
                have hN64 : torn.toNat ≤ 64 := by omega
                have hX1e : X1 = str (x.data.take (torn.toNat)) := by rw [← hX1, HDx.out, str_take]
                have hX2e : X2 = str (((L.drop (64 * p)).take 64).drop (torn.toNat)) := by
                  rw [← hX2, HS0.out]
                  have h64 := str_drop ((L.drop (64 * p)).take 64) (torn.toNat)
                  rwa [show (str ((L.drop (64 * p)).take 64)).size = 64 by rw [← HS0.out]; exact hS0s] at h64
                have hX3e : X3 = str (x.data.take (torn.toNat) ++ ((L.drop (64 * p)).take 64).drop (torn.toNat)) := by rw [← hX3, hX1e, hX2e, str_append]
                have hX1s : X1.size ≤ 64 := by rw [hX1e, str_size, List.length_take]; omega
                have hX2s : X2.size ≤ 64 := by rw [hX2e, str_size, List.length_drop, List.length_take]; omega
                have hz1 : X1.size + X2.size ≤ 9223372036854775807 := by omega
                have hz2 : ¬ 9223372036854775807 < X1.size + X2.size := by omega
                have HX3 := Lib.hid hX3e
                have HCr := Lib.hid (show crashN keep torn len k = torn.toNat from by unfold crashN; rw [if_neg (by intro h; rcases h with h | h; omega; exact hz h), if_pos hlast]; omega)
                clear hX1e hX2e hX3e hX1s hX2s hz
                go_wp2_with fail
                go_region
                all_goals
                  have hfe : Fr (fun j => j = g) w3 (w3.setCell ⟨g, p, none⟩ (.string X3)).drew := ((Fr.refl (fun j => j = g) w3).setCell ⟨g, p, none⟩ _ (.inl rfl)).drew
                  have HFE := Lib.hid (HF3.out.trans hfe (fun i hi => .inl (by rw [hi]; rfl)))
                  have HOE := Lib.hid (show (w3.setCell ⟨g, p, none⟩ (.string X3)).drew.ownsRow (BX + 2) 9 1 (.slice (some ⟨g, 0, none⟩) n cap) n ((secs n (settle (crashN keep torn len) 0 (E.wait.take (k + 1)) E.lasts)).flatMap strC) from by
                    have h := HSet.out (torn.toNat) hN64
                    rw [HStep.out, HCr.out, ← HXx.out, ← HLL.out, HPx.out.1, Int.toNat_natCast]
                    rw [HX3.out]
                    exact own_fr h (Fr.refl (fun _ => False) _).drew (fun _ _ => id))
                  clear hfe
                  generalize hWf : (w3.setCell ⟨g, p, none⟩ (.string X3)).drew = Wf at HFE HOE ⊢
                  clear hWf
                  go_wp2_with fail
                  go_roundw
                  case rel => exact ⟨k + 1, by omega, by go_num, HOE.out, HFE.out⟩
                  case measure => simp [intOf]; omega
            · have d3 : decide (torn < 64) = false := decide_eq_false ht
              obtain ⟨X1, hX1⟩ : ∃ s, D.extract 0 64 = s := ⟨_, rfl⟩
              obtain ⟨X2, hX2⟩ : ∃ s, S0.extract 64 64 = s := ⟨_, rfl⟩
              obtain ⟨X3, hX3⟩ : ∃ s, X1 ++ X2 = s := ⟨_, rfl⟩
              have hN64 : 64 ≤ 64 := by omega
              have hX1e : X1 = str (x.data.take (64)) := by rw [← hX1, HDx.out, str_take]
              have hX2e : X2 = str (((L.drop (64 * p)).take 64).drop (64)) := by
                rw [← hX2, HS0.out]
                have h64 := str_drop ((L.drop (64 * p)).take 64) (64)
                rwa [show (str ((L.drop (64 * p)).take 64)).size = 64 by rw [← HS0.out]; exact hS0s] at h64
              have hX3e : X3 = str (x.data.take (64) ++ ((L.drop (64 * p)).take 64).drop (64)) := by rw [← hX3, hX1e, hX2e, str_append]
              have hX1s : X1.size ≤ 64 := by rw [hX1e, str_size, List.length_take]; omega
              have hX2s : X2.size ≤ 64 := by rw [hX2e, str_size, List.length_drop, List.length_take]; omega
              have hz1 : X1.size + X2.size ≤ 9223372036854775807 := by omega
              have hz2 : ¬ 9223372036854775807 < X1.size + X2.size := by omega
              have HX3 := Lib.hid (show X1 = str (x.data.take (64) ++ ((L.drop (64 * p)).take 64).drop (64)) from by rw [hX1e, List.drop_eq_nil_of_le (by rw [List.length_take]; omega), List.append_nil])
              have HCr := Lib.hid (show crashN keep torn len k = 64 from by unfold crashN; rw [if_neg (by intro h; rcases h with h | h; omega; exact hz h), if_pos hlast]; omega)
              clear hX1e hX2e hX3e hX1s hX2s hz
              go_wp2_with fail
              go_region
              all_goals
                have hfe : Fr (fun j => j = g) w3 (w3.setCell ⟨g, p, none⟩ (.string X1)).drew := ((Fr.refl (fun j => j = g) w3).setCell ⟨g, p, none⟩ _ (.inl rfl)).drew
                have HFE := Lib.hid (HF3.out.trans hfe (fun i hi => .inl (by rw [hi]; rfl)))
                have HOE := Lib.hid (show (w3.setCell ⟨g, p, none⟩ (.string X1)).drew.ownsRow (BX + 2) 9 1 (.slice (some ⟨g, 0, none⟩) n cap) n ((secs n (settle (crashN keep torn len) 0 (E.wait.take (k + 1)) E.lasts)).flatMap strC) from by
                  have h := HSet.out (64) hN64
                  rw [HStep.out, HCr.out, ← HXx.out, ← HLL.out, HPx.out.1, Int.toNat_natCast]
                  rw [HX3.out]
                  exact own_fr h (Fr.refl (fun _ => False) _).drew (fun _ _ => id))
                clear hfe
                generalize hWf : (w3.setCell ⟨g, p, none⟩ (.string X1)).drew = Wf at HFE HOE ⊢
                clear hWf
                go_wp2_with fail
                go_roundw
                case rel => exact ⟨k + 1, by omega, by go_num, HOE.out, HFE.out⟩
                case measure => simp [intOf]; omega
          · have e1 : ((k : Int) == (len : Int) - 1) = false := beq_eq_false_iff_ne.2 (by omega)
            obtain ⟨X1, hX1⟩ : ∃ s, D.extract 0 64 = s := ⟨_, rfl⟩
            obtain ⟨X2, hX2⟩ : ∃ s, S0.extract 64 64 = s := ⟨_, rfl⟩
            obtain ⟨X3, hX3⟩ : ∃ s, X1 ++ X2 = s := ⟨_, rfl⟩
            have hN64 : 64 ≤ 64 := by omega
            have hX1e : X1 = str (x.data.take (64)) := by rw [← hX1, HDx.out, str_take]
            have hX2e : X2 = str (((L.drop (64 * p)).take 64).drop (64)) := by
              rw [← hX2, HS0.out]
              have h64 := str_drop ((L.drop (64 * p)).take 64) (64)
              rwa [show (str ((L.drop (64 * p)).take 64)).size = 64 by rw [← HS0.out]; exact hS0s] at h64
            have hX3e : X3 = str (x.data.take (64) ++ ((L.drop (64 * p)).take 64).drop (64)) := by rw [← hX3, hX1e, hX2e, str_append]
            have hX1s : X1.size ≤ 64 := by rw [hX1e, str_size, List.length_take]; omega
            have hX2s : X2.size ≤ 64 := by rw [hX2e, str_size, List.length_drop, List.length_take]; omega
            have hz1 : X1.size + X2.size ≤ 9223372036854775807 := by omega
            have hz2 : ¬ 9223372036854775807 < X1.size + X2.size := by omega
            have HX3 := Lib.hid (show X1 = str (x.data.take (64) ++ ((L.drop (64 * p)).take 64).drop (64)) from by rw [hX1e, List.drop_eq_nil_of_le (by rw [List.length_take]; omega), List.append_nil])
            have HCr := Lib.hid (show crashN keep torn len k = 64 from by unfold crashN; rw [if_neg (by intro h; rcases h with h | h; omega; exact hz h), if_neg hlast])
            clear hX1e hX2e hX3e hX1s hX2s hz
            go_wp2_with fail
            go_region
            all_goals
              have hfe : Fr (fun j => j = g) w3 (w3.setCell ⟨g, p, none⟩ (.string X1)).drew := ((Fr.refl (fun j => j = g) w3).setCell ⟨g, p, none⟩ _ (.inl rfl)).drew
              have HFE := Lib.hid (HF3.out.trans hfe (fun i hi => .inl (by rw [hi]; rfl)))
              have HOE := Lib.hid (show (w3.setCell ⟨g, p, none⟩ (.string X1)).drew.ownsRow (BX + 2) 9 1 (.slice (some ⟨g, 0, none⟩) n cap) n ((secs n (settle (crashN keep torn len) 0 (E.wait.take (k + 1)) E.lasts)).flatMap strC) from by
                have h := HSet.out (64) hN64
                rw [HStep.out, HCr.out, ← HXx.out, ← HLL.out, HPx.out.1, Int.toNat_natCast]
                rw [HX3.out]
                exact own_fr h (Fr.refl (fun _ => False) _).drew (fun _ _ => id))
              clear hfe
              generalize hWf : (w3.setCell ⟨g, p, none⟩ (.string X1)).drew = Wf at HFE HOE ⊢
              clear hWf
              go_wp2_with fail
              go_roundw
              case rel => exact ⟨k + 1, by omega, by go_num, HOE.out, HFE.out⟩
              case measure => simp [intOf]; omega
      · have d2 : decide ((k : Int) < 64) = false := decide_eq_false (by omega)
        have d2' : decide (k < 64) = false := decide_eq_false h64
        have hall : settle (crashN keep torn len) 0 E.wait E.lasts = settle (crashN keep torn len) 0 (E.wait.take k) E.lasts := by
          have h := settle_cut (crashN keep torn len) E.wait k (fun j hj => by unfold crashN; rw [if_pos (.inl (by omega))]) E.lasts E.wait.length (by rw [← HLen.out]; omega) (Nat.le_refl _)
          rwa [List.take_length] at h
        have HAll := Lib.hid hall
        clear hall
        have hzx := HF.out.heap HZ2.out (fun h => by have h' : BX + 2 ≤ BX + 1 := HBlk.out _ h; omega)
        rw [HZrow.out] at hzx
        have z0 : wr.cell? ⟨BX + 1, 0, none⟩ = some (.slice none 0 0) := (cell_of_row wr _ 0 _ _ _ hzx).trans rfl
        have y0 : wr.frozen? ⟨BX + 1, 0, none⟩ = false := frozen_of_row wr _ _ _ _ hzx
        have z1 : wr.cell? ⟨BX + 1, 1, none⟩ = some (.slice none 0 0) := (cell_of_row wr _ 1 _ _ _ hzx).trans rfl
        have y1 : wr.frozen? ⟨BX + 1, 1, none⟩ = false := frozen_of_row wr _ _ _ _ hzx
        have z2 : wr.cell? ⟨BX + 1, 2, none⟩ = some (.int .i64 0) := (cell_of_row wr _ 2 _ _ _ hzx).trans rfl
        have y2 : wr.frozen? ⟨BX + 1, 2, none⟩ = false := frozen_of_row wr _ _ _ _ hzx
        have z3 : wr.cell? ⟨BX + 1, 3, none⟩ = some (.int .u64 0) := (cell_of_row wr _ 3 _ _ _ hzx).trans rfl
        have y3 : wr.frozen? ⟨BX + 1, 3, none⟩ = false := frozen_of_row wr _ _ _ _ hzx
        have z4 : wr.cell? ⟨BX + 1, 4, none⟩ = some (.int .i64 0) := (cell_of_row wr _ 4 _ _ _ hzx).trans rfl
        have y4 : wr.frozen? ⟨BX + 1, 4, none⟩ = false := frozen_of_row wr _ _ _ _ hzx
        have z5 : wr.cell? ⟨BX + 1, 5, none⟩ = some (.int .i64 0) := (cell_of_row wr _ 5 _ _ _ hzx).trans rfl
        have y5 : wr.frozen? ⟨BX + 1, 5, none⟩ = false := frozen_of_row wr _ _ _ _ hzx
        have z6 : wr.cell? ⟨BX + 1, 6, none⟩ = some (.bool false) := (cell_of_row wr _ 6 _ _ _ hzx).trans rfl
        have y6 : wr.frozen? ⟨BX + 1, 6, none⟩ = false := frozen_of_row wr _ _ _ _ hzx
        have hput := put7_heap hzx (.slice A3 a3 c3) (.slice none 0 0) (.int .i64 0) (.int .u64 0) (.int .i64 0) (.int .i64 E.count) (.bool true)
        have hpf := put7_fr wr (BX + 1) (.slice A3 a3 c3) (.slice none 0 0) (.int .i64 0) (.int .u64 0) (.int .i64 0) (.int .i64 E.count) (.bool true)
        have hox := own_fr HO.out hpf (fun j hj h => by have h' := HBlk.out _ hj; omega)
        rw [← HAll.out] at hox
        have HLt := Lib.hid (own_lt hox)
        have HRd := Lib.hid (RdV.of_own (l := secs n (settle (crashN keep torn len) 0 E.wait E.lasts)) rowS (by rw [secs_length]; exact hox))
        have HPut := Lib.hid hput
        have HPF := Lib.hid ((HF2.out.trans HF.out (fun i hi => .inr (by have h' := HBlk.out _ hi; have := HBX.out; omega))).trans hpf (fun i hi => .inr (by have := HBX.out; omega)))
        unfold put7 at HRd HPut HPF HLt
        clear hzx hput hpf hox
        go_wp2_with fail
        refine bodyPost_ret (results_cell_row rfl _ _ (BX + 1) 48 _ (0, 0) _ rfl HPut.out Try.underlying48 rfl (by kernel_rfl)) rfl ?_
        refine ⟨.slice A3 a3 c3, rfl, ⟨?_, ⟨none, 0, rfl, fun i x hx => by simp [failD] at hx, Nat.le_refl _, Nat.zero_le _⟩⟩, HPF.out, fun b hb => ⟨by have h1 := HBlk.out b hb; have h2 := HBX.out; omega, HLt.out b hb⟩⟩
        show RdV _ 1 strC (.slice A3 a3 c3) (secs E.n (settle (crashN keep torn E.wait.length) 0 E.wait E.lasts))
        rw [HW.out.nn, ← HLen.out]
        exact HRd.out
    · obtain rfl : k = len := by omega
      have d1 : decide ((k : Int) < (k : Int)) = false := decide_eq_false (by omega)
      have d1' : decide (k < k) = false := decide_eq_false (by omega)
      have hall : settle (crashN keep torn k) 0 E.wait E.lasts = settle (crashN keep torn k) 0 (E.wait.take k) E.lasts := by
        rw [HLen.out, List.take_length]
      have HAll := Lib.hid hall
      clear hall
      have hzx := HF.out.heap HZ2.out (fun h => by have h' : BX + 2 ≤ BX + 1 := HBlk.out _ h; omega)
      rw [HZrow.out] at hzx
      have z0 : wr.cell? ⟨BX + 1, 0, none⟩ = some (.slice none 0 0) := (cell_of_row wr _ 0 _ _ _ hzx).trans rfl
      have y0 : wr.frozen? ⟨BX + 1, 0, none⟩ = false := frozen_of_row wr _ _ _ _ hzx
      have z1 : wr.cell? ⟨BX + 1, 1, none⟩ = some (.slice none 0 0) := (cell_of_row wr _ 1 _ _ _ hzx).trans rfl
      have y1 : wr.frozen? ⟨BX + 1, 1, none⟩ = false := frozen_of_row wr _ _ _ _ hzx
      have z2 : wr.cell? ⟨BX + 1, 2, none⟩ = some (.int .i64 0) := (cell_of_row wr _ 2 _ _ _ hzx).trans rfl
      have y2 : wr.frozen? ⟨BX + 1, 2, none⟩ = false := frozen_of_row wr _ _ _ _ hzx
      have z3 : wr.cell? ⟨BX + 1, 3, none⟩ = some (.int .u64 0) := (cell_of_row wr _ 3 _ _ _ hzx).trans rfl
      have y3 : wr.frozen? ⟨BX + 1, 3, none⟩ = false := frozen_of_row wr _ _ _ _ hzx
      have z4 : wr.cell? ⟨BX + 1, 4, none⟩ = some (.int .i64 0) := (cell_of_row wr _ 4 _ _ _ hzx).trans rfl
      have y4 : wr.frozen? ⟨BX + 1, 4, none⟩ = false := frozen_of_row wr _ _ _ _ hzx
      have z5 : wr.cell? ⟨BX + 1, 5, none⟩ = some (.int .i64 0) := (cell_of_row wr _ 5 _ _ _ hzx).trans rfl
      have y5 : wr.frozen? ⟨BX + 1, 5, none⟩ = false := frozen_of_row wr _ _ _ _ hzx
      have z6 : wr.cell? ⟨BX + 1, 6, none⟩ = some (.bool false) := (cell_of_row wr _ 6 _ _ _ hzx).trans rfl
      have y6 : wr.frozen? ⟨BX + 1, 6, none⟩ = false := frozen_of_row wr _ _ _ _ hzx
      have hput := put7_heap hzx (.slice A3 a3 c3) (.slice none 0 0) (.int .i64 0) (.int .u64 0) (.int .i64 0) (.int .i64 E.count) (.bool true)
      have hpf := put7_fr wr (BX + 1) (.slice A3 a3 c3) (.slice none 0 0) (.int .i64 0) (.int .u64 0) (.int .i64 0) (.int .i64 E.count) (.bool true)
      have hox := own_fr HO.out hpf (fun j hj h => by have h' := HBlk.out _ hj; omega)
      rw [← HAll.out] at hox
      have HLt := Lib.hid (own_lt hox)
      have HRd := Lib.hid (RdV.of_own (l := secs n (settle (crashN keep torn k) 0 E.wait E.lasts)) rowS (by rw [secs_length]; exact hox))
      have HPut := Lib.hid hput
      have HPF := Lib.hid ((HF2.out.trans HF.out (fun i hi => .inr (by have h' := HBlk.out _ hi; have := HBX.out; omega))).trans hpf (fun i hi => .inr (by have := HBX.out; omega)))
      unfold put7 at HRd HPut HPF HLt
      clear hzx hput hpf hox
      go_wp2_with fail
      refine bodyPost_ret (results_cell_row rfl _ _ (BX + 1) 48 _ (0, 0) _ rfl HPut.out Try.underlying48 rfl (by kernel_rfl)) rfl ?_
      refine ⟨.slice A3 a3 c3, rfl, ⟨?_, ⟨none, 0, rfl, fun i x hx => by simp [failD] at hx, Nat.le_refl _, Nat.zero_le _⟩⟩, HPF.out, fun b hb => ⟨by have h1 := HBlk.out b hb; have h2 := HBX.out; omega, HLt.out b hb⟩⟩
      show RdV _ 1 strC (.slice A3 a3 c3) (secs E.n (settle (crashN keep torn E.wait.length) 0 E.wait E.lasts))
      rw [HW.out.nn, ← HLen.out]
      exact HRd.out
end Go.Proofs.Ythlngbdbmnnnaaa
