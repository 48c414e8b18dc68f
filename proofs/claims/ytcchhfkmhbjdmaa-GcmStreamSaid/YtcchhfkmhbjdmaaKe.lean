/- Boxes. -/
import Derived.Test.YtcchhfkmhbjdmaaKd
set_option linter.unusedVariables false
set_option linter.unusedSimpArgs false
set_option pp.deepTerms true
set_option pp.maxSteps 100000
namespace Go.Proofs.Ytcchhfkmhbjdmaa
open Go.RowKit
theorem zero89 : Try.zeroCells89 = (bcells (List.replicate 256 0)).toArray := by kernel_rfl
theorem zero89s : Try.zeroCells89.setIfInBounds 0 (.int .u8 99) = (bcells (boxN 0).2.2).toArray := by kernel_rfl
theorem sh1_int (q : UInt8) : bits .xor .u8 (q.toNat : Int) ((q.toNat : Int) * 2 % 256) = ((q ^^^ (q <<< 1)).toNat : Int) := int_all (fun n => bits .xor .u8 n (n * 2 % 256)) (fun q => q ^^^ (q <<< 1)) (by decide +kernel) q
theorem sh2_int (q : UInt8) : bits .xor .u8 (q.toNat : Int) ((q.toNat : Int) * 4 % 256) = ((q ^^^ (q <<< 2)).toNat : Int) := int_all (fun n => bits .xor .u8 n (n * 4 % 256)) (fun q => q ^^^ (q <<< 2)) (by decide +kernel) q
theorem sh4_int (q : UInt8) : bits .xor .u8 (q.toNat : Int) ((q.toNat : Int) * 16 % 256) = ((q ^^^ (q <<< 4)).toNat : Int) := int_all (fun n => bits .xor .u8 n (n * 16 % 256)) (fun q => q ^^^ (q <<< 4)) (by decide +kernel) q
theorem sh9_int (q : UInt8) : bits .xor .u8 (q.toNat : Int) (9 * ((q.toNat : Int) / 128)) = ((q ^^^ ((0x09 : UInt8) * (q >>> 7))).toNat : Int) := int_all (fun n => bits .xor .u8 n (9 * (n / 128))) (fun q => q ^^^ ((0x09 : UInt8) * (q >>> 7))) (by decide +kernel) q
theorem x63_int (q : UInt8) : bits .xor .u8 (q.toNat : Int) 99 = ((q ^^^ 0x63).toNat : Int) := int_all (fun n => bits .xor .u8 n 99) (fun q => q ^^^ 0x63) (by decide +kernel) q
theorem bcells_cell {w : World} {B : Nat} {l : List UInt8} {t : TypeId} {fr : Nat × Nat} (h : w.heap[B]? = some (.cells (bcells l).toArray t fr)) (k : Nat) (x : UInt8) (hx : l[k]? = some x) : w.cell? ⟨B, k, none⟩ = some (.int .u8 (x.toNat : Int)) := by
  rw [cell_of_row w B k _ _ _ h]
  simp [bcells, hx]
theorem bcells_set {w : World} {B : Nat} {l : List UInt8} {t : TypeId} (h : w.heap[B]? = some (.cells (bcells l).toArray t (0, 0))) (k : Nat) (x : UInt8) : (w.setCell ⟨B, k, none⟩ (.int .u8 (x.toNat : Int))).heap[B]? = some (.cells (bcells (l.set k x)).toArray t (0, 0)) := by
  rw [heap_setCell_same w B k _ _ _ h]
  simp [bcells, List.map_set]
section
variable {P : Program} {ops : Array Oper} {rest : List Oper} {op : Oper} {a : Act} {w : World} {Q : Exit → Act → World → Prop}
theorem wpList_load_bytes (hgd : op.guard = none) (ty : TypeId) (x : Operand) (ho : op.op = .load ty x) (B : Nat) (hx : a.eval x = .pointer (some ⟨B, 0, none⟩)) (t : TypeId) (l : List UInt8) (fr : Nat × Nat) (d : TypeDesc)
    (hg : w.heap[B]? = some (.cells (bcells l).toArray t fr)) (hu : P.underlying ty = some d) (hd : (match d with | .struct _ | .array _ _ => true | _ => false) = true) (n : Nat) (hi : (P.info? ty).map (·.size) = some n) (hn : l.length = n)
    (h : wpList P ops Q rest (a.put op.dst (.agg (bcells l).toArray)) w) : wpList P ops Q (op :: rest) a w :=
  wpList_load_row hgd ty x ho B hx t _ fr d hg hu hd (by rw [hi, ← hn]; simp [bcells]) h
theorem wpList_store_bytes (hgd : op.guard = none) (ty : TypeId) (x y : Operand) (ho : op.op = .store ty x y) (B : Nat) (hx : a.eval x = .pointer (some ⟨B, 0, none⟩)) (t : TypeId) (l0 l : List UInt8) (hy : a.eval y = .agg (bcells l).toArray)
    (hg : w.heap[B]? = some (.cells (bcells l0).toArray t (0, 0))) (n : Nat) (hi : (P.info? ty).map (·.size) = some n) (hn0 : l0.length = n) (hn : l.length = n)
    (h : wpList P ops Q rest (a.put op.dst undef) (w.setRow B (bcells l).toArray)) : wpList P ops Q (op :: rest) a w :=
  wpList_store_whole hgd ty x y ho B t _ _ hx hy hg (by simp [bcells]; omega) (by rw [hi, ← hn]; simp [bcells]) (by simpa using bcells_one l) h
end
theorem setRow_heap {w : World} {B : Nat} {cs0 cs : Array Value} {t : TypeId} {fr : Nat × Nat} (h : w.heap[B]? = some (.cells cs0 t fr)) : (w.setRow B cs).heap[B]? = some (.cells cs t fr) := by
  have hlt := (Array.getElem?_eq_some_iff.1 h).1
  have he := (Array.getElem?_eq_some_iff.1 h).2
  show (w.heap.modify B _)[B]? = _
  simp [Array.getElem?_modify, h]
set_option maxRecDepth 20000 in
set_option maxHeartbeats 4000000 in
theorem boxes_calls (w : World) : Calls Try.prog 69 #[] w fun e w' => e = .returned (.agg (bcells boxT).toArray) ∧ Fr (fun _ => False) w w' := by
  go_enter Try.func69, Try.ntmps69
  go_wp2
  have hf : Fr (fun _ => False) w ((w.alloc (.cells Try.zeroCells89 89)).alloc (.cells (Try.zeroCells89.setIfInBounds 0 (.int .u8 99)) 89)) := ((Fr.refl _ _).alloc _).alloc _
  have hR : ((w.alloc (.cells Try.zeroCells89 89)).alloc (.cells (Try.zeroCells89.setIfInBounds 0 (.int .u8 99)) 89)).heap[w.heap.size]? = some (.cells Try.zeroCells89 89 (0, 0)) := ((Fr.refl (fun _ => False) _).alloc _).heap (heap_alloc_new w _) id
  have hO : ((w.alloc (.cells Try.zeroCells89 89)).alloc (.cells (Try.zeroCells89.setIfInBounds 0 (.int .u8 99)) 89)).heap[w.heap.size + 1]? = some (.cells (bcells (boxN 0).2.2).toArray 89 (0, 0)) := by
    have := heap_alloc_new (w.alloc (.cells Try.zeroCells89 89)) (.cells (Try.zeroCells89.setIfInBounds 0 (.int .u8 99)) 89)
    rw [World.size_alloc] at this
    rw [this, zero89s]
  generalize (w.alloc (.cells Try.zeroCells89 89)).alloc (.cells (Try.zeroCells89.setIfInBounds 0 (.int .u8 99)) 89) = w1 at hf hR hO ⊢
  have HF := Lib.hid hf
  have HR := Lib.hid hR
  have HO := Lib.hid hO
  clear hf hR hO
  obtain ⟨R, hRd⟩ : ∃ R, R = w.heap.size := ⟨_, rfl⟩
  rw [← hRd] at HR HO ⊢
  have HRd := Lib.hid hRd
  clear hRd
  go_loopw [2, 3, 5] (fun vp vq vi wr => ∃ k : Nat, k ≤ 255 ∧ vi = .int .i64 k ∧ vp = .int .u8 ((boxN k).1.toNat : Int) ∧ vq = .int .u8 ((boxN k).2.1.toNat : Int) ∧ wr.heap[R]? = some (.cells Try.zeroCells89 89 (0, 0)) ∧ wr.heap[R + 1]? = some (.cells (bcells (boxN k).2.2).toArray 89 (0, 0)) ∧ Fr (fun _ => False) w wr) (fun _ _ vi _ => 255 - (intOf vi).toNat)
  case atStart => exact ⟨0, Nat.zero_le _, rfl, rfl, rfl, HR.out, HO.out, HF.out⟩
  case round =>
    obtain ⟨k, hk, rfl, rfl, rfl, hR, hO, hf⟩ := hrel
    have HRr := Lib.hid hR
    have HOr := Lib.hid hO
    have HFr := Lib.hid hf
    clear hR hO hf HR HO HF
    by_cases hlt : k < 255
    · have hN : boxN (k + 1) = (boxP (boxN k).1, boxQ (boxN k).2.1, (boxN k).2.2.set (boxP (boxN k).1).toNat (boxA (boxQ (boxN k).2.1))) := rfl
      have HN := Lib.hid hN
      have HL := Lib.hid (boxN_length k)
      clear hN
      generalize boxN k = b at HN HL HOr ⊢
      obtain ⟨p, q, l⟩ := b
      dsimp only at HN HL HOr ⊢
      have hp := xor_u8 p (tw p)
      obtain ⟨p1, hp1⟩ : ∃ p1, p1 = p ^^^ tw p := ⟨_, rfl⟩
      have h1 := sh1_int q
      obtain ⟨q1, hq1⟩ : ∃ q1, q1 = q ^^^ (q <<< 1) := ⟨_, rfl⟩
      have h2 := sh2_int q1
      obtain ⟨q2, hq2⟩ : ∃ q2, q2 = q1 ^^^ (q1 <<< 2) := ⟨_, rfl⟩
      have h3 := sh4_int q2
      obtain ⟨q3, hq3⟩ : ∃ q3, q3 = q2 ^^^ (q2 <<< 4) := ⟨_, rfl⟩
      have h4 := sh9_int q3
      obtain ⟨q4, hq4⟩ : ∃ q4, q4 = q3 ^^^ ((0x09 : UInt8) * (q3 >>> 7)) := ⟨_, rfl⟩
      rw [← hp1] at hp
      rw [← hq1] at h1
      rw [← hq2] at h2
      rw [← hq3] at h3
      rw [← hq4] at h4
      have HB := Lib.hid (show boxP p = p1 ∧ boxQ q = q4 ∧ boxA q4 = q4 ^^^ rl q4 1 ^^^ rl q4 2 ^^^ rl q4 3 ^^^ rl q4 4 ^^^ 0x63 from ⟨hp1.symm, by rw [hq4, hq3, hq2, hq1]; rfl, rfl⟩)
      clear hp1 hq1 hq2 hq3 hq4
      have hlen : p1.toNat < l.length := by have := HL.out; have := p1.toNat_lt; omega
      have hc := bcells_cell HOr.out p1.toNat l[p1.toNat] (by simp [hlen])
      have hz : wr.frozen? ⟨R + 1, p1.toNat, none⟩ = false := frozen_of_row wr (R + 1) _ _ _ HOr.out
      have b1 := p.toNat_lt
      have b2 := q.toNat_lt
      have b3 := q1.toNat_lt
      have b4 := q2.toNat_lt
      have b5 := q3.toNat_lt
      have b6 := q4.toNat_lt
      have b7 := p1.toNat_lt
      go_wp2_with (first | (go_at_call 71; with_reducible refine (twice_calls _ _).mono ?_; rintro e w' ⟨rfl, rfl⟩) | (go_at_call 107; with_reducible refine (rot1_calls _ _).mono ?_; rintro e w' ⟨rfl, rfl⟩) | (go_at_call 107; with_reducible refine (rot2_calls _ _).mono ?_; rintro e w' ⟨rfl, rfl⟩) | (go_at_call 107; with_reducible refine (rot3_calls _ _).mono ?_; rintro e w' ⟨rfl, rfl⟩) | (go_at_call 107; with_reducible refine (rot4_calls _ _).mono ?_; rintro e w' ⟨rfl, rfl⟩))
      go_roundw
      case rel =>
        rw [xor_u8, xor_u8, xor_u8, xor_u8, x63_int, ← HB.out.2.2]
        refine ⟨k + 1, by omega, by go_num, ?_, ?_, ?_, ?_, ?_⟩
        · rw [HN.out, HB.out.1]
        · rw [HN.out, HB.out.2.1]
        · rw [heap_setCell_other _ _ _ _ (by simp)]; exact HRr.out
        · rw [HN.out, HB.out.1, HB.out.2.1]; exact bcells_set HOr.out _ _
        · exact HFr.out.setCell _ _ (.inr (by have := HRd.out; simp; omega))
      case measure => simp [intOf]; omega
    · have hk255 : k = 255 := by omega
      rw [hk255] at HOr
      rw [show (boxN 255).2.2 = boxT from boxN_all] at HOr
      have HRz := Lib.hid (show wr.heap[R]? = some (.cells (bcells (List.replicate 256 0)).toArray 89 (0, 0)) by rw [← zero89]; exact HRr.out)
      go_wp2_with (first
        | (with_reducible refine wpList_load_bytes (op := ⟨some 45, _, _, _, _, _⟩) rfl 89 _ rfl (R + 1) rfl 89 boxT _ _ HOr.out Try.underlying89 rfl 256 (by kernel_rfl) boxT_length ?_)
        | (with_reducible refine wpList_store_bytes (op := ⟨none, .store 89 _ _, _, _, _, _⟩) rfl 89 _ _ rfl R rfl 89 _ boxT rfl HRz.out 256 (by kernel_rfl) (by simp) boxT_length ?_))
      refine bodyPost_ret (results_cell_row rfl _ _ R 89 (bcells boxT).toArray (0, 0) _ rfl (setRow_heap HRz.out) Try.underlying89 rfl (by rw [show (bcells boxT).toArray.size = 256 by simp [bcells_length, boxT_length]]; kernel_rfl)) rfl ?_
      exact ⟨rfl, HFr.out.setRow _ _ (.inr (by have := HRd.out; omega))⟩
end Go.Proofs.Ytcchhfkmhbjdmaa
