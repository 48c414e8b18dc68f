/- Blocks: load, text, Product. -/
import Derived.Test.YtcchhfkmhbjdmaaPg1
import Derived.Test.YtcchhfkmhbjdmaaJ3
set_option linter.unusedVariables false
set_option linter.unusedSimpArgs false
set_option pp.deepTerms true
set_option pp.maxSteps 100000
namespace Go.Proofs.Ytcchhfkmhbjdmaa
open Go.RowKit
def ldF (l : List UInt8) : Nat → W2
  | 0 => W2.zero
  | i + 1 => if i < 8 then ⟨((ldF l i).a <<< 8) ||| (l.getD i 0).toUInt64, (ldF l i).b⟩ else ⟨(ldF l i).a, ((ldF l i).b <<< 8) ||| (l.getD i 0).toUInt64⟩
def loadL (l : List UInt8) : W2 := ldF l 16
theorem u8_64 (x : UInt8) : (x.toNat : Int) = ((x.toUInt64).toNat : Int) := by simp
theorem idx8 (i : Nat) (hi : i < 16) : ∃ q r : Nat, (i : Int).tdiv 8 = (q : Int) ∧ (i : Int) / 8 = (q : Int) ∧ IntKind.i64.wrap (q : Int) = (q : Int) ∧ (q : Int) < 2 ∧ (i : Int).tmod 8 = (r : Int) ∧ (i : Int) % 8 = (r : Int) ∧ IntKind.i64.wrap (r : Int) = (r : Int) ∧ r < 8 ∧ q = i / 8 ∧ r = i % 8 := by
  refine ⟨i / 8, i % 8, ?_, by omega, IntWalk.i64_in _ (by omega), by omega, ?_, by omega, IntWalk.i64_in _ (by omega), by omega, rfl, rfl⟩
  · rw [Int.tdiv_eq_ediv_of_nonneg (by omega)]; omega
  · rw [Int.tmod_eq_emod_of_nonneg (by omega)]; omega
/-- The word that i touches, and what it becomes. -/
theorem ld_word (l : List UInt8) (i q : Nat) (hi : i < 16) (hq : q = i / 8) : ∃ cw z : UInt64, (vals (ldF l i))[q]? = some (.int .u64 (cw.toNat : Int)) ∧ z = (cw <<< 8) ||| (l.getD i 0).toUInt64 ∧ (vals (ldF l i)).setIfInBounds q (.int .u64 (z.toNat : Int)) = vals (ldF l (i + 1)) := by
  by_cases h : i < 8
  · have hq0 : q = 0 := by omega
    subst hq0
    refine ⟨(ldF l i).a, _, rfl, rfl, ?_⟩
    rw [ldF, if_pos h]; rfl
  · have hq1 : q = 1 := by omega
    subst hq1
    refine ⟨(ldF l i).b, _, rfl, rfl, ?_⟩
    rw [ldF, if_neg h]; rfl
theorem two_alloc (w : World) (a b : Array Value) (t u : TypeId) :
    let w2 := (w.alloc (.cells a t)).alloc (.cells b u)
    w2.heap[w.heap.size]? = some (.cells a t (0, 0)) ∧ w2.heap[w.heap.size + 1]? = some (.cells b u (0, 0)) ∧ Fr (fun _ => False) w w2 := by
  intro w2
  have hA := heap_alloc_new w (.cells a t)
  have hB := heap_alloc_new (w.alloc (.cells a t)) (.cells b u)
  have fA := (Fr.refl (fun _ => False) (w.alloc (.cells a t))).alloc (.cells b u)
  simp only [World.size_alloc] at hB
  exact ⟨fA.heap hA id, hB, ((Fr.refl _ _).alloc _).alloc _⟩
set_option maxRecDepth 20000 in
set_option maxHeartbeats 2000000 in
theorem load_calls (l : List UInt8) (hl : l.length = 16) (w : World) : Calls Try.prog 89 #[.string (str l)] w fun e w' => e = .returned (.agg (vals (loadL l))) ∧ Fr (fun _ => False) w w' := by
  obtain ⟨h0, h1, hf⟩ := two_alloc w (vals W2.zero) (vals W2.zero) 127 127
  obtain ⟨S, hS⟩ : ∃ S, S = str l := ⟨_, rfl⟩
  have hsz : S.size = 16 := by rw [hS, str_size, hl]
  have HS := Lib.hid hS
  obtain ⟨R, hR⟩ : ∃ X, X = w.heap.size := ⟨_, rfl⟩
  obtain ⟨B, hB⟩ : ∃ X, X = w.heap.size + 1 := ⟨_, rfl⟩
  have HNE := Lib.hid (show w.heap.size ≤ R ∧ w.heap.size ≤ B ∧ R ≠ B by omega)
  rw [← hR] at h0
  rw [← hB] at h1
  rw [← hS]
  go_enter Try.func89, Try.ntmps89
  go_wp2
  change Code.wp _ _ _ _ ((w.alloc (.cells (vals W2.zero) 127)).alloc (.cells (vals W2.zero) 127))
  rw [← hB, ← hR]
  generalize (w.alloc (.cells (vals W2.zero) 127)).alloc (.cells (vals W2.zero) 127) = w2 at h0 h1 hf ⊢
  have H0 := Lib.hid h0
  have H1 := Lib.hid h1
  have HF := Lib.hid hf
  clear h0 h1 hf hR hB hS hl
  go_loopw [5] (fun v5 wr => ∃ i : Nat, i ≤ 16 ∧ v5 = .int .i64 i ∧ wr.heap[B]? = some (.cells (vals (ldF l i)) 127 (0, 0)) ∧ wr.heap[R]? = some (.cells (vals W2.zero) 127 (0, 0)) ∧ Fr (fun _ => False) w wr) (fun v _ => 16 - (intOf v).toNat)
  case atStart => exact ⟨0, Nat.zero_le _, rfl, H1.out, H0.out, HF.out⟩
  case round =>
    obtain ⟨i, hi, rfl, hb, hr, hf⟩ := hrel
    have HBr := Lib.hid hb
    have HRr := Lib.hid hr
    have HFr := Lib.hid hf
    clear hb hr hf H0 H1 HF
    by_cases hlt : i < 16
    · have hx16 : (i : Int) < 16 := by omega
      obtain ⟨q, r, hq1, hq2, hq3, hq4, hr1, hr2, hr3, hr8, hqd, hrd⟩ := idx8 i hlt
      obtain ⟨cw, z, hcw, hz, hset⟩ := ld_word l i q hlt hqd
      obtain ⟨x, hx⟩ : ∃ x, x = l.getD i 0 := ⟨_, rfl⟩
      rw [← hx] at hz
      have hxs : ∀ h, S[i]'h = x := by
        intro h
        have hk := HS.out
        subst hk
        rw [str_at32, hx]
      obtain ⟨c8, hc8⟩ : ∃ z, z = cw <<< 8 := ⟨_, rfl⟩
      have es1 : ((cw.toNat : Int) * 256) % 18446744073709551616 = (c8.toNat : Int) := by rw [hc8]; exact shl_u64 cw 8 8 rfl (by omega)
      have es2 : IntKind.u64.wrap ((cw.toNat : Int) * 256) = (c8.toNat : Int) := by rw [wrap_u64', es1]
      have eo : bits .or .u64 (c8.toNat : Int) (x.toNat : Int) = (z.toNat : Int) := by rw [hz, ← hc8, u8_64]; exact or_u64 _ _
      have c1 : wr.drew.cell? ⟨B, q, none⟩ = some (.int .u64 (cw.toNat : Int)) := (cell_of_row wr.drew B q _ _ _ HBr.out).trans hcw
      have fz : wr.drew.frozen? ⟨B, q, none⟩ = false := frozen_of_row wr.drew _ _ _ _ HBr.out
      have HB2 := Lib.hid (show (wr.drew.setCell ⟨B, q, none⟩ (.int .u64 (z.toNat : Int))).heap[B]? = some (.cells (vals (ldF l (i + 1))) 127 (0, 0)) by rw [← hset]; exact heap_setCell_same wr.drew B q _ _ _ HBr.out)
      have hfs : Fr (fun j => j = B) wr (wr.drew.setCell ⟨B, q, none⟩ (.int .u64 (z.toNat : Int))) := (Fr.refl _ _).drew.setCell _ _ (.inl rfl)
      have HR2 := Lib.hid (hfs.heap HRr.out HNE.out.2.2)
      have HF2 := Lib.hid (HFr.out.drew.setCell ⟨B, q, none⟩ (.int .u64 (z.toNat : Int)) (.inr HNE.out.2.1))
      have bc := cw.toNat_lt
      have bz := z.toNat_lt
      have bx := x.toNat_lt
      have b8 := c8.toNat_lt
      clear hx hz hc8 hset hcw hfs hqd hrd
      go_wp2
      refine wp_region_still_tail 13 (by kernel_rfl) (by kernel_rfl) ?_
      simp only [List.take_succ_cons, List.take_zero, List.drop_succ_cons, List.drop_zero]
      change wpStill _ _ wr.drew (fun a' => wpList _ _ _ _ a' wr.drew) _ _
      repeat still_step
      refine wpStill_nil ?_
      go_wp2
      go_roundw
      case rel => exact ⟨i + 1, by omega, by go_num, HB2.out, HR2.out, HF2.out⟩
      case measure => simp [intOf]; omega
    · have h16 : i = 16 := by omega
      subst h16
      obtain ⟨s, hs⟩ : ∃ s, s = ldF l 16 := ⟨_, rfl⟩
      have HLD := Lib.hid (show s = loadL l from hs)
      rw [← hs] at HBr
      have HBd := Lib.hid (show wr.heap[B]? = some (.cells #[.int .u64 (s.a.toNat : Int), .int .u64 (s.b.toNat : Int)] 127 (0, 0)) from HBr.out)
      have HRd := Lib.hid (show wr.heap[R]? = some (.cells #[.int .u64 0, .int .u64 0] 127 (0, 0)) from HRr.out)
      have HR2 := Lib.hid (show (wr.setRow R #[.int .u64 (s.a.toNat : Int), .int .u64 (s.b.toNat : Int)]).heap[R]? = some (.cells #[.int .u64 (s.a.toNat : Int), .int .u64 (s.b.toNat : Int)] 127 (0, 0)) from setRow_heap HRd.out)
      have HF2 := Lib.hid (HFr.out.setRow R #[.int .u64 (s.a.toNat : Int), .int .u64 (s.b.toNat : Int)] (.inr HNE.out.1))
      clear hs
      go_wp2_with (first
        | (with_reducible refine wpList_load127 (op := ⟨some 22, _, _, _, _, _⟩) rfl _ rfl B rfl _ _ HBd.out ?_)
        | (with_reducible refine wpList_store_whole (op := ⟨none, .store 127 _ _, _, _, _, _⟩) rfl 127 _ _ rfl R 127 #[.int .u64 0, .int .u64 0] #[.int .u64 (s.a.toNat : Int), .int .u64 (s.b.toNat : Int)] rfl rfl HRd.out rfl (by kernel_rfl) (by simp [Value.oneCell']) ?_))
      refine bodyPost_ret (results_cell_row rfl _ _ R 127 #[.int .u64 (s.a.toNat : Int), .int .u64 (s.b.toNat : Int)] (0, 0) _ rfl HR2.out Try.underlying127 rfl (by kernel_rfl)) rfl ?_
      exact ⟨by first | (rw [← HLD.out]; done) | (rw [← HLD.out]; rfl), HF2.out⟩
def txF (w : W2) (i : Nat) : UInt8 := UInt8.ofNat ((if i < 8 then w.a else w.b).toNat / 2 ^ (56 - 8 * (i % 8)))
def textL (w : W2) : List UInt8 := full (txF w) 16
theorem tx_word (x : W2) (i q r : Nat) (hi : i < 16) (hq : q = i / 8) (hr : r = i % 8) : ∃ cw : UInt64, (vals x)[q]? = some (.int .u64 (cw.toNat : Int)) ∧ ((cw.toNat : Int) / 2 ^ (56 - 8 * r)) % 256 = ((txF x i).toNat : Int) := by
  refine ⟨if i < 8 then x.a else x.b, ?_, ?_⟩
  · by_cases h : i < 8
    · rw [if_pos h, hq, show i / 8 = 0 by omega]; rfl
    · rw [if_neg h, hq, show i / 8 = 1 by omega]; rfl
  · unfold txF
    rw [hr]
    simp
set_option maxRecDepth 20000 in
set_option maxHeartbeats 2000000 in
theorem text_calls (x : W2) (w : World) : Calls Try.prog 91 #[.agg (vals x)] w fun e w' => e = .returned (.string (str (textL x))) ∧ Fr (fun _ => False) w w' := by
  obtain ⟨h0, h1, hf⟩ := two_alloc w (vals x) (bcells (List.replicate 16 0)).toArray 127 99
  obtain ⟨X, hX⟩ : ∃ X, X = w.heap.size := ⟨_, rfl⟩
  obtain ⟨B, hB⟩ : ∃ X, X = w.heap.size + 1 := ⟨_, rfl⟩
  have HNE := Lib.hid (show w.heap.size ≤ X ∧ w.heap.size ≤ B ∧ X ≠ B by omega)
  rw [← hX] at h0
  rw [← hB] at h1
  go_enter Try.func91, Try.ntmps91
  unfold vals
  go_wp2
  change Code.wp _ _ _ _ ((w.alloc (.cells (vals x) 127)).alloc (.cells (bcells (List.replicate 16 0)).toArray 99))
  rw [← hB, ← hX]
  generalize (w.alloc (.cells (vals x) 127)).alloc (.cells (bcells (List.replicate 16 0)).toArray 99) = w2 at h0 h1 hf ⊢
  have H0 := Lib.hid h0
  have H1 := Lib.hid h1
  have HF := Lib.hid hf
  clear h0 h1 hf hX hB
  go_loopw [5] (fun v5 wr => ∃ i : Nat, i ≤ 16 ∧ v5 = .int .i64 i ∧ wr.heap[X]? = some (.cells (vals x) 127 (0, 0)) ∧ wr.heap[B]? = some (.cells (bcells (upd (txF x) (List.replicate 16 0) i)).toArray 99 (0, 0)) ∧ Fr (fun _ => False) w wr) (fun v _ => 16 - (intOf v).toNat)
  case atStart => exact ⟨0, Nat.zero_le _, rfl, H0.out, by rw [upd_zero]; exact H1.out, HF.out⟩
  case round =>
    obtain ⟨i, hi, rfl, hx, hb, hf⟩ := hrel
    have HXr := Lib.hid hx
    have HBr := Lib.hid hb
    have HFr := Lib.hid hf
    clear hx hb hf H0 H1 HF
    by_cases hlt : i < 16
    · have hx16 : (i : Int) < 16 := by omega
      obtain ⟨q, r, hq1, hq2, hq3, hq4, hr1, hr2, hr3, hr8, hqd, hrd⟩ := idx8 i hlt
      obtain ⟨cw, hcw, hby⟩ := tx_word x i q r hlt hqd hrd
      obtain ⟨z, hz⟩ : ∃ z, z = txF x i := ⟨_, rfl⟩
      obtain ⟨r8, hr8d⟩ : ∃ k, k = 8 * r := ⟨_, rfl⟩
      obtain ⟨m, hm⟩ : ∃ m, m = 56 - 8 * r := ⟨_, rfl⟩
      have hw1 : IntKind.i64.wrap (8 * (r : Int)) = (r8 : Int) := by rw [IntWalk.i64_in _ (by omega)]; omega
      have hw2 : IntKind.i64.wrap (56 - (r8 : Int)) = (m : Int) := by rw [IntWalk.i64_in _ (by omega)]; omega
      have hm0 : (0 : Int) ≤ (m : Int) := by omega
      have hm1 : m ≤ 56 := by omega
      have hm2 : (m : Int) ≤ 64 := by omega
      rw [← hm, ← hz] at hby
      have hbw : IntKind.u8.wrap ((cw.toNat : Int) / 2 ^ m) = (z.toNat : Int) := by rw [IntKind.wrap_u8', hby]
      have c1 : wr.cell? ⟨X, q, none⟩ = some (.int .u64 (cw.toNat : Int)) := (cell_of_row wr X q _ _ _ HXr.out).trans hcw
      have cB : wr.cell? ⟨B, i, none⟩ = some (.int .u8 ((0 : UInt8).toNat : Int)) := bcells_cell HBr.out i 0 (by rw [upd_get _ _ _ _ (by simp; omega), if_neg (by omega), List.getD_eq_getElem?_getD, List.getElem?_replicate, if_pos hlt]; rfl)
      have fB : wr.frozen? ⟨B, i, none⟩ = false := frozen_of_row wr _ _ _ _ HBr.out
      have HB2 := Lib.hid (show (wr.setCell ⟨B, i, none⟩ (.int .u8 (z.toNat : Int))).heap[B]? = some (.cells (bcells (upd (txF x) (List.replicate 16 0) (i + 1))).toArray 99 (0, 0)) by
        rw [← upd_set _ _ _ (by simp; omega), ← hz]; exact bcells_set HBr.out i z)
      have hfs : Fr (fun j => j = B) wr (wr.setCell ⟨B, i, none⟩ (.int .u8 (z.toNat : Int))) := (Fr.refl _ _).setCell _ _ (.inl rfl)
      have HX2 := Lib.hid (hfs.heap HXr.out HNE.out.2.2)
      have HF2 := Lib.hid (HFr.out.setCell ⟨B, i, none⟩ (.int .u8 (z.toNat : Int)) (.inr HNE.out.2.1))
      have bc := cw.toNat_lt
      have bz := z.toNat_lt
      clear hz hm hr8d hcw hfs hqd hrd
      go_wp2
      go_roundw
      case rel => exact ⟨i + 1, by omega, by go_num, HX2.out, HB2.out, HF2.out⟩
      case measure => simp [intOf]; omega
    · have h16 : i = 16 := by omega
      subst h16
      have HBz := Lib.hid (show wr.heap[B]? = some (.cells (bcells (textL x)).toArray 99 (0, 0)) by have := HBr.out; rwa [upd_all _ _ 16 (by simp)] at this)
      have hcv := run_convert_str (P := Try.prog) wr 27 5 Try.underlying27 Try.underlying5 B 0 16 16 (textL x) (full_length _ _) (fun j v hj => by
        rw [Nat.zero_add, cell_of_row wr B j _ _ _ HBz.out]; simpa using hj) 9 Try.underlying9
      go_wp2
      go_ret
      exact ⟨rfl, HFr.out⟩
end Go.Proofs.Ytcchhfkmhbjdmaa
