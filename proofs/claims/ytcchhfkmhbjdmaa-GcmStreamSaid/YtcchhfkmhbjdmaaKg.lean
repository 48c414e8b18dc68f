/- Columns. -/
import Derived.Test.YtcchhfkmhbjdmaaKf
set_option linter.unusedVariables false
set_option linter.unusedSimpArgs false
set_option pp.deepTerms true
set_option pp.maxSteps 100000
namespace Go.Proofs.Ytcchhfkmhbjdmaa
open Go.RowKit
set_option maxRecDepth 20000 in
set_option maxHeartbeats 4000000 in
theorem mix_calls (S : Nat) (s : List UInt8) (hs : s.length = 16) (w : World) (hS : Blk w S s) :
    Calls Try.prog 76 #[.pointer (some ⟨S, 0, none⟩)] w fun e w' => e = .returned (.tuple #[]) ∧ Blk w' S (mixL s) ∧ Fr (fun i => i = S) w w' := by
  have HS := Lib.hid hS
  clear hS
  go_enter Try.func76, Try.ntmps76
  go_wp2
  go_loopw [2] (fun v wr => ∃ c : Nat, c ≤ 4 ∧ v = .int .i64 ((4 * c : Nat) : Int) ∧ Blk wr S (upd (mixF s) s (4 * c)) ∧ Fr (fun i => i = S) w wr) (fun v _ => 16 - (intOf v).toNat)
  case atStart => exact ⟨0, Nat.zero_le _, rfl, by rw [upd_zero]; exact HS.out, Fr.refl _ _⟩
  case round =>
    obtain ⟨c, hc, rfl, hB, hf⟩ := hrel
    have HB := Lib.hid hB
    have HF := Lib.hid hf
    clear hB hf
    by_cases hlt : c < 4
    · obtain ⟨i, hi⟩ : ∃ i, i = 4 * c := ⟨_, rfl⟩
      rw [← hi] at HB ⊢
      have hi16 : i + 4 ≤ 16 := by omega
      have hj1 : (i : Int) + 4 ≤ 16 := by omega
      have hj3 : decide ((i : Int) < 16) = true := decide_eq_true (by omega)
      have hj2 : (i : Int) ≤ (i : Int) + 4 := by omega
      have hsl : (Instr.sliceAt 99 (.pointer (some ⟨S, 0, none⟩)) (some (.int .i64 i)) (some (.int .i64 ((i : Int) + 4))) none).run Try.prog wr = .ok (.slice (some ⟨S, i, none⟩) 4 (16 - i)) wr := by
        have hl : Try.prog.arrayLen 99 = 16 := by kernel_rfl
        have he : Try.prog.elem 99 = 5 := by kernel_rfl
        have hu : Try.prog.underlying 99 = some (.array (Try.prog.arrayLen 99) (Try.prog.elem 99)) := by rw [hl, he]; exact Try.underlying99
        rw [run_sliceAt_array_lh wr 99 ⟨S, 0, none⟩ hu .i64 .i64 i (i + 4) (by omega) (by omega) (by rw [hl]; omega), he, hl]
        have hs1 : (sizeOf 5).run Try.prog wr = .ok 1 wr := by kernel_rfl
        rw [hs1]
        show Result.ok (slicedAt ⟨S, 0, none⟩ (i : Int).toNat ((i : Int) + 4).toNat 16 1) wr = _
        unfold slicedAt
        rw [if_neg (by omega), Addr.add_mid]
        congr 1
        congr 1
        · congr 2; omega
        · omega
      have hsa : (Instr.arrayAt 91 (.slice (some ⟨S, i, none⟩) 4 (16 - i))).run Try.prog wr = .ok (.pointer (some ⟨S, i, none⟩)) wr := by
        simp [Instr.arrayAt, run_underlying Try.underlying91]
      have hget : ∀ j, j < 4 → (upd (mixF s) s i)[i + j]? = some (s.getD (i + j) 0) := fun j hj => by rw [upd_get _ _ _ _ (by omega), if_neg (by omega)]
      obtain ⟨a0, h0⟩ : ∃ a, a = s.getD i 0 := ⟨_, rfl⟩
      obtain ⟨a1, h1⟩ : ∃ a, a = s.getD (i + 1) 0 := ⟨_, rfl⟩
      obtain ⟨a2, h2⟩ : ∃ a, a = s.getD (i + 2) 0 := ⟨_, rfl⟩
      obtain ⟨a3, h3⟩ : ∃ a, a = s.getD (i + 3) 0 := ⟨_, rfl⟩
      have c0 : wr.cell? ⟨S, i, none⟩ = some (.int .u8 (a0.toNat : Int)) := bcells_cell HB.out i a0 (by rw [h0]; exact hget 0 (by omega))
      have c1 : wr.cell? ⟨S, i + 1, none⟩ = some (.int .u8 (a1.toNat : Int)) := bcells_cell HB.out (i + 1) a1 (by rw [h1]; exact hget 1 (by omega))
      have c2 : wr.cell? ⟨S, i + 2, none⟩ = some (.int .u8 (a2.toNat : Int)) := bcells_cell HB.out (i + 2) a2 (by rw [h2]; exact hget 2 (by omega))
      have c3 : wr.cell? ⟨S, i + 3, none⟩ = some (.int .u8 (a3.toNat : Int)) := bcells_cell HB.out (i + 3) a3 (by rw [h3]; exact hget 3 (by omega))
      have H0 := Lib.hid h0
      have H1 := Lib.hid h1
      have H2 := Lib.hid h2
      have H3 := Lib.hid h3
      have HI := Lib.hid (show i = 4 * c ∧ c < 4 from ⟨hi, hlt⟩)
      clear h0 h1 h2 h3 hget hi hlt hc
      have x1 := xor_u8 a0 a1
      obtain ⟨y1, hy1⟩ : ∃ y, y = a0 ^^^ a1 := ⟨_, rfl⟩
      have x2 := xor_u8 y1 a2
      obtain ⟨y2, hy2⟩ : ∃ y, y = y1 ^^^ a2 := ⟨_, rfl⟩
      have x3 := xor_u8 y2 a3
      obtain ⟨al, hal⟩ : ∃ y, y = y2 ^^^ a3 := ⟨_, rfl⟩
      rw [← hy1] at x1
      rw [← hy2] at x2
      rw [← hal] at x3
      have HAL := Lib.hid (show al = a0 ^^^ a1 ^^^ a2 ^^^ a3 by rw [hal, hy2, hy1])
      clear hy1 hy2 hal
      go_wp2
      have hN := heap_alloc_new wr (.cells #[.int .u8 (a0.toNat : Int), .int .u8 (a1.toNat : Int), .int .u8 (a2.toNat : Int), .int .u8 (a3.toNat : Int)] 91)
      have hfN : Fr (fun _ => False) wr (wr.alloc (.cells #[.int .u8 (a0.toNat : Int), .int .u8 (a1.toNat : Int), .int .u8 (a2.toNat : Int), .int .u8 (a3.toNat : Int)] 91)) := (Fr.refl _ _).alloc _
      have HA := Lib.hid (show (wr.alloc (.cells #[.int .u8 (a0.toNat : Int), .int .u8 (a1.toNat : Int), .int .u8 (a2.toNat : Int), .int .u8 (a3.toNat : Int)] 91)).heap[wr.heap.size]? = some (.cells (bcells [a0, a1, a2, a3]).toArray 91 (0, 0)) from hN)
      have HB1 := Lib.hid (show Blk _ S (upd (mixF s) s i) from hfN.heap HB.out id)
      have HF1 := Lib.hid (HF.out.alloc (.cells #[.int .u8 (a0.toNat : Int), .int .u8 (a1.toNat : Int), .int .u8 (a2.toNat : Int), .int .u8 (a3.toNat : Int)] 91))
      have hAS : S < wr.heap.size := lt_of_heap HB.out
      have hAw : w.heap.size ≤ wr.heap.size := HF.out.size
      generalize wr.alloc (.cells #[.int .u8 (a0.toNat : Int), .int .u8 (a1.toNat : Int), .int .u8 (a2.toNat : Int), .int .u8 (a3.toNat : Int)] 91) = w1 at HA HB1 HF1 ⊢
      obtain ⟨A, hA⟩ : ∃ A, A = wr.heap.size := ⟨_, rfl⟩
      rw [← hA] at HA hAS hAw ⊢
      clear hA hN hfN HB HF c0 c1 c2 c3 x1 x2 x3 hsl hsa
      go_loopw [29] (fun v wr => ∃ k : Nat, k ≤ 4 ∧ v = .int .i64 k ∧ Blk wr S (upd (mixF s) s (i + k)) ∧ wr.heap[A]? = some (.cells (bcells [a0, a1, a2, a3]).toArray 91 (0, 0)) ∧ Fr (fun i => i = S) w wr) (fun v _ => 4 - (intOf v).toNat)
      case atStart => exact ⟨0, Nat.zero_le _, rfl, HB1.out, HA.out, HF1.out⟩
      case round =>
        obtain ⟨k, hk, rfl, hB, hA, hf⟩ := hrel
        have HB := Lib.hid hB
        have HA' := Lib.hid hA
        have HF := Lib.hid hf
        clear hB hA hf HB1 HA HF1
        by_cases hlt : k < 4
        · have hik : i + k < 16 := by omega
          obtain ⟨x, hx⟩ : ∃ x, x = s.getD (i + k) 0 := ⟨_, rfl⟩
          obtain ⟨y, hy⟩ : ∃ y, y = s.getD (i + (k + 1) % 4) 0 := ⟨_, rfl⟩
          have hcol : ∀ j, j < 4 → [a0, a1, a2, a3][j]? = some (s.getD (i + j) 0) := fun j hj => by
            have : j = 0 ∨ j = 1 ∨ j = 2 ∨ j = 3 := by omega
            rcases this with rfl | rfl | rfl | rfl
            · rw [Nat.add_zero, ← H0.out]; rfl
            · rw [← H1.out]; rfl
            · rw [← H2.out]; rfl
            · rw [← H3.out]; rfl
          have d1 : wr.cell? ⟨S, i + k, none⟩ = some (.int .u8 (x.toNat : Int)) := by
            rw [hx]
            have := HB.out.at (i + k) (by omega)
            rwa [if_neg (by omega)] at this
          have d2 : wr.cell? ⟨A, k, none⟩ = some (.int .u8 (x.toNat : Int)) := bcells_cell HA'.out k x (by rw [hx]; exact hcol k hlt)
          have d3 : wr.cell? ⟨A, (((k : Int) + 1) % 4).toNat, none⟩ = some (.int .u8 (y.toNat : Int)) := by
            rw [show (((k : Int) + 1) % 4).toNat = (k + 1) % 4 by omega]
            exact bcells_cell HA'.out _ y (by rw [hy]; exact hcol _ (by omega))
          have hz : wr.frozen? ⟨S, i + k, none⟩ = false := frozen_of_row wr _ _ _ _ HB.out
          obtain ⟨z, hzd⟩ : ∃ z, z = x ^^^ (al ^^^ tw (x ^^^ y)) := ⟨_, rfl⟩
          have hm : mixF s (i + k) = z := by
            obtain ⟨hi, hc⟩ := HI.out
            unfold mixF mixC
            rw [show (i + k) / 4 = c by omega, show (i + k) % 4 = k by omega, ← hi, ← H0.out, ← H1.out, ← H2.out, ← H3.out, ← hx, ← hy, hzd, HAL.out]
          have HB1 := Lib.hid (HB.out.step (by omega))
          rw [hm] at HB1
          have e1 := xor_u8 x y
          obtain ⟨p1, hp1⟩ : ∃ y1, y1 = x ^^^ y := ⟨_, rfl⟩
          have e2 := xor_u8 al (tw p1)
          obtain ⟨p2, hp2⟩ : ∃ y1, y1 = al ^^^ tw p1 := ⟨_, rfl⟩
          have e3 := xor_u8 x p2
          rw [← hp1] at hzd e1
          rw [← hp2] at hzd e2
          rw [← hzd] at e3
          clear hp1 hp2 hzd hm hcol hx hy
          have hw1 : IntKind.i64.wrap ((i : Int) + (k : Int)) = (i : Int) + (k : Int) := IntWalk.i64_in _ (by omega)
          have hw2 : IntKind.i64.wrap ((k : Int) + 1) = (k : Int) + 1 := IntWalk.i64_in _ (by omega)
          have hw3 : IntKind.i64.wrap (((k : Int) + 1) % 4) = ((k : Int) + 1) % 4 := IntWalk.i64_in _ (by omega)
          have ht1 : ((k : Int) + 1).tmod 4 = ((k : Int) + 1) % 4 := Int.tmod_eq_emod_of_nonneg (by omega)
          have hb1 : (0 : Int) ≤ (i : Int) + (k : Int) := by omega
          have hb2 : (i : Int) + (k : Int) < 16 := by omega
          have hb3 : (0 : Int) ≤ ((k : Int) + 1) % 4 := by omega
          have hb4 : ((k : Int) + 1) % 4 < 4 := by omega
          have hb5 : ((i : Int) + (k : Int)).toNat = i + k := by omega
          have b1 := x.toNat_lt
          have b2 := y.toNat_lt
          have b3 := z.toNat_lt
          have b4 := al.toNat_lt
          have b5 := p1.toNat_lt
          have b6 := p2.toNat_lt
          go_wp2
          refine wp_region_still_tail 22 (by kernel_rfl) (by kernel_rfl) ?_
          simp only [List.take_succ_cons, List.take_zero, List.drop_succ_cons, List.drop_zero]
          change wpStill _ _ wr.drew (fun a' => wpList _ _ _ _ a' wr.drew) _ _
          repeat still_step
          still_call ((twice_calls p1 wr.drew).mono (fun e w' h => ⟨h.1, h.2.symm⟩))
          repeat still_step
          refine wpStill_nil ?_
          have d1' : wr.drew.cell? ⟨S, i + k, none⟩ = some (.int .u8 (x.toNat : Int)) := d1
          have hz' : wr.drew.frozen? ⟨S, i + k, none⟩ = false := hz
          go_wp2
          go_roundw
          case rel =>
            refine ⟨k + 1, by omega, by go_num, HB1.out, ?_, HF.out.drew.setCell _ _ (.inl rfl)⟩
            exact (heap_setCell_other _ _ _ _ (by simp; omega)).trans HA'.out
          case measure => simp [intOf]; omega
        · have hk4 : k = 4 := by omega
          rw [hk4] at HB
          clear hk4
          go_wp2
          go_roundw
          case rel => exact ⟨c + 1, by have := HI.out; omega, by have := HI.out.1; subst this; go_num, by rw [show 4 * (c + 1) = i + 4 by have := HI.out.1; omega]; exact HB.out, HF.out⟩
          case measure => simp [intOf]; omega
    · have hc4 : c = 4 := by omega
      rw [hc4] at HB
      clear hc4
      go_wp2
      go_end0
      refine ⟨rfl, ?_, HF.out⟩
      have := HB.out
      rwa [upd_all _ _ _ hs] at this
end Go.Proofs.Ytcchhfkmhbjdmaa
