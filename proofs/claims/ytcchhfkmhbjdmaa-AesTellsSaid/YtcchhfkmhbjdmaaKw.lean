/- The document's words: the walk. -/
import Derived.Test.YtcchhfkmhbjdmaaKv
import Derived.Test.YtcchhfkmhbjdmaaKi
set_option linter.unusedVariables false
set_option linter.unusedSimpArgs false
set_option pp.deepTerms true
set_option pp.maxSteps 100000
namespace Go.Proofs.Ytcchhfkmhbjdmaa
open Go.RowKit
section
variable {ops : Array Oper} {rest : List Oper} {op : Oper} {a : Act} {w : World} {Q : Exit → Act → World → Prop}
theorem wpList_append_byte (hgd : op.guard = none) (s y : Operand) (ho : op.op = .call { callee := .builtin .append, args := #[s, y], argTypes := #[27, 27] })
    (g cap : Nat) (xs : List UInt8) (h : BRow w g cap xs) (hx : xs.length ≤ 100000) (n : Nat) (hn : n = xs.length) (hs : a.eval s = .slice (some ⟨g, 0, none⟩) n cap) (B c : Nat) (hy : a.eval y = .slice (some ⟨B, 0, none⟩) 1 c)
    (x : UInt8) (ha : w.cell? ⟨B, 0, none⟩ = some (.int .u8 (x.toNat : Int)))
    (hk : ∀ g' cap' w', BRow w' g' cap' (xs ++ [x]) → w.grownBy w' (some g) → (g' = g ∨ g' = w.heap.size) → wpList Try.prog ops Q rest (a.put op.dst (.slice (some ⟨g', 0, none⟩) (n + 1) cap')) w') : wpList Try.prog ops Q (op :: rest) a w := by
  refine wpList_plain hgd fun K hK => ?_
  obtain ⟨g', cap', w', hr, h1, h2, h3⟩ := append_byte w g cap xs h hx B x ha c op.type
  subst hn
  unfold Oper.wp execOp
  simp only [ho, resolve, invoke, builtin, Sem.run_bind, Sem.run_pure, Result.andThen_ok, List.map_toArray, List.map_cons, List.map_nil, hs, hy, hr]
  exact hK _ _ (hk g' cap' w' h1 h2 h3)
end
def wkT (key : List UInt8) (i : Nat) : List UInt8 := words key (i - 8)
theorem wkT_length (key : List UInt8) (h : key.length = 32) (i : Nat) (hi : 8 ≤ i) : (wkT key i).length = 4 * i := by
  unfold wkT; rw [words_length key h]; omega
theorem wkT_next (key : List UInt8) (i : Nat) (hi : 8 ≤ i) : wkT key (i + 1) = wkT key i ++ full (wordF (wkT key i) i) 4 := by
  unfold wkT
  rw [show i + 1 - 8 = (i - 8) + 1 by omega, words, show i - 8 + 8 = i by omega]
set_option maxRecDepth 20000 in
set_option maxHeartbeats 8000000 in
theorem refwords_calls (key : List UInt8) (hk : key.length = 32) (X capb : Nat) (hcb : 256 ≤ capb) (w : World) (hT : Tab w X) (hX : X < w.heap.size) :
    Calls Try.prog 73 #[.string (str key), .slice (some ⟨X, 0, none⟩) 256 capb] w fun e w' => ∃ g cap, e = .returned (.slice (some ⟨g, 0, none⟩) 240 cap) ∧ BRow w' g cap (words key 52) ∧ w.heap.size ≤ g ∧ Fr (fun _ => False) w w' := by
  have hsz : (str key).size = 32 := by rw [str_size]; exact hk
  have HK := Lib.hid hk
  have HT := Lib.hid hT
  clear hk hT
  have hcv := Lib.run_convert_string_bytes (P := Try.prog) w 9 27 5 (str key) Try.underlying9 Try.underlying27 Try.underlying5
  have hfB := bytesWorld_fr w 5 (str key)
  have hrB := brow_conv w key
  rw [hsz] at hcv hrB
  generalize grownCap w 32 0 5 = cap0 at hcv hrB
  generalize Lib.bytesWorld w 5 (str key) = wB at hcv hfB hrB
  obtain ⟨g0, hg0⟩ : ∃ g, g = w.heap.size := ⟨_, rfl⟩
  rw [← hg0] at hcv hrB hX
  have HG0 := Lib.hid hg0
  have HFB := Lib.hid hfB
  have HRB := Lib.hid hrB
  clear hfB hrB hg0
  go_enter Try.func73, Try.ntmps73
  go_wp2
  go_loopw [5, 6, 7] (fun v5 v6 v7 wr => ∃ (i g cap L : Nat), 8 ≤ i ∧ i ≤ 60 ∧ L = 4 * i ∧ v5 = .slice (some ⟨g, 0, none⟩) L cap ∧ v6 = .int .u8 ((pw i).toNat : Int) ∧ v7 = .int .i64 i ∧ BRow wr g cap (wkT key i) ∧ g0 ≤ g ∧ Fr (fun _ => False) w wr) (fun _ _ v7 _ => 60 - (intOf v7).toNat)
  case atStart => exact ⟨8, g0, cap0, 32, by omega, by omega, rfl, rfl, rfl, rfl, HRB.out, Nat.le_refl _, HFB.out⟩
  case round =>
    obtain ⟨i, g, cap, L, hi8, hi60, hL, rfl, rfl, rfl, hB, hg, hf⟩ := hrel
    have HB := Lib.hid hB
    have HF := Lib.hid hf
    have HL := Lib.hid hL
    clear hB hf HFB HRB hcv hL
    by_cases hlt : i < 60
    · obtain ⟨Xs, hXs⟩ : ∃ x, x = wkT key i := ⟨_, rfl⟩
      have HXs := Lib.hid hXs
      have HXl := Lib.hid (show Xs.length = 4 * i by rw [hXs]; exact wkT_length key HK.out i hi8)
      rw [← hXs] at HB
      obtain ⟨n4, h4⟩ : ∃ n, n = 4 * i - 4 := ⟨_, rfl⟩
      obtain ⟨n3, h3⟩ : ∃ n, n = 4 * i - 3 := ⟨_, rfl⟩
      obtain ⟨n2, h2⟩ : ∃ n, n = 4 * i - 2 := ⟨_, rfl⟩
      obtain ⟨n1, h1⟩ : ∃ n, n = 4 * i - 1 := ⟨_, rfl⟩
      have hL' := HL.out
      have hw0 : IntKind.i64.wrap (4 * (i : Int)) = 4 * (i : Int) := IntWalk.i64_in _ (by omega)
      have hw4 : IntKind.i64.wrap (4 * (i : Int) - 4) = (n4 : Int) := by rw [IntWalk.i64_in _ (by omega)]; omega
      have hw3 : IntKind.i64.wrap (4 * (i : Int) - 3) = (n3 : Int) := by rw [IntWalk.i64_in _ (by omega)]; omega
      have hw2 : IntKind.i64.wrap (4 * (i : Int) - 2) = (n2 : Int) := by rw [IntWalk.i64_in _ (by omega)]; omega
      have hw1 : IntKind.i64.wrap (4 * (i : Int) - 1) = (n1 : Int) := by rw [IntWalk.i64_in _ (by omega)]; omega
      have l4 : (n4 : Int) < (L : Int) := by omega
      have l3 : (n3 : Int) < (L : Int) := by omega
      have l2 : (n2 : Int) < (L : Int) := by omega
      have l1 : (n1 : Int) < (L : Int) := by omega
      obtain ⟨x0, hx0⟩ : ∃ x, x = Xs.getD (4 * i - 4) 0 := ⟨_, rfl⟩
      obtain ⟨x1, hx1⟩ : ∃ x, x = Xs.getD (4 * i - 3) 0 := ⟨_, rfl⟩
      obtain ⟨x2, hx2⟩ : ∃ x, x = Xs.getD (4 * i - 2) 0 := ⟨_, rfl⟩
      obtain ⟨x3, hx3⟩ : ∃ x, x = Xs.getD (4 * i - 1) 0 := ⟨_, rfl⟩
      have hget : ∀ k, k < 4 * i → Xs[k]? = some (Xs.getD k 0) := fun k hk => by
        have : k < Xs.length := by rw [HXl.out]; exact hk
        rw [List.getD_eq_getElem?_getD, List.getElem?_eq_getElem this]; rfl
      have c0 : wr.drew.cell? ⟨g, n4, none⟩ = some (.int .u8 (x0.toNat : Int)) := HB.out.cell n4 x0 (by rw [h4, hx0]; exact hget _ (by omega))
      have c1 : wr.drew.cell? ⟨g, n3, none⟩ = some (.int .u8 (x1.toNat : Int)) := HB.out.cell n3 x1 (by rw [h3, hx1]; exact hget _ (by omega))
      have c2 : wr.drew.cell? ⟨g, n2, none⟩ = some (.int .u8 (x2.toNat : Int)) := HB.out.cell n2 x2 (by rw [h2, hx2]; exact hget _ (by omega))
      have c3 : wr.drew.cell? ⟨g, n1, none⟩ = some (.int .u8 (x3.toNat : Int)) := HB.out.cell n1 x3 (by rw [h1, hx3]; exact hget _ (by omega))
      have HH := Lib.hid (show x0 = Xs.getD (4 * i - 4) 0 ∧ x1 = Xs.getD (4 * i - 3) 0 ∧ x2 = Xs.getD (4 * i - 2) 0 ∧ x3 = Xs.getD (4 * i - 1) 0 from ⟨hx0, hx1, hx2, hx3⟩)
      clear hx0 hx1 hx2 hx3 h1 h2 h3 h4 hXs hL' hget
      have b0 := x0.toNat_lt
      have b1 := x1.toNat_lt
      have b2 := x2.toNat_lt
      have b3 := x3.toNat_lt
      go_wp2
      refine wp_region_still_tail 24 (by kernel_rfl) (by kernel_rfl) ?_
      simp only [List.take_succ_cons, List.take_zero, List.drop_succ_cons, List.drop_zero]
      change wpStill _ _ wr.drew (fun a' => wpList _ _ _ _ a' wr.drew) _ _
      repeat still_step
      refine wpStill_nil ?_
      have hTe : (wr.alloc (.cells #[.int .u8 (x0.toNat : Int), .int .u8 (x1.toNat : Int), .int .u8 (x2.toNat : Int), .int .u8 (x3.toNat : Int)] 5)).drew.heap[wr.heap.size]? = some (.cells (bcells [x0, x1, x2, x3]).toArray 5 (0, 0)) := heap_alloc_new wr _
      have hfe : Fr (fun _ => False) wr (wr.alloc (.cells #[.int .u8 (x0.toNat : Int), .int .u8 (x1.toNat : Int), .int .u8 (x2.toNat : Int), .int .u8 (x3.toNat : Int)] 5)).drew := ((Fr.refl _ _).alloc _).drew
      have HTe := Lib.hid hTe
      have HBe := Lib.hid (HB.out.fr hfe id)
      have HFe := Lib.hid ((HF.out.alloc (.cells #[.int .u8 (x0.toNat : Int), .int .u8 (x1.toNat : Int), .int .u8 (x2.toNat : Int), .int .u8 (x3.toNat : Int)] 5)).drew)
      have hTg : g < wr.heap.size := HB.out.lt
      clear hTe hfe c0 c1 c2 c3
      obtain ⟨r, hr⟩ : ∃ r, r = i % 8 := ⟨_, rfl⟩
      have hm8 : (i : Int) % 8 = (r : Int) := by omega
      have htm : (i : Int).tmod 8 = (r : Int) := by rw [Int.tmod_eq_emod_of_nonneg (by omega)]; omega
      have HR := Lib.hid hr
      clear hr
      have HI := Lib.hid (show 8 ≤ i ∧ i < 60 from ⟨hi8, hlt⟩)
      by_cases h0 : r = 0
      · have q0 : ((r : Int) == 0) = true := by simpa using h0
        have q4 : ((r : Int) == 4) = false := by simp; omega
        obtain ⟨pq, hpq⟩ : ∃ p, p = pw i := ⟨_, rfl⟩
        have HPW := Lib.hid (show pw (i + 1) = tw pq by rw [hpq]; exact pw_next i (by have := HR.out; omega) hi8)
        have HPQ := Lib.hid hpq.symm
        have HR0 := Lib.hid h0
        rw [← hpq]
        clear h0 hpq
        go_wp2
        generalize (wr.alloc (.cells #[.int .u8 (x0.toNat : Int), .int .u8 (x1.toNat : Int), .int .u8 (x2.toNat : Int), .int .u8 (x3.toNat : Int)] 5)).drew = w6 at HTe HBe HFe ⊢
        obtain ⟨T, hT⟩ : ∃ T, T = wr.heap.size := ⟨_, rfl⟩
        rw [← hT] at HTe hTg ⊢
        clear hT HB HF
        have htab : Tab w6.drew X := HT.out.fr HFe.out.drew id
        obtain ⟨y0, hy0⟩ : ∃ y, y = box x0 := ⟨_, rfl⟩
        obtain ⟨y1, hy1⟩ : ∃ y, y = box x1 := ⟨_, rfl⟩
        obtain ⟨y2, hy2⟩ : ∃ y, y = box x2 := ⟨_, rfl⟩
        obtain ⟨y3, hy3⟩ : ∃ y, y = box x3 := ⟨_, rfl⟩
        have d0 : w6.drew.cell? ⟨X, x0.toNat, none⟩ = some (.int .u8 (y0.toNat : Int)) := by rw [hy0]; exact htab x0
        have d1 : w6.drew.cell? ⟨X, x1.toNat, none⟩ = some (.int .u8 (y1.toNat : Int)) := by rw [hy1]; exact htab x1
        have d2 : w6.drew.cell? ⟨X, x2.toNat, none⟩ = some (.int .u8 (y2.toNat : Int)) := by rw [hy2]; exact htab x2
        have d3 : w6.drew.cell? ⟨X, x3.toNat, none⟩ = some (.int .u8 (y3.toNat : Int)) := by rw [hy3]; exact htab x3
        have f0 : w6.drew.cell? ⟨T, 0, none⟩ = some (.int .u8 (x0.toNat : Int)) := bcells_cell (w := w6.drew) HTe.out 0 x0 rfl
        have f1 : w6.drew.cell? ⟨T, 1, none⟩ = some (.int .u8 (x1.toNat : Int)) := bcells_cell (w := w6.drew) HTe.out 1 x1 rfl
        have f2 : w6.drew.cell? ⟨T, 2, none⟩ = some (.int .u8 (x2.toNat : Int)) := bcells_cell (w := w6.drew) HTe.out 2 x2 rfl
        have f3 : w6.drew.cell? ⟨T, 3, none⟩ = some (.int .u8 (x3.toNat : Int)) := bcells_cell (w := w6.drew) HTe.out 3 x3 rfl
        have gx0 : (x0.toNat : Int) < 256 := by omega
        have gx1 : (x1.toNat : Int) < 256 := by omega
        have gx2 : (x2.toNat : Int) < 256 := by omega
        have gx3 : (x3.toNat : Int) < 256 := by omega
        have hT6 : T < w6.heap.size := lt_of_heap HTe.out
        obtain ⟨t0, ht0⟩ : ∃ t, t = y1 ^^^ pq := ⟨_, rfl⟩
        have e0 := xor_u8 y1 pq
        rw [← ht0] at e0
        have bq := pq.toNat_lt
        have by1 := y1.toNat_lt
        have bt0 := t0.toNat_lt
        have HTL := Lib.hid (show ∀ k, k < 4 → [t0, y2, y3, y0][k]? = some (wordT Xs i k) from fun k hk => by
          obtain ⟨g0, g1, g2, g3⟩ := HH.out
          have hr := HR.out
          obtain ⟨hi8, _⟩ := HI.out
          have : k = 0 ∨ k = 1 ∨ k = 2 ∨ k = 3 := by omega
          rcases this with rfl | rfl | rfl | rfl
          · simp only [wordT]; have := HR0.out; rw [if_pos (by omega), if_pos trivial, ← g1, ht0, hy1, ← HPQ.out]; rfl
          · simp only [wordT]; have := HR0.out; rw [if_pos (by omega), if_neg (by omega), show 4 * i - 4 + (1 + 1) % 4 = 4 * i - 2 by omega, ← g2, hy2]; rfl
          · simp only [wordT]; have := HR0.out; rw [if_pos (by omega), if_neg (by omega), show 4 * i - 4 + (2 + 1) % 4 = 4 * i - 1 by omega, ← g3, hy3]; rfl
          · simp only [wordT]; have := HR0.out; rw [if_pos (by omega), if_neg (by omega), show 4 * i - 4 + (3 + 1) % 4 = 4 * i - 4 by omega, ← g0, hy0]; rfl)
        clear hy0 hy1 hy2 hy3 htab ht0
        refine wp_region_still_tail 26 (by kernel_rfl) (by kernel_rfl) ?_
        simp only [List.take_succ_cons, List.take_zero, List.drop_succ_cons, List.drop_zero]
        change wpStill _ _ w6.drew (fun a' => wpList _ _ _ _ a' w6.drew) _ _
        repeat still_step
        refine wpStill_nil ?_
        go_wp2_with fail
        refine (refmul_calls pq 2 _).mono ?_
        rintro e w8 ⟨rfl, rfl⟩
        rw [show mul pq 2 = tw pq by rw [mul_comm, mul_two]]
        go_wp2
        have hfe : Fr (fun _ => False) w6 (w6.alloc (.cells #[.int .u8 (t0.toNat : Int), .int .u8 (y2.toNat : Int), .int .u8 (y3.toNat : Int), .int .u8 (y0.toNat : Int)] 5)).drew := ((Fr.refl _ _).alloc _).drew
        have HT9 := Lib.hid (show (w6.alloc (.cells #[.int .u8 (t0.toNat : Int), .int .u8 (y2.toNat : Int), .int .u8 (y3.toNat : Int), .int .u8 (y0.toNat : Int)] 5)).drew.heap[w6.heap.size]? = some (.cells (bcells [t0, y2, y3, y0]).toArray 5 (0, 0)) from heap_alloc_new w6 _)
        have HB9 := Lib.hid (HBe.out.fr hfe id)
        have HF9 := Lib.hid ((HFe.out.alloc (.cells #[.int .u8 (t0.toNat : Int), .int .u8 (y2.toNat : Int), .int .u8 (y3.toNat : Int), .int .u8 (y0.toNat : Int)] 5)).drew)
        generalize (w6.alloc (.cells #[.int .u8 (t0.toNat : Int), .int .u8 (y2.toNat : Int), .int .u8 (y3.toNat : Int), .int .u8 (y0.toNat : Int)] 5)).drew = w9 at HT9 HB9 HF9 ⊢
        obtain ⟨T9, hT9⟩ : ∃ T, T = w6.heap.size := ⟨_, rfl⟩
        rw [← hT9] at HT9 hT6 ⊢
        clear hfe hT9 HTe HBe HFe d0 d1 d2 d3 f0 f1 f2 f3
        go_loopw [5, 9] (fun v5 v9 wr => ∃ (k g cap L : Nat), k ≤ 4 ∧ L = 4 * i + k ∧ v5 = .slice (some ⟨g, 0, none⟩) L cap ∧ v9 = .int .i64 k ∧ BRow wr g cap (Xs ++ full (wordF Xs i) k) ∧ g0 ≤ g ∧ T9 ≠ g ∧ wr.heap[T9]? = some (.cells (bcells [t0, y2, y3, y0]).toArray 5 (0, 0)) ∧ Fr (fun _ => False) w wr) (fun _ v9 _ => 4 - (intOf v9).toNat)
        case atStart => exact ⟨0, g, cap, L, Nat.zero_le _, by rw [HL.out]; rfl, rfl, rfl, by simpa [full] using HB9.out, hg, by omega, HT9.out, HF9.out⟩
        case round =>
          obtain ⟨k, g, cap, L, hk, hL, rfl, rfl, hB, hg, hTg, hT, hf⟩ := hrel
          have HBa := Lib.hid hB
          have HTa := Lib.hid hT
          have HFa := Lib.hid hf
          have HLa := Lib.hid hL
          clear hB hT hf HB9 HT9 HF9
          have hfl := full_length (wordF Xs i) k
          have hXl := HXl.out
          by_cases hlk : k < 4
          · obtain ⟨n, hn⟩ : ∃ n, n = 4 * i - 32 + k := ⟨_, rfl⟩
            obtain ⟨a, ha⟩ : ∃ a, a = Xs.getD (4 * i - 32 + k) 0 := ⟨_, rfl⟩
            obtain ⟨b, hb⟩ : ∃ b, b = wordT Xs i k := ⟨_, rfl⟩
            obtain ⟨z, hz⟩ : ∃ z, z = a ^^^ b := ⟨_, rfl⟩
            have hfk : wordF Xs i k = z := by rw [hz, ha, hb]; rfl
            have d1 : wr.drew.cell? ⟨g, n, none⟩ = some (.int .u8 (a.toNat : Int)) := HBa.out.cell n a (by
              rw [hn, ha, List.getElem?_append_left (by omega), List.getD_eq_getElem?_getD, List.getElem?_eq_getElem (by omega)]; rfl)
            have d2 : wr.drew.cell? ⟨T9, k, none⟩ = some (.int .u8 (b.toNat : Int)) := bcells_cell (w := wr.drew) HTa.out k b (by rw [hb]; exact HTL.out k hlk)
            have e1 := xor_u8 a b
            rw [← hz] at e1
            have hw0 : IntKind.i64.wrap (4 * (i : Int)) = 4 * (i : Int) := IntWalk.i64_in _ (by omega)
            have hw1 : IntKind.i64.wrap (4 * (i : Int) - 32) = 4 * (i : Int) - 32 := IntWalk.i64_in _ (by omega)
            have hw2 : IntKind.i64.wrap (4 * (i : Int) - 32 + (k : Int)) = (n : Int) := by rw [IntWalk.i64_in _ (by omega)]; omega
            have hnL : (n : Int) < (L : Int) := by omega
            have b1 := a.toNat_lt
            have b2 := b.toNat_lt
            have b3 := z.toNat_lt
            have HLx := Lib.hid (show L = (Xs ++ full (wordF Xs i) k).length by rw [List.length_append, hfl, hXl]; exact hL)
            have HLy := Lib.hid (show (Xs ++ full (wordF Xs i) k).length ≤ 100000 by rw [List.length_append, hfl, hXl]; omega)
            have HFS := Lib.hid (show Xs ++ full (wordF Xs i) (k + 1) = Xs ++ full (wordF Xs i) k ++ [z] by rw [full_succ, hfk, List.append_assoc])
            have hfa : Fr (fun _ => False) wr.drew (wr.drew.alloc (.cells #[.int .u8 (z.toNat : Int)] 5)) := (Fr.refl _ _).alloc _
            have HBn := Lib.hid (show BRow (wr.drew.alloc (.cells #[.int .u8 (z.toNat : Int)] 5)) g cap (Xs ++ full (wordF Xs i) k) from BRow.fr (w := wr.drew) HBa.out hfa id)
            have HZn := Lib.hid (show (wr.drew.alloc (.cells #[.int .u8 (z.toNat : Int)] 5)).cell? ⟨wr.drew.heap.size, 0, none⟩ = some (.int .u8 (z.toNat : Int)) from (cell_of_row _ _ 0 _ _ _ (heap_alloc_new wr.drew _)).trans rfl)
            have HTn := Lib.hid (hfa.heap (show wr.drew.heap[T9]? = _ from HTa.out) id)
            have HFn := Lib.hid (HFa.out.drew.alloc (.cells #[.int .u8 (z.toNat : Int)] 5))
            have hTlt : T9 < wr.drew.heap.size := lt_of_heap (show wr.drew.heap[T9]? = _ from HTa.out)
            clear ha hb hz hfk hn hfl hXl hL
            go_wp2
            refine wp_region_till (fun W => W.cell? ⟨g, n, none⟩ = some (.int .u8 (a.toNat : Int)) ∧ W.cell? ⟨T9, k, none⟩ = some (.int .u8 (b.toNat : Int))) 15 (by kernel_rfl) ?_
            have HS := Lib.hid (show wr.drew.cell? ⟨g, n, none⟩ = some (.int .u8 (a.toNat : Int)) ∧ wr.drew.cell? ⟨T9, k, none⟩ = some (.int .u8 (b.toNat : Int)) from ⟨d1, d2⟩)
            have HSn := Lib.hid (show (wr.drew.alloc (.cells #[.int .u8 (z.toNat : Int)] 5)).cell? ⟨g, n, none⟩ = some (.int .u8 (a.toNat : Int)) ∧ (wr.drew.alloc (.cells #[.int .u8 (z.toNat : Int)] 5)).cell? ⟨T9, k, none⟩ = some (.int .u8 (b.toNat : Int)) from ⟨hfa.cell d1 id, hfa.cell d2 id⟩)
            clear hfa
            generalize wr.drew = wy at d1 d2 HS HSn HBn HZn HTn HFn hTlt ⊢
            refine wpAnyT_take (i := 0) (n := 17) (v := .slice (some ⟨g, 0, none⟩) L cap) rfl (by kernel_rfl) (fun _ _ _ h => h) HS.out (yieldsIf_plain rfl (fun W hW => by clear hW; go_simp)) ?_
            simp only [List.getElem_toArray, List.getElem_cons_succ, List.getElem_cons_zero, Act.put, List.setIfInBounds_toArray, List.set_cons_zero, List.set_cons_succ]
            refine wpAnyT_take (i := 1) (n := 17) (v := .slice (some ⟨g, 0, none⟩) L cap) rfl (by kernel_rfl) (fun _ _ _ h => h) HS.out (yieldsIf_plain rfl (fun W hW => by clear hW; go_simp)) ?_
            simp only [List.getElem_toArray, List.getElem_cons_succ, List.getElem_cons_zero, Act.put, List.setIfInBounds_toArray, List.set_cons_zero, List.set_cons_succ]
            refine wpAnyT_take (i := 2) (n := 17) (v := .int .i64 i) rfl (by kernel_rfl) (fun _ _ _ h => h) HS.out (yieldsIf_plain rfl (fun W hW => by clear hW; go_simp)) ?_
            simp only [List.getElem_toArray, List.getElem_cons_succ, List.getElem_cons_zero, Act.put, List.setIfInBounds_toArray, List.set_cons_zero, List.set_cons_succ]
            refine wpAnyT_take (i := 3) (n := 17) (v := .int .i64 (4 * (i : Int))) rfl (by kernel_rfl) (fun _ _ _ h => h) HS.out (yieldsIf_plain rfl (fun W hW => by clear hW; go_simp)) ?_
            simp only [List.getElem_toArray, List.getElem_cons_succ, List.getElem_cons_zero, Act.put, List.setIfInBounds_toArray, List.set_cons_zero, List.set_cons_succ]
            refine wpAnyT_take (i := 4) (n := 17) (v := .int .i64 (4 * (i : Int) - 32)) rfl (by kernel_rfl) (fun _ _ _ h => h) HS.out (yieldsIf_plain rfl (fun W hW => by clear hW; go_simp)) ?_
            simp only [List.getElem_toArray, List.getElem_cons_succ, List.getElem_cons_zero, Act.put, List.setIfInBounds_toArray, List.set_cons_zero, List.set_cons_succ]
            refine wpAnyT_take (i := 5) (n := 17) (v := .int .i64 k) rfl (by kernel_rfl) (fun _ _ _ h => h) HS.out (yieldsIf_plain rfl (fun W hW => by clear hW; go_simp)) ?_
            simp only [List.getElem_toArray, List.getElem_cons_succ, List.getElem_cons_zero, Act.put, List.setIfInBounds_toArray, List.set_cons_zero, List.set_cons_succ]
            refine wpAnyT_take (i := 6) (n := 17) (v := .int .i64 n) rfl (by kernel_rfl) (fun _ _ _ h => h) HS.out (yieldsIf_plain rfl (fun W hW => by clear hW; go_simp)) ?_
            simp only [List.getElem_toArray, List.getElem_cons_succ, List.getElem_cons_zero, Act.put, List.setIfInBounds_toArray, List.set_cons_zero, List.set_cons_succ]
            refine wpAnyT_take (i := 7) (n := 17) (v := .pointer (some ⟨g, n, none⟩)) rfl (by kernel_rfl) (fun _ _ _ h => h) HS.out (yieldsIf_plain rfl (fun W hW => by clear hW; go_simp)) ?_
            simp only [List.getElem_toArray, List.getElem_cons_succ, List.getElem_cons_zero, Act.put, List.setIfInBounds_toArray, List.set_cons_zero, List.set_cons_succ]
            refine wpAnyT_take (i := 8) (n := 17) (v := .int .u8 (a.toNat : Int)) rfl (by kernel_rfl) (fun _ _ _ h => h) HS.out (yieldsIf_plain rfl (fun W hW => by have h1 := hW.1; clear hW; go_simp)) ?_
            simp only [List.getElem_toArray, List.getElem_cons_succ, List.getElem_cons_zero, Act.put, List.setIfInBounds_toArray, List.set_cons_zero, List.set_cons_succ]
            refine wpAnyT_take (i := 9) (n := 17) (v := .slice (some ⟨T9, 0, none⟩) 4 4) rfl (by kernel_rfl) (fun _ _ _ h => h) HS.out (yieldsIf_plain rfl (fun W hW => by clear hW; go_simp)) ?_
            simp only [List.getElem_toArray, List.getElem_cons_succ, List.getElem_cons_zero, Act.put, List.setIfInBounds_toArray, List.set_cons_zero, List.set_cons_succ]
            refine wpAnyT_take (i := 10) (n := 17) (v := .int .i64 k) rfl (by kernel_rfl) (fun _ _ _ h => h) HS.out (yieldsIf_plain rfl (fun W hW => by clear hW; go_simp)) ?_
            simp only [List.getElem_toArray, List.getElem_cons_succ, List.getElem_cons_zero, Act.put, List.setIfInBounds_toArray, List.set_cons_zero, List.set_cons_succ]
            refine wpAnyT_take (i := 11) (n := 17) (v := .pointer (some ⟨T9, k, none⟩)) rfl (by kernel_rfl) (fun _ _ _ h => h) HS.out (yieldsIf_plain rfl (fun W hW => by clear hW; go_simp)) ?_
            simp only [List.getElem_toArray, List.getElem_cons_succ, List.getElem_cons_zero, Act.put, List.setIfInBounds_toArray, List.set_cons_zero, List.set_cons_succ]
            refine wpAnyT_take (i := 12) (n := 17) (v := .int .u8 (b.toNat : Int)) rfl (by kernel_rfl) (fun _ _ _ h => h) HS.out (yieldsIf_plain rfl (fun W hW => by have h1 := hW.2; clear hW; go_simp)) ?_
            simp only [List.getElem_toArray, List.getElem_cons_succ, List.getElem_cons_zero, Act.put, List.setIfInBounds_toArray, List.set_cons_zero, List.set_cons_succ]
            refine wpAnyT_take (i := 13) (n := 17) (v := .int .u8 (z.toNat : Int)) rfl (by kernel_rfl) (fun _ _ _ h => h) HS.out (yieldsIf_plain rfl (fun W hW => by clear hW; go_simp)) ?_
            simp only [List.getElem_toArray, List.getElem_cons_succ, List.getElem_cons_zero, Act.put, List.setIfInBounds_toArray, List.set_cons_zero, List.set_cons_succ]
            refine wpAnyT_one (i := 14) rfl (by kernel_rfl) (wpOp_plain rfl rfl (fun K hK => ?_))
            simp only [List.getElem_toArray, List.getElem_cons_succ, List.getElem_cons_zero, Act.put, List.setIfInBounds_toArray, List.set_cons_zero, List.set_cons_succ]
            have HK := Lib.hid hK
            clear hK
            go_wp2_with fail
            refine HK.out _ _ ⟨fun _ => HSn.out, ?_⟩
            clear HK K
            try simp only [List.getElem_toArray, List.getElem_cons_succ, List.getElem_cons_zero, Act.put, List.setIfInBounds_toArray, List.set_cons_zero, List.set_cons_succ]
            refine wpAnyT_of_any trivial [15, 16] _ _ _ _ (by kernel_rfl) (by simp) (.inr rfl) ?_
            simp only [List.filterMap_cons, List.filterMap_nil, List.getElem?_toArray, List.getElem?_cons_zero, List.getElem?_cons_succ]
            refine wpList_append_byte (op := ⟨some 120, _, _, _, _, _⟩) rfl (.tmp 105) (.tmp 119) rfl g cap (Xs ++ full (wordF Xs i) k) HBn.out HLy.out L HLx.out rfl wy.heap.size 1 rfl z HZn.out ?_
            intro g' cap' w' hb' hgr hat
            have hlt' := hb'.lt
            have HB' := Lib.hid (show BRow w' g' cap' (Xs ++ full (wordF Xs i) (k + 1)) by rw [HFS.out]; first | exact hb' | (rw [List.append_assoc]; exact hb'))
            have hTn : T9 ≠ g' := by
              rcases hat with h | h
              · rw [h]; exact hTg
              · first | (rw [h]; omega) | (simp at h; omega)
            have hgn : g0 ≤ g' := by
              have hwy : w.heap.size ≤ wy.heap.size := by have := HFn.out.size; have := HG0.out; have := HBn.out.lt; simp at *; omega
              rcases hat with h | h
              · rw [h]; exact hg
              · have := HG0.out; first | (rw [h]; omega) | (simp at h; omega)
            have HT' := Lib.hid ((hgr.block T9 (by simp; omega) (fun e => hTg (Option.some.inj e))).trans HTn.out)
            have HF' := Lib.hid (HFn.out.grown hgr (fun k hk => .inr (by have := HG0.out; have := Option.some.inj hk; omega)))
            clear hb' hgr hat
            go_wp2
            go_roundw
            case rel => exact ⟨k + 1, g', cap', L + 1, by omega, by rw [HLa.out]; omega, rfl, by go_num, HB'.out, hgn, hTn, HT'.out, HF'.out⟩
            case measure => simp [intOf]; omega
          · have hk4 : k = 4 := by omega
            rw [hk4] at HBa HLa
            have HBq := Lib.hid (show BRow wr g cap (wkT key (i + 1)) by rw [wkT_next key i HI.out.1, ← HXs.out]; exact HBa.out)
            have HLq := Lib.hid (show L = 4 * (i + 1) by rw [HLa.out]; omega)
            clear hk4 hL hfl hXl
            go_wp2
            go_roundw
            case rel => exact ⟨i + 1, g, cap, L, by omega, by omega, HLq.out, rfl, by rw [HPW.out], by go_num, HBq.out, hg, HFa.out⟩
            case measure => simp [intOf]; omega
      · by_cases h4 : r = 4
        · have q0 : ((r : Int) == 0) = false := by simpa using h0
          have q4 : ((r : Int) == 4) = true := by simp; omega
          have HPW := Lib.hid (show pw (i + 1) = pw i from pw_same i (by have := HR.out; omega))
          have HR4 := Lib.hid h4
          clear h0 h4
          go_wp2
          generalize (wr.alloc (.cells #[.int .u8 (x0.toNat : Int), .int .u8 (x1.toNat : Int), .int .u8 (x2.toNat : Int), .int .u8 (x3.toNat : Int)] 5)).drew = w6 at HTe HBe HFe ⊢
          obtain ⟨T, hT⟩ : ∃ T, T = wr.heap.size := ⟨_, rfl⟩
          rw [← hT] at HTe hTg ⊢
          clear hT HB HF
          have htab : Tab w6.drew X := HT.out.fr HFe.out.drew id
          obtain ⟨y0, hy0⟩ : ∃ y, y = box x0 := ⟨_, rfl⟩
          obtain ⟨y1, hy1⟩ : ∃ y, y = box x1 := ⟨_, rfl⟩
          obtain ⟨y2, hy2⟩ : ∃ y, y = box x2 := ⟨_, rfl⟩
          obtain ⟨y3, hy3⟩ : ∃ y, y = box x3 := ⟨_, rfl⟩
          have d0 : w6.drew.cell? ⟨X, x0.toNat, none⟩ = some (.int .u8 (y0.toNat : Int)) := by rw [hy0]; exact htab x0
          have d1 : w6.drew.cell? ⟨X, x1.toNat, none⟩ = some (.int .u8 (y1.toNat : Int)) := by rw [hy1]; exact htab x1
          have d2 : w6.drew.cell? ⟨X, x2.toNat, none⟩ = some (.int .u8 (y2.toNat : Int)) := by rw [hy2]; exact htab x2
          have d3 : w6.drew.cell? ⟨X, x3.toNat, none⟩ = some (.int .u8 (y3.toNat : Int)) := by rw [hy3]; exact htab x3
          have f0 : w6.drew.cell? ⟨T, 0, none⟩ = some (.int .u8 (x0.toNat : Int)) := bcells_cell (w := w6.drew) HTe.out 0 x0 rfl
          have f1 : w6.drew.cell? ⟨T, 1, none⟩ = some (.int .u8 (x1.toNat : Int)) := bcells_cell (w := w6.drew) HTe.out 1 x1 rfl
          have f2 : w6.drew.cell? ⟨T, 2, none⟩ = some (.int .u8 (x2.toNat : Int)) := bcells_cell (w := w6.drew) HTe.out 2 x2 rfl
          have f3 : w6.drew.cell? ⟨T, 3, none⟩ = some (.int .u8 (x3.toNat : Int)) := bcells_cell (w := w6.drew) HTe.out 3 x3 rfl
          have gx0 : (x0.toNat : Int) < 256 := by omega
          have gx1 : (x1.toNat : Int) < 256 := by omega
          have gx2 : (x2.toNat : Int) < 256 := by omega
          have gx3 : (x3.toNat : Int) < 256 := by omega
          have hT6 : T < w6.heap.size := lt_of_heap HTe.out
          have HTL := Lib.hid (show ∀ k, k < 4 → [y0, y1, y2, y3][k]? = some (wordT Xs i k) from fun k hk => by
            obtain ⟨g0, g1, g2, g3⟩ := HH.out
            have hr := HR.out
            obtain ⟨hi8, _⟩ := HI.out
            have : k = 0 ∨ k = 1 ∨ k = 2 ∨ k = 3 := by omega
            rcases this with rfl | rfl | rfl | rfl
            · simp only [wordT]; have := HR4.out; rw [if_neg (by omega), if_pos (by omega), show 4 * i - 4 + 0 = 4 * i - 4 by omega, ← g0, hy0]; rfl
            · simp only [wordT]; have := HR4.out; rw [if_neg (by omega), if_pos (by omega), show 4 * i - 4 + 1 = 4 * i - 3 by omega, ← g1, hy1]; rfl
            · simp only [wordT]; have := HR4.out; rw [if_neg (by omega), if_pos (by omega), show 4 * i - 4 + 2 = 4 * i - 2 by omega, ← g2, hy2]; rfl
            · simp only [wordT]; have := HR4.out; rw [if_neg (by omega), if_pos (by omega), show 4 * i - 4 + 3 = 4 * i - 1 by omega, ← g3, hy3]; rfl)
          clear hy0 hy1 hy2 hy3 htab
          refine wp_region_still_tail 24 (by kernel_rfl) (by kernel_rfl) ?_
          simp only [List.take_succ_cons, List.take_zero, List.drop_succ_cons, List.drop_zero]
          change wpStill _ _ w6.drew (fun a' => wpList _ _ _ _ a' w6.drew) _ _
          repeat still_step
          refine wpStill_nil ?_
          go_wp2
          have hfe : Fr (fun _ => False) w6 (w6.alloc (.cells #[.int .u8 (y0.toNat : Int), .int .u8 (y1.toNat : Int), .int .u8 (y2.toNat : Int), .int .u8 (y3.toNat : Int)] 5)).drew := ((Fr.refl _ _).alloc _).drew
          have HT9 := Lib.hid (show (w6.alloc (.cells #[.int .u8 (y0.toNat : Int), .int .u8 (y1.toNat : Int), .int .u8 (y2.toNat : Int), .int .u8 (y3.toNat : Int)] 5)).drew.heap[w6.heap.size]? = some (.cells (bcells [y0, y1, y2, y3]).toArray 5 (0, 0)) from heap_alloc_new w6 _)
          have HB9 := Lib.hid (HBe.out.fr hfe id)
          have HF9 := Lib.hid ((HFe.out.alloc (.cells #[.int .u8 (y0.toNat : Int), .int .u8 (y1.toNat : Int), .int .u8 (y2.toNat : Int), .int .u8 (y3.toNat : Int)] 5)).drew)
          generalize (w6.alloc (.cells #[.int .u8 (y0.toNat : Int), .int .u8 (y1.toNat : Int), .int .u8 (y2.toNat : Int), .int .u8 (y3.toNat : Int)] 5)).drew = w9 at HT9 HB9 HF9 ⊢
          obtain ⟨T9, hT9⟩ : ∃ T, T = w6.heap.size := ⟨_, rfl⟩
          rw [← hT9] at HT9 hT6 ⊢
          clear hfe hT9 HTe HBe HFe d0 d1 d2 d3 f0 f1 f2 f3
          go_loopw [5, 9] (fun v5 v9 wr => ∃ (k g cap L : Nat), k ≤ 4 ∧ L = 4 * i + k ∧ v5 = .slice (some ⟨g, 0, none⟩) L cap ∧ v9 = .int .i64 k ∧ BRow wr g cap (Xs ++ full (wordF Xs i) k) ∧ g0 ≤ g ∧ T9 ≠ g ∧ wr.heap[T9]? = some (.cells (bcells [y0, y1, y2, y3]).toArray 5 (0, 0)) ∧ Fr (fun _ => False) w wr) (fun _ v9 _ => 4 - (intOf v9).toNat)
          case atStart => exact ⟨0, g, cap, L, Nat.zero_le _, by rw [HL.out]; rfl, rfl, rfl, by simpa [full] using HB9.out, hg, by omega, HT9.out, HF9.out⟩
          case round =>
            obtain ⟨k, g, cap, L, hk, hL, rfl, rfl, hB, hg, hTg, hT, hf⟩ := hrel
            have HBa := Lib.hid hB
            have HTa := Lib.hid hT
            have HFa := Lib.hid hf
            have HLa := Lib.hid hL
            clear hB hT hf HB9 HT9 HF9
            have hfl := full_length (wordF Xs i) k
            have hXl := HXl.out
            by_cases hlk : k < 4
            · obtain ⟨n, hn⟩ : ∃ n, n = 4 * i - 32 + k := ⟨_, rfl⟩
              obtain ⟨a, ha⟩ : ∃ a, a = Xs.getD (4 * i - 32 + k) 0 := ⟨_, rfl⟩
              obtain ⟨b, hb⟩ : ∃ b, b = wordT Xs i k := ⟨_, rfl⟩
              obtain ⟨z, hz⟩ : ∃ z, z = a ^^^ b := ⟨_, rfl⟩
              have hfk : wordF Xs i k = z := by rw [hz, ha, hb]; rfl
              have d1 : wr.drew.cell? ⟨g, n, none⟩ = some (.int .u8 (a.toNat : Int)) := HBa.out.cell n a (by
                rw [hn, ha, List.getElem?_append_left (by omega), List.getD_eq_getElem?_getD, List.getElem?_eq_getElem (by omega)]; rfl)
              have d2 : wr.drew.cell? ⟨T9, k, none⟩ = some (.int .u8 (b.toNat : Int)) := bcells_cell (w := wr.drew) HTa.out k b (by rw [hb]; exact HTL.out k hlk)
              have e1 := xor_u8 a b
              rw [← hz] at e1
              have hw0 : IntKind.i64.wrap (4 * (i : Int)) = 4 * (i : Int) := IntWalk.i64_in _ (by omega)
              have hw1 : IntKind.i64.wrap (4 * (i : Int) - 32) = 4 * (i : Int) - 32 := IntWalk.i64_in _ (by omega)
              have hw2 : IntKind.i64.wrap (4 * (i : Int) - 32 + (k : Int)) = (n : Int) := by rw [IntWalk.i64_in _ (by omega)]; omega
              have hnL : (n : Int) < (L : Int) := by omega
              have b1 := a.toNat_lt
              have b2 := b.toNat_lt
              have b3 := z.toNat_lt
              have HLx := Lib.hid (show L = (Xs ++ full (wordF Xs i) k).length by rw [List.length_append, hfl, hXl]; exact hL)
              have HLy := Lib.hid (show (Xs ++ full (wordF Xs i) k).length ≤ 100000 by rw [List.length_append, hfl, hXl]; omega)
              have HFS := Lib.hid (show Xs ++ full (wordF Xs i) (k + 1) = Xs ++ full (wordF Xs i) k ++ [z] by rw [full_succ, hfk, List.append_assoc])
              have hfa : Fr (fun _ => False) wr.drew (wr.drew.alloc (.cells #[.int .u8 (z.toNat : Int)] 5)) := (Fr.refl _ _).alloc _
              have HBn := Lib.hid (show BRow (wr.drew.alloc (.cells #[.int .u8 (z.toNat : Int)] 5)) g cap (Xs ++ full (wordF Xs i) k) from BRow.fr (w := wr.drew) HBa.out hfa id)
              have HZn := Lib.hid (show (wr.drew.alloc (.cells #[.int .u8 (z.toNat : Int)] 5)).cell? ⟨wr.drew.heap.size, 0, none⟩ = some (.int .u8 (z.toNat : Int)) from (cell_of_row _ _ 0 _ _ _ (heap_alloc_new wr.drew _)).trans rfl)
              have HTn := Lib.hid (hfa.heap (show wr.drew.heap[T9]? = _ from HTa.out) id)
              have HFn := Lib.hid (HFa.out.drew.alloc (.cells #[.int .u8 (z.toNat : Int)] 5))
              have hTlt : T9 < wr.drew.heap.size := lt_of_heap (show wr.drew.heap[T9]? = _ from HTa.out)
              clear ha hb hz hfk hn hfl hXl hL
              go_wp2
              refine wp_region_till (fun W => W.cell? ⟨g, n, none⟩ = some (.int .u8 (a.toNat : Int)) ∧ W.cell? ⟨T9, k, none⟩ = some (.int .u8 (b.toNat : Int))) 15 (by kernel_rfl) ?_
              have HS := Lib.hid (show wr.drew.cell? ⟨g, n, none⟩ = some (.int .u8 (a.toNat : Int)) ∧ wr.drew.cell? ⟨T9, k, none⟩ = some (.int .u8 (b.toNat : Int)) from ⟨d1, d2⟩)
              have HSn := Lib.hid (show (wr.drew.alloc (.cells #[.int .u8 (z.toNat : Int)] 5)).cell? ⟨g, n, none⟩ = some (.int .u8 (a.toNat : Int)) ∧ (wr.drew.alloc (.cells #[.int .u8 (z.toNat : Int)] 5)).cell? ⟨T9, k, none⟩ = some (.int .u8 (b.toNat : Int)) from ⟨hfa.cell d1 id, hfa.cell d2 id⟩)
              clear hfa
              generalize wr.drew = wy at d1 d2 HS HSn HBn HZn HTn HFn hTlt ⊢
              refine wpAnyT_take (i := 0) (n := 17) (v := .slice (some ⟨g, 0, none⟩) L cap) rfl (by kernel_rfl) (fun _ _ _ h => h) HS.out (yieldsIf_plain rfl (fun W hW => by clear hW; go_simp)) ?_
              simp only [List.getElem_toArray, List.getElem_cons_succ, List.getElem_cons_zero, Act.put, List.setIfInBounds_toArray, List.set_cons_zero, List.set_cons_succ]
              refine wpAnyT_take (i := 1) (n := 17) (v := .slice (some ⟨g, 0, none⟩) L cap) rfl (by kernel_rfl) (fun _ _ _ h => h) HS.out (yieldsIf_plain rfl (fun W hW => by clear hW; go_simp)) ?_
              simp only [List.getElem_toArray, List.getElem_cons_succ, List.getElem_cons_zero, Act.put, List.setIfInBounds_toArray, List.set_cons_zero, List.set_cons_succ]
              refine wpAnyT_take (i := 2) (n := 17) (v := .int .i64 i) rfl (by kernel_rfl) (fun _ _ _ h => h) HS.out (yieldsIf_plain rfl (fun W hW => by clear hW; go_simp)) ?_
              simp only [List.getElem_toArray, List.getElem_cons_succ, List.getElem_cons_zero, Act.put, List.setIfInBounds_toArray, List.set_cons_zero, List.set_cons_succ]
              refine wpAnyT_take (i := 3) (n := 17) (v := .int .i64 (4 * (i : Int))) rfl (by kernel_rfl) (fun _ _ _ h => h) HS.out (yieldsIf_plain rfl (fun W hW => by clear hW; go_simp)) ?_
              simp only [List.getElem_toArray, List.getElem_cons_succ, List.getElem_cons_zero, Act.put, List.setIfInBounds_toArray, List.set_cons_zero, List.set_cons_succ]
              refine wpAnyT_take (i := 4) (n := 17) (v := .int .i64 (4 * (i : Int) - 32)) rfl (by kernel_rfl) (fun _ _ _ h => h) HS.out (yieldsIf_plain rfl (fun W hW => by clear hW; go_simp)) ?_
              simp only [List.getElem_toArray, List.getElem_cons_succ, List.getElem_cons_zero, Act.put, List.setIfInBounds_toArray, List.set_cons_zero, List.set_cons_succ]
              refine wpAnyT_take (i := 5) (n := 17) (v := .int .i64 k) rfl (by kernel_rfl) (fun _ _ _ h => h) HS.out (yieldsIf_plain rfl (fun W hW => by clear hW; go_simp)) ?_
              simp only [List.getElem_toArray, List.getElem_cons_succ, List.getElem_cons_zero, Act.put, List.setIfInBounds_toArray, List.set_cons_zero, List.set_cons_succ]
              refine wpAnyT_take (i := 6) (n := 17) (v := .int .i64 n) rfl (by kernel_rfl) (fun _ _ _ h => h) HS.out (yieldsIf_plain rfl (fun W hW => by clear hW; go_simp)) ?_
              simp only [List.getElem_toArray, List.getElem_cons_succ, List.getElem_cons_zero, Act.put, List.setIfInBounds_toArray, List.set_cons_zero, List.set_cons_succ]
              refine wpAnyT_take (i := 7) (n := 17) (v := .pointer (some ⟨g, n, none⟩)) rfl (by kernel_rfl) (fun _ _ _ h => h) HS.out (yieldsIf_plain rfl (fun W hW => by clear hW; go_simp)) ?_
              simp only [List.getElem_toArray, List.getElem_cons_succ, List.getElem_cons_zero, Act.put, List.setIfInBounds_toArray, List.set_cons_zero, List.set_cons_succ]
              refine wpAnyT_take (i := 8) (n := 17) (v := .int .u8 (a.toNat : Int)) rfl (by kernel_rfl) (fun _ _ _ h => h) HS.out (yieldsIf_plain rfl (fun W hW => by have h1 := hW.1; clear hW; go_simp)) ?_
              simp only [List.getElem_toArray, List.getElem_cons_succ, List.getElem_cons_zero, Act.put, List.setIfInBounds_toArray, List.set_cons_zero, List.set_cons_succ]
              refine wpAnyT_take (i := 9) (n := 17) (v := .slice (some ⟨T9, 0, none⟩) 4 4) rfl (by kernel_rfl) (fun _ _ _ h => h) HS.out (yieldsIf_plain rfl (fun W hW => by clear hW; go_simp)) ?_
              simp only [List.getElem_toArray, List.getElem_cons_succ, List.getElem_cons_zero, Act.put, List.setIfInBounds_toArray, List.set_cons_zero, List.set_cons_succ]
              refine wpAnyT_take (i := 10) (n := 17) (v := .int .i64 k) rfl (by kernel_rfl) (fun _ _ _ h => h) HS.out (yieldsIf_plain rfl (fun W hW => by clear hW; go_simp)) ?_
              simp only [List.getElem_toArray, List.getElem_cons_succ, List.getElem_cons_zero, Act.put, List.setIfInBounds_toArray, List.set_cons_zero, List.set_cons_succ]
              refine wpAnyT_take (i := 11) (n := 17) (v := .pointer (some ⟨T9, k, none⟩)) rfl (by kernel_rfl) (fun _ _ _ h => h) HS.out (yieldsIf_plain rfl (fun W hW => by clear hW; go_simp)) ?_
              simp only [List.getElem_toArray, List.getElem_cons_succ, List.getElem_cons_zero, Act.put, List.setIfInBounds_toArray, List.set_cons_zero, List.set_cons_succ]
              refine wpAnyT_take (i := 12) (n := 17) (v := .int .u8 (b.toNat : Int)) rfl (by kernel_rfl) (fun _ _ _ h => h) HS.out (yieldsIf_plain rfl (fun W hW => by have h1 := hW.2; clear hW; go_simp)) ?_
              simp only [List.getElem_toArray, List.getElem_cons_succ, List.getElem_cons_zero, Act.put, List.setIfInBounds_toArray, List.set_cons_zero, List.set_cons_succ]
              refine wpAnyT_take (i := 13) (n := 17) (v := .int .u8 (z.toNat : Int)) rfl (by kernel_rfl) (fun _ _ _ h => h) HS.out (yieldsIf_plain rfl (fun W hW => by clear hW; go_simp)) ?_
              simp only [List.getElem_toArray, List.getElem_cons_succ, List.getElem_cons_zero, Act.put, List.setIfInBounds_toArray, List.set_cons_zero, List.set_cons_succ]
              refine wpAnyT_one (i := 14) rfl (by kernel_rfl) (wpOp_plain rfl rfl (fun K hK => ?_))
              simp only [List.getElem_toArray, List.getElem_cons_succ, List.getElem_cons_zero, Act.put, List.setIfInBounds_toArray, List.set_cons_zero, List.set_cons_succ]
              have HK := Lib.hid hK
              clear hK
              go_wp2_with fail
              refine HK.out _ _ ⟨fun _ => HSn.out, ?_⟩
              clear HK K
              try simp only [List.getElem_toArray, List.getElem_cons_succ, List.getElem_cons_zero, Act.put, List.setIfInBounds_toArray, List.set_cons_zero, List.set_cons_succ]
              refine wpAnyT_of_any trivial [15, 16] _ _ _ _ (by kernel_rfl) (by simp) (.inr rfl) ?_
              simp only [List.filterMap_cons, List.filterMap_nil, List.getElem?_toArray, List.getElem?_cons_zero, List.getElem?_cons_succ]
              refine wpList_append_byte (op := ⟨some 120, _, _, _, _, _⟩) rfl (.tmp 105) (.tmp 119) rfl g cap (Xs ++ full (wordF Xs i) k) HBn.out HLy.out L HLx.out rfl wy.heap.size 1 rfl z HZn.out ?_
              intro g' cap' w' hb' hgr hat
              have hlt' := hb'.lt
              have HB' := Lib.hid (show BRow w' g' cap' (Xs ++ full (wordF Xs i) (k + 1)) by rw [HFS.out]; first | exact hb' | (rw [List.append_assoc]; exact hb'))
              have hTn : T9 ≠ g' := by
                rcases hat with h | h
                · rw [h]; exact hTg
                · first | (rw [h]; omega) | (simp at h; omega)
              have hgn : g0 ≤ g' := by
                have hwy : w.heap.size ≤ wy.heap.size := by have := HFn.out.size; have := HG0.out; have := HBn.out.lt; simp at *; omega
                rcases hat with h | h
                · rw [h]; exact hg
                · have := HG0.out; first | (rw [h]; omega) | (simp at h; omega)
              have HT' := Lib.hid ((hgr.block T9 (by simp; omega) (fun e => hTg (Option.some.inj e))).trans HTn.out)
              have HF' := Lib.hid (HFn.out.grown hgr (fun k hk => .inr (by have := HG0.out; have := Option.some.inj hk; omega)))
              clear hb' hgr hat
              go_wp2
              go_roundw
              case rel => exact ⟨k + 1, g', cap', L + 1, by omega, by rw [HLa.out]; omega, rfl, by go_num, HB'.out, hgn, hTn, HT'.out, HF'.out⟩
              case measure => simp [intOf]; omega
            · have hk4 : k = 4 := by omega
              rw [hk4] at HBa HLa
              have HBq := Lib.hid (show BRow wr g cap (wkT key (i + 1)) by rw [wkT_next key i HI.out.1, ← HXs.out]; exact HBa.out)
              have HLq := Lib.hid (show L = 4 * (i + 1) by rw [HLa.out]; omega)
              clear hk4 hL hfl hXl
              go_wp2
              go_roundw
              case rel => exact ⟨i + 1, g, cap, L, by omega, by omega, HLq.out, rfl, by rw [HPW.out], by go_num, HBq.out, hg, HFa.out⟩
              case measure => simp [intOf]; omega
        · have q0 : ((r : Int) == 0) = false := by simpa using h0
          have q4 : ((r : Int) == 4) = false := by simp; omega
          have HPW := Lib.hid (show pw (i + 1) = pw i from pw_same i (by have := HR.out; omega))
          have HTL := Lib.hid (show ∀ k, k < 4 → [x0, x1, x2, x3][k]? = some (wordT Xs i k) from fun k hk => by
            obtain ⟨g0, g1, g2, g3⟩ := HH.out
            have hr := HR.out
            obtain ⟨hi8, _⟩ := HI.out
            have : k = 0 ∨ k = 1 ∨ k = 2 ∨ k = 3 := by omega
            rcases this with rfl | rfl | rfl | rfl
            · simp only [wordT]; rw [if_neg (by omega), if_neg (by omega), show 4 * i - 4 + 0 = 4 * i - 4 by omega, ← g0]; rfl
            · simp only [wordT]; rw [if_neg (by omega), if_neg (by omega), show 4 * i - 4 + 1 = 4 * i - 3 by omega, ← g1]; rfl
            · simp only [wordT]; rw [if_neg (by omega), if_neg (by omega), show 4 * i - 4 + 2 = 4 * i - 2 by omega, ← g2]; rfl
            · simp only [wordT]; rw [if_neg (by omega), if_neg (by omega), show 4 * i - 4 + 3 = 4 * i - 1 by omega, ← g3]; rfl)
          clear h0 h4
          go_wp2
          generalize (wr.alloc (.cells #[.int .u8 (x0.toNat : Int), .int .u8 (x1.toNat : Int), .int .u8 (x2.toNat : Int), .int .u8 (x3.toNat : Int)] 5)).drew = w6 at HTe HBe HFe ⊢
          obtain ⟨T, hT⟩ : ∃ T, T = wr.heap.size := ⟨_, rfl⟩
          rw [← hT] at HTe hTg ⊢
          clear hT HB HF
          have HT9 := HTe
          have HB9 := HBe
          have HF9 := HFe
          clear HTe HBe HFe
          go_loopw [5, 9] (fun v5 v9 wr => ∃ (k g cap L : Nat), k ≤ 4 ∧ L = 4 * i + k ∧ v5 = .slice (some ⟨g, 0, none⟩) L cap ∧ v9 = .int .i64 k ∧ BRow wr g cap (Xs ++ full (wordF Xs i) k) ∧ g0 ≤ g ∧ T ≠ g ∧ wr.heap[T]? = some (.cells (bcells [x0, x1, x2, x3]).toArray 5 (0, 0)) ∧ Fr (fun _ => False) w wr) (fun _ v9 _ => 4 - (intOf v9).toNat)
          case atStart => exact ⟨0, g, cap, L, Nat.zero_le _, by rw [HL.out]; rfl, rfl, rfl, by simpa [full] using HB9.out, hg, by omega, HT9.out, HF9.out⟩
          case round =>
            obtain ⟨k, g, cap, L, hk, hL, rfl, rfl, hB, hg, hTg, hT, hf⟩ := hrel
            have HBa := Lib.hid hB
            have HTa := Lib.hid hT
            have HFa := Lib.hid hf
            have HLa := Lib.hid hL
            clear hB hT hf HB9 HT9 HF9
            have hfl := full_length (wordF Xs i) k
            have hXl := HXl.out
            by_cases hlk : k < 4
            · obtain ⟨n, hn⟩ : ∃ n, n = 4 * i - 32 + k := ⟨_, rfl⟩
              obtain ⟨a, ha⟩ : ∃ a, a = Xs.getD (4 * i - 32 + k) 0 := ⟨_, rfl⟩
              obtain ⟨b, hb⟩ : ∃ b, b = wordT Xs i k := ⟨_, rfl⟩
              obtain ⟨z, hz⟩ : ∃ z, z = a ^^^ b := ⟨_, rfl⟩
              have hfk : wordF Xs i k = z := by rw [hz, ha, hb]; rfl
              have d1 : wr.drew.cell? ⟨g, n, none⟩ = some (.int .u8 (a.toNat : Int)) := HBa.out.cell n a (by
                rw [hn, ha, List.getElem?_append_left (by omega), List.getD_eq_getElem?_getD, List.getElem?_eq_getElem (by omega)]; rfl)
              have d2 : wr.drew.cell? ⟨T, k, none⟩ = some (.int .u8 (b.toNat : Int)) := bcells_cell (w := wr.drew) HTa.out k b (by rw [hb]; exact HTL.out k hlk)
              have e1 := xor_u8 a b
              rw [← hz] at e1
              have hw0 : IntKind.i64.wrap (4 * (i : Int)) = 4 * (i : Int) := IntWalk.i64_in _ (by omega)
              have hw1 : IntKind.i64.wrap (4 * (i : Int) - 32) = 4 * (i : Int) - 32 := IntWalk.i64_in _ (by omega)
              have hw2 : IntKind.i64.wrap (4 * (i : Int) - 32 + (k : Int)) = (n : Int) := by rw [IntWalk.i64_in _ (by omega)]; omega
              have hnL : (n : Int) < (L : Int) := by omega
              have b1 := a.toNat_lt
              have b2 := b.toNat_lt
              have b3 := z.toNat_lt
              have HLx := Lib.hid (show L = (Xs ++ full (wordF Xs i) k).length by rw [List.length_append, hfl, hXl]; exact hL)
              have HLy := Lib.hid (show (Xs ++ full (wordF Xs i) k).length ≤ 100000 by rw [List.length_append, hfl, hXl]; omega)
              have HFS := Lib.hid (show Xs ++ full (wordF Xs i) (k + 1) = Xs ++ full (wordF Xs i) k ++ [z] by rw [full_succ, hfk, List.append_assoc])
              have hfa : Fr (fun _ => False) wr.drew (wr.drew.alloc (.cells #[.int .u8 (z.toNat : Int)] 5)) := (Fr.refl _ _).alloc _
              have HBn := Lib.hid (show BRow (wr.drew.alloc (.cells #[.int .u8 (z.toNat : Int)] 5)) g cap (Xs ++ full (wordF Xs i) k) from BRow.fr (w := wr.drew) HBa.out hfa id)
              have HZn := Lib.hid (show (wr.drew.alloc (.cells #[.int .u8 (z.toNat : Int)] 5)).cell? ⟨wr.drew.heap.size, 0, none⟩ = some (.int .u8 (z.toNat : Int)) from (cell_of_row _ _ 0 _ _ _ (heap_alloc_new wr.drew _)).trans rfl)
              have HTn := Lib.hid (hfa.heap (show wr.drew.heap[T]? = _ from HTa.out) id)
              have HFn := Lib.hid (HFa.out.drew.alloc (.cells #[.int .u8 (z.toNat : Int)] 5))
              have hTlt : T < wr.drew.heap.size := lt_of_heap (show wr.drew.heap[T]? = _ from HTa.out)
              clear ha hb hz hfk hn hfl hXl hL
              go_wp2
              refine wp_region_till (fun W => W.cell? ⟨g, n, none⟩ = some (.int .u8 (a.toNat : Int)) ∧ W.cell? ⟨T, k, none⟩ = some (.int .u8 (b.toNat : Int))) 15 (by kernel_rfl) ?_
              have HS := Lib.hid (show wr.drew.cell? ⟨g, n, none⟩ = some (.int .u8 (a.toNat : Int)) ∧ wr.drew.cell? ⟨T, k, none⟩ = some (.int .u8 (b.toNat : Int)) from ⟨d1, d2⟩)
              have HSn := Lib.hid (show (wr.drew.alloc (.cells #[.int .u8 (z.toNat : Int)] 5)).cell? ⟨g, n, none⟩ = some (.int .u8 (a.toNat : Int)) ∧ (wr.drew.alloc (.cells #[.int .u8 (z.toNat : Int)] 5)).cell? ⟨T, k, none⟩ = some (.int .u8 (b.toNat : Int)) from ⟨hfa.cell d1 id, hfa.cell d2 id⟩)
              clear hfa
              generalize wr.drew = wy at d1 d2 HS HSn HBn HZn HTn HFn hTlt ⊢
              refine wpAnyT_take (i := 0) (n := 17) (v := .slice (some ⟨g, 0, none⟩) L cap) rfl (by kernel_rfl) (fun _ _ _ h => h) HS.out (yieldsIf_plain rfl (fun W hW => by clear hW; go_simp)) ?_
              simp only [List.getElem_toArray, List.getElem_cons_succ, List.getElem_cons_zero, Act.put, List.setIfInBounds_toArray, List.set_cons_zero, List.set_cons_succ]
              refine wpAnyT_take (i := 1) (n := 17) (v := .slice (some ⟨g, 0, none⟩) L cap) rfl (by kernel_rfl) (fun _ _ _ h => h) HS.out (yieldsIf_plain rfl (fun W hW => by clear hW; go_simp)) ?_
              simp only [List.getElem_toArray, List.getElem_cons_succ, List.getElem_cons_zero, Act.put, List.setIfInBounds_toArray, List.set_cons_zero, List.set_cons_succ]
              refine wpAnyT_take (i := 2) (n := 17) (v := .int .i64 i) rfl (by kernel_rfl) (fun _ _ _ h => h) HS.out (yieldsIf_plain rfl (fun W hW => by clear hW; go_simp)) ?_
              simp only [List.getElem_toArray, List.getElem_cons_succ, List.getElem_cons_zero, Act.put, List.setIfInBounds_toArray, List.set_cons_zero, List.set_cons_succ]
              refine wpAnyT_take (i := 3) (n := 17) (v := .int .i64 (4 * (i : Int))) rfl (by kernel_rfl) (fun _ _ _ h => h) HS.out (yieldsIf_plain rfl (fun W hW => by clear hW; go_simp)) ?_
              simp only [List.getElem_toArray, List.getElem_cons_succ, List.getElem_cons_zero, Act.put, List.setIfInBounds_toArray, List.set_cons_zero, List.set_cons_succ]
              refine wpAnyT_take (i := 4) (n := 17) (v := .int .i64 (4 * (i : Int) - 32)) rfl (by kernel_rfl) (fun _ _ _ h => h) HS.out (yieldsIf_plain rfl (fun W hW => by clear hW; go_simp)) ?_
              simp only [List.getElem_toArray, List.getElem_cons_succ, List.getElem_cons_zero, Act.put, List.setIfInBounds_toArray, List.set_cons_zero, List.set_cons_succ]
              refine wpAnyT_take (i := 5) (n := 17) (v := .int .i64 k) rfl (by kernel_rfl) (fun _ _ _ h => h) HS.out (yieldsIf_plain rfl (fun W hW => by clear hW; go_simp)) ?_
              simp only [List.getElem_toArray, List.getElem_cons_succ, List.getElem_cons_zero, Act.put, List.setIfInBounds_toArray, List.set_cons_zero, List.set_cons_succ]
              refine wpAnyT_take (i := 6) (n := 17) (v := .int .i64 n) rfl (by kernel_rfl) (fun _ _ _ h => h) HS.out (yieldsIf_plain rfl (fun W hW => by clear hW; go_simp)) ?_
              simp only [List.getElem_toArray, List.getElem_cons_succ, List.getElem_cons_zero, Act.put, List.setIfInBounds_toArray, List.set_cons_zero, List.set_cons_succ]
              refine wpAnyT_take (i := 7) (n := 17) (v := .pointer (some ⟨g, n, none⟩)) rfl (by kernel_rfl) (fun _ _ _ h => h) HS.out (yieldsIf_plain rfl (fun W hW => by clear hW; go_simp)) ?_
              simp only [List.getElem_toArray, List.getElem_cons_succ, List.getElem_cons_zero, Act.put, List.setIfInBounds_toArray, List.set_cons_zero, List.set_cons_succ]
              refine wpAnyT_take (i := 8) (n := 17) (v := .int .u8 (a.toNat : Int)) rfl (by kernel_rfl) (fun _ _ _ h => h) HS.out (yieldsIf_plain rfl (fun W hW => by have h1 := hW.1; clear hW; go_simp)) ?_
              simp only [List.getElem_toArray, List.getElem_cons_succ, List.getElem_cons_zero, Act.put, List.setIfInBounds_toArray, List.set_cons_zero, List.set_cons_succ]
              refine wpAnyT_take (i := 9) (n := 17) (v := .slice (some ⟨T, 0, none⟩) 4 4) rfl (by kernel_rfl) (fun _ _ _ h => h) HS.out (yieldsIf_plain rfl (fun W hW => by clear hW; go_simp)) ?_
              simp only [List.getElem_toArray, List.getElem_cons_succ, List.getElem_cons_zero, Act.put, List.setIfInBounds_toArray, List.set_cons_zero, List.set_cons_succ]
              refine wpAnyT_take (i := 10) (n := 17) (v := .int .i64 k) rfl (by kernel_rfl) (fun _ _ _ h => h) HS.out (yieldsIf_plain rfl (fun W hW => by clear hW; go_simp)) ?_
              simp only [List.getElem_toArray, List.getElem_cons_succ, List.getElem_cons_zero, Act.put, List.setIfInBounds_toArray, List.set_cons_zero, List.set_cons_succ]
              refine wpAnyT_take (i := 11) (n := 17) (v := .pointer (some ⟨T, k, none⟩)) rfl (by kernel_rfl) (fun _ _ _ h => h) HS.out (yieldsIf_plain rfl (fun W hW => by clear hW; go_simp)) ?_
              simp only [List.getElem_toArray, List.getElem_cons_succ, List.getElem_cons_zero, Act.put, List.setIfInBounds_toArray, List.set_cons_zero, List.set_cons_succ]
              refine wpAnyT_take (i := 12) (n := 17) (v := .int .u8 (b.toNat : Int)) rfl (by kernel_rfl) (fun _ _ _ h => h) HS.out (yieldsIf_plain rfl (fun W hW => by have h1 := hW.2; clear hW; go_simp)) ?_
              simp only [List.getElem_toArray, List.getElem_cons_succ, List.getElem_cons_zero, Act.put, List.setIfInBounds_toArray, List.set_cons_zero, List.set_cons_succ]
              refine wpAnyT_take (i := 13) (n := 17) (v := .int .u8 (z.toNat : Int)) rfl (by kernel_rfl) (fun _ _ _ h => h) HS.out (yieldsIf_plain rfl (fun W hW => by clear hW; go_simp)) ?_
              simp only [List.getElem_toArray, List.getElem_cons_succ, List.getElem_cons_zero, Act.put, List.setIfInBounds_toArray, List.set_cons_zero, List.set_cons_succ]
              refine wpAnyT_one (i := 14) rfl (by kernel_rfl) (wpOp_plain rfl rfl (fun K hK => ?_))
              simp only [List.getElem_toArray, List.getElem_cons_succ, List.getElem_cons_zero, Act.put, List.setIfInBounds_toArray, List.set_cons_zero, List.set_cons_succ]
              have HK := Lib.hid hK
              clear hK
              go_wp2_with fail
              refine HK.out _ _ ⟨fun _ => HSn.out, ?_⟩
              clear HK K
              try simp only [List.getElem_toArray, List.getElem_cons_succ, List.getElem_cons_zero, Act.put, List.setIfInBounds_toArray, List.set_cons_zero, List.set_cons_succ]
              refine wpAnyT_of_any trivial [15, 16] _ _ _ _ (by kernel_rfl) (by simp) (.inr rfl) ?_
              simp only [List.filterMap_cons, List.filterMap_nil, List.getElem?_toArray, List.getElem?_cons_zero, List.getElem?_cons_succ]
              refine wpList_append_byte (op := ⟨some 120, _, _, _, _, _⟩) rfl (.tmp 105) (.tmp 119) rfl g cap (Xs ++ full (wordF Xs i) k) HBn.out HLy.out L HLx.out rfl wy.heap.size 1 rfl z HZn.out ?_
              intro g' cap' w' hb' hgr hat
              have hlt' := hb'.lt
              have HB' := Lib.hid (show BRow w' g' cap' (Xs ++ full (wordF Xs i) (k + 1)) by rw [HFS.out]; first | exact hb' | (rw [List.append_assoc]; exact hb'))
              have hTn : T ≠ g' := by
                rcases hat with h | h
                · rw [h]; exact hTg
                · first | (rw [h]; omega) | (simp at h; omega)
              have hgn : g0 ≤ g' := by
                have hwy : w.heap.size ≤ wy.heap.size := by have := HFn.out.size; have := HG0.out; have := HBn.out.lt; simp at *; omega
                rcases hat with h | h
                · rw [h]; exact hg
                · have := HG0.out; first | (rw [h]; omega) | (simp at h; omega)
              have HT' := Lib.hid ((hgr.block T (by simp; omega) (fun e => hTg (Option.some.inj e))).trans HTn.out)
              have HF' := Lib.hid (HFn.out.grown hgr (fun k hk => .inr (by have := HG0.out; have := Option.some.inj hk; omega)))
              clear hb' hgr hat
              go_wp2
              go_roundw
              case rel => exact ⟨k + 1, g', cap', L + 1, by omega, by rw [HLa.out]; omega, rfl, by go_num, HB'.out, hgn, hTn, HT'.out, HF'.out⟩
              case measure => simp [intOf]; omega
            · have hk4 : k = 4 := by omega
              rw [hk4] at HBa HLa
              have HBq := Lib.hid (show BRow wr g cap (wkT key (i + 1)) by rw [wkT_next key i HI.out.1, ← HXs.out]; exact HBa.out)
              have HLq := Lib.hid (show L = 4 * (i + 1) by rw [HLa.out]; omega)
              clear hk4 hL hfl hXl
              go_wp2
              go_roundw
              case rel => exact ⟨i + 1, g, cap, L, by omega, by omega, HLq.out, rfl, by rw [HPW.out], by go_num, HBq.out, hg, HFa.out⟩
              case measure => simp [intOf]; omega
    · have h60 : i = 60 := by omega
      have HBz := Lib.hid (show BRow wr g cap (words key 52) by have := HB.out; rw [h60] at this; exact this)
      have HLz := Lib.hid (show L = 240 by rw [HL.out, h60])
      clear h60
      go_wp2
      go_ret
      refine ⟨g, cap, ?_, HBz.out, by rw [← HG0.out]; exact hg, HF.out⟩
      rw [← HLz.out]; rfl
end Go.Proofs.Ytcchhfkmhbjdmaa
