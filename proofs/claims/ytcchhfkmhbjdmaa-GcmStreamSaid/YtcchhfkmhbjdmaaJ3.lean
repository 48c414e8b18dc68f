/- The digest's press: the first loop. -/
import Derived.Test.YtcchhfkmhbjdmaaJ2
set_option linter.unusedVariables false
set_option linter.unusedSimpArgs false
set_option pp.deepTerms true
set_option pp.maxSteps 100000
namespace Go.Proofs.Ytcchhfkmhbjdmaa
open Go.RowKit
def loopsIn : Code → List Code
  | .loop c => [c]
  | .seq a b => loopsIn a ++ loopsIn b
  | .cond _ a b => loopsIn a ++ loopsIn b
  | .block _ c => loopsIn c
  | .scope c => loopsIn c
  | _ => []
noncomputable def pb (k : Nat) : Code := ((Try.f79.body.map loopsIn).getD []).getD k .skip
theorem sws_step (b : List UInt8) (i : Nat) (hi : i < 64) : ((sws b i ++ List.replicate (64 - i) 0).set i (nextW b (sws b i) i)) = sws b (i + 1) ++ List.replicate (64 - (i + 1)) 0 := by
  have hl := sws_length b i
  obtain ⟨m, hm⟩ : ∃ m, 64 - i = m + 1 := ⟨63 - i, by omega⟩
  rw [hm, show 64 - (i + 1) = m by omega, List.replicate_succ, List.set_append, hl, if_neg (by omega), Nat.sub_self]
  simp [sws]
theorem sws_old (b : List UInt8) (i k : Nat) (hk : k < i) (hi : i ≤ 64) : (sws b i ++ List.replicate (64 - i) 0)[k]? = some ((sws b i).getD k 0) := by
  have hl := sws_length b i
  rw [List.getElem?_append_left (by omega)]
  exact get_some32 hl k hk
theorem sws_len (b : List UInt8) (i : Nat) (hi : i ≤ 64) : (sws b i ++ List.replicate (64 - i) 0).length = 64 := by
  rw [List.length_append, sws_length, List.length_replicate]; omega
theorem sws_at (b : List UInt8) (i : Nat) (hi : i < 64) : (sws b i ++ List.replicate (64 - i) 0)[i]? = some ((sws b i ++ List.replicate (64 - i) 0).getD i 0) :=
  get_some32 (sws_len b i (by omega)) i hi
theorem str_at32 (s : List UInt8) (i : Nat) (h : i < (str s).size) : (str s)[i]'h = s.getD i 0 := by
  have hl : i < s.length := by rwa [str_size] at h
  simp [str, List.getD_eq_getElem?_getD, List.getElem?_eq_getElem hl, ByteArray.getElem_eq_getElem_data]
theorem u8_32 (x : UInt8) : (x.toNat : Int) = ((x.toUInt32).toNat : Int) := by simp
set_option maxRecDepth 100000 in
set_option maxHeartbeats 16000000 in
theorem press_l1 (T B : Nat) (b : List UInt8) (hb : b.length = 64) (w : World) (hB : w.heap[B]? = some (.cells (wcells (List.replicate 64 0) ++ []).toArray 115 (0, 0))) (Q0 : Exit → Act → World → Prop)
    (hexit : ∀ (u5 u23 u24 u25 u26 u27 u28 u29 u30 u31 u32 u33 u34 u35 u36 u37 u38 u39 u40 u41 u42 u43 u44 u45 u46 u47 u48 u49 u50 u51 u52 u53 u54 u55 u56 : Value) (w' : World), w'.heap[B]? = some (.cells (wcells (sws b 16 ++ List.replicate 48 0) ++ []).toArray 115 (0, 0)) → Fr (fun i => i = B) w w' → Q0 (.exit 0) ⟨(.pointer (some ⟨T, 0, none⟩) :: .string (str b) :: undef :: undef :: .pointer (some ⟨B, 0, none⟩) :: u5 :: undef :: undef :: undef :: undef :: undef :: undef :: undef :: undef :: undef :: undef :: undef :: undef :: undef :: undef :: undef :: undef :: .int .i64 (16) :: u23 :: u24 :: u25 :: u26 :: u27 :: u28 :: u29 :: u30 :: u31 :: u32 :: u33 :: u34 :: u35 :: u36 :: u37 :: u38 :: u39 :: u40 :: u41 :: u42 :: u43 :: u44 :: u45 :: u46 :: u47 :: u48 :: u49 :: u50 :: u51 :: u52 :: u53 :: u54 :: u55 :: u56 :: undef :: undef :: undef :: undef :: undef :: undef :: undef :: undef :: undef :: undef :: undef :: undef :: undef :: undef :: undef :: undef :: undef :: undef :: undef :: undef :: undef :: undef :: undef :: undef :: undef :: undef :: undef :: undef :: undef :: undef :: undef :: undef :: undef :: undef :: undef :: undef :: undef :: undef :: undef :: undef :: undef :: undef :: undef :: undef :: undef :: undef :: undef :: undef :: undef :: undef :: undef :: undef :: undef :: undef :: undef :: undef :: undef :: undef :: undef :: undef :: undef :: undef :: undef :: undef :: undef :: undef :: undef :: undef :: undef :: undef :: undef :: undef :: undef :: undef :: undef :: undef :: undef :: undef :: undef :: undef :: undef :: undef :: undef :: undef :: undef :: undef :: undef :: undef :: undef :: undef :: undef :: undef :: undef :: undef :: undef :: undef :: undef :: undef :: undef :: undef :: undef :: undef :: undef :: undef :: undef :: undef :: undef :: undef :: undef :: undef :: undef :: undef :: undef :: undef :: undef :: undef :: undef :: undef :: undef :: undef :: undef :: undef :: undef :: undef :: undef :: undef :: undef :: undef :: undef :: undef :: undef :: undef :: undef :: undef :: undef :: undef :: undef :: undef :: undef :: undef :: undef :: undef :: undef :: undef :: undef :: undef :: undef :: undef :: undef :: undef :: undef :: undef :: undef :: undef :: undef :: undef :: undef :: undef :: undef :: undef :: undef :: undef :: undef :: undef :: undef :: undef :: undef :: undef :: undef :: undef :: undef :: []).toArray, []⟩ w') :
    Code.wp Try.prog (Code.loop (pb 0)) Q0 ⟨(.pointer (some ⟨T, 0, none⟩) :: .string (str b) :: undef :: undef :: .pointer (some ⟨B, 0, none⟩) :: undef :: undef :: undef :: undef :: undef :: undef :: undef :: undef :: undef :: undef :: undef :: undef :: undef :: undef :: undef :: undef :: undef :: .int .i64 (0) :: undef :: undef :: undef :: undef :: undef :: undef :: undef :: undef :: undef :: undef :: undef :: undef :: undef :: undef :: undef :: undef :: undef :: undef :: undef :: undef :: undef :: undef :: undef :: undef :: undef :: undef :: undef :: undef :: undef :: undef :: undef :: undef :: undef :: undef :: undef :: undef :: undef :: undef :: undef :: undef :: undef :: undef :: undef :: undef :: undef :: undef :: undef :: undef :: undef :: undef :: undef :: undef :: undef :: undef :: undef :: undef :: undef :: undef :: undef :: undef :: undef :: undef :: undef :: undef :: undef :: undef :: undef :: undef :: undef :: undef :: undef :: undef :: undef :: undef :: undef :: undef :: undef :: undef :: undef :: undef :: undef :: undef :: undef :: undef :: undef :: undef :: undef :: undef :: undef :: undef :: undef :: undef :: undef :: undef :: undef :: undef :: undef :: undef :: undef :: undef :: undef :: undef :: undef :: undef :: undef :: undef :: undef :: undef :: undef :: undef :: undef :: undef :: undef :: undef :: undef :: undef :: undef :: undef :: undef :: undef :: undef :: undef :: undef :: undef :: undef :: undef :: undef :: undef :: undef :: undef :: undef :: undef :: undef :: undef :: undef :: undef :: undef :: undef :: undef :: undef :: undef :: undef :: undef :: undef :: undef :: undef :: undef :: undef :: undef :: undef :: undef :: undef :: undef :: undef :: undef :: undef :: undef :: undef :: undef :: undef :: undef :: undef :: undef :: undef :: undef :: undef :: undef :: undef :: undef :: undef :: undef :: undef :: undef :: undef :: undef :: undef :: undef :: undef :: undef :: undef :: undef :: undef :: undef :: undef :: undef :: undef :: undef :: undef :: undef :: undef :: undef :: undef :: undef :: undef :: undef :: undef :: undef :: undef :: undef :: undef :: undef :: undef :: undef :: undef :: undef :: []).toArray, []⟩ w := by
  have hsz : (str b).size = 64 := by rw [str_size]; exact hb
  have HB0 := Lib.hid hB
  have HX := Lib.hid hexit
  clear hB hexit hb
  conv => arg 2; arg 1; whnf
  go_loopw [22] (fun v wr => ∃ i : Nat, i ≤ 16 ∧ v = .int .i64 i ∧ wr.heap[B]? = some (.cells (wcells (sws b i ++ List.replicate (64 - i) 0) ++ []).toArray 115 (0, 0)) ∧ Fr (fun i => i = B) w wr) (fun v _ => 16 - (intOf v).toNat)
  case atStart => exact ⟨0, Nat.zero_le _, rfl, HB0.out, Fr.refl _ _⟩
  case round =>
    obtain ⟨i, hi, rfl, hBl, hf⟩ := hrel
    have HB := Lib.hid hBl
    have HF := Lib.hid hf
    clear hBl hf HB0
    by_cases hlt : i < 16
    · obtain ⟨n0, hn0⟩ : ∃ n, n = 4 * i := ⟨_, rfl⟩
      obtain ⟨n1, hn1⟩ : ∃ n, n = 4 * i + 1 := ⟨_, rfl⟩
      obtain ⟨n2, hn2⟩ : ∃ n, n = 4 * i + 2 := ⟨_, rfl⟩
      obtain ⟨n3, hn3⟩ : ∃ n, n = 4 * i + 3 := ⟨_, rfl⟩
      have hw0 : IntKind.i64.wrap (4 * (i : Int)) = (n0 : Int) := by rw [IntWalk.i64_in _ (by omega)]; omega
      have hw1 : IntKind.i64.wrap ((n0 : Int) + 1) = (n1 : Int) := by rw [IntWalk.i64_in _ (by omega)]; omega
      have hw2 : IntKind.i64.wrap ((n0 : Int) + 2) = (n2 : Int) := by rw [IntWalk.i64_in _ (by omega)]; omega
      have hw3 : IntKind.i64.wrap ((n0 : Int) + 3) = (n3 : Int) := by rw [IntWalk.i64_in _ (by omega)]; omega
      have l0 : (n0 : Int) < 64 := by omega
      have l1 : (n1 : Int) < 64 := by omega
      have l2 : (n2 : Int) < 64 := by omega
      have l3 : (n3 : Int) < 64 := by omega
      obtain ⟨x0, hx0⟩ : ∃ x, x = b.getD n0 0 := ⟨_, rfl⟩
      have hs0 : ∀ h, (str b)[n0]'h = x0 := fun h => by rw [str_at32, hx0]
      obtain ⟨x1, hx1⟩ : ∃ x, x = b.getD n1 0 := ⟨_, rfl⟩
      have hs1 : ∀ h, (str b)[n1]'h = x1 := fun h => by rw [str_at32, hx1]
      obtain ⟨x2, hx2⟩ : ∃ x, x = b.getD n2 0 := ⟨_, rfl⟩
      have hs2 : ∀ h, (str b)[n2]'h = x2 := fun h => by rw [str_at32, hx2]
      obtain ⟨x3, hx3⟩ : ∃ x, x = b.getD n3 0 := ⟨_, rfl⟩
      have hs3 : ∀ h, (str b)[n3]'h = x3 := fun h => by rw [str_at32, hx3]
      obtain ⟨y0, hy0⟩ : ∃ y, y = x0.toUInt32 <<< 24 := ⟨_, rfl⟩
      have es0 : (x0.toNat : Int) * 16777216 = (y0.toNat : Int) := by
        have h1 := shl_u32 x0.toUInt32 24 24 rfl (by omega)
        rw [← u8_32, ← hy0] at h1
        have h2 := x0.toNat_lt
        rw [← h1]; simp only [Nat.reducePow]; omega
      obtain ⟨y1, hy1⟩ : ∃ y, y = x1.toUInt32 <<< 16 := ⟨_, rfl⟩
      have es1 : (x1.toNat : Int) * 65536 = (y1.toNat : Int) := by
        have h1 := shl_u32 x1.toUInt32 16 16 rfl (by omega)
        rw [← u8_32, ← hy1] at h1
        have h2 := x1.toNat_lt
        rw [← h1]; simp only [Nat.reducePow]; omega
      obtain ⟨y2, hy2⟩ : ∃ y, y = x2.toUInt32 <<< 8 := ⟨_, rfl⟩
      have es2 : (x2.toNat : Int) * 256 = (y2.toNat : Int) := by
        have h1 := shl_u32 x2.toUInt32 8 8 rfl (by omega)
        rw [← u8_32, ← hy2] at h1
        have h2 := x2.toNat_lt
        rw [← h1]; simp only [Nat.reducePow]; omega
      obtain ⟨z1, hz1⟩ : ∃ z, z = y0 ||| y1 := ⟨_, rfl⟩
      obtain ⟨z2, hz2⟩ : ∃ z, z = z1 ||| y2 := ⟨_, rfl⟩
      obtain ⟨z3, hz3⟩ : ∃ z, z = z2 ||| x3.toUInt32 := ⟨_, rfl⟩
      have e1 : bits .or .u32 (y0.toNat : Int) (y1.toNat : Int) = (z1.toNat : Int) := by rw [hz1]; exact or_u32 _ _
      have e2 : bits .or .u32 (z1.toNat : Int) (y2.toNat : Int) = (z2.toNat : Int) := by rw [hz2]; exact or_u32 _ _
      have e3 : bits .or .u32 (z2.toNat : Int) (x3.toNat : Int) = (z3.toNat : Int) := by rw [hz3, u8_32]; exact or_u32 _ _
      have hv : nextW b (sws b i) i = z3 := by
        unfold nextW w4
        rw [if_pos hlt, hz3, hz2, hz1, hy0, hy1, hy2, hx0, hx1, hx2, hx3, hn0, hn1, hn2, hn3]
      have c9 : wr.drew.cell? ⟨B, i, none⟩ = some (.int .u32 (((sws b i ++ List.replicate (64 - i) 0).getD i 0).toNat : Int)) := wcells_cell (w := wr.drew) HB.out i _ (sws_at b i (by omega))
      have hz' : wr.drew.frozen? ⟨B, i, none⟩ = false := frozen_of_row wr _ _ _ _ HB.out
      have HB1 := Lib.hid (show (wr.drew.setCell ⟨B, i, none⟩ (.int .u32 (z3.toNat : Int))).heap[B]? = some (.cells (wcells (sws b (i + 1) ++ List.replicate (64 - (i + 1)) 0) ++ []).toArray 115 (0, 0)) by
        have h := wcells_set (w := wr.drew) HB.out i (by rw [sws_len b i (by omega)]; omega) z3
        rw [← hv, sws_step b i (by omega), hv] at h
        exact h)
      have HF1 := Lib.hid (HF.out.drew.setCell ⟨B, i, none⟩ (.int .u32 (z3.toNat : Int)) (.inl rfl))
      have bx0 := x0.toNat_lt
      have bx1 := x1.toNat_lt
      have bx2 := x2.toNat_lt
      have bx3 := x3.toNat_lt
      have bby0 := y0.toNat_lt
      have bby1 := y1.toNat_lt
      have bby2 := y2.toNat_lt
      have bbz1 := z1.toNat_lt
      have bbz2 := z2.toNat_lt
      have bbz3 := z3.toNat_lt
      have hi64 : (i : Int) < 64 := by omega
      clear hx0 hx1 hx2 hx3 hy0 hy1 hy2 hz1 hz2 hz3 hn0 hn1 hn2 hn3 hv
      go_wp2
      refine wp_region_still_tail 31 (by kernel_rfl) (by kernel_rfl) ?_
      simp only [List.take_succ_cons, List.take_zero, List.drop_succ_cons, List.drop_zero]
      change wpStill _ _ wr.drew (fun a' => wpList _ _ _ _ a' wr.drew) _ _
      repeat still_step
      refine wpStill_nil ?_
      go_wp2
      go_roundw
      case rel => exact ⟨i + 1, by omega, by go_num, HB1.out, HF1.out⟩
      case measure => simp [intOf]; omega
    · have h16 : i = 16 := by omega
      subst h16
      go_wp2
      exact HX.out _ _ _ _ _ _ _ _ _ _ _ _ _ _ _ _ _ _ _ _ _ _ _ _ _ _ _ _ _ _ _ _ _ _ _ _ HB.out HF.out
end Go.Proofs.Ytcchhfkmhbjdmaa
