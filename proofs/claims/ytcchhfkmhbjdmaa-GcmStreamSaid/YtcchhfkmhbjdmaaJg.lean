/- Tags: Tag, Check. -/
import Derived.Test.YtcchhfkmhbjdmaaJf
set_option linter.unusedVariables false
set_option linter.unusedSimpArgs false
set_option pp.deepTerms true
set_option pp.maxSteps 100000
namespace Go.Proofs.Ytcchhfkmhbjdmaa
open Go.RowKit
section
variable {ops : Array Oper} {rest : List Oper} {op : Oper} {a : Act} {w : World} {Q : Exit → Act → World → Prop}
set_option maxRecDepth 20000 in
theorem wpList_append_strs (hgd : op.guard = none) (s y : Operand) (ho : op.op = .call { callee := .builtin .append, args := #[s, y], argTypes := #[42, 42] })
    (g : Nat) (x : ByteArray) (hg : w.heap[g]? = some (.cells #[.string x] 9 (0, 0))) (hs : a.eval s = .slice (some ⟨g, 0, none⟩) 1 1) (P m c : Nat) (hy : a.eval y = .slice (some ⟨P, 0, none⟩) m c)
    (parts : List (List UInt8)) (hm : m = parts.length) (ha : ∀ j s, parts[j]? = some s → w.cell? ⟨P, j, none⟩ = some (.string (str s))) (hbig : m ≤ 1000000)
    (hk : ∀ g' cap' w', (w'.cell? ⟨g', 0, none⟩ = some (.string x) ∧ ∀ j s, parts[j]? = some s → w'.cell? ⟨g', j + 1, none⟩ = some (.string (str s))) → g' < w'.heap.size → w.grownBy w' (some g) → wpList Try.prog ops Q rest (a.put op.dst (.slice (some ⟨g', 0, none⟩) (m + 1) cap')) w') : wpList Try.prog ops Q (op :: rest) a w := by
  refine wpList_plain hgd fun K hK => ?_
  obtain ⟨i0, hi0⟩ : ∃ i0, Try.prog.info? 9 = some i0 := ⟨_, rfl⟩
  have hz0 : (Try.prog.info? 9).map (fun i => (i.zero, i.size, i.bytes)) = some (some (.string ⟨#[]⟩), 1, 16) := by kernel_rfl
  rw [hi0] at hz0
  simp only [Option.map_some, Option.some.injEq, Prod.mk.injEq] at hz0
  have hown : w.ownsRow g 9 1 (.slice (some ⟨g, 0, none⟩) 1 1) 1 [.string x] := ⟨rfl, .inr ⟨g, 1, #[.string x], rfl, Nat.le_refl _, hg, Nat.le_refl _, by decide, rfl, rfl⟩⟩
  have hlt := lt_of_heap hg
  obtain ⟨v', w', hr, h1, h2, h3⟩ := run_append_own (P := Try.prog) (w := w) g 42 op.type 9 i0 (.string ⟨#[]⟩) 1 16 Try.underlying42 hi0 hz0.1 hz0.2.1 hz0.2.2 rfl (by omega) _ 1 _ hown ⟨P, 0, none⟩ m c (parts.map fun s => .string (str s))
    (by simp [hm]) (fun j u hj => by
      rw [Addr.add_mid, Nat.zero_add]
      rw [List.getElem?_map] at hj
      cases hp : parts[j]? with
      | none => rw [hp] at hj; cases hj
      | some s => rw [hp] at hj; cases hj; exact ha j s hp) (by intro u hu; simp only [List.mem_map] at hu; obtain ⟨s, _, rfl⟩ := hu; rfl) (by unfold maxLen; omega) (by omega) (by omega)
  obtain ⟨hl, h | ⟨g', cap', cur, hv, hb, hh, hnc, hcm, hcs, ht⟩⟩ := h1
  · omega
  subst hv
  have hget : ∀ j u, ([Value.string x] ++ parts.map fun s => Value.string (str s))[j]? = some u → w'.cell? ⟨g', j, none⟩ = some u := fun j u hj => by
    rw [cell_of_row w' g' j _ _ _ hh]
    rw [← ht, List.getElem?_take] at hj
    split at hj
    · simpa using hj
    · cases hj
  unfold Oper.wp execOp
  simp only [ho, resolve, invoke, builtin, Sem.run_bind, Sem.run_pure, Result.andThen_ok, List.map_toArray, List.map_cons, List.map_nil, hs, hy, hr]
  rw [Nat.add_comm 1 m]
  exact hK _ _ (hk g' cap' w' ⟨hget 0 _ rfl, fun j s hj => hget (j + 1) _ (by simp [hj])⟩ (lt_of_heap hh) h2)
end
set_option maxRecDepth 100000 in
set_option maxHeartbeats 400000 in
theorem mac_tag (key : List UInt8) (P cap : Nat) (parts : List (List UInt8)) (w : World) (hP : ∀ j s, parts[j]? = some s → w.cell? ⟨P, j, none⟩ = some (.string (str s))) (hPl : P < w.heap.size)
    (hkey : key.length ≤ 1000000) (hbig : parts.flatten.length ≤ 1000000) (hn : parts.length ≤ 1000000) :
    Calls Try.prog 38 #[.string (str key), .slice (some ⟨P, 0, none⟩) parts.length cap] w fun e w' => e = .returned (.string (str (tag key parts.flatten))) ∧ Fr (fun _ => False) w w' := by
  obtain ⟨n, hnd⟩ : ∃ n, n = parts.length := ⟨_, rfl⟩
  obtain ⟨kb0, hkb0⟩ : ∃ s, s = str key := ⟨_, rfl⟩
  have HKB0 := Lib.hid hkb0
  have hk0 : kb0.size = key.length := by rw [hkb0, str_size]
  rw [← hnd, ← hkb0]
  have HN := Lib.hid hnd
  have hn1 : n ≤ 1000000 := by omega
  have HBG := Lib.hid hbig
  have HP0 := Lib.hid hP
  have hV0 := heap_alloc_new w (.cells #[.string kb0] 9)
  have hf0 : Fr (fun _ => False) w (w.alloc (.cells #[.string kb0] 9)) := (Fr.refl _ _).alloc _
  obtain ⟨V, hVd⟩ : ∃ V, V = w.heap.size := ⟨_, rfl⟩
  rw [← hVd] at hV0
  have HVw := Lib.hid (show w.heap.size ≤ V by omega)
  have cV0 : (w.alloc (.cells #[.string kb0] 9)).cell? ⟨V, 0, none⟩ = some (.string kb0) := (cell_of_row _ V 0 _ _ _ hV0).trans rfl
  clear hP hbig hkb0 hnd hn
  by_cases hl : 64 < key.length
  · have HKN := Lib.hid (show keyN key = dig key by unfold keyN; rw [if_pos hl])
    have hd : (64 : Int) < (kb0.size : Int) := by omega
    have HOf1 := Lib.hid (show ∀ (w : World) (X : Nat), X = w.heap.size → Calls Try.prog 33 #[.slice (some ⟨X, 0, none⟩) 1 1] (w.alloc (.cells #[.string kb0] 9)) fun e w' => e = .returned (.string (str (dig key))) ∧ Fr (fun _ => False) (w.alloc (.cells #[.string kb0] 9)) w' from fun w X hX => by
      subst hX
      have h := sha_of w.heap.size 1 [key] (w.alloc (.cells (([key] : List (List UInt8)).map fun s => Value.string (str s)).toArray 9)) (fun j s hj => strs_cell w _ 9 j s hj) (by simp; omega) (by simp) (by rw [World.size_alloc]; omega)
      rw [show ([key] : List (List UInt8)).flatten = key by simp] at h
      rw [HKB0.out]; exact h)
    clear hk0 hl hkey
    go_enter Try.func38, Try.ntmps38
    go_wp2_with fail
    rw [← hVd]
    have HV0 := Lib.hid hV0
    have HF0 := Lib.hid hf0
    have HS1 := Lib.hid (show V + 1 = (w.alloc (.cells #[.string kb0] 9)).heap.size by rw [World.size_alloc, hVd])
    generalize w.alloc (.cells #[.string kb0] 9) = w1 at HV0 HF0 HS1 cV0 ⊢
    clear hV0 hf0 hVd
    refine (HOf1.out w1 _ HS1.out).mono ?_
    rintro e w2 ⟨rfl, h2⟩
    have hfA : Fr (fun _ => False) w1 (w1.alloc (.cells #[.string kb0] 9)) := (Fr.refl _ _).alloc _
    have hV2 : w2.heap[V]? = some (.cells #[.string kb0] 9 (0, 0)) := h2.heap (hfA.heap HV0.out id) id
    have HF2 := Lib.hid ((HF0.out.alloc (.cells #[.string kb0] 9)).trans h2 (fun i hi => hi.elim))
    have cV2 : w2.cell? ⟨V, 0, none⟩ = some (.string kb0) := (cell_of_row w2 V 0 _ _ _ hV2).trans rfl
    have fV2 : w2.frozen? ⟨V, 0, none⟩ = false := frozen_of_row w2 _ _ _ _ hV2
    obtain ⟨k, hkd⟩ : ∃ k, k = dig key := ⟨_, rfl⟩
    rw [← hkd] at HKN ⊢
    have HKL := Lib.hid (show k.length ≤ 64 by rw [hkd, dig_length]; omega)
    have HV := Lib.hid (show (w2.setCell ⟨V, 0, none⟩ (.string (str k))).heap[V]? = some (.cells #[.string (str k)] 9 (0, 0)) from heap_setCell_same w2 V 0 _ _ _ hV2)
    have HF := Lib.hid (HF2.out.setCell ⟨V, 0, none⟩ (.string (str k)) (.inr (by have := HVw.out; simp; omega)))
    clear h2 hfA hV2 hkd cV0 HV0 HF0 HOf1 hd
    go_wp2_with fail
    clear cV2 fV2
    generalize w2.setCell ⟨V, 0, none⟩ (.string (str k)) = wx at HV HF ⊢
    have HP := HP0
    obtain ⟨kb, hkb⟩ : ∃ s, s = str k := ⟨_, rfl⟩
    obtain ⟨kl, hkl⟩ : ∃ n, n = k.length := ⟨_, rfl⟩
    obtain ⟨c, hc⟩ : ∃ n, n = 64 - k.length := ⟨_, rfl⟩
    obtain ⟨zs, hzs⟩ : ∃ s, s = str (List.replicate c 0) := ⟨_, rfl⟩
    obtain ⟨k64, hk64⟩ : ∃ l, l = padK k := ⟨_, rfl⟩
    obtain ⟨K64, hK64⟩ : ∃ s, s = str k64 := ⟨_, rfl⟩
    have hkl64 : kl ≤ 64 := by rw [hkl]; exact HKL.out
    have hs0 : kb.size = kl := by rw [hkb, hkl, str_size]
    have hw0 : IntKind.i64.wrap (64 - (kl : Int)) = (c : Int) := by rw [IntWalk.i64_in _ (by omega)]; omega
    have hap : kb ++ zs = K64 := by rw [hkb, hzs, hK64, hk64, jstr_append, hc]; rfl
    have hzl : zs.size = c := by rw [hzs, str_size, List.length_replicate]
    have hsz1 : ¬ 9223372036854775807 < kb.size + zs.size := by omega
    have hsz2 : kb.size + zs.size ≤ 9223372036854775807 := by omega
    have hsz3 : kl + zs.size ≤ 9223372036854775807 := by omega
    have HRep := Lib.hid (show ∀ w, Calls Try.prog 80 #[.string ⟨#[0]⟩, .int .i64 (c : Int)] w fun e w' => e = .returned (.string zs) ∧ Fr (fun _ => False) w w' from fun w => by rw [hzs]; exact repeat_zeros c (by omega) w)
    have HK64 := Lib.hid (show k64.length = 64 by rw [hk64]; exact padK_length k HKL.out)
    have HKD := Lib.hid hk64
    have HKS := Lib.hid hK64
    have HVb := Lib.hid (show wx.drew.heap[V]? = some (.cells #[.string kb] 9 (0, 0)) by rw [hkb]; exact HV.out)
    have HFa := Lib.hid HF.out.drew
    clear hkb hkl hc hzs hk64 hK64 hzl
    go_wp2_with fail
    refine wp_region_till (fun W => W.heap[V]? = some (.cells #[.string kb] 9 (0, 0))) 6 (by kernel_rfl) ?_
    have HS := HVb
    generalize wx.drew = wy at HS HVb HFa ⊢
    refine wpAnyT_take (i := 0) (n := 6) (v := .string kb) rfl (by kernel_rfl) (fun _ _ _ h => h) HS.out (yieldsIf_plain rfl (fun W hW => by have h1 := cell_of_row W V 0 _ _ _ hW; have h2 : W.cell? ⟨V, 0, none⟩ = some (.string kb) := h1.trans rfl; clear hW h1; go_simp)) ?_
    simp only [List.getElem_toArray, List.getElem_cons_succ, List.getElem_cons_zero, Act.put, List.setIfInBounds_toArray, List.set_cons_zero, List.set_cons_succ]
    refine wpAnyT_take (i := 1) (n := 6) (v := .string kb) rfl (by kernel_rfl) (fun _ _ _ h => h) HS.out (yieldsIf_plain rfl (fun W hW => by have h1 := cell_of_row W V 0 _ _ _ hW; have h2 : W.cell? ⟨V, 0, none⟩ = some (.string kb) := h1.trans rfl; clear hW h1; go_simp)) ?_
    simp only [List.getElem_toArray, List.getElem_cons_succ, List.getElem_cons_zero, Act.put, List.setIfInBounds_toArray, List.set_cons_zero, List.set_cons_succ]
    refine wpAnyT_take (i := 2) (n := 6) (v := .int .i64 (kl : Int)) rfl (by kernel_rfl) (fun _ _ _ h => h) HS.out (yieldsIf_plain rfl (fun W hW => by clear hW; go_simp)) ?_
    simp only [List.getElem_toArray, List.getElem_cons_succ, List.getElem_cons_zero, Act.put, List.setIfInBounds_toArray, List.set_cons_zero, List.set_cons_succ]
    refine wpAnyT_take (i := 3) (n := 6) (v := .int .i64 (c : Int)) rfl (by kernel_rfl) (fun _ _ _ h => h) HS.out (yieldsIf_plain rfl (fun W hW => by clear hW; go_simp)) ?_
    simp only [List.getElem_toArray, List.getElem_cons_succ, List.getElem_cons_zero, Act.put, List.setIfInBounds_toArray, List.set_cons_zero, List.set_cons_succ]
    refine wpAnyT_one (i := 4) rfl (by kernel_rfl) (wpOp_plain rfl rfl (fun K hK => ?_))
    simp only [List.getElem_toArray, List.getElem_cons_succ, List.getElem_cons_zero, Act.put, List.setIfInBounds_toArray, List.set_cons_zero, List.set_cons_succ]
    have HKK := Lib.hid hK
    clear hK
    go_wp2_with fail
    refine (HRep.out wy).mono ?_
    rintro e w4 ⟨rfl, h4⟩
    have HFb := Lib.hid (HFa.out.trans h4 (fun i hi => hi.elim))
    have HSb := Lib.hid (show w4.heap[V]? = some (.cells #[.string kb] 9 (0, 0)) from h4.heap HS.out id)
    clear h4
    go_wp2_with fail
    refine HKK.out _ _ ⟨fun _ => HSb.out, ?_⟩
    clear HKK K HRep
    try simp only [List.getElem_toArray, List.getElem_cons_succ, List.getElem_cons_zero, Act.put, List.setIfInBounds_toArray, List.set_cons_zero, List.set_cons_succ]
    refine wpAnyT_take (i := 5) (n := 6) (v := .string K64) rfl (by kernel_rfl) (fun _ _ _ h => h) HSb.out (yieldsIf_plain rfl (fun W hW => by clear hW; go_simp)) ?_
    simp only [List.getElem_toArray, List.getElem_cons_succ, List.getElem_cons_zero, Act.put, List.setIfInBounds_toArray, List.set_cons_zero, List.set_cons_succ]
    refine wpAnyT_of_any trivial [6] _ _ _ _ (by kernel_rfl) (by simp) (.inr rfl) ?_
    simp only [List.filterMap_cons, List.filterMap_nil, List.getElem?_toArray, List.getElem?_cons_zero, List.getElem?_cons_succ]
    have cV : w4.cell? ⟨V, 0, none⟩ = some (.string kb) := (cell_of_row w4 V 0 _ _ _ HSb.out).trans rfl
    have fV : w4.frozen? ⟨V, 0, none⟩ = false := frozen_of_row w4 _ _ _ _ HSb.out
    have HV5 := Lib.hid (show (w4.setCell ⟨V, 0, none⟩ (.string K64)).heap[V]? = some (.cells #[.string K64] 9 (0, 0)) from heap_setCell_same w4 V 0 _ _ _ HSb.out)
    have HF5 := Lib.hid (HFb.out.setCell ⟨V, 0, none⟩ (.string K64) (.inr (by have := HVw.out; simp; omega)))
    obtain ⟨A, hA⟩ : ∃ s, s = str (xorB 92 k64) := ⟨_, rfl⟩
    obtain ⟨C, hC⟩ : ∃ s, s = str (xorB 54 k64) := ⟨_, rfl⟩
    have HTn := Lib.hid (show ∀ w, w.heap[V]? = some (.cells #[.string K64] 9 (0, 0)) → Calls Try.prog 83 #[.int .u8 92, .pointer (some ⟨V, 0, none⟩)] w fun e w' => e = .returned (.string A) ∧ Fr (fun _ => False) w w' from fun w h => by
      rw [hA]; exact turned_calls V k64 HK64.out 92 w (by rw [← HKS.out]; exact (cell_of_row w V 0 _ _ _ h).trans rfl))
    have HTm := Lib.hid (show ∀ w, w.heap[V]? = some (.cells #[.string K64] 9 (0, 0)) → Calls Try.prog 83 #[.int .u8 54, .pointer (some ⟨V, 0, none⟩)] w fun e w' => e = .returned (.string C) ∧ Fr (fun _ => False) w w' from fun w h => by
      rw [hC]; exact turned_calls V k64 HK64.out 54 w (by rw [← HKS.out]; exact (cell_of_row w V 0 _ _ _ h).trans rfl))
    have HA := Lib.hid hA
    have HC := Lib.hid hC
    clear hA hC hap hsz1 hsz2 hsz3
    go_wp2_with fail
    clear cV fV
    generalize w4.setCell ⟨V, 0, none⟩ (.string K64) = w5 at HV5 HF5 ⊢
    refine (HTn.out _ HV5.out).mono ?_
    rintro e w6 ⟨rfl, h6⟩
    have HV6 := Lib.hid (h6.heap HV5.out id)
    have HF6 := Lib.hid (HF5.out.trans h6 (fun i hi => hi.elim))
    clear h6
    go_wp2_with fail
    refine (HTm.out _ HV6.out).mono ?_
    rintro e w7 ⟨rfl, h7⟩
    have HF7 := Lib.hid (HF6.out.trans h7 (fun i hi => hi.elim))
    clear h7
    have hg7 := heap_alloc_new w7 (.cells #[.string C] 9)
    have HG7 := Lib.hid hg7
    have HF8 := Lib.hid (HF7.out.alloc (.cells #[.string C] 9))
    have HP8 := Lib.hid (show ∀ j s, parts[j]? = some s → (w7.alloc (.cells #[.string C] 9)).cell? ⟨P, j, none⟩ = some (.string (str s)) from fun j s hj => HF8.out.cell (HP.out j s hj) id)
    have HW7 := Lib.hid (show w.heap.size ≤ w7.heap.size from HF7.out.size)
    clear hg7
    go_wp2_with (with_reducible refine wpList_append_strs (op := ⟨some 25, _, _, _, _, _⟩) rfl _ _ rfl w7.heap.size C HG7.out rfl P n cap rfl parts HN.out HP8.out (by omega) ?_)
    intro g' cap' w9 hc9a hc9b hl9 hgr
    have hc9 := And.intro hc9a hc9b
    have HC9 := Lib.hid hc9
    have HF9 := Lib.hid (HF8.out.grown hgr (fun k hk => .inr (by cases hk; exact HW7.out)))
    clear hc9 hc9a hc9b hgr
    obtain ⟨D, hD⟩ : ∃ s, s = str (dig (xorB 54 k64 ++ parts.flatten)) := ⟨_, rfl⟩
    have HD := Lib.hid hD
    have HOf := Lib.hid (show Calls Try.prog 33 #[.slice (some ⟨g', 0, none⟩) (n + 1) cap'] w9 fun e w' => e = .returned (.string D) ∧ Fr (fun _ => False) w9 w' by
      have h := sha_of g' cap' (xorB 54 k64 :: parts) w9 (fun j s hj => by
        cases j with
        | zero => simp at hj; subst hj; rw [← HC.out]; exact HC9.out.1
        | succ j => exact HC9.out.2 j s (by simpa using hj)) (by rw [List.flatten_cons, List.length_append, xorB_length, HK64.out]; have := HBG.out; omega) (by rw [List.length_cons, ← HN.out]; omega) hl9
      rw [List.length_cons, ← HN.out, List.flatten_cons, ← hD] at h
      exact h)
    clear hD
    go_wp2_with fail
    refine HOf.out.mono ?_
    rintro e w10 ⟨rfl, h10⟩
    have HF10 := Lib.hid (HF9.out.trans h10 (fun i hi => hi.elim))
    clear h10
    have HOf2 := Lib.hid (show Calls Try.prog 33 #[.slice (some ⟨w10.heap.size, 0, none⟩) 2 2] (w10.alloc (.cells #[.string A, .string D] 9)) fun e w' => e = .returned (.string (str (tagK k64 parts.flatten))) ∧ Fr (fun _ => False) (w10.alloc (.cells #[.string A, .string D] 9)) w' by
      have h := sha_of w10.heap.size 2 [xorB 92 k64, dig (xorB 54 k64 ++ parts.flatten)] (w10.alloc (.cells (([xorB 92 k64, dig (xorB 54 k64 ++ parts.flatten)] : List (List UInt8)).map fun s => Value.string (str s)).toArray 9)) (fun j s hj => strs_cell w10 _ 9 j s hj) (by simp [xorB_length, HK64.out, dig_length]) (by simp) (by rw [World.size_alloc]; omega)
      rw [show ([xorB 92 k64, dig (xorB 54 k64 ++ parts.flatten)] : List (List UInt8)).flatten = xorB 92 k64 ++ dig (xorB 54 k64 ++ parts.flatten) by simp] at h
      rw [HA.out, HD.out]; exact h)
    go_wp2_with fail
    refine HOf2.out.mono ?_
    rintro e w11 ⟨rfl, h11⟩
    have HF11 := Lib.hid ((HF10.out.alloc (.cells #[.string A, .string D] 9)).trans h11 (fun i hi => hi.elim))
    clear h11
    go_wp2_with fail
    go_ret
    have htag : tagK k64 parts.flatten = tag key parts.flatten := by unfold tag; rw [HKN.out, HKD.out]
    exact ⟨by rw [← htag]; rfl, HF11.out⟩
  · have HKN := Lib.hid (show keyN key = key by unfold keyN; rw [if_neg hl])
    have hd : ¬ (64 : Int) < (kb0.size : Int) := by omega
    have HKL := Lib.hid (show key.length ≤ 64 by omega)
    clear hk0 hl hkey
    go_enter Try.func38, Try.ntmps38
    go_wp2_with fail
    rw [← hVd]
    have HV := Lib.hid (show (w.alloc (.cells #[.string kb0] 9)).heap[V]? = some (.cells #[.string (str key)] 9 (0, 0)) by rw [← HKB0.out]; exact hV0)
    have HF := Lib.hid hf0
    generalize w.alloc (.cells #[.string kb0] 9) = wx at HV HF cV0 ⊢
    clear hV0 hf0 hVd cV0
    have HP := HP0
    obtain ⟨kb, hkb⟩ : ∃ s, s = str key := ⟨_, rfl⟩
    obtain ⟨kl, hkl⟩ : ∃ n, n = key.length := ⟨_, rfl⟩
    obtain ⟨c, hc⟩ : ∃ n, n = 64 - key.length := ⟨_, rfl⟩
    obtain ⟨zs, hzs⟩ : ∃ s, s = str (List.replicate c 0) := ⟨_, rfl⟩
    obtain ⟨k64, hk64⟩ : ∃ l, l = padK key := ⟨_, rfl⟩
    obtain ⟨K64, hK64⟩ : ∃ s, s = str k64 := ⟨_, rfl⟩
    have hkl64 : kl ≤ 64 := by rw [hkl]; exact HKL.out
    have hs0 : kb.size = kl := by rw [hkb, hkl, str_size]
    have hw0 : IntKind.i64.wrap (64 - (kl : Int)) = (c : Int) := by rw [IntWalk.i64_in _ (by omega)]; omega
    have hap : kb ++ zs = K64 := by rw [hkb, hzs, hK64, hk64, jstr_append, hc]; rfl
    have hzl : zs.size = c := by rw [hzs, str_size, List.length_replicate]
    have hsz1 : ¬ 9223372036854775807 < kb.size + zs.size := by omega
    have hsz2 : kb.size + zs.size ≤ 9223372036854775807 := by omega
    have hsz3 : kl + zs.size ≤ 9223372036854775807 := by omega
    have HRep := Lib.hid (show ∀ w, Calls Try.prog 80 #[.string ⟨#[0]⟩, .int .i64 (c : Int)] w fun e w' => e = .returned (.string zs) ∧ Fr (fun _ => False) w w' from fun w => by rw [hzs]; exact repeat_zeros c (by omega) w)
    have HK64 := Lib.hid (show k64.length = 64 by rw [hk64]; exact padK_length key HKL.out)
    have HKD := Lib.hid hk64
    have HKS := Lib.hid hK64
    have HVb := Lib.hid (show wx.drew.heap[V]? = some (.cells #[.string kb] 9 (0, 0)) by rw [hkb]; exact HV.out)
    have HFa := Lib.hid HF.out.drew
    clear hkb hkl hc hzs hk64 hK64 hzl
    go_wp2_with fail
    refine wp_region_till (fun W => W.heap[V]? = some (.cells #[.string kb] 9 (0, 0))) 6 (by kernel_rfl) ?_
    have HS := HVb
    generalize wx.drew = wy at HS HVb HFa ⊢
    refine wpAnyT_take (i := 0) (n := 6) (v := .string kb) rfl (by kernel_rfl) (fun _ _ _ h => h) HS.out (yieldsIf_plain rfl (fun W hW => by have h1 := cell_of_row W V 0 _ _ _ hW; have h2 : W.cell? ⟨V, 0, none⟩ = some (.string kb) := h1.trans rfl; clear hW h1; go_simp)) ?_
    simp only [List.getElem_toArray, List.getElem_cons_succ, List.getElem_cons_zero, Act.put, List.setIfInBounds_toArray, List.set_cons_zero, List.set_cons_succ]
    refine wpAnyT_take (i := 1) (n := 6) (v := .string kb) rfl (by kernel_rfl) (fun _ _ _ h => h) HS.out (yieldsIf_plain rfl (fun W hW => by have h1 := cell_of_row W V 0 _ _ _ hW; have h2 : W.cell? ⟨V, 0, none⟩ = some (.string kb) := h1.trans rfl; clear hW h1; go_simp)) ?_
    simp only [List.getElem_toArray, List.getElem_cons_succ, List.getElem_cons_zero, Act.put, List.setIfInBounds_toArray, List.set_cons_zero, List.set_cons_succ]
    refine wpAnyT_take (i := 2) (n := 6) (v := .int .i64 (kl : Int)) rfl (by kernel_rfl) (fun _ _ _ h => h) HS.out (yieldsIf_plain rfl (fun W hW => by clear hW; go_simp)) ?_
    simp only [List.getElem_toArray, List.getElem_cons_succ, List.getElem_cons_zero, Act.put, List.setIfInBounds_toArray, List.set_cons_zero, List.set_cons_succ]
    refine wpAnyT_take (i := 3) (n := 6) (v := .int .i64 (c : Int)) rfl (by kernel_rfl) (fun _ _ _ h => h) HS.out (yieldsIf_plain rfl (fun W hW => by clear hW; go_simp)) ?_
    simp only [List.getElem_toArray, List.getElem_cons_succ, List.getElem_cons_zero, Act.put, List.setIfInBounds_toArray, List.set_cons_zero, List.set_cons_succ]
    refine wpAnyT_one (i := 4) rfl (by kernel_rfl) (wpOp_plain rfl rfl (fun K hK => ?_))
    simp only [List.getElem_toArray, List.getElem_cons_succ, List.getElem_cons_zero, Act.put, List.setIfInBounds_toArray, List.set_cons_zero, List.set_cons_succ]
    have HKK := Lib.hid hK
    clear hK
    go_wp2_with fail
    refine (HRep.out wy).mono ?_
    rintro e w4 ⟨rfl, h4⟩
    have HFb := Lib.hid (HFa.out.trans h4 (fun i hi => hi.elim))
    have HSb := Lib.hid (show w4.heap[V]? = some (.cells #[.string kb] 9 (0, 0)) from h4.heap HS.out id)
    clear h4
    go_wp2_with fail
    refine HKK.out _ _ ⟨fun _ => HSb.out, ?_⟩
    clear HKK K HRep
    try simp only [List.getElem_toArray, List.getElem_cons_succ, List.getElem_cons_zero, Act.put, List.setIfInBounds_toArray, List.set_cons_zero, List.set_cons_succ]
    refine wpAnyT_take (i := 5) (n := 6) (v := .string K64) rfl (by kernel_rfl) (fun _ _ _ h => h) HSb.out (yieldsIf_plain rfl (fun W hW => by clear hW; go_simp)) ?_
    simp only [List.getElem_toArray, List.getElem_cons_succ, List.getElem_cons_zero, Act.put, List.setIfInBounds_toArray, List.set_cons_zero, List.set_cons_succ]
    refine wpAnyT_of_any trivial [6] _ _ _ _ (by kernel_rfl) (by simp) (.inr rfl) ?_
    simp only [List.filterMap_cons, List.filterMap_nil, List.getElem?_toArray, List.getElem?_cons_zero, List.getElem?_cons_succ]
    have cV : w4.cell? ⟨V, 0, none⟩ = some (.string kb) := (cell_of_row w4 V 0 _ _ _ HSb.out).trans rfl
    have fV : w4.frozen? ⟨V, 0, none⟩ = false := frozen_of_row w4 _ _ _ _ HSb.out
    have HV5 := Lib.hid (show (w4.setCell ⟨V, 0, none⟩ (.string K64)).heap[V]? = some (.cells #[.string K64] 9 (0, 0)) from heap_setCell_same w4 V 0 _ _ _ HSb.out)
    have HF5 := Lib.hid (HFb.out.setCell ⟨V, 0, none⟩ (.string K64) (.inr (by have := HVw.out; simp; omega)))
    obtain ⟨A, hA⟩ : ∃ s, s = str (xorB 92 k64) := ⟨_, rfl⟩
    obtain ⟨C, hC⟩ : ∃ s, s = str (xorB 54 k64) := ⟨_, rfl⟩
    have HTn := Lib.hid (show ∀ w, w.heap[V]? = some (.cells #[.string K64] 9 (0, 0)) → Calls Try.prog 83 #[.int .u8 92, .pointer (some ⟨V, 0, none⟩)] w fun e w' => e = .returned (.string A) ∧ Fr (fun _ => False) w w' from fun w h => by
      rw [hA]; exact turned_calls V k64 HK64.out 92 w (by rw [← HKS.out]; exact (cell_of_row w V 0 _ _ _ h).trans rfl))
    have HTm := Lib.hid (show ∀ w, w.heap[V]? = some (.cells #[.string K64] 9 (0, 0)) → Calls Try.prog 83 #[.int .u8 54, .pointer (some ⟨V, 0, none⟩)] w fun e w' => e = .returned (.string C) ∧ Fr (fun _ => False) w w' from fun w h => by
      rw [hC]; exact turned_calls V k64 HK64.out 54 w (by rw [← HKS.out]; exact (cell_of_row w V 0 _ _ _ h).trans rfl))
    have HA := Lib.hid hA
    have HC := Lib.hid hC
    clear hA hC hap hsz1 hsz2 hsz3
    go_wp2_with fail
    clear cV fV
    generalize w4.setCell ⟨V, 0, none⟩ (.string K64) = w5 at HV5 HF5 ⊢
    refine (HTn.out _ HV5.out).mono ?_
    rintro e w6 ⟨rfl, h6⟩
    have HV6 := Lib.hid (h6.heap HV5.out id)
    have HF6 := Lib.hid (HF5.out.trans h6 (fun i hi => hi.elim))
    clear h6
    go_wp2_with fail
    refine (HTm.out _ HV6.out).mono ?_
    rintro e w7 ⟨rfl, h7⟩
    have HF7 := Lib.hid (HF6.out.trans h7 (fun i hi => hi.elim))
    clear h7
    have hg7 := heap_alloc_new w7 (.cells #[.string C] 9)
    have HG7 := Lib.hid hg7
    have HF8 := Lib.hid (HF7.out.alloc (.cells #[.string C] 9))
    have HP8 := Lib.hid (show ∀ j s, parts[j]? = some s → (w7.alloc (.cells #[.string C] 9)).cell? ⟨P, j, none⟩ = some (.string (str s)) from fun j s hj => HF8.out.cell (HP.out j s hj) id)
    have HW7 := Lib.hid (show w.heap.size ≤ w7.heap.size from HF7.out.size)
    clear hg7
    go_wp2_with (with_reducible refine wpList_append_strs (op := ⟨some 25, _, _, _, _, _⟩) rfl _ _ rfl w7.heap.size C HG7.out rfl P n cap rfl parts HN.out HP8.out (by omega) ?_)
    intro g' cap' w9 hc9a hc9b hl9 hgr
    have hc9 := And.intro hc9a hc9b
    have HC9 := Lib.hid hc9
    have HF9 := Lib.hid (HF8.out.grown hgr (fun k hk => .inr (by cases hk; exact HW7.out)))
    clear hc9 hc9a hc9b hgr
    obtain ⟨D, hD⟩ : ∃ s, s = str (dig (xorB 54 k64 ++ parts.flatten)) := ⟨_, rfl⟩
    have HD := Lib.hid hD
    have HOf := Lib.hid (show Calls Try.prog 33 #[.slice (some ⟨g', 0, none⟩) (n + 1) cap'] w9 fun e w' => e = .returned (.string D) ∧ Fr (fun _ => False) w9 w' by
      have h := sha_of g' cap' (xorB 54 k64 :: parts) w9 (fun j s hj => by
        cases j with
        | zero => simp at hj; subst hj; rw [← HC.out]; exact HC9.out.1
        | succ j => exact HC9.out.2 j s (by simpa using hj)) (by rw [List.flatten_cons, List.length_append, xorB_length, HK64.out]; have := HBG.out; omega) (by rw [List.length_cons, ← HN.out]; omega) hl9
      rw [List.length_cons, ← HN.out, List.flatten_cons, ← hD] at h
      exact h)
    clear hD
    go_wp2_with fail
    refine HOf.out.mono ?_
    rintro e w10 ⟨rfl, h10⟩
    have HF10 := Lib.hid (HF9.out.trans h10 (fun i hi => hi.elim))
    clear h10
    have HOf2 := Lib.hid (show Calls Try.prog 33 #[.slice (some ⟨w10.heap.size, 0, none⟩) 2 2] (w10.alloc (.cells #[.string A, .string D] 9)) fun e w' => e = .returned (.string (str (tagK k64 parts.flatten))) ∧ Fr (fun _ => False) (w10.alloc (.cells #[.string A, .string D] 9)) w' by
      have h := sha_of w10.heap.size 2 [xorB 92 k64, dig (xorB 54 k64 ++ parts.flatten)] (w10.alloc (.cells (([xorB 92 k64, dig (xorB 54 k64 ++ parts.flatten)] : List (List UInt8)).map fun s => Value.string (str s)).toArray 9)) (fun j s hj => strs_cell w10 _ 9 j s hj) (by simp [xorB_length, HK64.out, dig_length]) (by simp) (by rw [World.size_alloc]; omega)
      rw [show ([xorB 92 k64, dig (xorB 54 k64 ++ parts.flatten)] : List (List UInt8)).flatten = xorB 92 k64 ++ dig (xorB 54 k64 ++ parts.flatten) by simp] at h
      rw [HA.out, HD.out]; exact h)
    go_wp2_with fail
    refine HOf2.out.mono ?_
    rintro e w11 ⟨rfl, h11⟩
    have HF11 := Lib.hid ((HF10.out.alloc (.cells #[.string A, .string D] 9)).trans h11 (fun i hi => hi.elim))
    clear h11
    go_wp2_with fail
    go_ret
    have htag : tagK k64 parts.flatten = tag key parts.flatten := by unfold tag; rw [HKN.out, HKD.out]
    exact ⟨by rw [← htag]; rfl, HF11.out⟩
set_option maxRecDepth 20000 in
set_option maxHeartbeats 4000000 in
theorem mac_check (key t : List UInt8) (P cap : Nat) (parts : List (List UInt8)) (w : World) (hP : ∀ j s, parts[j]? = some s → w.cell? ⟨P, j, none⟩ = some (.string (str s))) (hPl : P < w.heap.size)
    (hkey : key.length ≤ 1000000) (ht : t.length ≤ 1000000) (hbig : parts.flatten.length ≤ 1000000) (hn : parts.length ≤ 1000000) :
    Calls Try.prog 39 #[.string (str key), .string (str t), .slice (some ⟨P, 0, none⟩) parts.length cap] w fun e w' => e = .returned (.bool (decide (t = tag key parts.flatten))) ∧ Fr (fun _ => False) w w' := by
  have HT := Lib.hid (mac_tag key P cap parts w hP hPl hkey hbig hn)
  have HE := Lib.hid (fun w => sha_equal t (tag key parts.flatten) (by omega) w)
  clear hP
  go_enter Try.func39, Try.ntmps39
  go_wp2_with fail
  refine HT.out.mono ?_
  rintro e w2 ⟨rfl, h2⟩
  have H2 := Lib.hid h2
  clear h2
  go_wp2_with fail
  refine (HE.out w2).mono ?_
  rintro e w3 ⟨rfl, h3⟩
  have H3 := Lib.hid (H2.out.trans h3 (fun i hi => hi.elim))
  clear h3
  go_wp2_with fail
  go_ret
  exact ⟨rfl, H3.out⟩
end Go.Proofs.Ytcchhfkmhbjdmaa
