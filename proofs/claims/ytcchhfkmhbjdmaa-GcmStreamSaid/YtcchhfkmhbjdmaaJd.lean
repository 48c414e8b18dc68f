/- The digest: awake; asked again. -/
import Derived.Test.YtcchhfkmhbjdmaaJc
set_option linter.unusedVariables false
set_option linter.unusedSimpArgs false
set_option pp.deepTerms true
set_option pp.maxSteps 100000
namespace Go.Proofs.Ytcchhfkmhbjdmaa
open Go.RowKit
theorem abc_sum : str (((Tal.new.add [97]).add [98, 99]).sum) = (⟨#[186, 120, 22, 191, 143, 1, 207, 234, 65, 65, 64, 222, 93, 174, 34, 35, 176, 3, 97, 163, 150, 23, 122, 156, 180, 16, 255, 97, 242, 0, 21, 173]⟩ : ByteArray) := by
  rw [show ((Tal.new.add [97]).add [98, 99]).sum = [186, 120, 22, 191, 143, 1, 207, 234, 65, 65, 64, 222, 93, 174, 34, 35, 176, 3, 97, 163, 150, 23, 122, 156, 180, 16, 255, 97, 242, 0, 21, 173] by decide +kernel]; rfl
theorem abc_dig : str (dig [97, 98, 99]) = (⟨#[186, 120, 22, 191, 143, 1, 207, 234, 65, 65, 64, 222, 93, 174, 34, 35, 176, 3, 97, 163, 150, 23, 122, 156, 180, 16, 255, 97, 242, 0, 21, 173]⟩ : ByteArray) := by
  rw [show dig [97, 98, 99] = [186, 120, 22, 191, 143, 1, 207, 234, 65, 65, 64, 222, 93, 174, 34, 35, 176, 3, 97, 163, 150, 23, 122, 156, 180, 16, 255, 97, 242, 0, 21, 173] by decide +kernel]; rfl
/-- A row of strings, as cells. -/
theorem strs_cell (w : World) (l : List (List UInt8)) (t : TypeId) (j : Nat) (s : List UInt8) (hj : l[j]? = some s) :
    (w.alloc (.cells (l.map fun s => Value.string (str s)).toArray t)).cell? ⟨w.heap.size, j, none⟩ = some (.string (str s)) := by
  rw [cell_of_row _ w.heap.size j _ _ _ (heap_alloc_new w _)]
  simp [hj]
set_option maxRecDepth 20000 in
set_option maxHeartbeats 4000000 in
theorem sha_awake (w : World) : Calls Try.prog 26 #[] w fun e w' => e = .returned (.bool true) ∧ Fr (fun _ => False) w w' := by
  go_enter Try.func26, Try.ntmps26
  go_wp2_with fail
  refine (sha_new w).mono ?_
  rintro e w1 ⟨T, K, rfl, h1, hT, hK, hf1⟩
  have H1 := Lib.hid h1
  have HF1 := Lib.hid hf1
  have HT := Lib.hid hT
  clear h1 hf1 hT hK
  go_wp2_with fail
  refine (sha_add T K Tal.new [97] (by decide) w1 H1.out).mono ?_
  rintro e w2 ⟨rfl, h2, hf2⟩
  have H2 := Lib.hid h2
  have HF2 := Lib.hid (HF1.out.trans hf2 (fun i hi => .inr (by rw [hi]; exact HT.out)))
  clear h2 hf2
  obtain ⟨j111, hj111⟩ : ∃ j, Try.prog.info? 111 = some j := ⟨_, rfl⟩
  have hneq := Lib.run_neq_ptr_same (P := Try.prog) w2 ⟨T, 0, none⟩ Try.underlying44 hj111
  clear hj111
  go_wp2_with fail
  refine (sha_add T K _ [98, 99] (by decide) w2 H2.out).mono ?_
  rintro e w3 ⟨rfl, h3, hf3⟩
  have H3 := Lib.hid h3
  have HF3 := Lib.hid (HF2.out.trans hf3 (fun i hi => .inr (by rw [hi]; exact HT.out)))
  clear h3 hf3
  have hsum := sha_sum T K _ (by decide) w3 H3.out
  rw [abc_sum] at hsum
  have HSUM := Lib.hid hsum
  clear hsum
  go_wp2_with fail
  refine HSUM.out.mono ?_
  rintro e w4 ⟨rfl, hf4⟩
  have H4 := Lib.hid (H3.out.fr hf4 id id)
  have HF4 := Lib.hid (HF3.out.trans hf4 (fun i hi => hi.elim))
  clear hf4
  go_wp2_with fail
  refine (sha_len T K _ w4 H4.out).mono ?_
  rintro e w5 ⟨rfl, rfl⟩
  rw [show (((Tal.new.add [97]).add [98, 99]).n : Int) = 3 from rfl]
  go_wp2_with fail
  have hof := sha_of w4.heap.size 2 [[97, 98], [99]] (w4.alloc (.cells (([[97, 98], [99]] : List (List UInt8)).map fun s => Value.string (str s)).toArray 9)) (fun j s hj => strs_cell w4 _ 9 j s hj) (by decide) (by decide) (by rw [World.size_alloc]; omega)
  rw [show ([[97, 98], [99]] : List (List UInt8)).flatten = [97, 98, 99] from rfl, abc_dig] at hof
  refine hof.mono ?_
  rintro e w6 ⟨rfl, hf6⟩
  have HF6 := Lib.hid ((HF4.out.alloc (.cells (([[97, 98], [99]] : List (List UInt8)).map fun s => Value.string (str s)).toArray 9)).trans hf6 (fun i hi => hi.elim))
  clear hf6 hof
  go_wp2_with fail
  refine (sha_equal [97] [97] (by decide) w6).mono ?_
  rintro e w7 ⟨rfl, hf7⟩
  rw [show decide (([97] : List UInt8) = [97]) = true by decide]
  have HF7 := Lib.hid (HF6.out.trans hf7 (fun i hi => hi.elim))
  clear hf7
  go_wp2_with fail
  refine (sha_equal [97] [98] (by decide) w7).mono ?_
  rintro e w8 ⟨rfl, hf8⟩
  rw [show decide (([97] : List UInt8) = [98]) = false by decide]
  have HF8 := Lib.hid (HF7.out.trans hf8 (fun i hi => hi.elim))
  clear hf8
  go_wp2_with fail
  go_ret
  exact ⟨rfl, HF8.out⟩
set_option maxRecDepth 20000 in
set_option maxHeartbeats 4000000 in
theorem again_walk (a b : ByteArray) (times : UInt8) (w : World) :
    Calls Try.prog 8 #[.string a, .string b, .int .u8 (times.toNat : Int)] w fun e w' => e = .returned (.bool true) ∧ Fr (fun _ => False) w w' := by
  by_cases hb : 1000 < a.size ∨ 1000 < b.size
  · have HBg := Lib.hid hb
    clear hb
    go_enter Try.func8, Try.ntmps8
    go_wp2_with fail
    refine (sha_awake _).mono ?_
    rintro e w1 ⟨rfl, h1⟩
    have HF1 := Lib.hid h1
    clear h1
    by_cases hk : 1000 < a.size
    · have d1 : decide ((1000 : Int) < (a.size : Int)) = true := decide_eq_true (by omega)
      clear hk
      go_wp2_with fail
      go_ret
      exact ⟨rfl, HF1.out⟩
    · have d1 : decide ((1000 : Int) < (a.size : Int)) = false := decide_eq_false (by omega)
      have d2 : decide ((1000 : Int) < (b.size : Int)) = true := decide_eq_true (by have := HBg.out; omega)
      clear hk
      go_wp2_with fail
      go_ret
      exact ⟨rfl, HF1.out⟩
  · obtain ⟨la, hla⟩ : ∃ l, a = str l := ⟨a.data.toList, by apply ByteArray.ext; simp [str]⟩
    obtain ⟨lb, hlb⟩ : ∃ l, b = str l := ⟨b.data.toList, by apply ByteArray.ext; simp [str]⟩
    have hsa : a.size = la.length := by rw [hla, str_size]
    have hsb : b.size = lb.length := by rw [hlb, str_size]
    have d1 : decide ((1000 : Int) < (a.size : Int)) = false := decide_eq_false (by omega)
    have d2 : decide ((1000 : Int) < (b.size : Int)) = false := decide_eq_false (by omega)
    have HBD := Lib.hid (show la.length ≤ 1000 ∧ lb.length ≤ 1000 by omega)
    have HLA := Lib.hid hla
    have HLB := Lib.hid hlb
    obtain ⟨t1, ht1⟩ : ∃ t, t = Tal.new.add la := ⟨_, rfl⟩
    obtain ⟨t2, ht2⟩ : ∃ t, t = t1.add lb := ⟨_, rfl⟩
    have HT1n := Lib.hid (show t1.n = la.length by rw [ht1]; show 0 + _ = _; omega)
    have HT2n := Lib.hid (show t2.n = la.length + lb.length by rw [ht2]; show t1.n + _ = _; rw [HT1n.out])
    obtain ⟨S1, hS1⟩ : ∃ S, S = str t1.sum := ⟨_, rfl⟩
    obtain ⟨S2, hS2⟩ : ∃ S, S = str t2.sum := ⟨_, rfl⟩
    -- the contracts, with the strings by their names
    have HAdd := Lib.hid (show ∀ T K w, TRep w T K Tal.new → Calls Try.prog 29 #[.pointer (some ⟨T, 0, none⟩), .string a] w fun e w' => e = .returned (.pointer (some ⟨T, 0, none⟩)) ∧ TRep w' T K t1 ∧ Fr (fun i => i = T) w w' from fun T K w h => by
      rw [hla, ht1]; exact sha_add T K Tal.new la (by have := HBD.out; show 0 + _ ≤ _; omega) w h)
    have HAddB := Lib.hid (show ∀ T K w, TRep w T K t1 → Calls Try.prog 29 #[.pointer (some ⟨T, 0, none⟩), .string b] w fun e w' => e = .returned (.pointer (some ⟨T, 0, none⟩)) ∧ TRep w' T K t2 ∧ Fr (fun i => i = T) w w' from fun T K w h => by
      rw [hlb, ht2]; exact sha_add T K t1 lb (by have := HBD.out; rw [HT1n.out]; omega) w h)
    have HSum := Lib.hid (show ∀ T K w, TRep w T K t1 → Calls Try.prog 30 #[.pointer (some ⟨T, 0, none⟩)] w fun e w' => e = .returned (.string S1) ∧ Fr (fun _ => False) w w' from fun T K w h => by
      rw [hS1]; exact sha_sum T K t1 (by have := HBD.out; rw [HT1n.out]; omega) w h)
    have HSumB := Lib.hid (show ∀ T K w, TRep w T K t2 → Calls Try.prog 30 #[.pointer (some ⟨T, 0, none⟩)] w fun e w' => e = .returned (.string S2) ∧ Fr (fun _ => False) w w' from fun T K w h => by
      rw [hS2]; exact sha_sum T K t2 (by have := HBD.out; rw [HT2n.out]; omega) w h)
    have HOf1 := Lib.hid (show ∀ w : World, Calls Try.prog 33 #[.slice (some ⟨w.heap.size, 0, none⟩) 1 1] (w.alloc (.cells #[.string a] 9)) fun e w' => e = .returned (.string S1) ∧ Fr (fun _ => False) (w.alloc (.cells #[.string a] 9)) w' from fun w => by
      have h := sha_of w.heap.size 1 [la] (w.alloc (.cells (([la] : List (List UInt8)).map fun s => Value.string (str s)).toArray 9)) (fun j s hj => strs_cell w _ 9 j s hj) (by have := HBD.out; simp; omega) (by simp) (by rw [World.size_alloc]; omega)
      rw [show ([la] : List (List UInt8)).flatten = la by simp, show str (dig la) = S1 by rw [hS1, ht1]; rfl] at h
      rw [hla]; exact h)
    have HOf2 := Lib.hid (show ∀ w : World, Calls Try.prog 33 #[.slice (some ⟨w.heap.size, 0, none⟩) 2 2] (w.alloc (.cells #[.string a, .string b] 9)) fun e w' => e = .returned (.string S2) ∧ Fr (fun _ => False) (w.alloc (.cells #[.string a, .string b] 9)) w' from fun w => by
      have h := sha_of w.heap.size 2 [la, lb] (w.alloc (.cells (([la, lb] : List (List UInt8)).map fun s => Value.string (str s)).toArray 9)) (fun j s hj => strs_cell w _ 9 j s hj) (by have := HBD.out; simp; omega) (by simp) (by rw [World.size_alloc]; omega)
      rw [show ([la, lb] : List (List UInt8)).flatten = la ++ lb by simp, show str (dig (la ++ lb)) = S2 by rw [hS2, ht2, ht1, dig_sum, Tal.add_append]] at h
      rw [hla, hlb]; exact h)
    have hn1 : (t1.n : Int) = (a.size : Int) := by rw [HT1n.out, hsa]
    have hn2 : (t2.n : Int) = (a.size : Int) + (b.size : Int) := by rw [HT2n.out, hsa, hsb]; omega
    have HN1 := Lib.hid hn1
    have HN2 := Lib.hid hn2
    have hwa : IntKind.i64.wrap ((a.size : Int) + (b.size : Int)) = (a.size : Int) + (b.size : Int) := IntWalk.i64_in _ (by omega)
    obtain ⟨q, hq⟩ : ∃ q : Nat, q = times.toNat % 5 := ⟨_, rfl⟩
    have hq1 : (times.toNat : Int) % 5 = (q : Int) := by omega
    have hq2 : (times.toNat : Int).tmod 5 = (q : Int) := by rw [Int.tmod_eq_emod_of_nonneg (by omega)]; omega
    have hq3 : IntKind.u8.wrap (q : Int) = (q : Int) := by rw [IntKind.wrap_u8']; omega
    have hq5 : q < 5 := by omega
    have bt := times.toNat_lt
    clear hla hlb hb ht1 ht2 hS1 hS2 hsa hsb hn1 hn2 hq
    go_enter Try.func8, Try.ntmps8
    go_wp2_with fail
    refine (sha_awake _).mono ?_
    rintro e w1 ⟨rfl, h1⟩
    have HF1 := Lib.hid h1
    clear h1
    go_wp2_with fail
    refine (sha_new w1).mono ?_
    rintro e w2 ⟨T, K, rfl, h2, hT, hK, hf2⟩
    have H2 := Lib.hid h2
    have HF2 := Lib.hid (HF1.out.trans hf2 (fun i hi => hi.elim))
    have HTw := Lib.hid (show w.heap.size ≤ T from Nat.le_trans HF1.out.size hT)
    clear h2 hf2 hT hK
    go_wp2_with fail
    refine (HAdd.out T K w2 H2.out).mono ?_
    rintro e w3 ⟨rfl, h3, hf3⟩
    have H3 := Lib.hid h3
    have HF3 := Lib.hid (HF2.out.trans hf3 (fun i hi => .inr (by rw [hi]; exact HTw.out)))
    clear h3 hf3
    go_wp2_with fail
    refine (HSum.out T K w3 H3.out).mono ?_
    rintro e w4 ⟨rfl, hf4⟩
    have H4 := Lib.hid (H3.out.fr hf4 id id)
    have HF4 := Lib.hid (HF3.out.trans hf4 (fun i hi => hi.elim))
    clear hf4
    go_wp2_with fail
    go_loopw [9] (fun v wr => ∃ i : Nat, i ≤ q ∧ v = .int .i64 i ∧ TRep wr T K t1 ∧ Fr (fun _ => False) w wr) (fun v _ => q - (intOf v).toNat)
    case atStart => exact ⟨0, Nat.zero_le _, rfl, H4.out, HF4.out⟩
    case round =>
      obtain ⟨i, hi, rfl, ht, hf⟩ := hrel
      have H5 := Lib.hid ht
      have HF5 := Lib.hid hf
      clear ht hf H4 HF4
      by_cases hlt : i < q
      · have hlq : (i : Int) < (q : Int) := by omega
        go_wp2_with fail
        refine (HSum.out T K wr H5.out).mono ?_
        rintro e w6 ⟨rfl, hf6⟩
        have H6 := Lib.hid (H5.out.fr hf6 id id)
        have HF6 := Lib.hid (HF5.out.trans hf6 (fun i hi => hi.elim))
        clear hf6
        go_wp2_with fail
        go_roundw
        case rel => exact ⟨i + 1, by omega, by go_num, H6.out, HF6.out⟩
        case measure => simp [intOf]; omega
      · have hie : i = q := by omega
        go_wp2_with fail
        refine (sha_len T K t1 wr H5.out).mono ?_
        rintro e w6 ⟨rfl, rfl⟩
        rw [HN1.out]
        go_wp2_with fail
        refine (HOf1.out _).mono ?_
        rintro e w7 ⟨rfl, hf7⟩
        have hfA : Fr (fun _ => False) wr (wr.alloc (.cells #[.string a] 9)) := (Fr.refl _ _).alloc _
        have H7 := Lib.hid ((H5.out.fr hfA id id).fr hf7 id id)
        have HF7 := Lib.hid ((HF5.out.alloc (.cells #[.string a] 9)).trans hf7 (fun i hi => hi.elim))
        clear hf7 hfA
        go_wp2_with fail
        refine (HAddB.out T K w7 H7.out).mono ?_
        rintro e w8 ⟨rfl, h8, hf8⟩
        have H8 := Lib.hid h8
        have HF8 := Lib.hid (HF7.out.trans hf8 (fun i hi => .inr (by rw [hi]; exact HTw.out)))
        clear h8 hf8
        go_wp2_with fail
        refine (HSumB.out T K w8 H8.out).mono ?_
        rintro e w9 ⟨rfl, hf9⟩
        have H9 := Lib.hid (H8.out.fr hf9 id id)
        have HF9 := Lib.hid (HF8.out.trans hf9 (fun i hi => hi.elim))
        clear hf9
        go_wp2_with fail
        refine (HOf2.out _).mono ?_
        rintro e w10 ⟨rfl, hf10⟩
        have hfB : Fr (fun _ => False) w9 (w9.alloc (.cells #[.string a, .string b] 9)) := (Fr.refl _ _).alloc _
        have H10 := Lib.hid ((H9.out.fr hfB id id).fr hf10 id id)
        have HF10 := Lib.hid ((HF9.out.alloc (.cells #[.string a, .string b] 9)).trans hf10 (fun i hi => hi.elim))
        clear hf10 hfB
        go_wp2_with fail
        refine (sha_len T K t2 w10 H10.out).mono ?_
        rintro e w11 ⟨rfl, rfl⟩
        rw [HN2.out]
        go_wp2_with fail
        go_ret
        exact ⟨by simp, HF10.out⟩
end Go.Proofs.Ytcchhfkmhbjdmaa
