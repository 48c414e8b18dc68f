/- Blobs: Open, walked. -/
import Derived.Test.YtcchhfkmhbjdmaaGreatQb7
import Derived.Test.YtcchhfkmhbjdmaaGreatQb3
set_option linter.unusedVariables false
set_option linter.unusedSimpArgs false
set_option pp.deepTerms true
set_option pp.maxSteps 100000
namespace Go.Proofs.YtcchhfkmhbjdmaaGreat
open Go.RowKit
/-- What Open answers. -/
def openS (key b : List UInt8) (c : List Pr) : ByteArray := if goodB b = true ∧ rightB c = true ∧ key.length = 32 then (if opensL key (hdB b (nB b)).nonce (headL (hdB b (nB b)) ++ textOf c) (restB b (nB b)) then str (openL key (hdB b (nB b)).nonce (restB b (nB b))) else ⟨#[]⟩) else ⟨#[]⟩
def openC (key b : List UInt8) (c : List Pr) : Int := if goodB b = true ∧ rightB c = true ∧ key.length = 32 then (if opensL key (hdB b (nB b)).nonce (headL (hdB b (nB b)) ++ textOf c) (restB b (nB b)) then 0 else 8) else 2
theorem good_parts {b : List UInt8} (h : goodB b = true) : okH (hdB b (nB b)) = true ∧ 16 ≤ (restB b (nB b)).length ∧ (restB b (nB b)).length ≤ 1040 := by
  unfold goodB at h
  simp only [Bool.and_eq_true, decide_eq_true_eq] at h
  obtain ⟨⟨⟨⟨h1, h2⟩, h3⟩, h4⟩, h5⟩ := h
  refine ⟨h3, ?_, ?_⟩ <;> (unfold restB; rw [List.length_drop]; omega)
set_option maxRecDepth 20000 in
set_option maxHeartbeats 4000000 in
theorem bopen_calls (key b : List UInt8) (a : Option Addr) (cap : Nat) (c : List Pr) (hkl : key.length ≤ 140737488355328) (hb : b.length ≤ 100000000) (hl : c.length ≤ 100000) (hsm : ∀ p ∈ c, p.1.length ≤ 100000 ∧ p.2.length ≤ 100000) (w : World) (hps : PSl w a c) (hlc : c.length ≤ cap) (hcap : cap ≤ 9223372036854775807) :
    Calls Tryz.prog 10 #[.string (str key), .string (str b), .slice a c.length cap] w fun e w' => e = .returned (.tuple #[.string (openS key b c), .int .i64 (openC key b c)]) ∧ Fr (fun _ => False) w w' := by
  obtain ⟨K, hK⟩ : ∃ s, s = str key := ⟨_, rfl⟩
  obtain ⟨S, hS⟩ : ∃ s, s = str b := ⟨_, rfl⟩
  obtain ⟨n, hn'⟩ : ∃ n, n = c.length := ⟨_, rfl⟩
  have hKs : K.size = key.length := by rw [hK, str_size]
  have HSp := Lib.hid (show Calls Tryz.prog 20 #[.string S] w (SplitP b w) from by rw [hS]; exact split_calls b hb w)
  obtain ⟨C, ce, hC, hCe, hText⟩ : ∃ C : ByteArray, ∃ ce : Int, (rightB c = true → C = str (textOf c)) ∧ ce = (if rightB c then 0 else 2) ∧ (∀ w', Fr (fun _ => False) w w' → Calls Tryz.prog 14 #[.slice a n cap] w' fun e w2 => e = .returned (.tuple #[.string C, .int .i64 ce]) ∧ Fr (fun _ => False) w' w2) := by
    cases hr : rightB c with
    | true => exact ⟨str (textOf c), 0, fun _ => rfl, rfl, fun w' hf => by rw [hn']; exact text_yes a cap c w' (hps.frF hf) hlc hcap hr⟩
    | false => exact ⟨⟨#[]⟩, 2, fun h => (by cases h), rfl, fun w' hf => by rw [hn']; exact text_no a cap c hl hsm w' (hps.frF hf) hlc hcap hr⟩
  have HText := Lib.hid hText
  have hcase : (goodB b = true ∧ rightB c = true ∧ ce = 0 ∧ K.size = 32 ∧ key.length = 32) ∨ (¬ (goodB b = true ∧ rightB c = true ∧ key.length = 32) ∧ (goodB b = false ∨ (goodB b = true ∧ (ce == 0) = false ∧ ¬ ce = 0) ∨ (goodB b = true ∧ ce = 0 ∧ ((K.size : Int) == 32) = false ∧ ¬ K.size = 32))) := by
    rw [hCe, hKs]
    cases hg : goodB b with
    | false => exact .inr ⟨fun h => (by cases h.1), .inl rfl⟩
    | true =>
      cases hr : rightB c with
      | false => exact .inr ⟨fun h => (by cases h.2.1), .inr (.inl ⟨rfl, by simp, by simp⟩)⟩
      | true =>
        by_cases h32 : key.length = 32
        · exact .inl ⟨rfl, rfl, by simp, h32, h32⟩
        · exact .inr ⟨fun h => h32 h.2.2, .inr (.inr ⟨rfl, by simp, beq_eq_false_iff_ne.2 (by omega), h32⟩)⟩
  rcases hcase with ⟨hg, hr, rfl, hk, hk32⟩ | ⟨hno, hcase⟩
  · have hok := good_parts hg
    have hl12 := okH_len hok.1
    have hhl := headL_length (hdB b (nB b))
    have htl := textOf_len hr
    obtain ⟨q, hq⟩ : ∃ q, q = opensL key (hdB b (nB b)).nonce (headL (hdB b (nB b)) ++ textOf c) (restB b (nB b)) := ⟨_, rfl⟩
    obtain ⟨OS, hOS⟩ : ∃ s, s = (if opensL key (hdB b (nB b)).nonce (headL (hdB b (nB b)) ++ textOf c) (restB b (nB b)) then str (openL key (hdB b (nB b)).nonce (restB b (nB b))) else ⟨#[]⟩) := ⟨_, rfl⟩
    obtain ⟨oc, hoc⟩ : ∃ s : Int, s = (if opensL key (hdB b (nB b)).nonce (headL (hdB b (nB b)) ++ textOf c) (restB b (nB b)) then 0 else 8) := ⟨_, rfl⟩
    obtain ⟨N, hN⟩ : ∃ s, s = str (hdB b (nB b)).nonce := ⟨_, rfl⟩
    obtain ⟨A, hA⟩ : ∃ s, s = str (headL (hdB b (nB b))) := ⟨_, rfl⟩
    obtain ⟨B, hB⟩ : ∃ s, s = str (restB b (nB b)) := ⟨_, rfl⟩
    obtain ⟨BE, hBE⟩ : ∃ s, s = str (headL (hdB b (nB b)) ++ textOf c) := ⟨_, rfl⟩
    have e1 : A ++ C = BE := by rw [hA, hC hr, hBE, jstr_append]
    have s1 : A.size ≤ 80 := by rw [hA, str_size]; omega
    have s2 : C.size ≤ 784 := by rw [hC hr, str_size]; exact htl
    have z1 : A.size + C.size ≤ 9223372036854775807 := by omega
    have y1 : ¬ 9223372036854775807 < A.size + C.size := by omega
    have HOpen := Lib.hid (show ∀ w, Calls Tryz.prog 21 #[.string K, .string N, .string BE, .string B] w fun e w' => e = .returned (.tuple #[.string OS, .int .i64 oc]) ∧ Fr (fun _ => False) w w' from fun w => by
      rw [hK, hN, hBE, hB, hOS, hoc]; exact open_calls key _ _ _ hk32 hl12.2 (by rw [List.length_append]; omega) hok.2.1 (by omega) w)
    have hres : openS key b c = OS := by unfold openS; rw [if_pos ⟨hg, hr, hk32⟩, hOS]
    have hrec : openC key b c = oc := by unfold openC; rw [if_pos ⟨hg, hr, hk32⟩, hoc]
    rw [← hK, ← hS, ← hn', hres, hrec]
    have HN := Lib.hid hN
    have HA := Lib.hid hA
    have HB := Lib.hid hB
    have HGd := Lib.hid hg
    clear hK hS hn' hText hC hCe hok hl12 hhl htl hq hOS hoc hN hA hB hBE s1 s2 hres hrec hKs hk32 hr hg hkl hb hl hsm hps hlc hcap
    go_enter Tryz.func10, Tryz.ntmps10
    go_wp2_with fail
    refine HSp.out.mono ?_
    rintro e w1 ⟨h, head, rest, rfl, hgood, f1⟩
    obtain ⟨h1, h2, h3⟩ := hgood HGd.out
    rw [HGd.out, h2, h3, h1, ← HN.out, ← HA.out, ← HB.out]
    clear hgood h1 h2 h3
    obtain ⟨I, hI⟩ : ∃ s, s = str (hdB b (nB b)).id := ⟨_, rfl⟩
    obtain ⟨v, hv⟩ : ∃ s, s = (hdB b (nB b)).ver := ⟨_, rfl⟩
    rw [← hI, ← hv]
    have hfa : Fr (fun _ => False) w (w1.alloc (.cells #[.string I, .int .i64 v, .string N] 23)) := f1.alloc _
    have HFa := Lib.hid hfa
    have HBx := Lib.hid (heap_alloc_new w1 (.cells #[.string I, .int .i64 v, .string N] 23))
    clear hI hv f1 hfa
    go_wp2_with fail
    refine (HText.out _ HFa.out).mono ?_
    rintro e w2 ⟨rfl, f2⟩
    have hb2 := f2.heap HBx.out id
    have k2 : w2.cell? ⟨w1.heap.size, 2, none⟩ = some (.string N) := (cell_of_row w2 _ 2 _ _ _ hb2).trans rfl
    have HF2 := Lib.hid (HFa.out.trans f2 (fun i hi => hi.elim))
    clear f2 hb2
    go_wp2_with fail
    refine (HOpen.out w2).mono ?_
    rintro e w3 ⟨rfl, f3⟩
    have HF3 := Lib.hid (HF2.out.trans f3 (fun i hi => hi.elim))
    clear f3
    go_wp2_with fail
    go_ret2
    exact ⟨rfl, HF3.out⟩
  · have hres : openS key b c = ⟨#[]⟩ := by unfold openS; rw [if_neg hno]
    have hrec : openC key b c = 2 := by unfold openC; rw [if_neg hno]
    rw [← hK, ← hS, ← hn', hres, hrec]
    clear hK hS hn' hText hC hCe hres hrec hKs hno hkl hb hl hsm hps hlc hcap
    obtain ⟨gb, hgb⟩ : ∃ g, g = goodB b := ⟨_, rfl⟩
    rw [← hgb] at hcase
    have HGb := Lib.hid hgb.symm
    clear hgb
    rcases hcase with rfl | ⟨rfl, d1, d2⟩ | ⟨rfl, rfl, d1, d2⟩
    all_goals
      go_enter Tryz.func10, Tryz.ntmps10
      go_wp2_with fail
      refine HSp.out.mono ?_
      rintro e w1 ⟨h, head, rest, rfl, hgood, f1⟩
      rw [HGb.out]
      clear hgood
      generalize str h.id = I
      generalize str h.nonce = N
      generalize h.ver = v
      generalize str head = A
      generalize str rest = B
      have HFa := Lib.hid (f1.alloc (.cells #[.string I, .int .i64 v, .string N] 23))
      clear f1
      go_wp2_with fail
      refine (HText.out _ HFa.out).mono ?_
      rintro e w2 ⟨rfl, f2⟩
      have HF2 := Lib.hid (HFa.out.trans f2 (fun i hi => hi.elim))
      clear f2
      go_wp2_with fail
      go_ret2
      exact ⟨rfl, HF2.out⟩
end Go.Proofs.YtcchhfkmhbjdmaaGreat
