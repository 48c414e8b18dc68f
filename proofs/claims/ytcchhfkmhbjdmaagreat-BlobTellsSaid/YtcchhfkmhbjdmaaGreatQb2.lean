/- Blobs: Build, walked. -/
import Derived.Test.YtcchhfkmhbjdmaaGreatQb1
import Derived.Test.YtcchhfkmhbjdmaaGreatQb3
set_option linter.unusedVariables false
set_option linter.unusedSimpArgs false
set_option pp.deepTerms true
set_option pp.maxSteps 100000
namespace Go.Proofs.YtcchhfkmhbjdmaaGreat
open Go.RowKit
set_option maxRecDepth 20000 in
set_option maxHeartbeats 4000000 in
theorem build_yes (key : List UInt8) (h : Hd) (a : Option Addr) (cap : Nat) (c : List Pr) (text : List UInt8) (hk : key.length = 32) (ho : okH h = true) (hr : rightB c = true) (ht : text.length ≤ 1024) (w : World) (hb : PSl w a c) (hlc : c.length ≤ cap) (hcap : cap ≤ 9223372036854775807) :
    Calls Tryz.prog 6 #[.string (str key), .agg #[.string (str h.id), .int .i64 h.ver, .string (str h.nonce)], .slice a c.length cap, .string (str text)] w fun e w' => e = .returned (.tuple #[.string (str (blobL key h c text)), .int .i64 0]) ∧ Fr (fun _ => False) w w' := by
  obtain ⟨hi64, hn12⟩ := okH_len ho
  obtain ⟨K, hK⟩ : ∃ s, s = str key := ⟨_, rfl⟩
  obtain ⟨I, hI⟩ : ∃ s, s = str h.id := ⟨_, rfl⟩
  obtain ⟨N, hN⟩ : ∃ s, s = str h.nonce := ⟨_, rfl⟩
  obtain ⟨T, hT⟩ : ∃ s, s = str text := ⟨_, rfl⟩
  obtain ⟨v, hv⟩ : ∃ v, v = h.ver := ⟨_, rfl⟩
  obtain ⟨n, hn⟩ : ∃ n, n = c.length := ⟨_, rfl⟩
  obtain ⟨HD, hHD⟩ : ∃ s, s = str (headL h) := ⟨_, rfl⟩
  obtain ⟨C, hC⟩ : ∃ s, s = str (textOf c) := ⟨_, rfl⟩
  obtain ⟨BE, hBE⟩ : ∃ s, s = str (headL h ++ textOf c) := ⟨_, rfl⟩
  obtain ⟨SE, hSE⟩ : ∃ s, s = str (sealL key h.nonce (headL h ++ textOf c) text) := ⟨_, rfl⟩
  obtain ⟨BL, hBL⟩ : ∃ s, s = str (blobL key h c text) := ⟨_, rfl⟩
  have e1 : HD ++ C = BE := by rw [hHD, hC, hBE, jstr_append]
  have e2 : HD ++ SE = BL := by rw [hHD, hSE, hBL, jstr_append]; rfl
  have hhl := headL_length h
  have htl := textOf_len hr
  have s1 : HD.size ≤ 80 := by rw [hHD, str_size]; omega
  have s2 : C.size ≤ 784 := by rw [hC, str_size]; exact htl
  have s3 : SE.size ≤ 1040 := by rw [hSE, str_size, sealL_length]; omega
  have z1 : HD.size + C.size ≤ 9223372036854775807 := by omega
  have z2 : HD.size + SE.size ≤ 9223372036854775807 := by omega
  have y1 : ¬ 9223372036854775807 < HD.size + C.size := by omega
  have y2 : ¬ 9223372036854775807 < HD.size + SE.size := by omega
  have hKs : K.size = 32 := by rw [hK, str_size, hk]
  have hTs : T.size ≤ 1024 := by rw [hT, str_size]; exact ht
  have hTd : decide ((1024 : Int) < (T.size : Int)) = false := decide_eq_false (by omega)
  have HTold := Lib.hid (show ∀ w, Calls Tryz.prog 13 #[.agg #[.string I, .int .i64 v, .string N]] w fun e w' => e = .returned (.tuple #[.string HD, .bool true]) ∧ Fr (fun _ => False) w w' from fun w => by
    rw [hI, hv, hN, hHD, ← ho]; exact told_calls h (by omega) (by omega) w)
  have HText := Lib.hid (show ∀ w', Fr (fun _ => False) w w' → Calls Tryz.prog 14 #[.slice a n cap] w' fun e w2 => e = .returned (.tuple #[.string C, .int .i64 0]) ∧ Fr (fun _ => False) w' w2 from fun w' hf => by
    rw [hC, hn]; exact text_yes a cap c w' (hb.frF hf) hlc hcap hr)
  have HSeal := Lib.hid (show ∀ w, Calls Tryz.prog 15 #[.string K, .string N, .string BE, .string T] w fun e w' => e = .returned (.tuple #[.string SE, .int .i64 0]) ∧ Fr (fun _ => False) w w' from fun w => by
    rw [hK, hN, hBE, hT, hSE]; exact seal_yes key h.nonce (headL h ++ textOf c) text hk hn12 (by rw [List.length_append]; omega) (by omega) w)
  rw [← hK, ← hI, ← hv, ← hN, ← hn, ← hT, ← hBL]
  have HB0 := Lib.hid (heap_alloc_new w (.cells #[.string I, .int .i64 v, .string N] 23))
  have HF0 := Lib.hid ((Fr.refl (fun _ => False) w).alloc (.cells #[.string I, .int .i64 v, .string N] 23))
  clear hK hI hN hT hv hn hHD hC hBE hSE hBL hhl htl s1 s2 s3 hi64 hn12 ho hr ht hb hlc hcap hk
  go_enter Tryz.func6, Tryz.ntmps6
  go_wp2_with fail
  refine (HTold.out _).mono ?_
  rintro e w1 ⟨rfl, f1⟩
  have HF1 := Lib.hid (HF0.out.trans f1 (fun i hi => hi.elim))
  have HB1 := Lib.hid (f1.heap HB0.out id)
  clear f1
  go_wp2_with fail
  refine (HText.out w1 HF1.out).mono ?_
  rintro e w2 ⟨rfl, f2⟩
  have HF2 := Lib.hid (HF1.out.trans f2 (fun i hi => hi.elim))
  have hb2 := f2.heap HB1.out id
  have k2 : w2.cell? ⟨w.heap.size, 2, none⟩ = some (.string N) := (cell_of_row w2 _ 2 _ _ _ hb2).trans rfl
  clear f2 hb2
  go_wp2_with fail
  refine (HSeal.out w2).mono ?_
  rintro e w3 ⟨rfl, f3⟩
  have HF3 := Lib.hid (HF2.out.trans f3 (fun i hi => hi.elim))
  clear f3
  go_wp2_with fail
  go_ret2
  exact ⟨rfl, HF3.out⟩
set_option maxRecDepth 20000 in
set_option maxHeartbeats 4000000 in
theorem build_long (key : List UInt8) (h : Hd) (a : Option Addr) (cap : Nat) (c : List Pr) (text : List UInt8) (hk : key.length = 32) (ho : okH h = true) (hr : rightB c = true) (ht : ¬ text.length ≤ 1024) (w : World) (hb : PSl w a c) (hlc : c.length ≤ cap) (hcap : cap ≤ 9223372036854775807) :
    Calls Tryz.prog 6 #[.string (str key), .agg #[.string (str h.id), .int .i64 h.ver, .string (str h.nonce)], .slice a c.length cap, .string (str text)] w fun e w' => e = .returned (.tuple #[.string ⟨#[]⟩, .int .i64 3]) ∧ Fr (fun _ => False) w w' := by
  obtain ⟨hi64, hn12⟩ := okH_len ho
  obtain ⟨K, hK⟩ : ∃ s, s = str key := ⟨_, rfl⟩
  obtain ⟨I, hI⟩ : ∃ s, s = str h.id := ⟨_, rfl⟩
  obtain ⟨N, hN⟩ : ∃ s, s = str h.nonce := ⟨_, rfl⟩
  obtain ⟨T, hT⟩ : ∃ s, s = str text := ⟨_, rfl⟩
  obtain ⟨v, hv⟩ : ∃ v, v = h.ver := ⟨_, rfl⟩
  obtain ⟨n, hn⟩ : ∃ n, n = c.length := ⟨_, rfl⟩
  obtain ⟨HD, hHD⟩ : ∃ s, s = str (headL h) := ⟨_, rfl⟩
  obtain ⟨C, hC⟩ : ∃ s, s = str (textOf c) := ⟨_, rfl⟩
  have hKs : K.size = 32 := by rw [hK, str_size, hk]
  have hTs : 1024 < T.size := by rw [hT, str_size]; omega
  have hTd : decide ((1024 : Int) < (T.size : Int)) = true := decide_eq_true (by omega)
  have HTold := Lib.hid (show ∀ w, Calls Tryz.prog 13 #[.agg #[.string I, .int .i64 v, .string N]] w fun e w' => e = .returned (.tuple #[.string HD, .bool true]) ∧ Fr (fun _ => False) w w' from fun w => by
    rw [hI, hv, hN, hHD, ← ho]; exact told_calls h (by omega) (by omega) w)
  have HText := Lib.hid (show ∀ w', Fr (fun _ => False) w w' → Calls Tryz.prog 14 #[.slice a n cap] w' fun e w2 => e = .returned (.tuple #[.string C, .int .i64 0]) ∧ Fr (fun _ => False) w' w2 from fun w' hf => by
    rw [hC, hn]; exact text_yes a cap c w' (hb.frF hf) hlc hcap hr)
  rw [← hK, ← hI, ← hv, ← hN, ← hn, ← hT]
  have HF0 := Lib.hid ((Fr.refl (fun _ => False) w).alloc (.cells #[.string I, .int .i64 v, .string N] 23))
  clear hK hI hN hT hv hn hHD hC hi64 hn12 ho hr ht hb hlc hcap hk
  go_enter Tryz.func6, Tryz.ntmps6
  go_wp2_with fail
  refine (HTold.out _).mono ?_
  rintro e w1 ⟨rfl, f1⟩
  have HF1 := Lib.hid (HF0.out.trans f1 (fun i hi => hi.elim))
  clear f1
  go_wp2_with fail
  refine (HText.out w1 HF1.out).mono ?_
  rintro e w2 ⟨rfl, f2⟩
  have HF2 := Lib.hid (HF1.out.trans f2 (fun i hi => hi.elim))
  clear f2
  go_wp2_with fail
  go_ret2
  exact ⟨rfl, HF2.out⟩
set_option maxRecDepth 20000 in
set_option maxHeartbeats 4000000 in
theorem build_no (key : List UInt8) (h : Hd) (a : Option Addr) (cap : Nat) (c : List Pr) (text : List UInt8) (hi : h.id.length ≤ 140737488355328) (hn : h.nonce.length ≤ 140737488355328) (hkl : key.length ≤ 140737488355328) (hl : c.length ≤ 100000) (hsm : ∀ p ∈ c, p.1.length ≤ 100000 ∧ p.2.length ≤ 100000) (hno : okH h = false ∨ rightB c = false ∨ key.length ≠ 32) (w : World) (hb : PSl w a c) (hlc : c.length ≤ cap) (hcap : cap ≤ 9223372036854775807) :
    Calls Tryz.prog 6 #[.string (str key), .agg #[.string (str h.id), .int .i64 h.ver, .string (str h.nonce)], .slice a c.length cap, .string (str text)] w fun e w' => e = .returned (.tuple #[.string ⟨#[]⟩, .int .i64 2]) ∧ Fr (fun _ => False) w w' := by
  obtain ⟨K, hK⟩ : ∃ s, s = str key := ⟨_, rfl⟩
  obtain ⟨I, hI⟩ : ∃ s, s = str h.id := ⟨_, rfl⟩
  obtain ⟨N, hN⟩ : ∃ s, s = str h.nonce := ⟨_, rfl⟩
  obtain ⟨T, hT⟩ : ∃ s, s = str text := ⟨_, rfl⟩
  obtain ⟨v, hv⟩ : ∃ v, v = h.ver := ⟨_, rfl⟩
  obtain ⟨n, hn'⟩ : ∃ n, n = c.length := ⟨_, rfl⟩
  obtain ⟨HD, hHD⟩ : ∃ s, s = str (headL h) := ⟨_, rfl⟩
  obtain ⟨b, hbo⟩ : ∃ b, b = okH h := ⟨_, rfl⟩
  obtain ⟨C, ce, hCe, hText⟩ : ∃ C : ByteArray, ∃ ce : Int, ce = (if rightB c then 0 else 2) ∧ (∀ w', Fr (fun _ => False) w w' → Calls Tryz.prog 14 #[.slice a n cap] w' fun e w2 => e = .returned (.tuple #[.string C, .int .i64 ce]) ∧ Fr (fun _ => False) w' w2) := by
    cases hr : rightB c with
    | true => exact ⟨str (textOf c), 0, rfl, fun w' hf => by rw [hn']; exact text_yes a cap c w' (hb.frF hf) hlc hcap hr⟩
    | false => exact ⟨⟨#[]⟩, 2, rfl, fun w' hf => by rw [hn']; exact text_no a cap c hl hsm w' (hb.frF hf) hlc hcap hr⟩
  have HText := Lib.hid hText
  clear hText
  have hKs : K.size = key.length := by rw [hK, str_size]
  have HTold := Lib.hid (show ∀ w, Calls Tryz.prog 13 #[.agg #[.string I, .int .i64 v, .string N]] w fun e w' => e = .returned (.tuple #[.string HD, .bool b]) ∧ Fr (fun _ => False) w w' from fun w => by
    rw [hI, hv, hN, hHD, hbo]; exact told_calls h hi hn w)
  have hcase : b = false ∨ (b = true ∧ (ce == 0) = false ∧ ¬ ce = 0) ∨ (b = true ∧ ce = 0 ∧ ((K.size : Int) == 32) = false ∧ ¬ K.size = 32) := by
    rw [hCe, hbo]
    cases hb' : okH h with
    | false => exact .inl rfl
    | true =>
      cases hr : rightB c with
      | false => exact .inr (.inl ⟨rfl, by simp, by simp⟩)
      | true =>
        have h32 : key.length ≠ 32 := by
          rcases hno with h | h | h
          · rw [hb'] at h; cases h
          · rw [hr] at h; cases h
          · exact h
        exact .inr (.inr ⟨rfl, by simp, by rw [hKs]; exact beq_eq_false_iff_ne.2 (by omega), by omega⟩)
  rw [← hK, ← hI, ← hv, ← hN, ← hn', ← hT]
  have HF0 := Lib.hid ((Fr.refl (fun _ => False) w).alloc (.cells #[.string I, .int .i64 v, .string N] 23))
  clear hK hI hN hT hv hn hn' hHD hi hkl hl hsm hno hb hlc hcap hbo hCe
  rcases hcase with rfl | ⟨rfl, d1, d2⟩ | ⟨rfl, rfl, d1, d2⟩
  all_goals
    clear hKs
    go_enter Tryz.func6, Tryz.ntmps6
    go_wp2_with fail
    refine (HTold.out _).mono ?_
    rintro e w1 ⟨rfl, f1⟩
    have HF1 := Lib.hid (HF0.out.trans f1 (fun i hi => hi.elim))
    clear f1
    go_wp2_with fail
    refine (HText.out w1 HF1.out).mono ?_
    rintro e w2 ⟨rfl, f2⟩
    have HF2 := Lib.hid (HF1.out.trans f2 (fun i hi => hi.elim))
    clear f2
    go_wp2_with fail
    go_ret2
    exact ⟨rfl, HF2.out⟩
/-- What Build answers. -/
def bstr (key : List UInt8) (h : Hd) (c : List Pr) (text : List UInt8) : ByteArray := if okH h = true ∧ rightB c = true ∧ key.length = 32 ∧ text.length ≤ 1024 then str (blobL key h c text) else ⟨#[]⟩
def bcode (key : List UInt8) (h : Hd) (c : List Pr) (text : List UInt8) : Int := if okH h = true ∧ rightB c = true ∧ key.length = 32 then (if text.length ≤ 1024 then 0 else 3) else 2
theorem build_calls (key : List UInt8) (h : Hd) (a : Option Addr) (cap : Nat) (c : List Pr) (text : List UInt8) (hi : h.id.length ≤ 140737488355328) (hn : h.nonce.length ≤ 140737488355328) (hkl : key.length ≤ 140737488355328) (hl : c.length ≤ 100000) (hsm : ∀ p ∈ c, p.1.length ≤ 100000 ∧ p.2.length ≤ 100000) (w : World) (hb : PSl w a c) (hlc : c.length ≤ cap) (hcap : cap ≤ 9223372036854775807) :
    Calls Tryz.prog 6 #[.string (str key), .agg #[.string (str h.id), .int .i64 h.ver, .string (str h.nonce)], .slice a c.length cap, .string (str text)] w fun e w' => e = .returned (.tuple #[.string (bstr key h c text), .int .i64 (bcode key h c text)]) ∧ Fr (fun _ => False) w w' := by
  unfold bstr bcode
  by_cases h1 : okH h = true ∧ rightB c = true ∧ key.length = 32
  · obtain ⟨ho, hr, hk⟩ := h1
    by_cases ht : text.length ≤ 1024
    · rw [if_pos ⟨ho, hr, hk, ht⟩, if_pos ⟨ho, hr, hk⟩, if_pos ht]
      exact build_yes key h a cap c text hk ho hr ht w hb hlc hcap
    · rw [if_neg (fun h => ht h.2.2.2), if_pos ⟨ho, hr, hk⟩, if_neg ht]
      exact build_long key h a cap c text hk ho hr ht w hb hlc hcap
  · rw [if_neg (fun h => h1 ⟨h.1, h.2.1, h.2.2.1⟩), if_neg h1]
    refine build_no key h a cap c text hi hn hkl hl hsm ?_ w hb hlc hcap
    cases ho : okH h with
    | false => exact .inl rfl
    | true =>
      cases hr : rightB c with
      | false => exact .inr (.inl rfl)
      | true => exact .inr (.inr (fun hk => h1 ⟨ho, hr, hk⟩))
end Go.Proofs.YtcchhfkmhbjdmaaGreat
