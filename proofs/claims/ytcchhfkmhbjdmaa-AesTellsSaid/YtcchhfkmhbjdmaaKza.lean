/- AesTells: the law's walk. -/
import Derived.Test.YtcchhfkmhbjdmaaKz
import Derived.Test.YtcchhfkmhbjdmaaKk
set_option linter.unusedVariables false
set_option linter.unusedSimpArgs false
set_option pp.deepTerms true
set_option pp.maxSteps 100000
namespace Go.Proofs.Ytcchhfkmhbjdmaa
open Go.RowKit
section
variable {ops : Array Oper} {rest : List Oper} {op : Oper} {a : Act} {w : World} {Q : Exit → Act → World → Prop}
theorem wpList_load29 (hgd : op.guard = none) (x : Operand) (ho : op.op = .load 29 x) (V : Nat) (hx : a.eval x = .pointer (some ⟨V, 0, none⟩)) (u v : Value)
    (hg : w.heap[V]? = some (.cells #[u, v] 29 (0, 0))) (h : wpList Try.prog ops Q rest (a.put op.dst (.agg #[u, v])) w) : wpList Try.prog ops Q (op :: rest) a w :=
  wpList_load_row hgd 29 x ho V hx 29 #[u, v] (0, 0) _ hg Try.underlying29 rfl (by kernel_rfl) h
end
set_option maxRecDepth 20000 in
set_option maxHeartbeats 600000 in
theorem refpress_no (u v : Value) (hu : u.oneCell' = true) (hv : v.oneCell' = true) (s : ByteArray) (hs : s.size ≠ 16) (w : World) :
    Calls Try.prog 25 #[.agg #[u, v], .string s] w fun e w' => e = .returned (.tuple #[.string ⟨#[]⟩, .int .i64 2]) ∧ Fr (fun _ => False) w w' := by
  have hq : ((s.size : Int) != 16) = true := by simp; omega
  go_enter Try.func25, Try.ntmps25
  go_wp2
  go_ret2
  exact ⟨rfl, (Fr.refl _ _).alloc _⟩
set_option maxRecDepth 20000 in
set_option maxHeartbeats 600000 in
theorem tells_walk (key block : ByteArray) (a b : UInt8) (w : World) :
    Calls Try.prog 3 #[.string key, .string block, .int .u8 (a.toNat : Int), .int .u8 (b.toNat : Int)] w fun e w' => e = .returned (.bool true) ∧ Fr (fun _ => False) w w' := by
  by_cases hb : key.size > 100 ∨ block.size > 100
  · have HBg := Lib.hid hb
    go_enter Try.func3, Try.ntmps3
    go_wp2_with fail
    refine (awake_true _).mono ?_
    rintro e w1 ⟨rfl, h1⟩
    have HF1 := Lib.hid h1
    clear h1
    by_cases hk : key.size > 100
    · have d1 : decide ((key.size : Int) > 100) = true := decide_eq_true (by omega)
      have d2 : (100 : Int) < (key.size : Int) := by omega
      go_wp2_with fail
      go_ret
      exact ⟨rfl, HF1.out⟩
    · have d1 : decide ((key.size : Int) > 100) = false := decide_eq_false (by omega)
      have d2 : ¬ (100 : Int) < (key.size : Int) := by omega
      have d3 : (100 : Int) < (block.size : Int) := by omega
      go_wp2_with fail
      go_ret
      exact ⟨rfl, HF1.out⟩
  · have d2 : decide ((100 : Int) < (key.size : Int)) = false := decide_eq_false (by omega)
    have d3 : decide ((100 : Int) < (block.size : Int)) = false := decide_eq_false (by omega)
    have HKM := Lib.hid (show key.size ≤ 9223372036854775807 by omega)
    by_cases hk : key.size = 32
    · obtain ⟨kl, hkl⟩ : ∃ kl, key = str kl := ⟨key.data.toList, by simp [str]⟩
      have HKL := Lib.hid hkl
      have HK := Lib.hid (show kl.length = 32 by rw [← str_size, ← hkl]; exact hk)
      have HWL := Lib.hid (show (words kl 52).length = 240 from words_length kl HK.out 52)
      have HN := Lib.hid (show ∀ w, Calls Try.prog 18 #[.string key] w fun e w' => ∃ C, e = .returned (.tuple #[.pointer (some ⟨C, 0, none⟩), .int .i64 0]) ∧ Cip w' C (words kl 52) ∧ w.heap.size ≤ C ∧ Fr (fun _ => False) w w' from fun w => by rw [hkl]; exact new_yes kl HK.out w)
      have HR := Lib.hid (show ∀ w, Calls Try.prog 19 #[.string key] w fun e w' => ∃ g cap X capb, e = .returned (.tuple #[.agg #[.slice (some ⟨g, 0, none⟩) 240 cap, .slice (some ⟨X, 0, none⟩) 256 capb], .int .i64 0]) ∧ BRow w' g cap (words kl 52) ∧ Tab w' X ∧ 256 ≤ capb ∧ Fr (fun _ => False) w w' from fun w => by rw [hkl]; exact refnew_yes kl HK.out w)
      clear hkl hb
      go_enter Try.func3, Try.ntmps3
      go_wp2_with fail
      refine (awake_true _).mono ?_
      rintro e w1 ⟨rfl, h1⟩
      have HF1 := Lib.hid h1
      clear h1
      go_wp2_with fail
      refine (HN.out w1).mono ?_
      rintro e w2 ⟨C, rfl, hC, hCl, h2⟩
      have HC2 := Lib.hid hC
      have HF2 := Lib.hid (HF1.out.trans h2 (fun i hi => hi.elim))
      clear hC h2 hCl
      go_wp2_with fail
      refine (HR.out w2).mono ?_
      rintro e w3 ⟨g, cap, X, capb, rfl, hB, hT, hcb, h3⟩
      have HA := Lib.hid (show Fr (fun _ => False) w3 (w3.alloc (.cells #[.slice (some ⟨g, 0, none⟩) 240 cap, .slice (some ⟨X, 0, none⟩) 256 capb] 29)) from (Fr.refl _ _).alloc _)
      have HC3 := Lib.hid ((HC2.out.fr h3 id).fr HA.out id)
      have HF3 := Lib.hid ((HF2.out.trans h3 (fun i hi => hi.elim)).alloc (.cells #[.slice (some ⟨g, 0, none⟩) 240 cap, .slice (some ⟨X, 0, none⟩) 256 capb] 29))
      have HB3 := Lib.hid (hB.fr HA.out id)
      have HT3 := Lib.hid (hT.fr HA.out id)
      have HV3 := Lib.hid (heap_alloc_new w3 (.cells #[.slice (some ⟨g, 0, none⟩) 240 cap, .slice (some ⟨X, 0, none⟩) 256 capb] 29))
      clear h3 hB hT HC2 HF2 HF1 HA HN HR
      go_wp2_with (with_reducible refine wpList_store_fresh (op := ⟨none, .store 29 _ _, _, _, _, _⟩) rfl 29 _ _ rfl w3 #[.slice none 0 0, .slice none 0 0] #[.slice (some ⟨g, 0, none⟩) 240 cap, .slice (some ⟨X, 0, none⟩) 256 capb] rfl rfl rfl rfl (by kernel_rfl) (by simp [Value.oneCell']) ?_)
      generalize w3.alloc (.cells #[.slice (some ⟨g, 0, none⟩) 240 cap, .slice (some ⟨X, 0, none⟩) 256 capb] 29) = w4 at HC3 HF3 HB3 HT3 HV3 ⊢
      obtain ⟨V, hV⟩ : ∃ V, V = w3.heap.size := ⟨_, rfl⟩
      rw [← hV] at HV3 ⊢
      clear hV
      refine (mul_calls a b w4).mono ?_
      rintro e w5 ⟨rfl, rfl⟩
      go_wp2_with fail
      refine (refmul_calls a b _).mono ?_
      rintro e w5 ⟨rfl, rfl⟩
      go_wp2_with fail
      refine (box_calls a _).mono ?_
      rintro e w5 ⟨rfl, h5⟩
      go_wp2_with fail
      refine (refbox_calls a _).mono ?_
      rintro e w6 ⟨rfl, h6⟩
      have hf := h5.trans h6 (fun i hi => hi.elim)
      have HC6 := Lib.hid (HC3.out.fr hf id)
      have HF6 := Lib.hid (HF3.out.trans hf (fun i hi => hi.elim))
      have HB6 := Lib.hid (HB3.out.fr hf id)
      have HT6 := Lib.hid (HT3.out.fr hf id)
      have HV6 := Lib.hid (hf.heap HV3.out id)
      clear h5 h6 hf HC3 HF3 HB3 HT3 HV3
      go_wp2_with fail
      by_cases hl : block.size = 16
      · obtain ⟨bl, hbl⟩ : ∃ bl, block = str bl := ⟨block.data.toList, by simp [str]⟩
        have HBL := Lib.hid (show bl.length = 16 by rw [← str_size, ← hbl]; exact hl)
        have HP := Lib.hid (show Calls Try.prog 24 #[.pointer (some ⟨C, 0, none⟩), .string block] w6 fun e w' => e = .returned (.tuple #[.string (str (press (words kl 52) bl)), .int .i64 0]) ∧ Fr (fun _ => False) w6 w' by rw [hbl]; exact press_yes C (words kl 52) bl HBL.out w6 HC6.out)
        have HPR := Lib.hid (show ∀ w, BRow w g cap (words kl 52) → Tab w X → Calls Try.prog 25 #[.agg #[.slice (some ⟨g, 0, none⟩) 240 cap, .slice (some ⟨X, 0, none⟩) 256 capb], .string block] w fun e w' => e = .returned (.tuple #[.string (str (press (words kl 52) bl)), .int .i64 0]) ∧ Fr (fun _ => False) w w' from fun w h1 h2 => by
          rw [hbl]; exact refpress_yes g cap X capb (words kl 52) bl HWL.out HBL.out hcb w h1 h2 (World.block_lt_of_cell? w _ (h2 0)))
        generalize str (press (words kl 52) bl) = o at HP HPR
        clear hbl
        refine HP.out.mono ?_
        rintro e w7 ⟨rfl, h7⟩
        have HP7 := Lib.hid (HPR.out w7 (HB6.out.fr h7 id) (HT6.out.fr h7 id))
        have HV7 := Lib.hid (h7.heap HV6.out id)
        have HF7 := Lib.hid (HF6.out.trans h7 (fun i hi => hi.elim))
        clear h7 HP HPR HB6 HT6 HV6 HF6
        go_wp2_with (with_reducible refine wpList_load29 (op := ⟨some 72, _, _, _, _, _⟩) rfl _ rfl V rfl _ _ HV7.out ?_)
        refine HP7.out.mono ?_
        rintro e w8 ⟨rfl, h8⟩
        have HF8 := Lib.hid (HF7.out.trans h8 (fun i hi => hi.elim))
        clear h8
        go_wp2_with fail
        go_ret
        exact ⟨by simp, HF8.out⟩
      · refine (press_no C block hl w6).mono ?_
        rintro e w7 ⟨rfl, rfl⟩
        go_wp2_with (with_reducible refine wpList_load29 (op := ⟨some 72, _, _, _, _, _⟩) rfl _ rfl V rfl _ _ HV6.out ?_)
        refine (refpress_no _ _ rfl rfl block hl _).mono ?_
        rintro e w8 ⟨rfl, h8⟩
        have HF8 := Lib.hid (HF6.out.trans h8 (fun i hi => hi.elim))
        clear h8
        go_wp2_with fail
        go_ret
        exact ⟨by simp, HF8.out⟩
    · clear hb
      go_enter Try.func3, Try.ntmps3
      go_wp2_with fail
      refine (awake_true _).mono ?_
      rintro e w1 ⟨rfl, h1⟩
      have HF1 := Lib.hid h1
      clear h1
      go_wp2_with fail
      refine (new_no key hk HKM.out w1).mono ?_
      rintro e w2 ⟨rfl, rfl⟩
      go_wp2_with fail
      refine (refnew_no key hk _).mono ?_
      rintro e w3 ⟨rfl, h3⟩
      have HF3 := Lib.hid ((HF1.out.trans h3 (fun i hi => hi.elim)).alloc (.cells #[.slice none 0 0, .slice none 0 0] 29))
      clear h3 HF1
      go_wp2_with (with_reducible refine wpList_store_fresh (op := ⟨none, .store 29 _ _, _, _, _, _⟩) rfl 29 _ _ rfl w3 #[.slice none 0 0, .slice none 0 0] #[.slice none 0 0, .slice none 0 0] rfl rfl rfl rfl (by kernel_rfl) (by simp [Value.oneCell']) ?_)
      generalize w3.alloc (.cells #[.slice none 0 0, .slice none 0 0] 29) = w4 at HF3 ⊢
      refine (mul_calls a b w4).mono ?_
      rintro e w5 ⟨rfl, rfl⟩
      go_wp2_with fail
      refine (refmul_calls a b _).mono ?_
      rintro e w5 ⟨rfl, rfl⟩
      go_wp2_with fail
      refine (box_calls a _).mono ?_
      rintro e w5 ⟨rfl, h5⟩
      go_wp2_with fail
      refine (refbox_calls a _).mono ?_
      rintro e w6 ⟨rfl, h6⟩
      have HF6 := Lib.hid (HF3.out.trans (h5.trans h6 (fun i hi => hi.elim)) (fun i hi => hi.elim))
      clear h5 h6
      go_wp2_with fail
      go_ret
      exact ⟨rfl, HF6.out⟩
end Go.Proofs.Ytcchhfkmhbjdmaa
