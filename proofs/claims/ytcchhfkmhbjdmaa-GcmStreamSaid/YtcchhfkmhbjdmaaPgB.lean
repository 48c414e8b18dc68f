/- Seal and Open: the walks. -/
import Derived.Test.YtcchhfkmhbjdmaaPgA
set_option linter.unusedVariables false
set_option linter.unusedSimpArgs false
set_option pp.deepTerms true
set_option pp.maxSteps 100000
namespace Go.Proofs.Ytcchhfkmhbjdmaa
open Go.RowKit
set_option maxRecDepth 20000 in
set_option maxHeartbeats 1000000 in
theorem seal_yes (key nonce beside text : List UInt8) (hk : key.length = 32) (hn : nonce.length = 12) (hb : beside.length ≤ 65536) (ht : text.length ≤ 65536) (w : World) :
    Calls Try.prog 41 #[.string (str key), .string (str nonce), .string (str beside), .string (str text)] w fun e w' => e = .returned (.tuple #[.string (str (sealL key nonce beside text)), .int .i64 0]) ∧ Fr (fun _ => False) w w' := by
  obtain ⟨KS, hKS⟩ : ∃ s, s = str key := ⟨_, rfl⟩
  obtain ⟨NS, hNS⟩ : ∃ s, s = str nonce := ⟨_, rfl⟩
  obtain ⟨BS, hBS⟩ : ∃ s, s = str beside := ⟨_, rfl⟩
  obtain ⟨TS, hTS⟩ : ∃ s, s = str text := ⟨_, rfl⟩
  obtain ⟨bd, hbd⟩ : ∃ s, s = bodyL (words key 52) nonce text := ⟨_, rfl⟩
  obtain ⟨BD, hBD⟩ : ∃ s, s = str bd := ⟨_, rfl⟩
  obtain ⟨TG, hTG⟩ : ∃ s, s = str (tagL key nonce beside bd) := ⟨_, rfl⟩
  obtain ⟨SE, hSE⟩ : ∃ s, s = str (sealL key nonce beside text) := ⟨_, rfl⟩
  have hbl : bd.length = text.length := by rw [hbd]; exact bodyL_length _ _ _
  have d1 : decide ((65536 : Int) < (BS.size : Int)) = false := decide_eq_false (by rw [hBS, str_size]; omega)
  have d2 : decide ((65536 : Int) < (TS.size : Int)) = false := decide_eq_false (by rw [hTS, str_size]; omega)
  have hap : BD ++ TG = SE := by rw [hBD, hTG, hSE, jstr_append, hbd]; rfl
  have hs1 : BD.size ≤ 65536 := by rw [hBD, str_size]; omega
  have hs2 : TG.size = 16 := by rw [hTG, str_size]; exact tagL_length _ _ _ _
  have hb1 : ¬ 9223372036854775807 < BD.size + TG.size := by omega
  have hb2 : BD.size + TG.size ≤ 9223372036854775807 := by omega
  have HReady := Lib.hid (show ∀ w, Calls Try.prog 84 #[.string KS, .string NS] w fun e w' => ∃ S, e = .returned (.tuple #[.pointer (some ⟨S, 0, none⟩), .int .i64 0]) ∧ Sea w' S key nonce ∧ w.heap.size ≤ S ∧ Fr (fun _ => False) w w' from fun w => by rw [hKS, hNS]; exact ready_yes key nonce hk hn w)
  have HBody := Lib.hid (show ∀ w S, Sea w S key nonce → Calls Try.prog 85 #[.pointer (some ⟨S, 0, none⟩), .string TS] w fun e w' => e = .returned (.string BD) ∧ Fr (fun _ => False) w w' from fun w S h => by rw [hTS, hBD, hbd]; exact body_calls S key nonce text (by omega) hn w h)
  have HTag := Lib.hid (show ∀ w S, Sea w S key nonce → Calls Try.prog 86 #[.pointer (some ⟨S, 0, none⟩), .string BS, .string BD] w fun e w' => e = .returned (.string TG) ∧ Fr (fun _ => False) w w' from fun w S h => by rw [hBS, hBD, hTG]; exact tag_calls S key nonce beside bd (by omega) (by omega) hn w h)
  rw [← hKS, ← hNS, ← hBS, ← hTS, ← hSE]
  clear hKS hNS hBS hTS hbd hBD hTG hSE hbl hb ht
  go_enter Try.func41, Try.ntmps41
  go_wp2_with fail
  refine (HReady.out w).mono ?_
  rintro e w1 ⟨S, rfl, hS, _, f1⟩
  have HS1 := Lib.hid hS
  have HF1 := Lib.hid f1
  clear hS f1
  go_wp2_with fail
  refine (HBody.out w1 S HS1.out).mono ?_
  rintro e w2 ⟨rfl, f2⟩
  have HS2 := Lib.hid (HS1.out.fr f2)
  have HF2 := Lib.hid (HF1.out.trans f2 (fun i hi => hi.elim))
  clear f2
  go_wp2_with fail
  refine (HTag.out w2 S HS2.out).mono ?_
  rintro e w3 ⟨rfl, f3⟩
  have HF3 := Lib.hid (HF2.out.trans f3 (fun i hi => hi.elim))
  clear f3
  go_wp2_with fail
  go_ret2
  exact ⟨rfl, HF3.out⟩
set_option maxRecDepth 20000 in
set_option maxHeartbeats 1000000 in
theorem seal_no (KS NS BS TS : ByteArray) (hKm : KS.size ≤ 9223372036854775807) (h : KS.size ≠ 32 ∨ NS.size ≠ 12) (w : World) :
    Calls Try.prog 41 #[.string KS, .string NS, .string BS, .string TS] w fun e w' => e = .returned (.tuple #[.string ⟨#[]⟩, .int .i64 2]) ∧ Fr (fun _ => False) w w' := by
  have HReady := Lib.hid (ready_no KS NS hKm h w)
  clear h hKm
  go_enter Try.func41, Try.ntmps41
  go_wp2_with fail
  refine HReady.out.mono ?_
  rintro e w1 ⟨rfl, f1⟩
  have HF1 := Lib.hid f1
  clear f1
  go_wp2_with fail
  go_ret2
  exact ⟨rfl, HF1.out⟩
/-- What is opened. -/
def opensL (key nonce beside sealed : List UInt8) : Bool := decide (tagL key nonce beside (sealed.take (sealed.length - 16)) = sealed.drop (sealed.length - 16))
def openL (key nonce sealed : List UInt8) : List UInt8 := bodyL (words key 52) nonce (sealed.take (sealed.length - 16))
set_option maxRecDepth 20000 in
set_option maxHeartbeats 1000000 in
theorem open_calls (key nonce beside sealed : List UInt8) (hk : key.length = 32) (hn : nonce.length = 12) (hb : beside.length ≤ 65536) (h16 : 16 ≤ sealed.length) (ht : sealed.length ≤ 65552) (w : World) :
    Calls Try.prog 43 #[.string (str key), .string (str nonce), .string (str beside), .string (str sealed)] w fun e w' =>
      e = .returned (.tuple #[.string (if opensL key nonce beside sealed then str (openL key nonce sealed) else ⟨#[]⟩), .int .i64 (if opensL key nonce beside sealed then 0 else 8)]) ∧ Fr (fun _ => False) w w' := by
  obtain ⟨KS, hKS⟩ : ∃ s, s = str key := ⟨_, rfl⟩
  obtain ⟨NS, hNS⟩ : ∃ s, s = str nonce := ⟨_, rfl⟩
  obtain ⟨BS, hBS⟩ : ∃ s, s = str beside := ⟨_, rfl⟩
  obtain ⟨TS, hTS⟩ : ∃ s, s = str sealed := ⟨_, rfl⟩
  obtain ⟨tn, htn⟩ : ∃ n, n = sealed.length := ⟨_, rfl⟩
  obtain ⟨n, hnn⟩ : ∃ n, n = sealed.length - 16 := ⟨_, rfl⟩
  obtain ⟨bd, hbd⟩ : ∃ s, s = sealed.take n := ⟨_, rfl⟩
  obtain ⟨tg, htg⟩ : ∃ s, s = sealed.drop n := ⟨_, rfl⟩
  obtain ⟨BD, hBD⟩ : ∃ s, s = str bd := ⟨_, rfl⟩
  obtain ⟨GD, hGD⟩ : ∃ s, s = str tg := ⟨_, rfl⟩
  obtain ⟨TG, hTG⟩ : ∃ s, s = str (tagL key nonce beside bd) := ⟨_, rfl⟩
  obtain ⟨OP, hOP⟩ : ∃ s, s = str (openL key nonce sealed) := ⟨_, rfl⟩
  have hts : TS.size = tn := by rw [hTS, str_size, htn]
  have hbl : bd.length = n := by rw [hbd, List.length_take]; omega
  have d1 : decide ((65536 : Int) < (BS.size : Int)) = false := decide_eq_false (by rw [hBS, str_size]; omega)
  have d2 : decide ((65536 : Int) < (n : Int)) = false := decide_eq_false (by omega)
  have d3 : decide ((n : Int) < 0) = false := decide_eq_false (by omega)
  have hw : IntKind.i64.wrap ((tn : Int) - 16) = (n : Int) := by rw [IntWalk.i64_in _ (by omega)]; omega
  have hn0 : (0 : Int) ≤ (n : Int) := by omega
  have hn1 : n ≤ tn := by omega
  have hn2 : (n : Int) ≤ (tn : Int) := by omega
  have hx1 : TS.extract 0 n = BD := by rw [hTS, jstr_take, hBD, hbd]
  have hx2 : TS.extract n tn = GD := by rw [← hts, hTS, jstr_drop, hGD, htg]
  have HReady := Lib.hid (show ∀ w, Calls Try.prog 84 #[.string KS, .string NS] w fun e w' => ∃ S, e = .returned (.tuple #[.pointer (some ⟨S, 0, none⟩), .int .i64 0]) ∧ Sea w' S key nonce ∧ w.heap.size ≤ S ∧ Fr (fun _ => False) w w' from fun w => by rw [hKS, hNS]; exact ready_yes key nonce hk hn w)
  have HBody := Lib.hid (show ∀ w S, Sea w S key nonce → Calls Try.prog 85 #[.pointer (some ⟨S, 0, none⟩), .string BD] w fun e w' => e = .returned (.string OP) ∧ Fr (fun _ => False) w w' from fun w S h => by rw [hBD, hOP]; unfold openL; rw [← hnn, ← hbd]; exact body_calls S key nonce bd (by omega) hn w h)
  have HTag := Lib.hid (show ∀ w S, Sea w S key nonce → Calls Try.prog 86 #[.pointer (some ⟨S, 0, none⟩), .string BS, .string BD] w fun e w' => e = .returned (.string TG) ∧ Fr (fun _ => False) w w' from fun w S h => by rw [hBS, hBD, hTG]; exact tag_calls S key nonce beside bd (by omega) (by omega) hn w h)
  obtain ⟨q, hq⟩ : ∃ b, b = opensL key nonce beside sealed := ⟨_, rfl⟩
  have HEq := Lib.hid (show ∀ w, Calls Try.prog 77 #[.string TG, .string GD] w fun e w' => e = .returned (.bool q) ∧ Fr (fun _ => False) w w' from fun w => by
    rw [hTG, hGD, hq]; unfold opensL; rw [← hnn, ← hbd, ← htg]; exact sha_equal _ _ (by rw [tagL_length]; omega) w)
  rw [← hKS, ← hNS, ← hBS, ← hTS, ← hOP, ← hq]
  clear hKS hNS hBS hTS htn hnn hbd htg hBD hGD hTG hOP hbl hb ht h16 hq
  go_enter Try.func43, Try.ntmps43
  go_wp2_with fail
  refine (HReady.out w).mono ?_
  rintro e w1 ⟨S, rfl, hS, _, f1⟩
  have HS1 := Lib.hid (show Sea w1.drew S key nonce from hS.fr (Fr.refl _ _).drew)
  have HF1 := Lib.hid f1
  clear hS f1
  go_wp2_with fail
  refine wp_region_till (fun W' => Fr (fun _ => False) w1.drew W') 9 (by kernel_rfl) ?_
  have HS0 := Lib.hid (Fr.refl (fun _ => False) w1.drew)
  refine wpAnyT_take (i := 0) (n := 12) (v := .pointer (some ⟨S, 0, none⟩)) rfl (by kernel_rfl) (fun _ _ _ h => h) HS0.out (yieldsIf_plain rfl (fun W' hW => by clear hW; go_simp)) ?_
  simp only [List.getElem_toArray, List.getElem_cons_succ, List.getElem_cons_zero, Act.put, List.setIfInBounds_toArray, List.set_cons_zero, List.set_cons_succ]
  refine wpAnyT_take (i := 1) (n := 12) (v := .string BS) rfl (by kernel_rfl) (fun _ _ _ h => h) HS0.out (yieldsIf_plain rfl (fun W' hW => by clear hW; go_simp)) ?_
  simp only [List.getElem_toArray, List.getElem_cons_succ, List.getElem_cons_zero, Act.put, List.setIfInBounds_toArray, List.set_cons_zero, List.set_cons_succ]
  refine wpAnyT_take (i := 2) (n := 12) (v := .string TS) rfl (by kernel_rfl) (fun _ _ _ h => h) HS0.out (yieldsIf_plain rfl (fun W' hW => by clear hW; go_simp)) ?_
  simp only [List.getElem_toArray, List.getElem_cons_succ, List.getElem_cons_zero, Act.put, List.setIfInBounds_toArray, List.set_cons_zero, List.set_cons_succ]
  refine wpAnyT_take (i := 3) (n := 12) (v := .int .i64 (n : Int)) rfl (by kernel_rfl) (fun _ _ _ h => h) HS0.out (yieldsIf_plain rfl (fun W' hW => by clear hW; go_simp)) ?_
  simp only [List.getElem_toArray, List.getElem_cons_succ, List.getElem_cons_zero, Act.put, List.setIfInBounds_toArray, List.set_cons_zero, List.set_cons_succ]
  refine wpAnyT_take (i := 4) (n := 12) (v := .string BD) rfl (by kernel_rfl) (fun _ _ _ h => h) HS0.out (yieldsIf_plain rfl (fun W' hW => by clear hW; go_simp)) ?_
  simp only [List.getElem_toArray, List.getElem_cons_succ, List.getElem_cons_zero, Act.put, List.setIfInBounds_toArray, List.set_cons_zero, List.set_cons_succ]
  refine wpAnyT_take (i := 6) (n := 12) (v := .string TS) rfl (by kernel_rfl) (fun _ _ _ h => h) HS0.out (yieldsIf_plain rfl (fun W' hW => by clear hW; go_simp)) ?_
  simp only [List.getElem_toArray, List.getElem_cons_succ, List.getElem_cons_zero, Act.put, List.setIfInBounds_toArray, List.set_cons_zero, List.set_cons_succ]
  refine wpAnyT_take (i := 7) (n := 12) (v := .int .i64 (n : Int)) rfl (by kernel_rfl) (fun _ _ _ h => h) HS0.out (yieldsIf_plain rfl (fun W' hW => by clear hW; go_simp)) ?_
  simp only [List.getElem_toArray, List.getElem_cons_succ, List.getElem_cons_zero, Act.put, List.setIfInBounds_toArray, List.set_cons_zero, List.set_cons_succ]
  refine wpAnyT_take (i := 8) (n := 12) (v := .string GD) rfl (by kernel_rfl) (fun _ _ _ h => h) HS0.out (yieldsIf_plain rfl (fun W' hW => by clear hW; go_simp)) ?_
  simp only [List.getElem_toArray, List.getElem_cons_succ, List.getElem_cons_zero, Act.put, List.setIfInBounds_toArray, List.set_cons_zero, List.set_cons_succ]
  refine wpAnyT_one (i := 5) rfl (by kernel_rfl) (wpOp_plain rfl rfl (fun K hK => ?_))
  simp only [List.getElem_toArray, List.getElem_cons_succ, List.getElem_cons_zero, Act.put, List.setIfInBounds_toArray, List.set_cons_zero, List.set_cons_succ]
  have HKK := Lib.hid hK
  clear hK
  go_wp2_with fail
  refine (HTag.out _ S HS1.out).mono ?_
  rintro e w3 ⟨rfl, f3⟩
  have HS3 := Lib.hid f3
  clear f3
  go_wp2_with fail
  refine HKK.out _ _ ⟨fun _ => HS3.out, ?_⟩
  clear HKK K
  try simp only [List.getElem_toArray, List.getElem_cons_succ, List.getElem_cons_zero, Act.put, List.setIfInBounds_toArray, List.set_cons_zero, List.set_cons_succ]
  refine wpAnyT_of_any trivial [9, 10, 11] _ _ _ _ (by kernel_rfl) (by simp) (.inr rfl) ?_
  simp only [List.filterMap_cons, List.filterMap_nil, List.getElem?_toArray, List.getElem?_cons_zero, List.getElem?_cons_succ]
  go_wp2_with fail
  refine (HEq.out _).mono ?_
  rintro e w4 ⟨rfl, f4⟩
  have HS4 := Lib.hid (HS3.out.trans f4 (fun i hi => hi.elim))
  have HS5 := Lib.hid (HS1.out.fr HS4.out)
  have HF4 := Lib.hid (HF1.out.drew.trans HS4.out (fun i hi => hi.elim))
  clear f4
  cases q with
  | false =>
    go_wp2_with fail
    go_ret2
    exact ⟨rfl, HF4.out⟩
  | true =>
    go_wp2_with fail
    refine (HBody.out w4 S HS5.out).mono ?_
    rintro e w5 ⟨rfl, f5⟩
    have HF5 := Lib.hid (HF4.out.trans f5 (fun i hi => hi.elim))
    clear f5
    go_wp2_with fail
    go_ret2
    exact ⟨rfl, HF5.out⟩
set_option maxRecDepth 20000 in
set_option maxHeartbeats 1000000 in
theorem open_no (KS NS BS TS : ByteArray) (hKm : KS.size ≤ 9223372036854775807) (hTm : TS.size ≤ 9223372036854775807) (h : KS.size ≠ 32 ∨ NS.size ≠ 12 ∨ TS.size < 16) (w : World) :
    Calls Try.prog 43 #[.string KS, .string NS, .string BS, .string TS] w fun e w' => e = .returned (.tuple #[.string ⟨#[]⟩, .int .i64 2]) ∧ Fr (fun _ => False) w w' := by
  obtain ⟨tn, htn⟩ : ∃ n, n = TS.size := ⟨_, rfl⟩
  obtain ⟨n, hn⟩ : ∃ n : Int, n = (tn : Int) - 16 := ⟨_, rfl⟩
  have hw : IntKind.i64.wrap ((tn : Int) - 16) = n := by rw [IntWalk.i64_in _ (by omega)]; omega
  have hts : TS.size = tn := htn.symm
  by_cases h0 : KS.size ≠ 32 ∨ NS.size ≠ 12
  · have HReady := Lib.hid (ready_no KS NS hKm h0 w)
    clear h h0 hKm hn htn hTm
    go_enter Try.func43, Try.ntmps43
    go_wp2_with fail
    refine HReady.out.mono ?_
    rintro e w1 ⟨rfl, f1⟩
    have HF1 := Lib.hid f1
    clear f1
    go_wp2_with fail
    go_ret2
    exact ⟨rfl, HF1.out⟩
  · obtain ⟨lk, hlk⟩ : ∃ l, KS = str l := ⟨KS.data.toList, by apply ByteArray.ext; simp [str]⟩
    obtain ⟨ln, hln⟩ : ∃ l, NS = str l := ⟨NS.data.toList, by apply ByteArray.ext; simp [str]⟩
    have hk : lk.length = 32 := by rw [← str_size, ← hlk]; omega
    have hnl : ln.length = 12 := by rw [← str_size, ← hln]; omega
    have d3 : decide (n < 0) = true := decide_eq_true (by omega)
    have HReady := Lib.hid (show ∀ w, Calls Try.prog 84 #[.string KS, .string NS] w fun e w' => ∃ S, e = .returned (.tuple #[.pointer (some ⟨S, 0, none⟩), .int .i64 0]) ∧ Sea w' S lk ln ∧ w.heap.size ≤ S ∧ Fr (fun _ => False) w w' from fun w => by rw [hlk, hln]; exact ready_yes lk ln hk hnl w)
    clear h h0 hKm hn htn hTm hlk hln hk hnl
    go_enter Try.func43, Try.ntmps43
    go_wp2_with fail
    refine (HReady.out w).mono ?_
    rintro e w1 ⟨S, rfl, hS, _, f1⟩
    have HF1 := Lib.hid f1
    clear hS f1
    go_wp2_with fail
    go_ret2
    exact ⟨rfl, HF1.out⟩
set_option maxHeartbeats 1000000 in
theorem noughts_calls (n : Nat) (hn : n ≤ 100000) (w : World) : Calls Try.prog 46 #[.int .i64 (n : Int)] w fun e w' => e = .returned (.string (str (List.replicate n 0))) ∧ Fr (fun _ => False) w w' := by
  have hmk := make_zeros n (by omega) w
  have hR := heap_alloc_new w (.cells (bcells (List.replicate n 0)).toArray 5)
  have hcv := run_convert_str (P := Try.prog) (w.alloc (.cells (bcells (List.replicate n 0)).toArray 5)) 27 5 Try.underlying27 Try.underlying5 w.heap.size 0 n n (List.replicate n 0) (by simp) (fun j v hj => by
    rw [Nat.zero_add, cell_of_row _ w.heap.size j _ _ _ hR]; simpa using hj) 9 Try.underlying9
  go_enter Try.func46, Try.ntmps46
  go_wp2_with fail
  go_ret
  exact ⟨rfl, (Fr.refl _ _).alloc _⟩
end Go.Proofs.Ytcchhfkmhbjdmaa
