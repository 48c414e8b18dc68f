/- Keys under keys: known answers, awake, the law's walk. -/
import Derived.Laws.MakeOwn
import Derived.Test.YtcchhfkmhbjdmaaPm2
import Derived.Test.YtcchhfkmhbjdmaaPmF
/-! Kk -/
set_option linter.unusedVariables false
set_option linter.unusedSimpArgs false
set_option pp.deepTerms true
set_option pp.maxSteps 100000
namespace Go.Proofs.Ytcchhfkmhbjdmaa
open Go.RowKit
def cnt (f : UInt8) (i : Nat) : UInt8 := f + UInt8.ofNat i
theorem made_bytes (n : Nat) : madeCells #[.int .u8 0] n = (bcells (List.replicate n 0)).toArray := by
  rw [← Array.toArray_toList (xs := madeCells _ _), toList_madeCells_one]
  simp [bcells]
theorem cnt_int (f : UInt8) (i : Nat) : ((f.toNat : Int) + (i : Int) % 256) % 256 = ((cnt f i).toNat : Int) := by
  unfold cnt
  rw [UInt8.toNat_add]
  simp
set_option maxRecDepth 20000 in
set_option maxHeartbeats 4000000 in
theorem counted_calls (f : UInt8) (n : Nat) (hn : n ≤ 1000) (w : World) : Calls Try.prog 68 #[.int .u8 (f.toNat : Int), .int .i64 n] w fun e w' => e = .returned (.string (str (full (cnt f) n))) ∧ Fr (fun _ => False) w w' := by
  have hmk : (Instr.makeSlice 27 (.int .i64 n) (.int .i64 n)).run Try.prog w = .ok (.slice (some ⟨w.heap.size, 0, none⟩) n n) (w.alloc (.cells (bcells (List.replicate n 0)).toArray 5)) := by
    have := run_make_row' (P := Try.prog) 27 5 (.int .u8 0) 1 Try.underlying27 (by kernel_rfl) rfl .i64 .i64 n (by omega) (by omega) w
    rw [made_bytes] at this
    exact this
  go_enter Try.func68, Try.ntmps68
  go_wp2
  have hN := heap_alloc_new w (.cells (bcells (List.replicate n 0)).toArray 5)
  have hf : Fr (fun _ => False) w (w.alloc (.cells (bcells (List.replicate n 0)).toArray 5)) := (Fr.refl _ _).alloc _
  generalize w.alloc (.cells (bcells (List.replicate n 0)).toArray 5) = w1 at hN hf ⊢
  obtain ⟨B, hB⟩ : ∃ B, B = w.heap.size := ⟨_, rfl⟩
  rw [← hB] at hN ⊢
  have HN := Lib.hid hN
  have HF := Lib.hid hf
  have HBd := Lib.hid hB
  clear hN hf hB hmk
  go_loopw [6] (fun v wr => ∃ i : Nat, i ≤ n ∧ v = .int .i64 i ∧ wr.heap[B]? = some (.cells (bcells (upd (cnt f) (List.replicate n 0) i)).toArray 5 (0, 0)) ∧ Fr (fun _ => False) w wr) (fun v _ => n - (intOf v).toNat)
  case atStart => exact ⟨0, Nat.zero_le _, rfl, by rw [upd_zero]; exact HN.out, HF.out⟩
  case round =>
    obtain ⟨i, hi, rfl, hN, hf⟩ := hrel
    have HN' := Lib.hid hN
    have HF' := Lib.hid hf
    clear hN hf HN HF
    by_cases hlt : i < n
    · have c1 := bcells_cell HN'.out i _ (upd_get (cnt f) (List.replicate n 0) i i (by simpa using hlt))
      rw [if_neg (by omega)] at c1
      have hz : wr.frozen? ⟨B, i, none⟩ = false := frozen_of_row wr _ _ _ _ HN'.out
      have HN1 := Lib.hid (bcells_set HN'.out i (cnt f i))
      rw [upd_set _ _ _ (by simpa using hlt)] at HN1
      have hx := cnt_int f i
      obtain ⟨z, hzd⟩ : ∃ z, z = cnt f i := ⟨_, rfl⟩
      rw [← hzd] at hx HN1
      clear hzd
      generalize (List.replicate n 0).getD i 0 = y at c1
      have b1 := f.toNat_lt
      have b2 := z.toNat_lt
      go_wp2
      go_roundw
      case rel =>
        exact ⟨i + 1, by omega, by go_num, HN1.out, HF'.out.setCell _ _ (.inr (by have := HBd.out; simp; omega))⟩
      case measure => simp [intOf]; omega
    · have hin : i = n := by omega
      rw [hin, upd_all _ _ n (by simp)] at HN'
      clear hin
      have hcv := run_convert_str (P := Try.prog) wr 27 5 Try.underlying27 Try.underlying5 B 0 n n (full (cnt f) n) (full_length _ _) (fun j v hj => by
        rw [Nat.zero_add, cell_of_row wr B j _ _ _ HN'.out]; simpa using hj) 9 Try.underlying9
      go_wp2
      go_ret
      exact ⟨rfl, HF'.out⟩
theorem ka_key : full (cnt 0) 32 = kaKey := by decide +kernel
theorem str_text : (⟨#[0, 17, 34, 51, 68, 85, 102, 119, 136, 153, 170, 187, 204, 221, 238, 255]⟩ : ByteArray) = str kaText := rfl
theorem ka_ans : str (press (words kaKey 52) kaText) = ⟨#[142, 162, 183, 202, 81, 103, 69, 191, 234, 252, 73, 144, 75, 73, 96, 137]⟩ := by rw [ka]; rfl
set_option maxRecDepth 20000 in
set_option maxHeartbeats 8000000 in
theorem awake_true (w : World) : Calls Try.prog 17 #[] w fun e w' => e = .returned (.bool true) ∧ Fr (fun _ => False) w w' := by
  go_enter Try.func17, Try.ntmps17
  go_wp2_with fail
  refine (counted_calls 0 32 (by omega) w).mono ?_
  rintro e w1 ⟨rfl, h1⟩
  have HF1 := Lib.hid h1
  clear h1
  rw [ka_key]
  go_wp2_with fail
  refine (new_yes kaKey rfl w1).mono ?_
  rintro e w2 ⟨C, rfl, hC, _, h2⟩
  have HC := Lib.hid hC
  have HF2 := Lib.hid (HF1.out.trans h2 (fun i hi => hi.elim))
  clear hC h2
  go_wp2_with fail
  refine (new_no ⟨#[]⟩ (by decide) (by decide) w2).mono ?_
  rintro e w3 ⟨rfl, rfl⟩
  go_wp2_with fail
  rw [str_text]
  refine (press_yes C (words kaKey 52) kaText rfl w2 HC.out).mono ?_
  rintro e w3 ⟨rfl, h3⟩
  rw [ka_ans]
  have HF3 := Lib.hid (HF2.out.trans h3 (fun i hi => hi.elim))
  clear h3
  go_wp2_with fail
  refine (press_no C ⟨#[]⟩ (by decide) w3).mono ?_
  rintro e w4 ⟨rfl, rfl⟩
  go_wp2_with fail
  refine (box_calls 0 w3).mono ?_
  rintro e w4 ⟨rfl, h4⟩
  rw [ka_box0]
  have HF4 := Lib.hid (HF3.out.trans h4 (fun i hi => hi.elim))
  clear h4
  go_wp2_with fail
  refine (box_calls 0x53 w4).mono ?_
  rintro e w5 ⟨rfl, h5⟩
  rw [ka_box53]
  have HF5 := Lib.hid (HF4.out.trans h5 (fun i hi => hi.elim))
  clear h5
  go_wp2_with fail
  refine (mul_calls 0x57 0x83 w5).mono ?_
  rintro e w6 ⟨rfl, rfl⟩
  rw [ka_mul]
  go_wp2_with fail
  go_ret
  exact ⟨rfl, HF5.out⟩
end Go.Proofs.Ytcchhfkmhbjdmaa
/-! Ph3 -/
set_option linter.unusedVariables false
set_option linter.unusedSimpArgs false
namespace Go.Proofs.Ytcchhfkmhbjdmaa
theorem body_twice (W nonce t : List UInt8) : bodyL W nonce (bodyL W nonce t) = t := by
  apply List.ext_getElem (by rw [bodyL_length, bodyL_length])
  intro i h1 h2
  have e : (bodyL W nonce t).getD i 0 = t.getD i 0 ^^^ ks W nonce i := full_getD _ _ _ h2
  have e2 : (bodyL W nonce (bodyL W nonce t)).getD i 0 = (bodyL W nonce t).getD i 0 ^^^ ks W nonce i := full_getD _ _ _ (by rw [bodyL_length]; exact h2)
  rw [e, UInt8.xor_assoc, UInt8.xor_self, UInt8.xor_zero, List.getD_eq_getElem?_getD, List.getD_eq_getElem?_getD, List.getElem?_eq_getElem h1, List.getElem?_eq_getElem h2] at e2
  exact e2
theorem seal_parts (key nonce beside t : List UInt8) : (sealL key nonce beside t).take ((sealL key nonce beside t).length - 16) = bodyL (words key 52) nonce t ∧ (sealL key nonce beside t).drop ((sealL key nonce beside t).length - 16) = tagL key nonce beside (bodyL (words key 52) nonce t) := by
  rw [sealL_len, show t.length + 16 - 16 = t.length by omega]
  have hb := bodyL_length (words key 52) nonce t
  unfold sealL
  constructor
  · conv => lhs; arg 1; rw [← hb]
    exact List.take_left
  · conv => lhs; arg 1; rw [← hb]
    exact List.drop_left
theorem open_seal (key nonce beside t : List UInt8) : openL key nonce (sealL key nonce beside t) = t := by
  unfold openL
  rw [(seal_parts key nonce beside t).1, body_twice]
theorem opens_seal (key nonce b2 beside t : List UInt8) : opensL key nonce b2 (sealL key nonce beside t) = decide (tagL key nonce b2 (bodyL (words key 52) nonce t) = tagL key nonce beside (bodyL (words key 52) nonce t)) := by
  unfold opensL
  rw [(seal_parts key nonce beside t).1, (seal_parts key nonce beside t).2]
theorem wrap_parts (under name key : List UInt8) : (wrapL under name key).take 12 = wnL under name key ∧ (wrapL under name key).drop 12 = sealL under (wnL under name key) name key := by
  have h := wnL_length under name key
  unfold wrapL
  constructor
  · conv => lhs; arg 1; rw [← h]
    exact List.take_left
  · conv => lhs; arg 1; rw [← h]
    exact List.drop_left
theorem unkey_wrap (under name key : List UInt8) : unkey under (wrapL under name key) = key := by
  unfold unkey
  rw [(wrap_parts under name key).1, (wrap_parts under name key).2, open_seal]
theorem unwraps_wrap (under name key : List UInt8) : unwraps under name (wrapL under name key) = true := by
  unfold unwraps
  rw [unkey_wrap, (wrap_parts under name key).1, (wrap_parts under name key).2, opens_seal]
  simp
def u9 : List UInt8 := full (cnt 9) 32
def k0 : List UInt8 := full (cnt 0) 32
def nmL : List UInt8 := [110, 97, 109, 101]
def otL : List UInt8 := [111, 116, 104, 101, 114]
def wnC : List UInt8 := [21, 221, 250, 50, 179, 249, 216, 196, 59, 1, 77, 203]
def whC : List UInt8 := [84, 249, 183, 243, 34, 90, 104, 147, 107, 105, 15, 19, 45, 47, 86, 246]
def wc1 : List UInt8 := [212, 101, 186, 5, 182, 227, 194, 182, 190, 139, 210, 36, 122, 200, 5, 29]
def wc2 : List UInt8 := [195, 114, 13, 28, 141, 57, 6, 155, 203, 90, 155, 74, 52, 130, 30, 145]
def wc3 : List UInt8 := [0, 176, 113, 83, 26, 232, 201, 76, 243, 158, 254, 167, 181, 177, 31, 255]
def wbd : List UInt8 := [195, 115, 15, 31, 137, 60, 0, 156, 195, 83, 145, 65, 56, 143, 16, 158, 16, 161, 99, 64, 14, 253, 223, 91, 235, 135, 228, 188, 169, 172, 1, 224]
set_option maxRecDepth 100000
theorem wk_n : wnL u9 nmL k0 = wnC := by decide +kernel
theorem wk_h : press (words u9 52) (List.replicate 16 0) = whC := by decide +kernel
theorem wk_1 : ctr (words u9 52) wnC 1 = wc1 := by decide +kernel
theorem wk_2 : ctr (words u9 52) wnC 2 = wc2 := by decide +kernel
theorem wk_3 : ctr (words u9 52) wnC 3 = wc3 := by decide +kernel
def whk : W2 := loadL whC
theorem wk_hk : hkey u9 = whk := by unfold hkey; rw [wk_h]; rfl
theorem wk_b : bodyL (words u9 52) wnC k0 = wbd := by
  rw [← bodyN_all _ _ _ 2 (by decide)]
  show ([] ++ turnL (chunk k0 0) (ctr (words u9 52) wnC 2)) ++ turnL (chunk k0 1) (ctr (words u9 52) wnC 3) = _
  rw [wk_2, wk_3]; decide +kernel
theorem wk_a1 : allL nmL wbd = [110, 97, 109, 101, 0, 0, 0, 0, 0, 0, 0, 0, 0, 0, 0, 0, 195, 115, 15, 31, 137, 60, 0, 156, 195, 83, 145, 65, 56, 143, 16, 158, 16, 161, 99, 64, 14, 253, 223, 91, 235, 135, 228, 188, 169, 172, 1, 224, 0, 0, 0, 0, 0, 0, 0, 32, 0, 0, 0, 0, 0, 0, 1, 0] := by decide +kernel
theorem wk_a2 : allL otL wbd = [111, 116, 104, 101, 114, 0, 0, 0, 0, 0, 0, 0, 0, 0, 0, 0, 195, 115, 15, 31, 137, 60, 0, 156, 195, 83, 145, 65, 56, 143, 16, 158, 16, 161, 99, 64, 14, 253, 223, 91, 235, 135, 228, 188, 169, 172, 1, 224, 0, 0, 0, 0, 0, 0, 0, 40, 0, 0, 0, 0, 0, 0, 1, 0] := by decide +kernel
def wla1 : List UInt8 := [110, 97, 109, 101, 0, 0, 0, 0, 0, 0, 0, 0, 0, 0, 0, 0, 195, 115, 15, 31, 137, 60, 0, 156, 195, 83, 145, 65, 56, 143, 16, 158, 16, 161, 99, 64, 14, 253, 223, 91, 235, 135, 228, 188, 169, 172, 1, 224, 0, 0, 0, 0, 0, 0, 0, 32, 0, 0, 0, 0, 0, 0, 1, 0]
def wla2 : List UInt8 := [111, 116, 104, 101, 114, 0, 0, 0, 0, 0, 0, 0, 0, 0, 0, 0, 195, 115, 15, 31, 137, 60, 0, 156, 195, 83, 145, 65, 56, 143, 16, 158, 16, 161, 99, 64, 14, 253, 223, 91, 235, 135, 228, 188, 169, 172, 1, 224, 0, 0, 0, 0, 0, 0, 0, 40, 0, 0, 0, 0, 0, 0, 1, 0]
theorem wk_ne : turnL (textL (ghF whk wla2 4)) wc1 ≠ turnL (textL (ghF whk wla1 4)) wc1 := by decide +kernel
theorem wk_no : unwraps u9 otL (wrapL u9 nmL k0) = false := by
  unfold unwraps
  rw [(wrap_parts u9 nmL k0).1, (wrap_parts u9 nmL k0).2, opens_seal, wk_n, wk_b]
  have h : tagL u9 wnC otL wbd ≠ tagL u9 wnC nmL wbd := by
    unfold tagL
    rw [wk_1, wk_hk, wk_a1, wk_a2]
    exact wk_ne
  rw [decide_eq_false h]; rfl
end Go.Proofs.Ytcchhfkmhbjdmaa
/-! Ph4 -/
set_option linter.unusedVariables false
set_option linter.unusedSimpArgs false
set_option pp.deepTerms true
set_option pp.maxSteps 100000
namespace Go.Proofs.Ytcchhfkmhbjdmaa
open Go.RowKit
theorem of_str (s : ByteArray) : ∃ l, s = str l := ⟨s.data.toList, by apply ByteArray.ext; simp [str]⟩
set_option maxRecDepth 20000 in
set_option maxHeartbeats 1000000 in
theorem wrap_awake (w : World) : Calls Try.prog 47 #[] w fun e w' => e = .returned (.bool true) ∧ Fr (fun _ => False) w w' := by
  obtain ⟨K0, hK0⟩ : ∃ s, s = str k0 := ⟨_, rfl⟩
  obtain ⟨U9, hU9⟩ : ∃ s, s = str u9 := ⟨_, rfl⟩
  obtain ⟨WR, hWR⟩ : ∃ s, s = str (wrapL u9 nmL k0) := ⟨_, rfl⟩
  have hsw : WR.size = 60 := by rw [hWR, str_size, wrapL_length]; rfl
  have HC0 := Lib.hid (show ∀ w, Calls Try.prog 68 #[.int .u8 0, .int .i64 32] w fun e w' => e = .returned (.string K0) ∧ Fr (fun _ => False) w w' from fun w => by rw [hK0]; exact counted_calls 0 32 (by omega) w)
  have HC9 := Lib.hid (show ∀ w, Calls Try.prog 68 #[.int .u8 9, .int .i64 32] w fun e w' => e = .returned (.string U9) ∧ Fr (fun _ => False) w w' from fun w => by rw [hU9]; exact counted_calls 9 32 (by omega) w)
  have HW := Lib.hid (show ∀ w, Calls Try.prog 48 #[.string U9, .string ⟨#[110, 97, 109, 101]⟩, .string K0] w fun e w' => e = .returned (.tuple #[.string WR, .int .i64 0]) ∧ Fr (fun _ => False) w w' from fun w => by
    rw [hU9, hK0, hWR]; exact wrap_yes u9 nmL k0 rfl rfl (by decide) w)
  have HU1 := Lib.hid (show ∀ w, Calls Try.prog 50 #[.string U9, .string ⟨#[110, 97, 109, 101]⟩, .string WR] w fun e w' => e = .returned (.tuple #[.string K0, .int .i64 0]) ∧ Fr (fun _ => False) w w' from fun w => by
    have h := unwrap_yes u9 nmL (wrapL u9 nmL k0) rfl (by rw [wrapL_length]; rfl) (by decide) w
    rw [unwraps_wrap, unkey_wrap] at h
    rw [hU9, hK0, hWR]; exact h)
  have HU2 := Lib.hid (show ∀ w, Calls Try.prog 50 #[.string U9, .string ⟨#[111, 116, 104, 101, 114]⟩, .string WR] w fun e w' => e = .returned (.tuple #[.string ⟨#[]⟩, .int .i64 8]) ∧ Fr (fun _ => False) w w' from fun w => by
    have h := unwrap_yes u9 otL (wrapL u9 nmL k0) rfl (by rw [wrapL_length]; rfl) (by decide) w
    rw [wk_no] at h
    rw [hU9, hWR]; exact h)
  have HF := Lib.hid (fun w => wrap_form ⟨#[]⟩ ⟨#[]⟩ ⟨#[]⟩ (.inl (by decide)) w)
  clear hK0 hU9 hWR
  go_enter Try.func47, Try.ntmps47
  go_wp2_with fail
  refine (HC0.out w).mono ?_
  rintro e w1 ⟨rfl, f1⟩
  have G1 := Lib.hid (f1)
  clear f1
  go_wp2_with fail
  refine (HC9.out w1).mono ?_
  rintro e w2 ⟨rfl, f2⟩
  have G2 := Lib.hid (G1.out.trans f2 (fun i hi => hi.elim))
  clear f2
  go_wp2_with fail
  refine (HW.out w2).mono ?_
  rintro e w3 ⟨rfl, f3⟩
  have G3 := Lib.hid (G2.out.trans f3 (fun i hi => hi.elim))
  clear f3
  go_wp2_with fail
  refine (HU1.out w3).mono ?_
  rintro e w4 ⟨rfl, f4⟩
  have G4 := Lib.hid (G3.out.trans f4 (fun i hi => hi.elim))
  clear f4
  go_wp2_with fail
  refine (HU2.out w4).mono ?_
  rintro e w5 ⟨rfl, f5⟩
  have G5 := Lib.hid (G4.out.trans f5 (fun i hi => hi.elim))
  clear f5
  go_wp2_with fail
  refine (HF.out w5).mono ?_
  rintro e w6 ⟨rfl, f6⟩
  have G6 := Lib.hid (G5.out.trans f6 (fun i hi => hi.elim))
  clear f6
  go_wp2_with fail
  go_ret
  exact ⟨rfl, G6.out⟩
theorem pick_wrap (U N K : ByteArray) :
    ∃ (S : ByteArray) (c : Int), IntKind.i64.wrap c = c ∧ (∀ w, Calls Try.prog 48 #[.string U, .string N, .string K] w fun e w' => e = .returned (.tuple #[.string S, .int .i64 c]) ∧ Fr (fun _ => False) w w') ∧
      (∀ w, Calls Try.prog 49 #[.string U, .string N, .string K] w fun e w' => e = .returned (.tuple #[.string S, .int .i64 c]) ∧ Fr (fun _ => False) w w') := by
  by_cases h : U.size ≠ 32 ∨ K.size ≠ 32
  · exact ⟨_, _, rfl, fun w => wrap_form U N K h w, fun w => refwrap_form U N K h w⟩
  · by_cases h2 : 64 < N.size
    · exact ⟨_, _, rfl, fun w => wrap_long U N K (by omega) (by omega) h2 w, fun w => refwrap_long U N K (by omega) (by omega) h2 w⟩
    · obtain ⟨u, rfl⟩ := of_str U
      obtain ⟨n, rfl⟩ := of_str N
      obtain ⟨k, rfl⟩ := of_str K
      rw [str_size, str_size] at h
      rw [str_size] at h2
      exact ⟨_, _, by rfl, fun w => wrap_yes u n k (by omega) (by omega) (by omega) w, fun w => refwrap_yes u n k (by omega) (by omega) (by omega) w⟩
theorem pick_unwrap (U N K : ByteArray) :
    ∃ (S : ByteArray) (c : Int), IntKind.i64.wrap c = c ∧ (∀ w, Calls Try.prog 50 #[.string U, .string N, .string K] w fun e w' => e = .returned (.tuple #[.string S, .int .i64 c]) ∧ Fr (fun _ => False) w w') ∧
      (∀ w, Calls Try.prog 51 #[.string U, .string N, .string K] w fun e w' => e = .returned (.tuple #[.string S, .int .i64 c]) ∧ Fr (fun _ => False) w w') := by
  by_cases h : U.size ≠ 32 ∨ K.size ≠ 60
  · exact ⟨_, _, rfl, fun w => unwrap_form U N K h w, fun w => refunwrap_form U N K h w⟩
  · by_cases h2 : 64 < N.size
    · exact ⟨_, _, rfl, fun w => unwrap_long U N K (by omega) (by omega) h2 w, fun w => refunwrap_long U N K (by omega) (by omega) h2 w⟩
    · obtain ⟨u, rfl⟩ := of_str U
      obtain ⟨n, rfl⟩ := of_str N
      obtain ⟨k, rfl⟩ := of_str K
      rw [str_size, str_size] at h
      rw [str_size] at h2
      exact ⟨_, _, by split <;> rfl, fun w => unwrap_yes u n k (by omega) (by omega) (by omega) w, fun w => refunwrap_yes u n k (by omega) (by omega) (by omega) w⟩
set_option maxRecDepth 20000 in
set_option maxHeartbeats 2000000 in
theorem wraptells_walk (U N K W : ByteArray) (w : World) : Calls Try.prog 14 #[.string U, .string N, .string K, .string W] w fun e w' => e = .returned (.bool true) ∧ Fr (fun _ => False) w w' := by
  have HAW := Lib.hid (wrap_awake w)
  by_cases g0 : U.size ≤ 100
  rotate_left
  · have d0 : decide ((100 : Int) < (U.size : Int)) = true := decide_eq_true (by omega)
    clear g0
    go_enter Try.func14, Try.ntmps14
    go_wp2_with fail
    refine HAW.out.mono ?_
    rintro e w1 ⟨rfl, f1⟩
    have HF1 := Lib.hid f1
    clear f1
    go_wp2_with fail
    go_ret
    exact ⟨rfl, HF1.out⟩
  by_cases g1 : N.size ≤ 200
  rotate_left
  · have d0 : decide ((100 : Int) < (U.size : Int)) = false := decide_eq_false (by omega)
    have d1 : decide ((200 : Int) < (N.size : Int)) = true := decide_eq_true (by omega)
    clear g0 g1
    go_enter Try.func14, Try.ntmps14
    go_wp2_with fail
    refine HAW.out.mono ?_
    rintro e w1 ⟨rfl, f1⟩
    have HF1 := Lib.hid f1
    clear f1
    go_wp2_with fail
    go_ret
    exact ⟨rfl, HF1.out⟩
  by_cases g2 : K.size ≤ 100
  rotate_left
  · have d0 : decide ((100 : Int) < (U.size : Int)) = false := decide_eq_false (by omega)
    have d1 : decide ((200 : Int) < (N.size : Int)) = false := decide_eq_false (by omega)
    have d2 : decide ((100 : Int) < (K.size : Int)) = true := decide_eq_true (by omega)
    clear g0 g1 g2
    go_enter Try.func14, Try.ntmps14
    go_wp2_with fail
    refine HAW.out.mono ?_
    rintro e w1 ⟨rfl, f1⟩
    have HF1 := Lib.hid f1
    clear f1
    go_wp2_with fail
    go_ret
    exact ⟨rfl, HF1.out⟩
  by_cases g3 : W.size ≤ 200
  rotate_left
  · have d0 : decide ((100 : Int) < (U.size : Int)) = false := decide_eq_false (by omega)
    have d1 : decide ((200 : Int) < (N.size : Int)) = false := decide_eq_false (by omega)
    have d2 : decide ((100 : Int) < (K.size : Int)) = false := decide_eq_false (by omega)
    have d3 : decide ((200 : Int) < (W.size : Int)) = true := decide_eq_true (by omega)
    clear g0 g1 g2 g3
    go_enter Try.func14, Try.ntmps14
    go_wp2_with fail
    refine HAW.out.mono ?_
    rintro e w1 ⟨rfl, f1⟩
    have HF1 := Lib.hid f1
    clear f1
    go_wp2_with fail
    go_ret
    exact ⟨rfl, HF1.out⟩
  have d0 : decide ((100 : Int) < (U.size : Int)) = false := decide_eq_false (by omega)
  have d1 : decide ((200 : Int) < (N.size : Int)) = false := decide_eq_false (by omega)
  have d2 : decide ((100 : Int) < (K.size : Int)) = false := decide_eq_false (by omega)
  have d3 : decide ((200 : Int) < (W.size : Int)) = false := decide_eq_false (by omega)
  obtain ⟨S, c, hc, hs1, hs2⟩ := pick_wrap U N K
  obtain ⟨O, d, hd, ho1, ho2⟩ := pick_unwrap U N W
  have HS1 := Lib.hid hs1
  have HS2 := Lib.hid hs2
  have HO1 := Lib.hid ho1
  have HO2 := Lib.hid ho2
  clear g0 g1 g2 g3 hs1 hs2 ho1 ho2
  go_enter Try.func14, Try.ntmps14
  go_wp2_with fail
  refine HAW.out.mono ?_
  rintro e w1 ⟨rfl, f1⟩
  have HF1 := Lib.hid f1
  clear f1
  go_wp2_with fail
  refine (HS1.out w1).mono ?_
  rintro e w2 ⟨rfl, f2⟩
  have HF2 := Lib.hid (HF1.out.trans f2 (fun i hi => hi.elim))
  clear f2
  go_wp2_with fail
  refine (HS2.out w2).mono ?_
  rintro e w3 ⟨rfl, f3⟩
  have HF3 := Lib.hid (HF2.out.trans f3 (fun i hi => hi.elim))
  clear f3
  go_wp2_with fail
  refine (HO1.out w3).mono ?_
  rintro e w4 ⟨rfl, f4⟩
  have HF4 := Lib.hid (HF3.out.trans f4 (fun i hi => hi.elim))
  clear f4
  go_wp2_with fail
  refine (HO2.out w4).mono ?_
  rintro e w5 ⟨rfl, f5⟩
  have HF5 := Lib.hid (HF4.out.trans f5 (fun i hi => hi.elim))
  clear f5
  go_wp2_with fail
  go_ret
  exact ⟨rfl, HF5.out⟩
end Go.Proofs.Ytcchhfkmhbjdmaa
