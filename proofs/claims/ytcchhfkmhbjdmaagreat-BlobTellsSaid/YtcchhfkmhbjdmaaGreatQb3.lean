/- Blobs: known answers; a counted key. -/
import Derived.Test.YtcchhfkmhbjdmaaGreatQb0
import Derived.Test.YtcchhfkmhbjdmaaGreatPm6
import Derived.Laws.MakeOwn
set_option linter.unusedVariables false
set_option linter.unusedSimpArgs false
set_option pp.deepTerms true
set_option pp.maxSteps 100000
namespace Go.Proofs.YtcchhfkmhbjdmaaGreat
open Go.RowKit
def cnt (f : UInt8) (i : Nat) : UInt8 := f + UInt8.ofNat i
theorem made_bytes (n : Nat) : madeCells #[.int .u8 0] n = (bcells (List.replicate n 0)).toArray := by
  rw [← Array.toArray_toList (xs := madeCells _ _), toList_madeCells_one]
  simp [bcells]
theorem cnt_int (f : UInt8) (i : Nat) : ((f.toNat : Int) + (i : Int) % 256) % 256 = ((cnt f i).toNat : Int) := by
  unfold cnt
  rw [UInt8.toNat_add]
  simp
set_option maxRecDepth 20000 in
set_option maxHeartbeats 4000000 in
theorem counted_calls (f : UInt8) (n : Nat) (hn : n ≤ 1000) (w : World) : Calls Tryz.prog 12 #[.int .u8 (f.toNat : Int), .int .i64 n] w fun e w' => e = .returned (.string (str (full (cnt f) n))) ∧ Fr (fun _ => False) w w' := by
  have hmk : (Instr.makeSlice 53 (.int .i64 n) (.int .i64 n)).run Tryz.prog w = .ok (.slice (some ⟨w.heap.size, 0, none⟩) n n) (w.alloc (.cells (bcells (List.replicate n 0)).toArray 5)) := by
    have := run_make_row' (P := Tryz.prog) 53 5 (.int .u8 0) 1 Tryz.underlying53 (by kernel_rfl) rfl .i64 .i64 n (by omega) (by omega) w
    rw [made_bytes] at this
    exact this
  go_enter Tryz.func12, Tryz.ntmps12
  go_wp2
  have hN := heap_alloc_new w (.cells (bcells (List.replicate n 0)).toArray 5)
  have hf : Fr (fun _ => False) w (w.alloc (.cells (bcells (List.replicate n 0)).toArray 5)) := (Fr.refl _ _).alloc _
  generalize w.alloc (.cells (bcells (List.replicate n 0)).toArray 5) = w1 at hN hf ⊢
  obtain ⟨B, hB⟩ : ∃ B, B = w.heap.size := ⟨_, rfl⟩
  rw [← hB] at hN ⊢
  have HN := Lib.hid hN
  have HF := Lib.hid hf
  have HBd := Lib.hid hB
  clear hN hf hB hmk
  go_loopw [6] (fun v wr => ∃ i : Nat, i ≤ n ∧ v = .int .i64 i ∧ wr.heap[B]? = some (.cells (bcells (upd (cnt f) (List.replicate n 0) i)).toArray 5 (0, 0)) ∧ Fr (fun _ => False) w wr) (fun v _ => n - (intOf v).toNat)
  case atStart => exact ⟨0, Nat.zero_le _, rfl, by rw [upd_zero]; exact HN.out, HF.out⟩
  case round =>
    obtain ⟨i, hi, rfl, hN, hf⟩ := hrel
    have HN' := Lib.hid hN
    have HF' := Lib.hid hf
    clear hN hf HN HF
    by_cases hlt : i < n
    · have c1 := bcells_cell HN'.out i _ (upd_get (cnt f) (List.replicate n 0) i i (by simpa using hlt))
      rw [if_neg (by omega)] at c1
      have hz : wr.frozen? ⟨B, i, none⟩ = false := frozen_of_row wr _ _ _ _ HN'.out
      have HN1 := Lib.hid (bcells_set HN'.out i (cnt f i))
      rw [upd_set _ _ _ (by simpa using hlt)] at HN1
      have hx := cnt_int f i
      obtain ⟨z, hzd⟩ : ∃ z, z = cnt f i := ⟨_, rfl⟩
      rw [← hzd] at hx HN1
      clear hzd
      generalize (List.replicate n 0).getD i 0 = y at c1
      have b1 := f.toNat_lt
      have b2 := z.toNat_lt
      go_wp2
      go_roundw
      case rel =>
        exact ⟨i + 1, by omega, by go_num, HN1.out, HF'.out.setCell _ _ (.inr (by have := HBd.out; simp; omega))⟩
      case measure => simp [intOf]; omega
    · have hin : i = n := by omega
      rw [hin, upd_all _ _ n (by simp)] at HN'
      clear hin
      have hcv := run_convert_str (P := Tryz.prog) wr 53 5 Tryz.underlying53 Tryz.underlying5 B 0 n n (full (cnt f) n) (full_length _ _) (fun j v hj => by
        rw [Nat.zero_add, cell_of_row wr B j _ _ _ HN'.out]; simpa using hj) 9 Tryz.underlying9
      go_wp2
      go_ret
      exact ⟨rfl, HF'.out⟩
theorem body_again (W nonce t : List UInt8) : bodyL W nonce (bodyL W nonce t) = t := by
  unfold bodyL
  rw [full_length]
  apply List.ext_getElem
  · rw [full_length]
  · intro i h1 h2
    have h3 : i < t.length := h2
    simp only [full, List.getElem_map, List.getElem_range, List.getD_eq_getElem?_getD, List.getElem?_map, List.getElem?_range h3, Option.map_some, Option.getD_some, List.getElem?_eq_getElem h3]
    rw [UInt8.xor_assoc, UInt8.xor_self, UInt8.xor_zero]
theorem seal_take (key nonce beside t : List UInt8) : (sealL key nonce beside t).take ((sealL key nonce beside t).length - 16) = bodyL (words key 52) nonce t := by
  rw [sealL_length]
  unfold sealL
  rw [List.take_left' (by rw [bodyL_length]; omega)]
theorem seal_drop (key nonce beside t : List UInt8) : (sealL key nonce beside t).drop ((sealL key nonce beside t).length - 16) = tagL key nonce beside (bodyL (words key 52) nonce t) := by
  rw [sealL_length]
  unfold sealL
  rw [List.drop_left' (by rw [bodyL_length]; omega)]
theorem opens_seal (key nonce beside t : List UInt8) : opensL key nonce beside (sealL key nonce beside t) = true := by
  unfold opensL
  rw [seal_take, seal_drop]
  exact decide_eq_true rfl
theorem open_seal (key nonce beside t : List UInt8) : openL key nonce (sealL key nonce beside t) = t := by
  unfold openL
  rw [seal_take, body_again]
def bkK : List UInt8 := full (cnt 0) 32
def bkN : List UInt8 := [49, 50, 51, 52, 53, 54, 55, 56, 57, 48, 49, 50]
def bkH : Hd := ⟨[107, 101, 121], 1, bkN⟩
def bkC : List Pr := [([97], [49]), ([98], [50])]
def bkT : List UInt8 := [116, 101, 120, 116]
def bkB : List UInt8 := blobL bkK bkH bkC bkT
def bkX1 : List UInt8 := [75, 49, 3, 107, 101, 121, 1, 49, 50, 51, 52, 53, 54, 55, 56, 57, 48, 49, 50, 1, 97, 1, 49, 1, 98, 1, 50]
def bkX2 : List UInt8 := [75, 49, 3, 107, 101, 121, 1, 49, 50, 51, 52, 53, 54, 55, 56, 57, 48, 49, 50, 1, 97, 1, 49]
def bkc1 : List UInt8 := [181, 28, 46, 184, 65, 41, 103, 168, 3, 138, 125, 170, 33, 185, 251, 47]
def bkc2 : List UInt8 := [84, 49, 38, 15, 238, 68, 248, 155, 105, 38, 8, 119, 193, 39, 128, 102]
def bkHk : W2 := ⟨17478470936218410960, 12246301595518531456⟩
def bkh : List UInt8 := [242, 144, 0, 182, 42, 73, 159, 208, 169, 243, 154, 106, 221, 46, 119, 128]
def bkd : List UInt8 := [32, 84, 94, 123]
def bkt1 : List UInt8 := [119, 104, 230, 123, 78, 230, 159, 36, 205, 97, 246, 73, 39, 13, 253, 80]
theorem bk_ok : okH bkH = true := by decide +kernel
theorem bk_right : rightB bkC = true := by decide
theorem bk_right1 : rightB [([97], [49])] = true := by decide
theorem bk_right2 : rightB [([98], [50]), ([97], [49])] = true := by decide
theorem bk_text2 : textOf [([98], [50]), ([97], [49])] = textOf bkC := by decide
theorem bk_x1 : headL bkH ++ textOf bkC = bkX1 := by decide +kernel
theorem bk_x2 : headL bkH ++ textOf [([97], [49])] = bkX2 := by decide +kernel
set_option maxRecDepth 100000
theorem bk_c1 : ctr (words bkK 52) bkN 1 = bkc1 := by decide +kernel
theorem bk_c2 : ctr (words bkK 52) bkN 2 = bkc2 := by decide +kernel
theorem bk_h : press (words bkK 52) (List.replicate 16 0) = bkh := by decide +kernel
theorem bk_hk : hkey bkK = bkHk := by
  unfold hkey
  rw [bk_h]; decide +kernel
theorem bk_body : bodyL (words bkK 52) bkN bkT = bkd := by
  rw [← bodyN_all _ _ _ 1 (by decide)]
  show [] ++ turnL (chunk bkT 0) (ctr (words bkK 52) bkN 2) = _
  rw [bk_c2]
  decide +kernel
theorem bk_g1 : turnL (textL (ghF bkHk (allL bkX1 bkd) 4)) bkc1 = bkt1 := by decide +kernel
theorem bk_g2 : turnL (textL (ghF bkHk (allL bkX2 bkd) 4)) bkc1 ≠ bkt1 := by decide +kernel
theorem bk_tag1 : tagL bkK bkN bkX1 bkd = bkt1 := by
  unfold tagL
  rw [bk_c1, bk_hk, show (allL bkX1 bkd).length / 16 = 4 by decide +kernel]
  exact bk_g1
theorem bk_tag2 : tagL bkK bkN bkX2 bkd ≠ bkt1 := by
  unfold tagL
  rw [bk_c1, bk_hk, show (allL bkX2 bkd).length / 16 = 4 by decide +kernel]
  exact bk_g2
theorem bk_bad : opensL bkK bkN (headL bkH ++ textOf [([97], [49])]) (sealL bkK bkN (headL bkH ++ textOf bkC) bkT) = false := by
  unfold opensL
  rw [seal_take, seal_drop, bk_body, bk_x1, bk_x2, bk_tag1]
  exact decide_eq_false bk_tag2
theorem bk_len : bkB.length = 39 := by
  unfold bkB
  rw [blobL_length _ _ bk_ok]; rfl
end Go.Proofs.YtcchhfkmhbjdmaaGreat
