/- Blobs: the document's answers (awake), walked. -/
import Derived.Test.YtcchhfkmhbjdmaaGreatQb8
import Derived.Test.YtcchhfkmhbjdmaaGreatQb2
import Derived.Test.YtcchhfkmhbjdmaaGreatLo
import Derived.Laws.StructEq
import Derived.Deep.RegionWith
set_option linter.unusedVariables false
set_option linter.unusedSimpArgs false
set_option pp.deepTerms true
set_option pp.maxSteps 100000
namespace Go.Proofs.YtcchhfkmhbjdmaaGreat
open Go.RowKit
theorem bk_build (w : World) : (Instr.buildSlice 24 2 #[(0, .agg #[.string ⟨#[97]⟩, .string ⟨#[49]⟩]), (1, .agg #[.string ⟨#[98]⟩, .string ⟨#[50]⟩])]).run Tryz.prog w = .ok (.slice (some ⟨w.heap.size, 0, none⟩) 2 2) (w.alloc (.cells #[.string ⟨#[97]⟩, .string ⟨#[49]⟩, .string ⟨#[98]⟩, .string ⟨#[50]⟩] 42)) := by kernel_rfl
theorem bk_build2 (w : World) : (Instr.buildSlice 24 2 #[(0, .agg #[.string ⟨#[98]⟩, .string ⟨#[50]⟩]), (1, .agg #[.string ⟨#[97]⟩, .string ⟨#[49]⟩])]).run Tryz.prog w = .ok (.slice (some ⟨w.heap.size, 0, none⟩) 2 2) (w.alloc (.cells #[.string ⟨#[98]⟩, .string ⟨#[50]⟩, .string ⟨#[97]⟩, .string ⟨#[49]⟩] 42)) := by kernel_rfl
theorem pb_two {w : World} {B : Nat} {a b c d : List UInt8} (h : w.heap[B]? = some (.cells #[.string (str a), .string (str b), .string (str c), .string (str d)] 42 (0, 0))) : PB w B 0 [(a, b), (c, d)] := fun i x hx j v hj => by
  rw [cell_of_row w B _ _ _ _ h]
  match i, hx with
  | 0, hx => cases hx; match j, hj with
    | 0, hj => exact hj
    | 1, hj => exact hj
    | j + 2, hj => simp [encP] at hj
  | 1, hx => cases hx; match j, hj with
    | 0, hj => exact hj
    | 1, hj => exact hj
    | j + 2, hj => simp [encP] at hj
  | i + 2, hx => simp at hx
theorem pb_one {w : World} {B : Nat} {a b c d : List UInt8} (h : w.heap[B]? = some (.cells #[.string (str a), .string (str b), .string (str c), .string (str d)] 42 (0, 0))) : PB w B 0 [(a, b)] := fun i x hx => by
  refine pb_two h i x ?_
  match i, hx with
  | 0, hx => exact hx
  | i + 1, hx => simp at hx
theorem bk_good : goodB bkB = true ∧ hdB bkB (nB bkB) = bkH ∧ restB bkB (nB bkB) = sealL bkK bkN (headL bkH ++ textOf bkC) bkT := by
  have e : bkB = headL bkH ++ sealL bkK bkN (headL bkH ++ textOf bkC) bkT := rfl
  have hn : nB bkB = bkH.id.length := by rw [e]; exact nB_head bkH bk_ok _
  have hl : (sealL bkK bkN (headL bkH ++ textOf bkC) bkT).length = 20 := by rw [sealL_length]; rfl
  refine ⟨?_, ?_, ?_⟩
  · rw [e]; exact goodB_head bkH bk_ok _ (by omega) (by omega)
  · rw [hn, e]; exact hdB_head bkH bk_ok _
  · rw [hn, e]; exact restB_head bkH bk_ok _
theorem bk_open1 : openS bkK bkB [([98], [50]), ([97], [49])] = str bkT ∧ openC bkK bkB [([98], [50]), ([97], [49])] = 0 := by
  obtain ⟨h1, h2, h3⟩ := bk_good
  have hk : bkK.length = 32 := full_length _ _
  unfold openS openC
  rw [if_pos (show goodB bkB = true ∧ rightB [([98], [50]), ([97], [49])] = true ∧ bkK.length = 32 from ⟨h1, bk_right2, hk⟩), if_pos (show goodB bkB = true ∧ rightB [([98], [50]), ([97], [49])] = true ∧ bkK.length = 32 from ⟨h1, bk_right2, hk⟩), h2, h3, bk_text2]
  show (if opensL bkK bkN _ _ then _ else _) = _ ∧ (if opensL bkK bkN _ _ then _ else _) = _
  rw [opens_seal, if_pos rfl, if_pos rfl]
  exact ⟨by rw [show openL bkK bkH.nonce (sealL bkK bkN (headL bkH ++ textOf bkC) bkT) = bkT from open_seal _ _ _ _], rfl⟩
theorem bk_open2 : openS bkK bkB [([97], [49])] = ⟨#[]⟩ ∧ openC bkK bkB [([97], [49])] = 8 := by
  obtain ⟨h1, h2, h3⟩ := bk_good
  have hk : bkK.length = 32 := full_length _ _
  unfold openS openC
  rw [if_pos (show goodB bkB = true ∧ rightB [([97], [49])] = true ∧ bkK.length = 32 from ⟨h1, bk_right1, hk⟩), if_pos (show goodB bkB = true ∧ rightB [([97], [49])] = true ∧ bkK.length = 32 from ⟨h1, bk_right1, hk⟩), h2, h3]
  show (if opensL bkK bkN _ _ then _ else _) = _ ∧ (if opensL bkK bkN _ _ then _ else _) = _
  rw [bk_bad, if_neg (by decide), if_neg (by decide)]
  exact ⟨rfl, rfl⟩
theorem bk_parse2 : parseC [75, 49] = 2 ∧ parseH [75, 49] = ⟨[], 0, []⟩ := by
  have h : goodB [75, 49] = false := by
    unfold goodB
    rw [show decide (3 ≤ ([75, 49] : List UInt8).length) = false from rfl]
    simp
  unfold parseC parseH
  rw [if_neg (by rw [h]; decide), if_neg (by rw [h]; decide)]
  exact ⟨rfl, rfl⟩
theorem bk_parse1 : parseC bkB = 0 ∧ parseH bkB = bkH := by
  obtain ⟨h1, h2, h3⟩ := bk_good
  unfold parseC parseH
  rw [if_pos h1, if_pos h1, h2]
  exact ⟨rfl, rfl⟩
set_option maxRecDepth 20000 in
set_option maxHeartbeats 4000000 in
theorem blob_awake (w : World) : Calls Tryz.prog 4 #[] w fun e w' => e = .returned (.bool true) ∧ Fr (fun _ => False) w w' := by
  obtain ⟨KS, hKS⟩ : ∃ s, s = str bkK := ⟨_, rfl⟩
  obtain ⟨BB, hBB⟩ : ∃ s, s = str bkB := ⟨_, rfl⟩
  have hBs : BB.size = 39 := by rw [hBB, str_size, bk_len]
  have HKey := Lib.hid (show ∀ w, Calls Tryz.prog 12 #[.int .u8 0, .int .i64 32] w fun e w' => e = .returned (.string KS) ∧ Fr (fun _ => False) w w' from fun w => by
    rw [hKS]; exact counted_calls 0 32 (by decide) w)
  have HBuild := Lib.hid (show ∀ w B, w.heap[B]? = some (.cells #[.string ⟨#[97]⟩, .string ⟨#[49]⟩, .string ⟨#[98]⟩, .string ⟨#[50]⟩] 42 (0, 0)) → Calls Tryz.prog 6 #[.string KS, .agg #[.string ⟨#[107, 101, 121]⟩, .int .i64 1, .string ⟨#[49, 50, 51, 52, 53, 54, 55, 56, 57, 48, 49, 50]⟩], .slice (some ⟨B, 0, none⟩) 2 2, .string ⟨#[116, 101, 120, 116]⟩] w fun e w' => e = .returned (.tuple #[.string BB, .int .i64 0]) ∧ Fr (fun _ => False) w w' from fun w B h => by
    rw [hKS, hBB]
    exact build_yes bkK bkH (some ⟨B, 0, none⟩) 2 bkC bkT (full_length _ _) bk_ok bk_right (by decide) w (.inr ⟨B, 0, rfl, pb_two (a := [97]) (b := [49]) (c := [98]) (d := [50]) h, lt_of_heap h⟩) (by decide) (by decide))
  have HParse := Lib.hid (show ∀ w, Calls Tryz.prog 8 #[.string BB] w fun e w' => e = .returned (.tuple #[.agg #[.string ⟨#[107, 101, 121]⟩, .int .i64 1, .string ⟨#[49, 50, 51, 52, 53, 54, 55, 56, 57, 48, 49, 50]⟩], .int .i64 0]) ∧ Fr (fun _ => False) w w' from fun w => by
    have h := bparse_calls bkB (by rw [bk_len]; decide) w
    rw [bk_parse1.1, bk_parse1.2] at h
    rw [hBB]; exact h)
  have HParse2 := Lib.hid (show ∀ w, Calls Tryz.prog 8 #[.string ⟨#[75, 49]⟩] w fun e w' => e = .returned (.tuple #[.agg #[.string ⟨#[]⟩, .int .i64 0, .string ⟨#[]⟩], .int .i64 2]) ∧ Fr (fun _ => False) w w' from fun w => by
    have h := bparse_calls [75, 49] (by decide) w
    rw [bk_parse2.1, bk_parse2.2] at h
    exact h)
  have HOpen1 := Lib.hid (show ∀ w B, w.heap[B]? = some (.cells #[.string ⟨#[98]⟩, .string ⟨#[50]⟩, .string ⟨#[97]⟩, .string ⟨#[49]⟩] 42 (0, 0)) → Calls Tryz.prog 10 #[.string KS, .string BB, .slice (some ⟨B, 0, none⟩) 2 2] w fun e w' => e = .returned (.tuple #[.string ⟨#[116, 101, 120, 116]⟩, .int .i64 0]) ∧ Fr (fun _ => False) w w' from fun w B h => by
    have h' := bopen_calls bkK bkB (some ⟨B, 0, none⟩) 2 [([98], [50]), ([97], [49])] (by decide) (by rw [bk_len]; decide) (by decide) (by decide) w (.inr ⟨B, 0, rfl, pb_two (a := [98]) (b := [50]) (c := [97]) (d := [49]) h, lt_of_heap h⟩) (by decide) (by decide)
    rw [bk_open1.1, bk_open1.2] at h'
    rw [hKS, hBB]; exact h')
  have HOpen2 := Lib.hid (show ∀ w B, w.heap[B]? = some (.cells #[.string ⟨#[97]⟩, .string ⟨#[49]⟩, .string ⟨#[98]⟩, .string ⟨#[50]⟩] 42 (0, 0)) → Calls Tryz.prog 10 #[.string KS, .string BB, .slice (some ⟨B, 0, none⟩) 1 2] w fun e w' => e = .returned (.tuple #[.string ⟨#[]⟩, .int .i64 8]) ∧ Fr (fun _ => False) w w' from fun w B h => by
    have h' := bopen_calls bkK bkB (some ⟨B, 0, none⟩) 2 [([97], [49])] (by decide) (by rw [bk_len]; decide) (by decide) (by decide) w (.inr ⟨B, 0, rfl, pb_one (a := [97]) (b := [49]) (c := [98]) (d := [50]) h, lt_of_heap h⟩) (by decide) (by decide)
    rw [bk_open2.1, bk_open2.2] at h'
    rw [hKS, hBB]; exact h')
  clear hKS hBB
  go_enter Tryz.func4, Tryz.ntmps4
  go_wp2_with fail
  refine (HKey.out w).mono ?_
  rintro e w1 ⟨rfl, f1⟩
  obtain ⟨G, hG⟩ : ∃ g, g = w1.heap.size := ⟨_, rfl⟩
  obtain ⟨w2, hw2⟩ : ∃ w2, w2 = w1.alloc (.cells #[.string ⟨#[107, 101, 121]⟩, .int .i64 1, .string ⟨#[49, 50, 51, 52, 53, 54, 55, 56, 57, 48, 49, 50]⟩] 23) := ⟨_, rfl⟩
  have hsz2 : w2.heap.size = G + 1 := by rw [hw2, hG]; simp
  have hg2 : w2.heap[G]? = some (.cells #[.string ⟨#[107, 101, 121]⟩, .int .i64 1, .string ⟨#[49, 50, 51, 52, 53, 54, 55, 56, 57, 48, 49, 50]⟩] 23 (0, 0)) := by rw [hw2, hG]; exact heap_alloc_new w1 _
  have hf2 : Fr (fun _ => False) w w2 := by rw [hw2]; exact f1.alloc _
  obtain ⟨w3, hw3⟩ : ∃ w3, w3 = w2.alloc (.cells #[.string ⟨#[97]⟩, .string ⟨#[49]⟩, .string ⟨#[98]⟩, .string ⟨#[50]⟩] 42) := ⟨_, rfl⟩
  have hf3 : Fr (fun _ => False) w2 w3 := by rw [hw3]; exact (Fr.refl _ _).alloc _
  have hg3 := hf3.heap hg2 id
  have hp3 : w3.heap[G + 1]? = some (.cells #[.string ⟨#[97]⟩, .string ⟨#[49]⟩, .string ⟨#[98]⟩, .string ⟨#[50]⟩] 42 (0, 0)) := by rw [hw3, ← hsz2]; exact heap_alloc_new w2 _
  have HG3 := Lib.hid hg3
  have HP3 := Lib.hid hp3
  have HF3 := Lib.hid (hf2.trans hf3 (fun i hi => hi.elim))
  have hbs := bk_build w2
  rw [← hw3, hsz2] at hbs
  have HGs := hG.symm
  have HW2 := hw2.symm
  have HW3 := hw3.symm
  have k0 : w3.cell? ⟨G, 0, none⟩ = some (.string ⟨#[107, 101, 121]⟩) := (cell_of_row w3 _ 0 _ _ _ hg3).trans rfl
  have k1 : w3.cell? ⟨G, 1, none⟩ = some (.int .i64 1) := (cell_of_row w3 _ 1 _ _ _ hg3).trans rfl
  have k2 : w3.cell? ⟨G, 2, none⟩ = some (.string ⟨#[49, 50, 51, 52, 53, 54, 55, 56, 57, 48, 49, 50]⟩) := (cell_of_row w3 _ 2 _ _ _ hg3).trans rfl
  clear f1 hG hw2 hw3 hf2 hf3 hg2 hg3 hp3
  go_wp2_with fail
  refine (HBuild.out w3 (G + 1) HP3.out).mono ?_
  rintro e w4 ⟨rfl, f4⟩
  have HG4 := Lib.hid (f4.heap HG3.out id)
  have HP4 := Lib.hid (f4.heap HP3.out id)
  have HF4 := Lib.hid (HF3.out.trans f4 (fun i hi => hi.elim))
  clear f4 k0 k1 k2 HGs HW2 HW3
  go_wp2_with fail
  refine (HParse.out w4).mono ?_
  rintro e w5 ⟨rfl, f5⟩
  have hg5 := f5.heap HG4.out id
  have hp5 := f5.heap HP4.out id
  obtain ⟨G5, hG5⟩ : ∃ g, g = w5.heap.size := ⟨_, rfl⟩
  obtain ⟨w6, hw6⟩ : ∃ w6, w6 = w5.alloc (.cells #[.string ⟨#[107, 101, 121]⟩, .int .i64 1, .string ⟨#[49, 50, 51, 52, 53, 54, 55, 56, 57, 48, 49, 50]⟩] 23) := ⟨_, rfl⟩
  have hf6 : Fr (fun _ => False) w5 w6 := by rw [hw6]; exact (Fr.refl _ _).alloc _
  have hn6 : w6.heap[G5]? = some (.cells #[.string ⟨#[107, 101, 121]⟩, .int .i64 1, .string ⟨#[49, 50, 51, 52, 53, 54, 55, 56, 57, 48, 49, 50]⟩] 23 (0, 0)) := by rw [hw6, hG5]; exact heap_alloc_new w5 _
  have HN6 := Lib.hid hn6
  have HG6 := Lib.hid (hf6.heap hg5 id)
  have hp6 := hf6.heap hp5 id
  have HP6 := Lib.hid hp6
  have HF6 := Lib.hid ((HF4.out.trans f5 (fun i hi => hi.elim)).trans hf6 (fun i hi => hi.elim))
  have HG5s := hG5.symm
  have HW6 := hw6.symm
  clear f5 hg5 hp5 hG5 hw6 hf6 hn6 hp6
  go_wp2_with fail
  refine wp_region_till (fun w' => Fr (fun _ => False) (w6.drew) w') 9 rfl ?_
  generalize hW0 : w6.drew = W0
  have HR0 := Lib.hid (show Fr (fun _ => False) w6 W0 by rw [← hW0]; exact (Fr.refl _ _).drew)
  have HS0 := Lib.hid (Fr.refl (fun _ => False) W0)
  clear hW0 HG5s HW6
  refine wpAnyT_path (i := 0) (p := []) (v := .string KS) rfl (by kernel_rfl) (by kernel_rfl) (fun _ _ _ h => h) HS0.out (.inl ⟨by rfl, fun W' hW => by clear hW; go_simp⟩) ?_
  try simp only [Act.put, List.setIfInBounds_toArray]
  try dsimp only [List.getElem_toArray, List.getElem_cons_succ, List.getElem_cons_zero, List.set_cons_zero, List.set_cons_succ]
  refine wpAnyT_path (i := 1) (p := []) (v := .string BB) rfl (by kernel_rfl) (by kernel_rfl) (fun _ _ _ h => h) HS0.out (.inl ⟨by rfl, fun W' hW => by clear hW; go_simp⟩) ?_
  try simp only [Act.put, List.setIfInBounds_toArray]
  try dsimp only [List.getElem_toArray, List.getElem_cons_succ, List.getElem_cons_zero, List.set_cons_zero, List.set_cons_succ]
  refine wpAnyT_path (i := 2) (p := [8, 4, 3]) (v := .slice (some ⟨G + 1, 0, none⟩) 2 2) rfl (by kernel_rfl) (by kernel_rfl) (fun _ _ _ h => h) HS0.out (.inl ⟨by rfl, fun W' hW => by clear hW; go_simp⟩) ?_
  try simp only [Act.put, List.setIfInBounds_toArray]
  try dsimp only [List.getElem_toArray, List.getElem_cons_succ, List.getElem_cons_zero, List.set_cons_zero, List.set_cons_succ]
  refine wpAnyT_path (i := 3) (p := [8, 4]) (v := .pointer (some ⟨G + 1, 2, none⟩)) rfl (by kernel_rfl) (by kernel_rfl) (fun _ _ _ h => h) HS0.out (.inl ⟨by rfl, fun W' hW => by clear hW; go_simp⟩) ?_
  try simp only [Act.put, List.setIfInBounds_toArray]
  try dsimp only [List.getElem_toArray, List.getElem_cons_succ, List.getElem_cons_zero, List.set_cons_zero, List.set_cons_succ]
  refine wpAnyT_path (i := 4) (p := [8]) (v := .agg #[.string ⟨#[98]⟩, .string ⟨#[50]⟩]) rfl (by kernel_rfl) (by kernel_rfl) (fun _ _ _ h => h) HS0.out (.inl ⟨by rfl, fun W' hW => by have hp := (HR0.out.trans hW (fun i hi => hi.elim)).heap HP6.out id; have c0 : W'.cell? ⟨G + 1, 2, none⟩ = some _ := (cell_of_row W' _ 2 _ _ _ hp).trans rfl; have c1 : W'.cell? ⟨G + 1, 3, none⟩ = some _ := (cell_of_row W' _ 3 _ _ _ hp).trans rfl; clear hW hp; go_simp⟩) ?_
  try simp only [Act.put, List.setIfInBounds_toArray]
  try dsimp only [List.getElem_toArray, List.getElem_cons_succ, List.getElem_cons_zero, List.set_cons_zero, List.set_cons_succ]
  refine wpAnyT_path (i := 5) (p := [8, 7, 6]) (v := .slice (some ⟨G + 1, 0, none⟩) 2 2) rfl (by kernel_rfl) (by kernel_rfl) (fun _ _ _ h => h) HS0.out (.inl ⟨by rfl, fun W' hW => by clear hW; go_simp⟩) ?_
  try simp only [Act.put, List.setIfInBounds_toArray]
  try dsimp only [List.getElem_toArray, List.getElem_cons_succ, List.getElem_cons_zero, List.set_cons_zero, List.set_cons_succ]
  refine wpAnyT_path (i := 6) (p := [8, 7]) (v := .pointer (some ⟨G + 1, 0, none⟩)) rfl (by kernel_rfl) (by kernel_rfl) (fun _ _ _ h => h) HS0.out (.inl ⟨by rfl, fun W' hW => by clear hW; go_simp⟩) ?_
  try simp only [Act.put, List.setIfInBounds_toArray]
  try dsimp only [List.getElem_toArray, List.getElem_cons_succ, List.getElem_cons_zero, List.set_cons_zero, List.set_cons_succ]
  refine wpAnyT_path (i := 7) (p := [8]) (v := .agg #[.string ⟨#[97]⟩, .string ⟨#[49]⟩]) rfl (by kernel_rfl) (by kernel_rfl) (fun _ _ _ h => h) HS0.out (.inl ⟨by rfl, fun W' hW => by have hp := (HR0.out.trans hW (fun i hi => hi.elim)).heap HP6.out id; have c0 : W'.cell? ⟨G + 1, 0, none⟩ = some _ := (cell_of_row W' _ 0 _ _ _ hp).trans rfl; have c1 : W'.cell? ⟨G + 1, 1, none⟩ = some _ := (cell_of_row W' _ 1 _ _ _ hp).trans rfl; clear hW hp; go_simp⟩) ?_
  try simp only [Act.put, List.setIfInBounds_toArray]
  try dsimp only [List.getElem_toArray, List.getElem_cons_succ, List.getElem_cons_zero, List.set_cons_zero, List.set_cons_succ]
  refine wpAnyT_one (i := 8) rfl (by kernel_rfl) ?_
  refine wpOp_plain rfl rfl (fun K hK => ?_)
  try simp only [Act.put, List.setIfInBounds_toArray]
  try dsimp only [List.getElem_toArray, List.getElem_cons_succ, List.getElem_cons_zero, List.set_cons_zero, List.set_cons_succ]
  have HKK2 := Lib.hid hK
  clear hK
  have hbs1 := bk_build2 W0
  go_wp2_with fail
  generalize hW1 : W0.alloc (.cells #[.string ⟨#[98]⟩, .string ⟨#[50]⟩, .string ⟨#[97]⟩, .string ⟨#[49]⟩] 42) = W1
  obtain ⟨g1, hg1⟩ : ∃ g, g = W0.heap.size := ⟨_, rfl⟩
  rw [← hg1]
  have HRB1 := Lib.hid (show Fr (fun _ => False) W0 W1 by rw [← hW1]; exact (Fr.refl _ _).alloc _)
  have HR1 := Lib.hid (HR0.out.trans HRB1.out (fun i hi => hi.elim))
  have HQB := Lib.hid (show W1.heap[g1]? = some (.cells #[.string ⟨#[98]⟩, .string ⟨#[50]⟩, .string ⟨#[97]⟩, .string ⟨#[49]⟩] 42 (0, 0)) by rw [← hW1, hg1]; exact heap_alloc_new _ _)
  have HS1 := Lib.hid (Fr.refl (fun _ => False) W1)
  clear hW1 hg1 hbs1
  refine HKK2.out _ _ ⟨fun _ => HRB1.out, ?_⟩
  clear HKK2 K
  try simp only [Act.put, List.setIfInBounds_toArray]
  try dsimp only [List.getElem_toArray, List.getElem_cons_succ, List.getElem_cons_zero, List.set_cons_zero, List.set_cons_succ]
  refine wpAnyT_mono (S' := fun w' => Fr (fun _ => False) W1 w') (fun w' h => HRB1.out.trans h (fun i hi => hi.elim)) _ _ _ _ ?_
  refine wpAnyT_one (i := 9) rfl (by kernel_rfl) ?_
  refine wpOp_plain rfl rfl (fun K hK => ?_)
  try simp only [Act.put, List.setIfInBounds_toArray]
  try dsimp only [List.getElem_toArray, List.getElem_cons_succ, List.getElem_cons_zero, List.set_cons_zero, List.set_cons_succ]
  have HKK2 := Lib.hid hK
  clear hK
  go_wp2_with fail
  refine (HOpen1.out W1 g1 HQB.out).mono ?_
  rintro e w7 ⟨rfl, f7⟩
  have HF7r := Lib.hid (HR1.out.trans f7 (fun i hi => hi.elim))
  clear f7
  go_wp2_with fail
  refine HKK2.out _ _ ⟨fun hl => absurd (show (true : Bool) = false from hl) (by decide), ?_⟩
  clear HKK2 K
  try simp only [Act.put, List.setIfInBounds_toArray]
  try dsimp only [List.getElem_toArray, List.getElem_cons_succ, List.getElem_cons_zero, List.set_cons_zero, List.set_cons_succ]
  refine wpAnyT_doneP (by first | rfl | kernel_rfl) _ _ _ ?_
  refine wpAny_take (i := 10) (v := .tuple #[.string ⟨#[116, 101, 120, 116]⟩, .int .i64 0]) rfl (by kernel_rfl) (by kernel_rfl) (by kernel_rfl) (fun _ _ _ h => h) (.inl ⟨rfl, fun W' => by go_simp⟩) ?_
  try simp only [Act.put, List.setIfInBounds_toArray]
  try dsimp only [List.getElem_toArray, List.getElem_cons_succ, List.getElem_cons_zero, List.set_cons_zero, List.set_cons_succ]
  refine wpAny_take (i := 11) (v := .string ⟨#[116, 101, 120, 116]⟩) rfl (by kernel_rfl) (by kernel_rfl) (by kernel_rfl) (fun _ _ _ h => h) (.inl ⟨rfl, fun W' => by go_simp⟩) ?_
  try simp only [Act.put, List.setIfInBounds_toArray]
  try dsimp only [List.getElem_toArray, List.getElem_cons_succ, List.getElem_cons_zero, List.set_cons_zero, List.set_cons_succ]
  refine wpAny_take (i := 12) (v := .int .i64 0) rfl (by kernel_rfl) (by kernel_rfl) (by kernel_rfl) (fun _ _ _ h => h) (.inl ⟨rfl, fun W' => by go_simp⟩) ?_
  try simp only [Act.put, List.setIfInBounds_toArray]
  try dsimp only [List.getElem_toArray, List.getElem_cons_succ, List.getElem_cons_zero, List.set_cons_zero, List.set_cons_succ]
  refine wpAny_take (i := 13) (v := .string ⟨#[116, 101, 120, 116]⟩) rfl (by kernel_rfl) (by kernel_rfl) (by kernel_rfl) (fun _ _ _ h => h) (.inl ⟨rfl, fun W' => by go_simp⟩) ?_
  try simp only [Act.put, List.setIfInBounds_toArray]
  try dsimp only [List.getElem_toArray, List.getElem_cons_succ, List.getElem_cons_zero, List.set_cons_zero, List.set_cons_succ]
  refine wpAny_take (i := 14) (v := .int .i64 0) rfl (by kernel_rfl) (by kernel_rfl) (by kernel_rfl) (fun _ _ _ h => h) (.inl ⟨rfl, fun W' => by go_simp⟩) ?_
  try simp only [Act.put, List.setIfInBounds_toArray]
  try dsimp only [List.getElem_toArray, List.getElem_cons_succ, List.getElem_cons_zero, List.set_cons_zero, List.set_cons_succ]
  refine wpAny_done (by kernel_rfl) ?_ _
  have HG7 := Lib.hid (HF7r.out.heap HG6.out id)
  have HN7 := Lib.hid (HF7r.out.heap HN6.out id)
  have HP7 := Lib.hid (HF7r.out.heap HP6.out id)
  have HF7 := Lib.hid (HF6.out.trans HF7r.out (fun i hi => hi.elim))
  go_wp2_with fail
  refine (HOpen2.out w7 (G + 1) HP7.out).mono ?_
  rintro e w8 ⟨rfl, f8⟩
  have HG8 := Lib.hid (f8.heap HG7.out id)
  have HN8 := Lib.hid (f8.heap HN7.out id)
  have HF8 := Lib.hid (HF7.out.trans f8 (fun i hi => hi.elim))
  clear f8
  go_wp2_with fail
  refine (HParse2.out w8).mono ?_
  rintro e w9 ⟨rfl, f9⟩
  have hg9 := f9.heap HG8.out id
  have hn9 := f9.heap HN8.out id
  have hfA : Fr (fun _ => False) w9 (w9.alloc (.cells #[.string ⟨#[]⟩, .int .i64 0, .string ⟨#[]⟩] 23)) := (Fr.refl _ _).alloc _
  have hg10 := hfA.heap hg9 id
  have hn10 := hfA.heap hn9 id
  have hl1 : G < w9.heap.size := lt_of_heap hg9
  have hl2 : G5 < w9.heap.size := lt_of_heap hn9
  have HF10 := Lib.hid ((HF8.out.trans f9 (fun i hi => hi.elim)).trans hfA (fun i hi => hi.elim))
  have k0 : w9.cell? ⟨G, 0, none⟩ = some (.string ⟨#[107, 101, 121]⟩) := (cell_of_row w9 _ 0 _ _ _ hg9).trans rfl
  have ka0 : (w9.alloc (.cells #[.string ⟨#[]⟩, .int .i64 0, .string ⟨#[]⟩] 23)).cell? ⟨G, 0, none⟩ = some (.string ⟨#[107, 101, 121]⟩) := (cell_of_row _ _ 0 _ _ _ hg10).trans rfl
  have k1 : w9.cell? ⟨G, 1, none⟩ = some (.int .i64 1) := (cell_of_row w9 _ 1 _ _ _ hg9).trans rfl
  have ka1 : (w9.alloc (.cells #[.string ⟨#[]⟩, .int .i64 0, .string ⟨#[]⟩] 23)).cell? ⟨G, 1, none⟩ = some (.int .i64 1) := (cell_of_row _ _ 1 _ _ _ hg10).trans rfl
  have k2 : w9.cell? ⟨G, 2, none⟩ = some (.string ⟨#[49, 50, 51, 52, 53, 54, 55, 56, 57, 48, 49, 50]⟩) := (cell_of_row w9 _ 2 _ _ _ hg9).trans rfl
  have ka2 : (w9.alloc (.cells #[.string ⟨#[]⟩, .int .i64 0, .string ⟨#[]⟩] 23)).cell? ⟨G, 2, none⟩ = some (.string ⟨#[49, 50, 51, 52, 53, 54, 55, 56, 57, 48, 49, 50]⟩) := (cell_of_row _ _ 2 _ _ _ hg10).trans rfl
  have m0 : w9.cell? ⟨G5, 0, none⟩ = some (.string ⟨#[107, 101, 121]⟩) := (cell_of_row w9 _ 0 _ _ _ hn9).trans rfl
  have ma0 : (w9.alloc (.cells #[.string ⟨#[]⟩, .int .i64 0, .string ⟨#[]⟩] 23)).cell? ⟨G5, 0, none⟩ = some (.string ⟨#[107, 101, 121]⟩) := (cell_of_row _ _ 0 _ _ _ hn10).trans rfl
  have m1 : w9.cell? ⟨G5, 1, none⟩ = some (.int .i64 1) := (cell_of_row w9 _ 1 _ _ _ hn9).trans rfl
  have ma1 : (w9.alloc (.cells #[.string ⟨#[]⟩, .int .i64 0, .string ⟨#[]⟩] 23)).cell? ⟨G5, 1, none⟩ = some (.int .i64 1) := (cell_of_row _ _ 1 _ _ _ hn10).trans rfl
  have m2 : w9.cell? ⟨G5, 2, none⟩ = some (.string ⟨#[49, 50, 51, 52, 53, 54, 55, 56, 57, 48, 49, 50]⟩) := (cell_of_row w9 _ 2 _ _ _ hn9).trans rfl
  have ma2 : (w9.alloc (.cells #[.string ⟨#[]⟩, .int .i64 0, .string ⟨#[]⟩] 23)).cell? ⟨G5, 2, none⟩ = some (.string ⟨#[49, 50, 51, 52, 53, 54, 55, 56, 57, 48, 49, 50]⟩) := (cell_of_row _ _ 2 _ _ _ hn10).trans rfl
  clear f9 hfA hg9 hn9 hg10 hn10
  go_wp2_with fail
  go_ret
  exact ⟨rfl, HF10.out⟩
end Go.Proofs.YtcchhfkmhbjdmaaGreat
