/- A key made ready: New. -/
import Derived.Test.YtcchhfkmhbjdmaaKh
set_option linter.unusedVariables false
set_option linter.unusedSimpArgs false
set_option pp.deepTerms true
set_option pp.maxSteps 100000
namespace Go.Proofs.Ytcchhfkmhbjdmaa
open Go.RowKit
theorem getD_app {A B : List UInt8} {k : Nat} (h : k < A.length) : (A ++ B).getD k 0 = A.getD k 0 := by simp only [List.getD_eq_getElem?_getD, List.getElem?_append_left h]
theorem full_succ (f : Nat → UInt8) (k : Nat) : full f (k + 1) = full f k ++ [f k] := by simp [full, List.range_succ]
/-- The words as they come to be. -/
def stW (X : List UInt8) (f : Nat → UInt8) (k : Nat) : List UInt8 := X ++ full f k ++ List.replicate (240 - X.length - k) 0
theorem stW_length (X : List UInt8) (f : Nat → UInt8) (k : Nat) (h : X.length + k ≤ 240) : (stW X f k).length = 240 := by simp [stW, full_length]; omega
theorem stW_set (X : List UInt8) (f : Nat → UInt8) (k : Nat) (h : X.length + k < 240) : (stW X f k).set (X.length + k) (f k) = stW X f (k + 1) := by
  obtain ⟨n, hn⟩ : ∃ n, 240 - X.length - k = n + 1 := ⟨240 - X.length - k - 1, by omega⟩
  unfold stW
  rw [hn, show 240 - X.length - (k + 1) = n by omega, full_succ, List.replicate_succ]
  rw [List.set_append_right _ _ (by simp [full_length])]
  simp [full_length]
theorem stW_zero (X : List UInt8) (f : Nat → UInt8) : stW X f 0 = X ++ List.replicate (240 - X.length) 0 := by simp [stW, full]
theorem stW_four (X : List UInt8) (f : Nat → UInt8) : stW X f 4 = (X ++ full f 4) ++ List.replicate (240 - (X ++ full f 4).length) 0 := by
  simp [stW, full_length, Nat.sub_sub]
def wk (key : List UInt8) (i : Nat) : List UInt8 := if i ≤ 8 then key.take (4 * i) else words key (i - 8)
theorem wk_length (key : List UInt8) (h : key.length = 32) (i : Nat) (hi : i ≤ 60) : (wk key i).length = 4 * i := by
  unfold wk
  split
  · simp; omega
  · rw [words_length key h]; omega
def wz (key : List UInt8) (i : Nat) : List UInt8 := wk key i ++ List.replicate (240 - 4 * i) 0
theorem wz_length (key : List UInt8) (h : key.length = 32) (i : Nat) (hi : i ≤ 60) : (wz key i).length = 240 := by simp [wz, wk_length key h i hi]; omega
theorem wz_copy (key : List UInt8) (h : key.length = 32) (i : Nat) (hi : i < 8) :
    ((bcells (boxT ++ wz key i)).toArray.toList.take (256 + i * 4) ++ bcells ((key.drop (4 * i)).take 4) ++ (bcells (boxT ++ wz key i)).toArray.toList.drop (256 + i * 4 + 4)).toArray = (bcells (boxT ++ wz key (i + 1))).toArray := by
  have e1 : wk key i = key.take (4 * i) := by unfold wk; rw [if_pos (by omega)]
  have e2 : wk key (i + 1) = key.take (4 * i) ++ (key.drop (4 * i)).take 4 := by unfold wk; rw [if_pos (by omega), show 4 * (i + 1) = 4 * i + 4 by omega, List.take_add]
  have hl : (boxT ++ key.take (4 * i)).length = 256 + i * 4 := by simp [boxT_length]; omega
  congr 1
  simp only [← bcells_take, ← bcells_drop, ← bcells_append, wz, e1, e2]
  congr 1
  rw [← List.append_assoc boxT, List.take_append_of_le_length (by rw [hl]; exact Nat.le_refl _), List.take_of_length_le (by rw [hl]; exact Nat.le_refl _), List.drop_append, List.drop_of_length_le (show (boxT ++ key.take (4 * i)).length ≤ 256 + i * 4 + 4 by rw [hl]; omega), hl, show 256 + i * 4 + 4 - (256 + i * 4) = 4 by omega, List.drop_replicate]
  rw [show 240 - 4 * i - 4 = 240 - 4 * (i + 1) by omega]
  simp only [List.append_assoc, List.nil_append]
theorem wz_stW (key : List UInt8) (h : key.length = 32) (i : Nat) (hi : i ≤ 60) (f : Nat → UInt8) : stW (wk key i) f 0 = wz key i := by
  rw [stW_zero, wk_length key h i hi]; rfl
theorem wk_next (key : List UInt8) (i : Nat) (hi : 8 ≤ i) (hk : key.length = 32) : wk key (i + 1) = wk key i ++ full (wordF (wk key i) i) 4 := by
  have e2 : wk key (i + 1) = words key (i + 1 - 8) := by unfold wk; rw [if_neg (by omega)]
  have e1 : wk key i = words key (i - 8) := by
    unfold wk
    split
    · have : i = 8 := by omega
      subst this
      show key.take 32 = key
      exact List.take_of_length_le (by omega)
    · rfl
  rw [e1, e2, show i + 1 - 8 = (i - 8) + 1 by omega, words, show i - 8 + 8 = i by omega]
theorem wz_next (key : List UInt8) (h : key.length = 32) (i : Nat) (hi : 8 ≤ i) (hi2 : i < 60) : stW (wk key i) (wordF (wk key i) i) 4 = wz key (i + 1) := by
  rw [stW_four, ← wk_next key i hi h, wk_length key h (i + 1) (by omega)]; rfl
theorem wz_all (key : List UInt8) : wz key 60 = words key 52 := by simp [wz, wk]
def pw (i : Nat) : UInt8 := powN ((i - 1) / 8)
theorem pw_same (i : Nat) (h : i % 8 ≠ 0) : pw (i + 1) = pw i := by unfold pw; congr 1; omega
theorem pw_next (i : Nat) (h : i % 8 = 0) (h8 : 8 ≤ i) : pw (i + 1) = tw (pw i) := by
  unfold pw
  rw [show (i + 1 - 1) / 8 = (i - 1) / 8 + 1 by omega]; rfl
theorem pw_low (i : Nat) (h : i ≤ 8) : pw i = 1 := by
  unfold pw
  rw [show (i - 1) / 8 = 0 by omega]; rfl
theorem cip_new : (bcells (boxT ++ List.replicate 240 0)).toArray.size = 496 := by rw [List.size_toArray, bcells_length, List.length_append, boxT_length, List.length_replicate]
set_option maxRecDepth 100000 in
theorem run_build94 (W : World) : (Instr.build 94 #[(0, .agg (bcells boxT).toArray)]).run Try.prog W = .ok (.agg (bcells (boxT ++ List.replicate 240 0)).toArray) W := by kernel_rfl
theorem Cip.step {w : World} {C : Nat} {X : List UInt8} {f : Nat → UInt8} {k : Nat} (h : Cip w C (stW X f k)) (hX : X.length + k < 240) :
    Cip (w.setCell ⟨C, 256 + (X.length + k), none⟩ (.int .u8 ((f k).toNat : Int))) C (stW X f (k + 1)) := by
  refine ⟨?_, stW_length _ _ _ (by omega)⟩
  have h1 := bcells_set h.1 (256 + (X.length + k)) (f k)
  have h2 : (boxT ++ stW X f k).set (256 + (X.length + k)) (f k) = boxT ++ stW X f (k + 1) := by
    rw [List.set_append_right _ _ (by rw [boxT_length]; omega), boxT_length, Nat.add_sub_cancel_left, stW_set _ _ _ hX]
  rw [h2] at h1
  exact h1
theorem setCell_keep {w : World} {B : Nat} {o : Obj} {p : Addr} {v : Value} (h : w.heap[B]? = some o) (hne : B ≠ p.block) : (w.setCell p v).heap[B]? = some o := (heap_setCell_other w p B v hne).trans h
theorem bcut (l : List UInt8) (k : Nat) (x : UInt8) (h : l[k]? = some x) : l.getD k 0 = x := by rw [List.getD_eq_getElem?_getD, h]; rfl
set_option maxRecDepth 20000 in
set_option maxHeartbeats 8000000 in
theorem new_yes (key : List UInt8) (hk : key.length = 32) (w : World) :
    Calls Try.prog 18 #[.string (str key)] w fun e w' => ∃ C, e = .returned (.tuple #[.pointer (some ⟨C, 0, none⟩), .int .i64 0]) ∧ Cip w' C (words key 52) ∧ w.heap.size ≤ C ∧ Fr (fun _ => False) w w' := by
  have hsz : (str key).size = 32 := by rw [str_size]; exact hk
  have HK := Lib.hid hk
  clear hk
  go_enter Try.func18, Try.ntmps18
  go_wp2_with fail
  refine (boxes_calls _).mono ?_
  rintro e w1 ⟨rfl, hf⟩
  have HF1 := Lib.hid hf
  clear hf
  have hbuild := run_build94 w1
  go_wp2_with fail
  skip
  clear hbuild
  have hfd : List.foldl (fun cs x => cs.setIfInBounds x.snd x.fst) Try.zeroCells94 (bcells boxT).zipIdx = (bcells (boxT ++ List.replicate 240 0)).toArray := by kernel_rfl
  rw [hfd]
  have hf : Fr (fun _ => False) w1 ((w1.alloc (.cells (bcells (boxT ++ List.replicate 240 0)).toArray 94)).alloc (.cells #[.pointer (some ⟨w1.heap.size, 0, none⟩)] 23)) := ((Fr.refl _ _).alloc _).alloc _
  have hC : ((w1.alloc (.cells (bcells (boxT ++ List.replicate 240 0)).toArray 94)).alloc (.cells #[.pointer (some ⟨w1.heap.size, 0, none⟩)] 23)).heap[w1.heap.size]? = some (.cells (bcells (boxT ++ List.replicate 240 0)).toArray 94 (0, 0)) := ((Fr.refl (fun _ => False) _).alloc _).heap (heap_alloc_new w1 _) id
  have hV := heap_alloc_new (w1.alloc (.cells (bcells (boxT ++ List.replicate 240 0)).toArray 94)) (.cells #[.pointer (some ⟨w1.heap.size, 0, none⟩)] 23)
  simp only [World.size_alloc] at hV
  have hCw : w.heap.size ≤ w1.heap.size := HF1.out.size
  have hf2 := HF1.out.trans hf (fun i hi => hi.elim)
  generalize (w1.alloc (.cells (bcells (boxT ++ List.replicate 240 0)).toArray 94)).alloc (.cells #[.pointer (some ⟨w1.heap.size, 0, none⟩)] 23) = w2 at hf hf2 hC hV ⊢
  obtain ⟨C, hCd⟩ : ∃ C, C = w1.heap.size := ⟨_, rfl⟩
  rw [← hCd] at hC hV hCw ⊢
  have HC := Lib.hid (show Cip w2 C (wz key 0) from ⟨by simpa [wz, wk] using hC, wz_length key HK.out 0 (by omega)⟩)
  have HV := Lib.hid hV
  have HF := Lib.hid hf2
  clear hf hf2 hC hV hfd hCd HF1
  generalize (bcells boxT).toArray = G1
  generalize (bcells (boxT ++ List.replicate 240 0)).toArray = G2
  go_loopw [6, 17] (fun vp vi wr => ∃ i : Nat, i ≤ 60 ∧ vi = .int .i64 i ∧ vp = .int .u8 ((pw i).toNat : Int) ∧ Cip wr C (wz key i) ∧ wr.heap[C + 1]? = some (.cells #[.pointer (some ⟨C, 0, none⟩)] 23 (0, 0)) ∧ Fr (fun _ => False) w wr) (fun _ vi _ => 60 - (intOf vi).toNat)
  case atStart => exact ⟨0, Nat.zero_le _, rfl, rfl, HC.out, HV.out, HF.out⟩
  case round =>
    obtain ⟨i, hi, rfl, rfl, hC, hV, hf⟩ := hrel
    have HC' := Lib.hid hC
    have HV' := Lib.hid hV
    have HF' := Lib.hid hf
    clear hC hV hf HC HV HF
    by_cases hlt : i < 60
    · by_cases h8 : i < 8
      · have cv : wr.cell? ⟨C + 1, 0, none⟩ = some (.pointer (some ⟨C, 0, none⟩)) := (cell_of_row wr _ 0 _ _ _ HV'.out).trans rfl
        have hs4 : 4 * (i : Int) ≤ 32 := by omega
        have hw1 : IntKind.i64.wrap (4 * (i : Int)) = 4 * (i : Int) := IntWalk.i64_in _ (by omega)
        go_wp2
        refine wp_region_still_tail 10 (by kernel_rfl) (by kernel_rfl) ?_
        simp only [List.take_succ_cons, List.take_zero, List.drop_succ_cons, List.drop_zero]
        change wpStill _ _ wr.drew (fun a' => wpList _ _ _ _ a' wr.drew) _ _
        have cv' : wr.drew.cell? ⟨C + 1, 0, none⟩ = some (.pointer (some ⟨C, 0, none⟩)) := cv
        have hsl : (Instr.sliceAt 9 (.string (str key)) (some (.int .i64 (4 * (i : Int)))) none none).run Try.prog wr.drew = .ok (.string (str (key.drop (4 * i)))) wr.drew := by
          rw [run_sliceAt_string _ _ _ _ _ _ Try.underlying9, run_slice_string_l _ _ _ Try.underlying9 _ _ (by omega) (by rw [hsz]; omega), show (4 * (i : Int)).toNat = 4 * i by omega, str_drop]
        have hsl2 : (Instr.slice 9 (.string (str key)) (some (.int .i64 (4 * (i : Int)))) none none).run Try.prog wr.drew = .ok (.string (str (key.drop (4 * i)))) wr.drew := by
          rw [run_slice_string_l _ _ _ Try.underlying9 _ _ (by omega) (by rw [hsz]; omega), show (4 * (i : Int)).toNat = 4 * i by omega, str_drop]
        repeat still_step
        refine wpStill_nil ?_
        have hcs := wz_copy key HK.out i h8
        refine wpList_copy_prefix (op := ⟨some 32, _, _, _, _, _⟩) rfl (.tmp 27) (.tmp 31) 27 9 rfl 5 Try.underlying27 (by kernel_rfl) C (256 + i * 4) 4 4 (key.drop (4 * i)) (bcells (boxT ++ wz key i)).toArray 94 rfl rfl HC'.out.1 (by have := HK.out; simp; omega) (by rw [show (bcells (boxT ++ wz key i)).toArray.size = 496 by rw [List.size_toArray, bcells_length, List.length_append, boxT_length, wz_length key HK.out i hi]]; omega) ?_
        rw [hcs]
        have HC2 := Lib.hid (show Cip (wr.drew.setRow C (bcells (boxT ++ wz key (i + 1))).toArray) C (wz key (i + 1)) from ⟨setRow_heap (w := wr.drew) HC'.out.1, wz_length key HK.out (i + 1) (by omega)⟩)
        have HV2 := Lib.hid (show (wr.drew.setRow C (bcells (boxT ++ wz key (i + 1))).toArray).heap[C + 1]? = some (.cells #[.pointer (some ⟨C, 0, none⟩)] 23 (0, 0)) from (setRow_other wr.drew C (C + 1) _ (by omega)).trans HV'.out)
        have HF2 := Lib.hid (HF'.out.drew.setRow C (bcells (boxT ++ wz key (i + 1))).toArray (.inr hCw))
        have hpw : pw (i + 1) = pw i := by rw [pw_low _ (by omega), pw_low _ (by omega)]
        generalize wr.drew.setRow C (bcells (boxT ++ wz key (i + 1))).toArray = w3 at HC2 HV2 HF2 ⊢
        go_wp2
        go_roundw
        case rel => exact ⟨i + 1, by omega, by go_num, by rw [hpw], HC2.out, HV2.out, HF2.out⟩
        case measure => simp [intOf]; omega
      · -- GE8
        obtain ⟨m, hm⟩ : ∃ m, i = m + 1 := ⟨i - 1, by omega⟩
        obtain ⟨n8, hn8⟩ : ∃ n, i = n + 8 := ⟨i - 8, by omega⟩
        obtain ⟨r, hr⟩ : ∃ r, r = i % 8 := ⟨_, rfl⟩
        obtain ⟨X, hX⟩ : ∃ X, X = wk key i := ⟨_, rfl⟩
        have hXl : X.length = 4 * i := by rw [hX]; exact wk_length key HK.out i hi
        have hXz : ∀ k, k < 4 * i → (wz key i).getD k 0 = X.getD k 0 := fun k hk => by
          unfold wz
          rw [← hX, getD_app (by omega)]
        have HXl := Lib.hid hXl
        have HXz := Lib.hid hXz
        have HX := Lib.hid hX
        have hw1 : IntKind.i64.wrap ((i : Int) - 1) = (m : Int) := by rw [IntWalk.i64_in _ (by omega)]; omega
        have hw2 : IntKind.i64.wrap ((i : Int) - 8) = (n8 : Int) := by rw [IntWalk.i64_in _ (by omega)]; omega
        have hw3 : (i : Int).tmod 8 = (r : Int) := by rw [Int.tmod_eq_emod_of_nonneg (by omega)]; omega
        have hw4 : IntKind.i64.wrap (r : Int) = (r : Int) := IntWalk.i64_in _ (by omega)
        have hm60 : (m : Int) < 60 := by omega
        have hd1 : decide ((i : Int) < 60) = true := decide_eq_true (by omega)
        have hd2 : decide ((i : Int) < 8) = false := decide_eq_false (by omega)
        have hn60 : (n8 : Int) < 60 := by omega
        have hwk : ∀ j, j < 4 → wr.cell? ⟨C, 256 + (m * 4 + j), none⟩ = some (.int .u8 ((X.getD (4 * i - 4 + j) 0).toNat : Int)) := fun j hj => by
          rw [HC'.out.word _ (by omega), hXz _ (by omega), show 4 * i - 4 + j = m * 4 + j by omega]
        obtain ⟨x0, h0⟩ : ∃ x, x = X.getD (4 * i - 4) 0 := ⟨_, rfl⟩
        obtain ⟨x1, h1⟩ : ∃ x, x = X.getD (4 * i - 4 + 1) 0 := ⟨_, rfl⟩
        obtain ⟨x2, h2⟩ : ∃ x, x = X.getD (4 * i - 4 + 2) 0 := ⟨_, rfl⟩
        obtain ⟨x3, h3⟩ : ∃ x, x = X.getD (4 * i - 4 + 3) 0 := ⟨_, rfl⟩
        have c0 : wr.cell? ⟨C, 256 + m * 4, none⟩ = some (.int .u8 (x0.toNat : Int)) := by rw [h0]; exact hwk 0 (by omega)
        have c1 : wr.cell? ⟨C, 256 + m * 4 + 1, none⟩ = some (.int .u8 (x1.toNat : Int)) := by rw [h1]; exact hwk 1 (by omega)
        have c2 : wr.cell? ⟨C, 256 + m * 4 + 2, none⟩ = some (.int .u8 (x2.toNat : Int)) := by rw [h2]; exact hwk 2 (by omega)
        have c3 : wr.cell? ⟨C, 256 + m * 4 + 3, none⟩ = some (.int .u8 (x3.toNat : Int)) := by rw [h3]; exact hwk 3 (by omega)
        have cv : wr.cell? ⟨C + 1, 0, none⟩ = some (.pointer (some ⟨C, 0, none⟩)) := (cell_of_row wr _ 0 _ _ _ HV'.out).trans rfl
        have HH := Lib.hid (show x0 = X.getD (4 * i - 4) 0 ∧ x1 = X.getD (4 * i - 3) 0 ∧ x2 = X.getD (4 * i - 2) 0 ∧ x3 = X.getD (4 * i - 1) 0 from ⟨h0, by rw [h1]; congr 1; omega, by rw [h2]; congr 1; omega, by rw [h3]; congr 1; omega⟩)
        have HR := Lib.hid hr
        have HM := Lib.hid hm
        have HN8 := Lib.hid hn8
        clear hX hXl hXz hwk h0 h1 h2 h3 hr hm hn8
        -- behind the variable t
        have hN := heap_alloc_new wr (.cells #[.int .u8 (x0.toNat : Int), .int .u8 (x1.toNat : Int), .int .u8 (x2.toNat : Int), .int .u8 (x3.toNat : Int)] 91)
        have hfN : Fr (fun _ => False) wr (wr.alloc (.cells #[.int .u8 (x0.toNat : Int), .int .u8 (x1.toNat : Int), .int .u8 (x2.toNat : Int), .int .u8 (x3.toNat : Int)] 91)) := (Fr.refl _ _).alloc _
        have HT := Lib.hid (show (wr.alloc (.cells #[.int .u8 (x0.toNat : Int), .int .u8 (x1.toNat : Int), .int .u8 (x2.toNat : Int), .int .u8 (x3.toNat : Int)] 91)).heap[wr.heap.size]? = some (.cells (bcells [x0, x1, x2, x3]).toArray 91 (0, 0)) from hN)
        have HCt := Lib.hid (HC'.out.fr hfN id)
        have HVt := Lib.hid (hfN.heap HV'.out id)
        have HFt := Lib.hid (HF'.out.alloc (.cells #[.int .u8 (x0.toNat : Int), .int .u8 (x1.toNat : Int), .int .u8 (x2.toNat : Int), .int .u8 (x3.toNat : Int)] 91))
        have cvt : (wr.alloc (.cells #[.int .u8 (x0.toNat : Int), .int .u8 (x1.toNat : Int), .int .u8 (x2.toNat : Int), .int .u8 (x3.toNat : Int)] 91)).cell? ⟨C + 1, 0, none⟩ = some (.pointer (some ⟨C, 0, none⟩)) := hfN.cell cv id
        have hTC : C + 1 < wr.heap.size := lt_of_heap HV'.out
        have hTw : w.heap.size ≤ wr.heap.size := HF'.out.size
        clear hN hfN
        by_cases h0 : r = 0
        · have q0 : ((r : Int) == 0) = true := by simpa using h0
          have HR0 := Lib.hid h0
          clear h0
          go_wp2_with fail
          refine (sub_calls C (C + 1) (wz key i) x1 x2 x3 x0 _ HCt.out cvt).mono ?_
          rintro e w4 ⟨rfl, hf⟩
          have HT4 := Lib.hid (hf.heap HT.out id)
          have HC4 := Lib.hid (HCt.out.fr hf id)
          have HV4 := Lib.hid (hf.heap HVt.out id)
          have HF4 := Lib.hid (HFt.out.trans hf (fun i hi => hi.elim))
          obtain ⟨T, hTd⟩ : ∃ T, T = wr.heap.size := ⟨_, rfl⟩
          rw [← hTd] at HT4 hTC hTw ⊢
          clear hf hTd HT HCt HVt HFt cvt
          obtain ⟨t0, ht0⟩ : ∃ t, t = box x1 ^^^ pw i := ⟨_, rfl⟩
          obtain ⟨y, hy⟩ : ∃ t, t = box x1 := ⟨_, rfl⟩
          obtain ⟨t1, ht1⟩ : ∃ t, t = box x2 := ⟨_, rfl⟩
          obtain ⟨t2, ht2⟩ : ∃ t, t = box x3 := ⟨_, rfl⟩
          obtain ⟨t3, ht3⟩ : ∃ t, t = box x0 := ⟨_, rfl⟩
          obtain ⟨pq, hpq⟩ : ∃ t, t = pw i := ⟨_, rfl⟩
          have e1 := xor_u8 y pq
          rw [hy, hpq, ← ht0, ← hpq, ← hy] at e1
          have HTL := Lib.hid (show ∀ k, k < 4 → [t0, t1, t2, t3][k]? = some (wordT X i k) from fun k hk => by
            obtain ⟨g0, g1, g2, g3⟩ := HH.out
            have hr := HR.out
            have hr0 := HR0.out
            have hi8 := HN8.out
            have : k = 0 ∨ k = 1 ∨ k = 2 ∨ k = 3 := by omega
            rcases this with rfl | rfl | rfl | rfl
            · simp only [wordT]; rw [if_pos (by omega), if_pos trivial, ← g1, ht0]; rfl
            · simp only [wordT]; rw [if_pos (by omega), if_neg (by omega), show 4 * i - 4 + (1 + 1) % 4 = 4 * i - 2 by omega, ← g2, ht1]; rfl
            · simp only [wordT]; rw [if_pos (by omega), if_neg (by omega), show 4 * i - 4 + (2 + 1) % 4 = 4 * i - 1 by omega, ← g3, ht2]; rfl
            · simp only [wordT]; rw [if_pos (by omega), if_neg (by omega), show 4 * i - 4 + (3 + 1) % 4 = 4 * i - 4 by omega, ← g0, ht3]; rfl)
          have HPW := Lib.hid (show pw (i + 1) = tw pq from by rw [hpq]; exact pw_next i (by have := HR.out; have := HR0.out; omega) (by have := HN8.out; omega))
          rw [← hy, ← ht1, ← ht2, ← ht3, ← hpq]
          clear hy ht0 ht1 ht2 ht3 hpq
          have hT5 := setRow_heap (w := w4) (cs := (bcells [y, t1, t2, t3]).toArray) HT4.out
          have HC5 := Lib.hid (show Cip (w4.setRow T (bcells [y, t1, t2, t3]).toArray) C (wz key i) from ⟨(setRow_other w4 T C _ (by omega)).trans HC4.out.1, HC4.out.2⟩)
          have HV5 := Lib.hid (show (w4.setRow T (bcells [y, t1, t2, t3]).toArray).heap[C + 1]? = some (.cells #[.pointer (some ⟨C, 0, none⟩)] 23 (0, 0)) from (setRow_other w4 T (C + 1) _ (by omega)).trans HV4.out)
          have HF5 := Lib.hid (HF4.out.setRow T (bcells [y, t1, t2, t3]).toArray (.inr hTw))
          have d0 : (w4.setRow T (bcells [y, t1, t2, t3]).toArray).cell? ⟨T, 0, none⟩ = some (.int .u8 (y.toNat : Int)) := bcells_cell hT5 0 y rfl
          have dz : (w4.setRow T (bcells [y, t1, t2, t3]).toArray).frozen? ⟨T, 0, none⟩ = false := frozen_of_row _ _ _ _ _ hT5
          have HT6 := Lib.hid (show ((w4.setRow T (bcells [y, t1, t2, t3]).toArray).setCell ⟨T, 0, none⟩ (.int .u8 (t0.toNat : Int))).heap[T]? = some (.cells (bcells [t0, t1, t2, t3]).toArray 91 (0, 0)) from bcells_set hT5 0 t0)
          have HC6 := Lib.hid (show Cip ((w4.setRow T (bcells [y, t1, t2, t3]).toArray).setCell ⟨T, 0, none⟩ (.int .u8 (t0.toNat : Int))) C (wz key i) from ⟨setCell_keep HC5.out.1 (show C ≠ T by omega), HC5.out.2⟩)
          have HV6 := Lib.hid (show ((w4.setRow T (bcells [y, t1, t2, t3]).toArray).setCell ⟨T, 0, none⟩ (.int .u8 (t0.toNat : Int))).heap[C + 1]? = some (.cells #[.pointer (some ⟨C, 0, none⟩)] 23 (0, 0)) from setCell_keep HV5.out (show C + 1 ≠ T by omega))
          have HF6 := Lib.hid (HF5.out.setCell ⟨T, 0, none⟩ (.int .u8 (t0.toNat : Int)) (.inr hTw))
          have b1 := y.toNat_lt
          have b2 := pq.toNat_lt
          have b3 := t0.toNat_lt
          clear hT5
          go_wp2_with (with_reducible refine wpList_store_bytes (op := ⟨none, .store 91 _ _, _, _, _, _⟩) rfl 91 _ _ rfl T rfl 91 [x0, x1, x2, x3] [y, t1, t2, t3] rfl HT4.out 4 (by kernel_rfl) rfl rfl ?_)
          refine (twice_calls _ _).mono ?_
          rintro e w9 ⟨rfl, h9⟩
          rw [h9] at HT6 HC6 HV6 HF6
          have HT9 := HT6
          have HC9 := HC6
          have HV9 := HV6
          have HF9 := HF6
          clear HT6 HC6 HV6 HF6 HT4 HC4 HV4 HF4 HC5 HV5 HF5 d0 dz e1 h9
          go_wp2
          have HC0 := Lib.hid (show Cip w9 C (stW X (wordF X i) 0) by rw [HX.out, wz_stW key HK.out i hi]; exact HC9.out)
          go_loopw [67] (fun v wr => ∃ k : Nat, k ≤ 4 ∧ v = .int .i64 k ∧ Cip wr C (stW X (wordF X i) k) ∧ wr.heap[T]? = some (.cells (bcells [t0, t1, t2, t3]).toArray 91 (0, 0)) ∧ wr.heap[C + 1]? = some (.cells #[.pointer (some ⟨C, 0, none⟩)] 23 (0, 0)) ∧ Fr (fun _ => False) w wr) (fun v _ => 4 - (intOf v).toNat)
          case atStart => exact ⟨0, Nat.zero_le _, rfl, HC0.out, HT9.out, HV9.out, HF9.out⟩
          case round =>
            obtain ⟨k, hk, rfl, hC, hT, hV, hf⟩ := hrel
            have HCa := Lib.hid hC
            have HTa := Lib.hid hT
            have HVa := Lib.hid hV
            have HFa := Lib.hid hf
            clear hC hT hV hf HC0 HC9 HT9 HV9 HF9
            by_cases hlk : k < 4
            · obtain ⟨a, ha⟩ : ∃ a, a = X.getD (4 * i - 32 + k) 0 := ⟨_, rfl⟩
              obtain ⟨b, hb⟩ : ∃ b, b = wordT X i k := ⟨_, rfl⟩
              obtain ⟨z, hzd⟩ : ∃ z, z = a ^^^ b := ⟨_, rfl⟩
              have hfk : wordF X i k = z := by rw [hzd, ha, hb]; rfl
              have d1 : wr.drew.cell? ⟨C, 256 + n8 * 4 + k, none⟩ = some (.int .u8 (a.toNat : Int)) := by
                have := HCa.out.word (n8 * 4 + k) (by have := HN8.out; omega)
                rw [show (stW X (wordF X i) k).getD (n8 * 4 + k) 0 = a by
                  unfold stW
                  have := HXl.out
                  have := HN8.out
                  rw [List.append_assoc, getD_app (by omega), ha]; congr 1; omega] at this
                rw [Nat.add_assoc]; exact this
              have d2 : wr.drew.cell? ⟨T, k, none⟩ = some (.int .u8 (b.toNat : Int)) := bcells_cell (w := wr.drew) HTa.out k b (by rw [hb]; exact HTL.out k hlk)
              have d3 : wr.drew.cell? ⟨C, 256 + i * 4 + k, none⟩ = some (.int .u8 (((stW X (wordF X i) k).getD (i * 4 + k) 0).toNat : Int)) := by rw [Nat.add_assoc]; exact HCa.out.word (i * 4 + k) (by omega)
              have hz : wr.drew.frozen? ⟨C, 256 + i * 4 + k, none⟩ = false := frozen_of_row wr.drew _ _ _ _ HCa.out.1
              have dv : wr.drew.cell? ⟨C + 1, 0, none⟩ = some (.pointer (some ⟨C, 0, none⟩)) := (cell_of_row wr.drew _ 0 _ _ _ HVa.out).trans rfl
              generalize (stW X (wordF X i) k).getD (i * 4 + k) 0 = v0 at d3
              have HC1 := Lib.hid (show Cip (wr.drew.setCell ⟨C, 256 + i * 4 + k, none⟩ (.int .u8 (z.toNat : Int))) C (stW X (wordF X i) (k + 1)) from by
                have hXl := HXl.out
                have := HCa.out.step (by omega)
                rw [hfk, show 256 + (X.length + k) = 256 + i * 4 + k by omega] at this
                exact ⟨this.1, this.2⟩)
              have HT1 := Lib.hid (show (wr.drew.setCell ⟨C, 256 + i * 4 + k, none⟩ (.int .u8 (z.toNat : Int))).heap[T]? = some (.cells (bcells [t0, t1, t2, t3]).toArray 91 (0, 0)) from setCell_keep (w := wr.drew) HTa.out (show T ≠ C by omega))
              have HV1 := Lib.hid (show (wr.drew.setCell ⟨C, 256 + i * 4 + k, none⟩ (.int .u8 (z.toNat : Int))).heap[C + 1]? = some (.cells #[.pointer (some ⟨C, 0, none⟩)] 23 (0, 0)) from setCell_keep (w := wr.drew) HVa.out (show C + 1 ≠ C by omega))
              have HF1 := Lib.hid (HFa.out.drew.setCell ⟨C, 256 + i * 4 + k, none⟩ (.int .u8 (z.toNat : Int)) (.inr hCw))
              have e1 := xor_u8 a b
              rw [← hzd] at e1
              clear ha hb hzd hfk
              have b1 := a.toNat_lt
              have b2 := b.toNat_lt
              have b3 := z.toNat_lt
              have q60 : (i : Int) < 60 := by omega
              go_wp2
              refine wp_region_still_tail 20 (by kernel_rfl) (by kernel_rfl) ?_
              simp only [List.take_succ_cons, List.take_zero, List.drop_succ_cons, List.drop_zero]
              change wpStill _ _ wr.drew (fun a' => wpList _ _ _ _ a' wr.drew) _ _
              generalize wr.drew = wy at d1 d2 d3 hz dv HC1 HT1 HV1 HF1 ⊢
              repeat still_step
              refine wpStill_nil ?_
              go_wp2
              go_roundw
              case rel => exact ⟨k + 1, by omega, by go_num, HC1.out, HT1.out, HV1.out, HF1.out⟩
              case measure => simp [intOf]; omega
            · have hk4 : k = 4 := by omega
              rw [hk4, HX.out, wz_next key HK.out i (by have := HN8.out; omega) hlt] at HCa
              clear hk4
              go_wp2
              go_roundw
              case rel => exact ⟨i + 1, by omega, by go_num, by rw [HPW.out], HCa.out, HVa.out, HFa.out⟩
              case measure => simp [intOf]; omega
        · by_cases h4 : r = 4
          · have q0 : ((r : Int) == 0) = false := by simpa using h0
            have q4 : ((r : Int) == 4) = true := by simp; omega
            have HR0 := Lib.hid h4
            clear h0 h4
            go_wp2_with fail
            refine (sub_calls C (C + 1) (wz key i) x0 x1 x2 x3 _ HCt.out cvt).mono ?_
            rintro e w4 ⟨rfl, hf⟩
            have HT4 := Lib.hid (hf.heap HT.out id)
            have HC4 := Lib.hid (HCt.out.fr hf id)
            have HV4 := Lib.hid (hf.heap HVt.out id)
            have HF4 := Lib.hid (HFt.out.trans hf (fun i hi => hi.elim))
            obtain ⟨T, hTd⟩ : ∃ T, T = wr.heap.size := ⟨_, rfl⟩
            rw [← hTd] at HT4 hTC hTw ⊢
            clear hf hTd HT HCt HVt HFt cvt
            obtain ⟨t0, ht0⟩ : ∃ t, t = box x0 := ⟨_, rfl⟩
            obtain ⟨t1, ht1⟩ : ∃ t, t = box x1 := ⟨_, rfl⟩
            obtain ⟨t2, ht2⟩ : ∃ t, t = box x2 := ⟨_, rfl⟩
            obtain ⟨t3, ht3⟩ : ∃ t, t = box x3 := ⟨_, rfl⟩
            have HTL := Lib.hid (show ∀ k, k < 4 → [t0, t1, t2, t3][k]? = some (wordT X i k) from fun k hk => by
              obtain ⟨g0, g1, g2, g3⟩ := HH.out
              have hr := HR.out
              have hr0 := HR0.out
              have hi8 := HN8.out
              have : k = 0 ∨ k = 1 ∨ k = 2 ∨ k = 3 := by omega
              rcases this with rfl | rfl | rfl | rfl
              · simp only [wordT]; rw [if_neg (by omega), if_pos (by omega), show 4 * i - 4 + 0 = 4 * i - 4 by omega, ← g0, ht0]; rfl
              · simp only [wordT]; rw [if_neg (by omega), if_pos (by omega), show 4 * i - 4 + 1 = 4 * i - 3 by omega, ← g1, ht1]; rfl
              · simp only [wordT]; rw [if_neg (by omega), if_pos (by omega), show 4 * i - 4 + 2 = 4 * i - 2 by omega, ← g2, ht2]; rfl
              · simp only [wordT]; rw [if_neg (by omega), if_pos (by omega), show 4 * i - 4 + 3 = 4 * i - 1 by omega, ← g3, ht3]; rfl)
            have HPW := Lib.hid (show pw (i + 1) = pw i from pw_same i (by have := HR.out; have := HR0.out; omega))
            rw [← ht0, ← ht1, ← ht2, ← ht3]
            clear ht0 ht1 ht2 ht3
            have HT9 := Lib.hid (setRow_heap (w := w4) (cs := (bcells [t0, t1, t2, t3]).toArray) HT4.out)
            have HC9 := Lib.hid (show Cip (w4.setRow T (bcells [t0, t1, t2, t3]).toArray) C (wz key i) from ⟨(setRow_other w4 T C _ (by omega)).trans HC4.out.1, HC4.out.2⟩)
            have HV9 := Lib.hid (show (w4.setRow T (bcells [t0, t1, t2, t3]).toArray).heap[C + 1]? = some (.cells #[.pointer (some ⟨C, 0, none⟩)] 23 (0, 0)) from (setRow_other w4 T (C + 1) _ (by omega)).trans HV4.out)
            have HF9 := Lib.hid (HF4.out.setRow T (bcells [t0, t1, t2, t3]).toArray (.inr hTw))
            go_wp2_with (with_reducible refine wpList_store_bytes (op := ⟨none, .store 91 _ _, _, _, _, _⟩) rfl 91 _ _ rfl T rfl 91 [x0, x1, x2, x3] [t0, t1, t2, t3] rfl HT4.out 4 (by kernel_rfl) rfl rfl ?_)
            clear HT4 HC4 HV4 HF4
            generalize w4.setRow T (bcells [t0, t1, t2, t3]).toArray = w9 at HT9 HC9 HV9 HF9 ⊢
            have HC0 := Lib.hid (show Cip w9 C (stW X (wordF X i) 0) by rw [HX.out, wz_stW key HK.out i hi]; exact HC9.out)
            go_loopw [67] (fun v wr => ∃ k : Nat, k ≤ 4 ∧ v = .int .i64 k ∧ Cip wr C (stW X (wordF X i) k) ∧ wr.heap[T]? = some (.cells (bcells [t0, t1, t2, t3]).toArray 91 (0, 0)) ∧ wr.heap[C + 1]? = some (.cells #[.pointer (some ⟨C, 0, none⟩)] 23 (0, 0)) ∧ Fr (fun _ => False) w wr) (fun v _ => 4 - (intOf v).toNat)
            case atStart => exact ⟨0, Nat.zero_le _, rfl, HC0.out, HT9.out, HV9.out, HF9.out⟩
            case round =>
              obtain ⟨k, hk, rfl, hC, hT, hV, hf⟩ := hrel
              have HCa := Lib.hid hC
              have HTa := Lib.hid hT
              have HVa := Lib.hid hV
              have HFa := Lib.hid hf
              clear hC hT hV hf HC0 HC9 HT9 HV9 HF9
              by_cases hlk : k < 4
              · obtain ⟨a, ha⟩ : ∃ a, a = X.getD (4 * i - 32 + k) 0 := ⟨_, rfl⟩
                obtain ⟨b, hb⟩ : ∃ b, b = wordT X i k := ⟨_, rfl⟩
                obtain ⟨z, hzd⟩ : ∃ z, z = a ^^^ b := ⟨_, rfl⟩
                have hfk : wordF X i k = z := by rw [hzd, ha, hb]; rfl
                have d1 : wr.drew.cell? ⟨C, 256 + n8 * 4 + k, none⟩ = some (.int .u8 (a.toNat : Int)) := by
                  have := HCa.out.word (n8 * 4 + k) (by have := HN8.out; omega)
                  rw [show (stW X (wordF X i) k).getD (n8 * 4 + k) 0 = a by
                    unfold stW
                    have := HXl.out
                    have := HN8.out
                    rw [List.append_assoc, getD_app (by omega), ha]; congr 1; omega] at this
                  rw [Nat.add_assoc]; exact this
                have d2 : wr.drew.cell? ⟨T, k, none⟩ = some (.int .u8 (b.toNat : Int)) := bcells_cell (w := wr.drew) HTa.out k b (by rw [hb]; exact HTL.out k hlk)
                have d3 : wr.drew.cell? ⟨C, 256 + i * 4 + k, none⟩ = some (.int .u8 (((stW X (wordF X i) k).getD (i * 4 + k) 0).toNat : Int)) := by rw [Nat.add_assoc]; exact HCa.out.word (i * 4 + k) (by omega)
                have hz : wr.drew.frozen? ⟨C, 256 + i * 4 + k, none⟩ = false := frozen_of_row wr.drew _ _ _ _ HCa.out.1
                have dv : wr.drew.cell? ⟨C + 1, 0, none⟩ = some (.pointer (some ⟨C, 0, none⟩)) := (cell_of_row wr.drew _ 0 _ _ _ HVa.out).trans rfl
                generalize (stW X (wordF X i) k).getD (i * 4 + k) 0 = v0 at d3
                have HC1 := Lib.hid (show Cip (wr.drew.setCell ⟨C, 256 + i * 4 + k, none⟩ (.int .u8 (z.toNat : Int))) C (stW X (wordF X i) (k + 1)) from by
                  have hXl := HXl.out
                  have := HCa.out.step (by omega)
                  rw [hfk, show 256 + (X.length + k) = 256 + i * 4 + k by omega] at this
                  exact ⟨this.1, this.2⟩)
                have HT1 := Lib.hid (show (wr.drew.setCell ⟨C, 256 + i * 4 + k, none⟩ (.int .u8 (z.toNat : Int))).heap[T]? = some (.cells (bcells [t0, t1, t2, t3]).toArray 91 (0, 0)) from setCell_keep (w := wr.drew) HTa.out (show T ≠ C by omega))
                have HV1 := Lib.hid (show (wr.drew.setCell ⟨C, 256 + i * 4 + k, none⟩ (.int .u8 (z.toNat : Int))).heap[C + 1]? = some (.cells #[.pointer (some ⟨C, 0, none⟩)] 23 (0, 0)) from setCell_keep (w := wr.drew) HVa.out (show C + 1 ≠ C by omega))
                have HF1 := Lib.hid (HFa.out.drew.setCell ⟨C, 256 + i * 4 + k, none⟩ (.int .u8 (z.toNat : Int)) (.inr hCw))
                have e1 := xor_u8 a b
                rw [← hzd] at e1
                clear ha hb hzd hfk
                have b1 := a.toNat_lt
                have b2 := b.toNat_lt
                have b3 := z.toNat_lt
                have q60 : (i : Int) < 60 := by omega
                go_wp2
                refine wp_region_still_tail 20 (by kernel_rfl) (by kernel_rfl) ?_
                simp only [List.take_succ_cons, List.take_zero, List.drop_succ_cons, List.drop_zero]
                change wpStill _ _ wr.drew (fun a' => wpList _ _ _ _ a' wr.drew) _ _
                generalize wr.drew = wy at d1 d2 d3 hz dv HC1 HT1 HV1 HF1 ⊢
                repeat still_step
                refine wpStill_nil ?_
                go_wp2
                go_roundw
                case rel => exact ⟨k + 1, by omega, by go_num, HC1.out, HT1.out, HV1.out, HF1.out⟩
                case measure => simp [intOf]; omega
              · have hk4 : k = 4 := by omega
                rw [hk4, HX.out, wz_next key HK.out i (by have := HN8.out; omega) hlt] at HCa
                clear hk4
                go_wp2
                go_roundw
                case rel => exact ⟨i + 1, by omega, by go_num, by rw [HPW.out], HCa.out, HVa.out, HFa.out⟩
                case measure => simp [intOf]; omega
          · have q0 : ((r : Int) == 0) = false := by simpa using h0
            have q4 : ((r : Int) == 4) = false := by simp; omega
            have HPW := Lib.hid (show pw (i + 1) = pw i from pw_same i (by have := HR.out; omega))
            have HTL := Lib.hid (show ∀ k, k < 4 → [x0, x1, x2, x3][k]? = some (wordT X i k) from fun k hk => by
              obtain ⟨g0, g1, g2, g3⟩ := HH.out
              have hr := HR.out
              have hi8 := HN8.out
              have : k = 0 ∨ k = 1 ∨ k = 2 ∨ k = 3 := by omega
              rcases this with rfl | rfl | rfl | rfl
              · simp only [wordT]; rw [if_neg (by omega), if_neg (by omega), show 4 * i - 4 + 0 = 4 * i - 4 by omega, ← g0]; rfl
              · simp only [wordT]; rw [if_neg (by omega), if_neg (by omega), show 4 * i - 4 + 1 = 4 * i - 3 by omega, ← g1]; rfl
              · simp only [wordT]; rw [if_neg (by omega), if_neg (by omega), show 4 * i - 4 + 2 = 4 * i - 2 by omega, ← g2]; rfl
              · simp only [wordT]; rw [if_neg (by omega), if_neg (by omega), show 4 * i - 4 + 3 = 4 * i - 1 by omega, ← g3]; rfl)
            clear h0 h4
            go_wp2_with fail
            generalize wr.alloc (.cells #[.int .u8 (x0.toNat : Int), .int .u8 (x1.toNat : Int), .int .u8 (x2.toNat : Int), .int .u8 (x3.toNat : Int)] 91) = w9 at HT HCt HVt HFt cvt ⊢
            obtain ⟨T, hTd⟩ : ∃ T, T = wr.heap.size := ⟨_, rfl⟩
            rw [← hTd] at HT hTC hTw ⊢
            have HT9 := HT
            have HC9 := HCt
            have HV9 := HVt
            have HF9 := HFt
            clear hTd HT HCt HVt HFt cvt
            have HC0 := Lib.hid (show Cip w9 C (stW X (wordF X i) 0) by rw [HX.out, wz_stW key HK.out i hi]; exact HC9.out)
            go_loopw [67] (fun v wr => ∃ k : Nat, k ≤ 4 ∧ v = .int .i64 k ∧ Cip wr C (stW X (wordF X i) k) ∧ wr.heap[T]? = some (.cells (bcells [x0, x1, x2, x3]).toArray 91 (0, 0)) ∧ wr.heap[C + 1]? = some (.cells #[.pointer (some ⟨C, 0, none⟩)] 23 (0, 0)) ∧ Fr (fun _ => False) w wr) (fun v _ => 4 - (intOf v).toNat)
            case atStart => exact ⟨0, Nat.zero_le _, rfl, HC0.out, HT9.out, HV9.out, HF9.out⟩
            case round =>
              obtain ⟨k, hk, rfl, hC, hT, hV, hf⟩ := hrel
              have HCa := Lib.hid hC
              have HTa := Lib.hid hT
              have HVa := Lib.hid hV
              have HFa := Lib.hid hf
              clear hC hT hV hf HC0 HC9 HT9 HV9 HF9
              by_cases hlk : k < 4
              · obtain ⟨a, ha⟩ : ∃ a, a = X.getD (4 * i - 32 + k) 0 := ⟨_, rfl⟩
                obtain ⟨b, hb⟩ : ∃ b, b = wordT X i k := ⟨_, rfl⟩
                obtain ⟨z, hzd⟩ : ∃ z, z = a ^^^ b := ⟨_, rfl⟩
                have hfk : wordF X i k = z := by rw [hzd, ha, hb]; rfl
                have d1 : wr.drew.cell? ⟨C, 256 + n8 * 4 + k, none⟩ = some (.int .u8 (a.toNat : Int)) := by
                  have := HCa.out.word (n8 * 4 + k) (by have := HN8.out; omega)
                  rw [show (stW X (wordF X i) k).getD (n8 * 4 + k) 0 = a by
                    unfold stW
                    have := HXl.out
                    have := HN8.out
                    rw [List.append_assoc, getD_app (by omega), ha]; congr 1; omega] at this
                  rw [Nat.add_assoc]; exact this
                have d2 : wr.drew.cell? ⟨T, k, none⟩ = some (.int .u8 (b.toNat : Int)) := bcells_cell (w := wr.drew) HTa.out k b (by rw [hb]; exact HTL.out k hlk)
                have d3 : wr.drew.cell? ⟨C, 256 + i * 4 + k, none⟩ = some (.int .u8 (((stW X (wordF X i) k).getD (i * 4 + k) 0).toNat : Int)) := by rw [Nat.add_assoc]; exact HCa.out.word (i * 4 + k) (by omega)
                have hz : wr.drew.frozen? ⟨C, 256 + i * 4 + k, none⟩ = false := frozen_of_row wr.drew _ _ _ _ HCa.out.1
                have dv : wr.drew.cell? ⟨C + 1, 0, none⟩ = some (.pointer (some ⟨C, 0, none⟩)) := (cell_of_row wr.drew _ 0 _ _ _ HVa.out).trans rfl
                generalize (stW X (wordF X i) k).getD (i * 4 + k) 0 = v0 at d3
                have HC1 := Lib.hid (show Cip (wr.drew.setCell ⟨C, 256 + i * 4 + k, none⟩ (.int .u8 (z.toNat : Int))) C (stW X (wordF X i) (k + 1)) from by
                  have hXl := HXl.out
                  have := HCa.out.step (by omega)
                  rw [hfk, show 256 + (X.length + k) = 256 + i * 4 + k by omega] at this
                  exact ⟨this.1, this.2⟩)
                have HT1 := Lib.hid (show (wr.drew.setCell ⟨C, 256 + i * 4 + k, none⟩ (.int .u8 (z.toNat : Int))).heap[T]? = some (.cells (bcells [x0, x1, x2, x3]).toArray 91 (0, 0)) from setCell_keep (w := wr.drew) HTa.out (show T ≠ C by omega))
                have HV1 := Lib.hid (show (wr.drew.setCell ⟨C, 256 + i * 4 + k, none⟩ (.int .u8 (z.toNat : Int))).heap[C + 1]? = some (.cells #[.pointer (some ⟨C, 0, none⟩)] 23 (0, 0)) from setCell_keep (w := wr.drew) HVa.out (show C + 1 ≠ C by omega))
                have HF1 := Lib.hid (HFa.out.drew.setCell ⟨C, 256 + i * 4 + k, none⟩ (.int .u8 (z.toNat : Int)) (.inr hCw))
                have e1 := xor_u8 a b
                rw [← hzd] at e1
                clear ha hb hzd hfk
                have b1 := a.toNat_lt
                have b2 := b.toNat_lt
                have b3 := z.toNat_lt
                have q60 : (i : Int) < 60 := by omega
                go_wp2
                refine wp_region_still_tail 20 (by kernel_rfl) (by kernel_rfl) ?_
                simp only [List.take_succ_cons, List.take_zero, List.drop_succ_cons, List.drop_zero]
                change wpStill _ _ wr.drew (fun a' => wpList _ _ _ _ a' wr.drew) _ _
                generalize wr.drew = wy at d1 d2 d3 hz dv HC1 HT1 HV1 HF1 ⊢
                repeat still_step
                refine wpStill_nil ?_
                go_wp2
                go_roundw
                case rel => exact ⟨k + 1, by omega, by go_num, HC1.out, HT1.out, HV1.out, HF1.out⟩
                case measure => simp [intOf]; omega
              · have hk4 : k = 4 := by omega
                rw [hk4, HX.out, wz_next key HK.out i (by have := HN8.out; omega) hlt] at HCa
                clear hk4
                go_wp2
                go_roundw
                case rel => exact ⟨i + 1, by omega, by go_num, by rw [HPW.out], HCa.out, HVa.out, HFa.out⟩
                case measure => simp [intOf]; omega
    · have h60 : i = 60 := by omega
      rw [h60, wz_all] at HC'
      clear h60
      have cv : wr.cell? ⟨C + 1, 0, none⟩ = some (.pointer (some ⟨C, 0, none⟩)) := (cell_of_row wr _ 0 _ _ _ HV'.out).trans rfl
      go_wp2
      go_ret2
      exact ⟨C, rfl, HC'.out, hCw, HF'.out⟩
theorem new_no (s : ByteArray) (hs : s.size ≠ 32) (hm : s.size ≤ 9223372036854775807) (w : World) : Calls Try.prog 18 #[.string s] w fun e w' => e = .returned (.tuple #[.pointer none, .int .i64 2]) ∧ w = w' := by
  have hq : ((s.size : Int) != 32) = true := by simp; omega
  go_enter Try.func18, Try.ntmps18
  go_wp2
  go_ret2
  exact ⟨rfl, rfl⟩
end Go.Proofs.Ytcchhfkmhbjdmaa
