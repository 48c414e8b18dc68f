/- Press. -/
import Derived.Test.YtcchhfkmhbjdmaaKh
import Derived.Lib.ConvBytes
set_option linter.unusedVariables false
set_option linter.unusedSimpArgs false
set_option pp.deepTerms true
set_option pp.maxSteps 100000
namespace Go.Proofs.Ytcchhfkmhbjdmaa
open Go.RowKit
theorem bytesWorld_fr (w : World) (e : TypeId) (s : ByteArray) : Fr (fun _ => False) w (Lib.bytesWorld w e s) :=
  ⟨by simp [Lib.bytesWorld, World.freeze] <;> rfl, by simp [Lib.bytesWorld, World.freeze] <;> rfl, by simp [Lib.bytesWorld, World.freeze] <;> rfl, by rw [Lib.bytesWorld_size]; omega, fun i hi _ => Lib.bytesWorld_at_old w e s i hi⟩
theorem bytesWorld_row (w : World) (e : TypeId) (l : List UInt8) : (Lib.bytesWorld w e (str l)).rangeAt w.heap.size 0 (bcells l) := fun j v hj => by
  have hlt : j < l.length := by
    have := (List.getElem?_eq_some_iff.1 hj).1
    rwa [bcells_length] at this
  have := Lib.bytesWorld_cell w e (str l) j (by rw [str_size]; exact hlt)
  rw [Nat.zero_add, this, str_list]
  simp [bcells, List.getElem?_eq_getElem hlt] at hj
  rw [← hj]
  simp [List.getD_eq_getElem?_getD, List.getElem?_eq_getElem hlt]
set_option maxRecDepth 20000 in
set_option maxHeartbeats 8000000 in
theorem press_yes (C : Nat) (W s : List UInt8) (hs : s.length = 16) (w : World) (hC : Cip w C W) :
    Calls Try.prog 24 #[.pointer (some ⟨C, 0, none⟩), .string (str s)] w fun e w' => e = .returned (.tuple #[.string (str (press W s)), .int .i64 0]) ∧ Fr (fun _ => False) w w' := by
  have hsz : (str s).size = 16 := by rw [str_size]; exact hs
  have hCl := hC.lt
  have HC := Lib.hid hC
  clear hC
  have hcv := Lib.run_convert_string_bytes (P := Try.prog) w 9 27 5 (str s) Try.underlying9 Try.underlying27 Try.underlying5
  have hfB := bytesWorld_fr w 5 (str s)
  have hrB := bytesWorld_row w 5 s
  have hsB := Lib.bytesWorld_size w 5 (str s)
  rw [hsz] at hcv
  generalize grownCap w 16 0 5 = cap at hcv
  generalize Lib.bytesWorld w 5 (str s) = wB at hcv hfB hrB hsB
  have hsa : (Instr.arrayAt 99 (.slice (some ⟨w.heap.size, 0, none⟩) 16 cap)).run Try.prog wB = .ok (.pointer (some ⟨w.heap.size, 0, none⟩)) wB := by
    simp [Instr.arrayAt, run_underlying Try.underlying99]
  have HFB := Lib.hid hfB
  have HRB := Lib.hid hrB
  have HI := Lib.hid (show (Try.prog.info? 99).map (·.size) = some (bcells s).length by rw [bcells_length, hs]; kernel_rfl)
  have HI2 := Lib.hid (show (Try.prog.info? 99).map (·.size) = some (bcells s).toArray.size by rw [List.size_toArray, bcells_length, hs]; kernel_rfl)
  have HZ := Lib.hid (show (#[.int .u8 0, .int .u8 0, .int .u8 0, .int .u8 0, .int .u8 0, .int .u8 0, .int .u8 0, .int .u8 0, .int .u8 0, .int .u8 0, .int .u8 0, .int .u8 0, .int .u8 0, .int .u8 0, .int .u8 0, .int .u8 0] : Array Value).size = (bcells s).toArray.size by rw [show (bcells s).toArray.size = 16 by rw [List.size_toArray, bcells_length, hs]]; rfl)
  have H1 := Lib.hid (show ∀ v ∈ (bcells s).toArray.toList, v.oneCell' = true by simpa using bcells_one s)
  have hfr := Lib.hid (hfB.alloc (.cells (bcells s).toArray 99))
  have HS := Lib.hid (show Blk (wB.alloc (.cells (bcells s).toArray 99)) wB.heap.size s from heap_alloc_new wB _)
  have HsB := Lib.hid hsB
  clear hfB hrB hsB
  go_enter Try.func24, Try.ntmps24
  go_wp2_with (first
    | (with_reducible refine wpList_load_mid (op := ⟨some 14, _, _, _, _, _⟩) rfl 99 _ rfl w.heap.size 0 rfl (bcells s) _ HRB.out Try.underlying99 rfl HI.out ?_)
    | (with_reducible refine wpList_store_fresh (op := ⟨none, .store 99 _ _, _, _, _, _⟩) rfl 99 _ _ rfl wB #[.int .u8 0, .int .u8 0, .int .u8 0, .int .u8 0, .int .u8 0, .int .u8 0, .int .u8 0, .int .u8 0, .int .u8 0, .int .u8 0, .int .u8 0, .int .u8 0, .int .u8 0, .int .u8 0, .int .u8 0, .int .u8 0] (bcells s).toArray rfl rfl rfl HZ.out HI2.out H1.out ?_))
  have hS1 : wB.heap.size = w.heap.size + 1 := HsB.out
  obtain ⟨S, hSd⟩ : ∃ S, S = wB.heap.size := ⟨_, rfl⟩
  rw [← hSd] at HS hS1 ⊢
  generalize wB.alloc (.cells (bcells s).toArray 99) = w1 at hfr HS ⊢
  have hne : C ≠ S := by omega
  have HC1 := Lib.hid (HC.out.fr hfr.out id)
  clear hcv hsa HsB hSd HFB HRB HI HI2 HZ H1
  have hS2 : w.heap.size ≤ S := by omega
  clear hS1
  refine (add_calls C S W s 0 (by omega) hs hne w1 HC1.out HS.out).mono ?_
  rintro e w2 ⟨rfl, hB, hf⟩
  have HB2 := Lib.hid hB
  have HF2 := Lib.hid (hfr.out.trans hf (fun i hi => .inr (by omega)))
  have HC2 := Lib.hid (HC1.out.fr hf hne)
  clear hB hf HS hfr HC1
  go_wp2
  go_loopw [7] (fun v wr => ∃ r : Nat, r ≤ 13 ∧ v = .int .i64 ((r : Int) + 1) ∧ Blk wr S (pressN W s r) ∧ Cip wr C W ∧ Fr (fun _ => False) w wr) (fun v _ => 14 - (intOf v).toNat)
  case atStart => exact ⟨0, Nat.zero_le _, rfl, HB2.out, HC2.out, HF2.out⟩
  case round =>
    obtain ⟨r, hr, rfl, hB, hC, hf⟩ := hrel
    have HB := Lib.hid hB
    have HCr := Lib.hid hC
    have HF := Lib.hid hf
    clear hB hC hf HB2 HC2 HF2
    have HL := Lib.hid (pressN_length W s r)
    have HBh := Lib.hid (show wr.heap[S]? = some (.cells (bcells (pressN W s r)).toArray 99 (0, 0)) from HB.out)
    have HSL := Lib.hid (show (shiftL (pressN W s r)).length = 16 from full_length _ _)
    have HML := Lib.hid (show (mixL (shiftL (pressN W s r))).length = 16 from full_length _ _)
    by_cases hlt : r < 13
    · have HPN := Lib.hid (show pressN W s (r + 1) = addL W (r + 1) (mixL (shiftL (pressN W s r))) from rfl)
      generalize pressN W s r = st at HB HL HBh HSL HML HPN ⊢
      go_wp2_with (with_reducible refine wpList_load_bytes (op := ⟨some 22, _, _, _, _, _⟩) rfl 99 _ rfl S rfl 99 st _ _ HBh.out Try.underlying99 rfl 16 (by kernel_rfl) HL.out ?_)
      refine (shift_calls C W st HL.out wr HCr.out).mono ?_
      rintro e w3 ⟨rfl, hf⟩
      have HBh3 := Lib.hid (show w3.heap[S]? = some (.cells (bcells st).toArray 99 (0, 0)) from hf.heap HBh.out id)
      have HB4 := Lib.hid (show Blk (w3.setRow S (bcells (shiftL st)).toArray) S (shiftL st) from setRow_heap HBh3.out)
      have HC4 := Lib.hid (show Cip (w3.setRow S (bcells (shiftL st)).toArray) C W from ⟨(setRow_other w3 S C _ hne).trans (hf.heap HCr.out.1 id), HCr.out.2⟩)
      have HF4 := Lib.hid ((HF.out.trans hf (fun i hi => hi.elim)).setRow S (bcells (shiftL st)).toArray (.inr (by omega)))
      clear hf
      go_wp2_with (with_reducible refine wpList_store_bytes (op := ⟨none, .store 99 _ _, _, _, _, _⟩) rfl 99 _ _ rfl S rfl 99 st (shiftL st) rfl HBh3.out 16 (by kernel_rfl) HL.out HSL.out ?_)
      refine (mix_calls S (shiftL st) HSL.out _ HB4.out).mono ?_
      rintro e w5 ⟨rfl, hB5, hf5⟩
      have HC5 := Lib.hid (HC4.out.fr hf5 hne)
      have HB5 := Lib.hid hB5
      have HF5 := Lib.hid (HF4.out.trans hf5 (fun i hi => .inr (by omega)))
      clear hB5 hf5
      go_wp2_with fail
      refine (add_calls C S W (mixL (shiftL st)) (r + 1) (by omega) HML.out hne w5 HC5.out HB5.out).mono ?_
      rintro e w6 ⟨rfl, hB6, hf6⟩
      have HC6 := Lib.hid (HC5.out.fr hf6 hne)
      have HB6 := Lib.hid hB6
      have HF6 := Lib.hid (HF5.out.trans hf6 (fun i hi => .inr (by omega)))
      clear hB6 hf6
      go_wp2
      go_roundw
      case rel => exact ⟨r + 1, by omega, by go_num, by rw [HPN.out]; exact HB6.out, HC6.out, HF6.out⟩
      case measure => simp [intOf]; omega
    · have hr13 : r = 13 := by omega
      have HPN := Lib.hid (show press W s = addL W 14 (shiftL (pressN W s r)) by rw [hr13]; rfl)
      clear hr13
      generalize pressN W s r = st at HB HL HBh HSL HML HPN ⊢
      go_wp2_with (with_reducible refine wpList_load_bytes (op := ⟨some 29, _, _, _, _, _⟩) rfl 99 _ rfl S rfl 99 st _ _ HBh.out Try.underlying99 rfl 16 (by kernel_rfl) HL.out ?_)
      refine (shift_calls C W st HL.out wr HCr.out).mono ?_
      rintro e w3 ⟨rfl, hf⟩
      have HBh3 := Lib.hid (show w3.heap[S]? = some (.cells (bcells st).toArray 99 (0, 0)) from hf.heap HBh.out id)
      have HB4 := Lib.hid (show Blk (w3.setRow S (bcells (shiftL st)).toArray) S (shiftL st) from setRow_heap HBh3.out)
      have HC4 := Lib.hid (show Cip (w3.setRow S (bcells (shiftL st)).toArray) C W from ⟨(setRow_other w3 S C _ hne).trans (hf.heap HCr.out.1 id), HCr.out.2⟩)
      have HF4 := Lib.hid ((HF.out.trans hf (fun i hi => hi.elim)).setRow S (bcells (shiftL st)).toArray (.inr (by omega)))
      clear hf
      go_wp2_with (with_reducible refine wpList_store_bytes (op := ⟨none, .store 99 _ _, _, _, _, _⟩) rfl 99 _ _ rfl S rfl 99 st (shiftL st) rfl HBh3.out 16 (by kernel_rfl) HL.out HSL.out ?_)
      refine (add_calls C S W (shiftL st) 14 (by omega) HSL.out hne _ HC4.out HB4.out).mono ?_
      rintro e w6 ⟨rfl, hB6, hf6⟩
      have HF6 := Lib.hid (HF4.out.trans hf6 (fun i hi => .inr (by omega)))
      have hcv2 := run_convert_str (P := Try.prog) w6 27 5 Try.underlying27 Try.underlying5 S 0 16 16 (addL W 14 (shiftL st)) (full_length _ _) (fun j v hj => by
        rw [Nat.zero_add, cell_of_row w6 S j _ _ _ hB6]; simpa using hj) 9 Try.underlying9
      rw [← HPN.out] at hcv2
      clear hB6 hf6
      go_wp2
      go_ret2
      exact ⟨rfl, HF6.out⟩
theorem press_no (C : Nat) (s : ByteArray) (hs : s.size ≠ 16) (w : World) :
    Calls Try.prog 24 #[.pointer (some ⟨C, 0, none⟩), .string s] w fun e w' => e = .returned (.tuple #[.string ⟨#[]⟩, .int .i64 2]) ∧ w = w' := by
  have hq : ((s.size : Int) != 16) = true := by simp; omega
  go_enter Try.func24, Try.ntmps24
  go_wp2
  go_ret2
  exact ⟨rfl, rfl⟩
end Go.Proofs.Ytcchhfkmhbjdmaa
