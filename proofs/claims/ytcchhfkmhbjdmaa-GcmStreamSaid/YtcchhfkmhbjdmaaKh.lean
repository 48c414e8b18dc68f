/- A key made ready. -/
import Derived.Test.YtcchhfkmhbjdmaaKg
set_option linter.unusedVariables false
set_option linter.unusedSimpArgs false
set_option pp.deepTerms true
set_option pp.maxSteps 100000
namespace Go.Proofs.Ytcchhfkmhbjdmaa
open Go.RowKit
theorem str_drop (l : List UInt8) (n : Nat) : (str l).extract n (str l).size = str (l.drop n) := by
  apply ByteArray.ext
  simp [str, ByteArray.size]
  exact List.take_of_length_le (by simp)
theorem run_copy_row_prefix {P : Program} (w : World) (dT sT ty elem : TypeId) (g o dLen dCap : Nat) (l : List UInt8) (cur : Array Value) (t : TypeId)
    (hu : P.underlying dT = some (.slice elem)) (hs : (P.info? elem).map (·.size) = some 1) (hg : w.heap[g]? = some (.cells cur t (0, 0))) (hle : dLen ≤ l.length) (hfit : o + dLen ≤ cur.size) :
    (Builtin.copy_ #[dT, sT] ty #[.slice (some ⟨g, o, none⟩) dLen dCap, .string (str l)]).run P w =
      .ok (goInt dLen) (w.setRow g (cur.toList.take o ++ bcells (l.take dLen) ++ cur.toList.drop (o + dLen)).toArray) := by
  have hlen : (bcells (l.take dLen)).length = dLen := by rw [bcells_length]; simp; omega
  have hst := run_storeCells_at P g o t (bcells (l.take dLen)) 0 cur w hg (by rw [hlen]; simpa using hfit) (bcells_one _)
  have hsz : (str l).size = l.length := str_size l
  have hmin : Nat.min (str l).size dLen = dLen := Nat.min_eq_right (by omega)
  have htk : List.take dLen (List.map (fun b : UInt8 => Value.int IntKind.u8 (b.toNat : Int)) l) = bcells (l.take dLen) := by simp [bcells]
  rw [hlen] at hst
  simp only [Nat.add_zero] at hst
  cases hq : P.info? elem with
  | none => simp [hq] at hs
  | some i =>
    simp [Builtin.copy_, run_underlying hu, Builtin.lenOf, Builtin.firstCells, sizeOf, typeInfo, hq, hmin]
    rw [show (str l).data.toList = l from str_list l, htk, hst]
    simp [Result.andThen]
section
variable {P : Program} {ops : Array Oper} {rest : List Oper} {op : Oper} {a : Act} {w : World} {Q : Exit → Act → World → Prop}
theorem wpList_copy_prefix (hgd : op.guard = none) (d s : Operand) (dT sT : TypeId)
    (ho : op.op = .call { callee := .builtin .copy, args := #[d, s], argTypes := #[dT, sT] }) (elem : TypeId) (hu : P.underlying dT = some (.slice elem)) (hsz : (P.info? elem).map (·.size) = some 1)
    (g o dLen dCap : Nat) (l : List UInt8) (cur : Array Value) (t : TypeId) (hd : a.eval d = .slice (some ⟨g, o, none⟩) dLen dCap) (hs : a.eval s = .string (str l))
    (hg : w.heap[g]? = some (.cells cur t (0, 0))) (hle : dLen ≤ l.length) (hfit : o + dLen ≤ cur.size)
    (h : wpList P ops Q rest (a.put op.dst (goInt dLen)) (w.setRow g (cur.toList.take o ++ bcells (l.take dLen) ++ cur.toList.drop (o + dLen)).toArray)) : wpList P ops Q (op :: rest) a w := by
  refine wpList_plain hgd fun K hK => ?_
  have hrun := run_copy_row_prefix (P := P) w dT sT op.type elem g o dLen dCap l cur t hu hsz hg hle hfit
  unfold Oper.wp
  simp [execOp, ho, resolve, invoke, builtin, hd, hs, hrun, Result.andThen]
  exact hK _ _ (by simpa using h)
end
set_option maxRecDepth 20000 in
set_option maxHeartbeats 4000000 in
theorem sub_calls (C V : Nat) (W : List UInt8) (x0 x1 x2 x3 : UInt8) (w : World) (hC : Cip w C W) (hV : w.cell? ⟨V, 0, none⟩ = some (.pointer (some ⟨C, 0, none⟩))) :
    Calls Try.prog 70 #[.agg #[.int .u8 (x0.toNat : Int), .int .u8 (x1.toNat : Int), .int .u8 (x2.toNat : Int), .int .u8 (x3.toNat : Int)], .pointer (some ⟨V, 0, none⟩)] w fun e w' =>
      e = .returned (.agg (bcells [box x0, box x1, box x2, box x3]).toArray) ∧ Fr (fun _ => False) w w' := by
  have HC := Lib.hid hC
  have HV := Lib.hid hV
  clear hV
  go_enter Try.func70, Try.ntmps70
  go_wp2
  obtain ⟨P, hP⟩ : ∃ P, P = w.heap.size := ⟨_, rfl⟩
  have hz : (#[.int .u8 0, .int .u8 0, .int .u8 0, .int .u8 0] : Array Value) = (bcells [0, 0, 0, 0]).toArray := rfl
  have hy : (#[.int .u8 (x0.toNat : Int), .int .u8 (x1.toNat : Int), .int .u8 (x2.toNat : Int), .int .u8 (x3.toNat : Int)] : Array Value) = (bcells [x0, x1, x2, x3]).toArray := rfl
  have HY := Lib.hid hy
  clear hy
  generalize hA : (#[.int .u8 (x0.toNat : Int), .int .u8 (x1.toNat : Int), .int .u8 (x2.toNat : Int), .int .u8 (x3.toNat : Int)] : Array Value) = YA at HY ⊢
  rw [hz]
  have hf : Fr (fun _ => False) w ((w.alloc (.cells YA 91)).alloc (.cells (bcells [0, 0, 0, 0]).toArray 91)) := ((Fr.refl _ _).alloc _).alloc _
  have hB := heap_alloc_new (w.alloc (.cells YA 91)) (.cells (bcells [0, 0, 0, 0]).toArray 91)
  have hA2 := ((Fr.refl (fun _ => False) (w.alloc (.cells YA 91))).alloc (.cells (bcells [0, 0, 0, 0]).toArray 91)).heap (heap_alloc_new w (.cells YA 91)) id
  simp only [World.size_alloc] at hB
  rw [← hP] at hA2 hB ⊢
  generalize (w.alloc (.cells YA 91)).alloc (.cells (bcells [0, 0, 0, 0]).toArray 91) = w1 at hA2 hB hf ⊢
  rw [HY.out] at hA2
  have HB := Lib.hid hB
  have HF := Lib.hid hf
  have HP := Lib.hid hP
  have c0 : w1.drew.cell? ⟨P, 0, none⟩ = some (.int .u8 (x0.toNat : Int)) := bcells_cell hA2 0 x0 rfl
  have c1 : w1.drew.cell? ⟨P, 1, none⟩ = some (.int .u8 (x1.toNat : Int)) := bcells_cell hA2 1 x1 rfl
  have c2 : w1.drew.cell? ⟨P, 2, none⟩ = some (.int .u8 (x2.toNat : Int)) := bcells_cell hA2 2 x2 rfl
  have c3 : w1.drew.cell? ⟨P, 3, none⟩ = some (.int .u8 (x3.toNat : Int)) := bcells_cell hA2 3 x3 rfl
  have cv : w1.drew.cell? ⟨V, 0, none⟩ = some (.pointer (some ⟨C, 0, none⟩)) := hf.drew.cell HV.out id
  have d0 := (HC.out.fr hf.drew id).box x0
  have d1 := (HC.out.fr hf.drew id).box x1
  have d2 := (HC.out.fr hf.drew id).box x2
  have d3 := (HC.out.fr hf.drew id).box x3
  have b0 := x0.toNat_lt
  have b1 := x1.toNat_lt
  have b2 := x2.toNat_lt
  have b3 := x3.toNat_lt
  have g0 : (x0.toNat : Int) < 256 := by omega
  have g1 : (x1.toNat : Int) < 256 := by omega
  have g2 : (x2.toNat : Int) < 256 := by omega
  have g3 : (x3.toNat : Int) < 256 := by omega
  clear hz hA hA2 hB hf hP HY
  refine wp_region_still_tail 29 (by kernel_rfl) (by kernel_rfl) ?_
  simp only [List.take_succ_cons, List.take_zero, List.drop_succ_cons, List.drop_zero]
  change wpStill _ _ w1.drew (fun a' => wpList _ _ _ _ a' w1.drew) _ _
  repeat still_step
  refine wpStill_nil ?_
  refine wpList_store_bytes (op := ⟨none, .store 91 _ _, _, _, _, _⟩) rfl 91 _ _ rfl (P + 1) rfl 91 [0, 0, 0, 0] [box x0, box x1, box x2, box x3] rfl HB.out 4 (by kernel_rfl) rfl rfl ?_
  go_wp2
  refine bodyPost_ret (results_cell_row rfl _ _ (P + 1) 91 (bcells [box x0, box x1, box x2, box x3]).toArray (0, 0) _ rfl (setRow_heap HB.out) Try.underlying91 rfl (by kernel_rfl)) rfl ?_
  exact ⟨rfl, HF.out.drew.setRow _ _ (.inr (by have := HP.out; omega))⟩
end Go.Proofs.Ytcchhfkmhbjdmaa
