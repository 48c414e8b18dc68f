/- Values: what parse's closure takes off. -/
import Derived.Test.YthmpmpepokeedaaNf
import Derived.Lib.ConvBytes
set_option linter.unusedVariables false
set_option linter.unusedSimpArgs false
set_option pp.deepTerms true
set_option pp.maxSteps 100000
namespace Go.Proofs.Ythmpmpepokeedaa
open Go.RowKit
theorem or_byte (v : Int) (c : UInt8) : bits .or .i64 (IntKind.i64.wrap (v * 256)) (c.toNat : Int) = IntKind.i64.wrap (v * 256 + c.toNat) := by
  have hc := c.toNat_lt
  have h64 : ((2 ^ 64 : Nat) : Int) = 18446744073709551616 := rfl
  unfold bits
  show IntKind.i64.wrap (((BitVec.ofInt 64 (IntKind.i64.wrap (v * 256)) ||| BitVec.ofInt 64 (c.toNat : Int)).toNat : Nat) : Int) = _
  rw [BitVec.toNat_or, BitVec.toNat_ofInt, BitVec.toNat_ofInt]
  obtain ⟨q, hq⟩ := bAt_wrap (v * 256)
  obtain ⟨k, hk⟩ : ∃ k : Nat, ((IntKind.i64.wrap (v * 256)) % (2 ^ 64 : Nat)).toNat = k <<< 8 := by
    refine ⟨(v % 72057594037927936).toNat, ?_⟩
    rw [hq, Nat.shiftLeft_eq]
    have : (v * 256 - 18446744073709551616 * q) % ((2 ^ 64 : Nat) : Int) = (v % 72057594037927936) * 256 := by
      rw [h64]
      omega
    rw [this]
    omega
  have hb : ((c.toNat : Int) % ((2 ^ 64 : Nat) : Int)).toNat = c.toNat := by
    rw [h64]
    omega
  rw [hk, hb, ← Nat.shiftLeft_add_eq_or_of_lt (by omega : c.toNat < 2 ^ 8)]
  have hkk : ((k <<< 8 : Nat) : Int) = (v * 256 - 18446744073709551616 * q) % 18446744073709551616 := by
    rw [← hk, hq]
    rw [h64]
    omega
  rw [Int.natCast_add, hkk, wrapI, wrapI]
  have e : ((v * 256 - 18446744073709551616 * q) % 18446744073709551616 + (c.toNat : Int)) % 18446744073709551616 = (v * 256 + c.toNat) % 18446744073709551616 := by omega
  rw [e]
theorem bw_fr (w : World) (e : TypeId) (s : ByteArray) : Fr (fun _ => False) w (Lib.bytesWorld w e s) :=
  ⟨by simp [Lib.bytesWorld, World.freeze] <;> rfl, by simp [Lib.bytesWorld, World.freeze] <;> rfl, by simp [Lib.bytesWorld, World.freeze] <;> rfl, by rw [Lib.bytesWorld_size]; omega, fun i hi _ => Lib.bytesWorld_at_old w e s i hi⟩
theorem bw_cell (w : World) (l : List UInt8) (j : Nat) (c : UInt8) (hj : l[j]? = some c) : (Lib.bytesWorld w 5 (str l)).cell? ⟨w.heap.size, j, none⟩ = some (.int .u8 (c.toNat : Int)) := by
  have hl := (List.getElem?_eq_some_iff.1 hj).1
  rw [Lib.bytesWorld_cell w _ _ j (by rw [str_size]; exact hl), str_list, List.getD_eq_getElem?_getD, hj]
  rfl
theorem accB_snoc (v : Int) (l : List UInt8) (c : UInt8) : accB v (l ++ [c]) = IntKind.i64.wrap (accB v l * 256 + c.toNat) := by
  unfold accB
  rw [List.foldl_append]
  rfl
theorem ex_take (l : List UInt8) (n : Nat) : (str l).extract 0 n = str (l.take n) := by
  apply ByteArray.ext
  simp [str]
theorem ex_drop (l : List UInt8) (n : Nat) : (str l).extract n (str l).size = str (l.drop n) := by
  rw [str_size]
  apply ByteArray.ext
  simp [str]
  exact List.take_of_length_le (by simp)
set_option maxRecDepth 20000 in
set_option maxHeartbeats 4000000 in
theorem number_no (R n : Nat) (l : List UInt8) (w : World) (hR : w.heap[R]? = some (.cells #[.string (str l)] 9 (0, 0))) (hn : l.length < n) (hn8 : n ≤ 8) :
    Calls Try.prog 74 #[.int .i64 (n : Int), .pointer (some ⟨R, 0, none⟩)] w fun e w' => e = .returned (.tuple #[.int .i64 0, .bool false]) ∧ Fr (fun _ => False) w w' := by
  obtain ⟨S, hS⟩ : ∃ x, x = str l := ⟨_, rfl⟩
  have hSs : S.size = l.length := by rw [hS, str_size]
  rw [← hS] at hR
  have cR : w.cell? ⟨R, 0, none⟩ = some (.string S) := (cell_of_row w R 0 _ _ _ hR).trans rfl
  have t1 : decide ((S.size : Int) < (n : Int)) = true := decide_eq_true (by omega)
  have t1' : decide (S.size < n) = true := decide_eq_true (by omega)
  clear hR hn hS hSs
  go_enter Try.func74, Try.ntmps74
  go_wp2_with fail
  go_ret2
  exact ⟨rfl, Fr.refl _ _⟩
set_option maxRecDepth 20000 in
set_option maxHeartbeats 4000000 in
theorem number_yes (R n : Nat) (l : List UInt8) (w : World) (hR : w.heap[R]? = some (.cells #[.string (str l)] 9 (0, 0))) (hn : n ≤ l.length) (hn8 : n ≤ 8) (hl : l.length ≤ 9223372036854775807) :
    Calls Try.prog 74 #[.int .i64 (n : Int), .pointer (some ⟨R, 0, none⟩)] w fun e w' => e = .returned (.tuple #[.int .i64 (accB 0 (l.take n)), .bool true]) ∧ w'.heap[R]? = some (.cells #[.string (str (l.drop n))] 9 (0, 0)) ∧ Fr (fun k => k = R) w w' := by
  obtain ⟨S, hS⟩ : ∃ x, x = str l := ⟨_, rfl⟩
  have hSs : S.size = l.length := by rw [hS, str_size]
  have hRb : R < w.heap.size := lt_of_heap hR
  rw [← hS] at hR
  have cR : w.cell? ⟨R, 0, none⟩ = some (.string S) := (cell_of_row w R 0 _ _ _ hR).trans rfl
  have t1 : decide ((S.size : Int) < (n : Int)) = false := decide_eq_false (by omega)
  have t1' : decide (S.size < n) = false := decide_eq_false (by omega)
  have b1 : n ≤ S.size := by omega
  have b1' : (n : Int) ≤ (S.size : Int) := by omega
  obtain ⟨m, hm⟩ : ∃ m, m = l.take n := ⟨_, rfl⟩
  have hml : m.length = n := by rw [hm, List.length_take]; omega
  obtain ⟨M, hM⟩ : ∃ M, M = str m := ⟨_, rfl⟩
  have hMs : M.size = n := by rw [hM, str_size, hml]
  have hx1 : S.extract 0 n = M := by rw [hS, ex_take, hM, hm]
  obtain ⟨Q, hQ⟩ : ∃ Q, Q = str (l.drop n) := ⟨_, rfl⟩
  have hx2 : S.extract n S.size = Q := by rw [hS, ex_drop, hQ]
  have hcv := Lib.run_convert_string_bytes (P := Try.prog) w 9 89 5 M Try.underlying9 Try.underlying89 Try.underlying5
  have hfB := bw_fr w 5 M
  have HC := Lib.hid (show ∀ j c, m[j]? = some c → (Lib.bytesWorld w 5 M).cell? ⟨w.heap.size, j, none⟩ = some (.int .u8 (c.toNat : Int)) from fun j c h => by rw [hM]; exact bw_cell w m j c h)
  generalize Lib.bytesWorld w 5 M = wB at hcv hfB HC
  generalize grownCap w M.size 0 5 = cp at hcv
  rw [hMs] at hcv
  have HFB := Lib.hid hfB
  have HR := Lib.hid hR
  have HML := Lib.hid (And.intro hml hn8)
  obtain ⟨g, hg⟩ : ∃ g, g = w.heap.size := ⟨_, rfl⟩
  rw [← hg] at hcv HC
  rw [← hm, ← hQ]
  clear hfB hR hm hM hMs hS hSs hQ hml hn hl hg
  go_enter Try.func74, Try.ntmps74
  go_wp2_with fail
  go_loopw [3, 16] (fun x i wr => ∃ u : Nat, u ≤ n ∧ x = .int .i64 (accB 0 (m.take u)) ∧ i = .int .i64 (u : Int) ∧ Fr (fun _ => False) wB wr) (fun _ i _ => n - (intOf i).toNat)
  case atStart => exact ⟨0, Nat.zero_le _, rfl, rfl, Fr.refl _ _⟩
  case round =>
    obtain ⟨u, hu, rfl, rfl, hfr⟩ := hrel
    have HF := Lib.hid hfr
    obtain ⟨y, hy⟩ : ∃ y, y = accB 0 (m.take u) := ⟨_, rfl⟩
    rw [← hy]
    have HY := Lib.hid hy
    by_cases hlt : u < n
    · have hum : u < m.length := by rw [HML.out.1]; exact hlt
      have hi0 : (u : Int) < (n : Int) := by omega
      obtain ⟨c, hc⟩ : ∃ c, m[u]? = some c := ⟨_, List.getElem?_eq_getElem hum⟩
      have cu : wr.cell? ⟨g, u, none⟩ = some (.int .u8 (c.toNat : Int)) := hfr.cell (HC.out u c hc) id
      have hcb := c.toNat_lt
      have hw0 : IntKind.i64.wrap (c.toNat : Int) = (c.toNat : Int) := IntWalk.i64_in _ (by omega)
      have hor := or_byte y c
      obtain ⟨z, hz⟩ : ∃ z, IntKind.i64.wrap (y * 256 + c.toNat) = z := ⟨_, rfl⟩
      rw [hz] at hor
      have hor2 : bits .or .i64 (wrap64 (y * 256)) (c.toNat : Int) = z := by rw [show wrap64 (y * 256) = IntKind.i64.wrap (y * 256) by rw [wrapI]; unfold wrap64; split <;> omega]; exact hor
      have HT := Lib.hid (show accB 0 (m.take (u + 1)) = z by
        rw [List.take_succ_eq_append_getElem hum, accB_snoc, ← hy, show m[u] = c from (List.getElem?_eq_some_iff.1 hc).2, hz])
      clear hy hum hc hcb hz hfr
      go_wp2_with fail
      go_roundw
      case rel => exact ⟨u + 1, by omega, by rw [HT.out], by go_num, HF.out⟩
      case measure => simp [intOf]; omega
    · obtain rfl : u = n := by omega
      have hge : ¬ (u : Int) < (u : Int) := by omega
      have hR2 := (HFB.out.trans HF.out (fun i hi => hi.elim)).heap HR.out id
      have cR2 : wr.cell? ⟨R, 0, none⟩ = some (.string S) := (cell_of_row wr R 0 _ _ _ hR2).trans rfl
      have fR2 : wr.frozen? ⟨R, 0, none⟩ = false := frozen_of_row wr _ _ _ _ hR2
      have HR3 := Lib.hid (show (wr.setCell ⟨R, 0, none⟩ (.string Q)).heap[R]? = some (.cells #[.string Q] 9 (0, 0)) from heap_setCell_same wr R 0 _ _ _ hR2)
      have HF3 := Lib.hid (show Fr (fun k => k = R) w (wr.setCell ⟨R, 0, none⟩ (.string Q)) from ((HFB.out.trans HF.out (fun i hi => hi.elim)).mono (fun i hi => hi.elim)).setCell _ _ (.inl rfl))
      have HY2 := Lib.hid (show accB 0 m = y by rw [HY.out, ← HML.out.1, List.take_length])
      clear hy hfr hlt hR2
      go_wp2_with fail
      go_ret2
      exact ⟨by rw [HY2.out]; rfl, HR3.out, HF3.out⟩
end Go.Proofs.Ythmpmpepokeedaa
