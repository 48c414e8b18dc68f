/- The digest walked; blocks: load, text, Product, turn, fill. -/
import Derived.Deep.LoopGhost
import Derived.Shelf.Strings.Repeat
import Derived.Laws.OwnMore
import Derived.Test.YtcchhfkmhbjdmaaGreatPm3
/-! J7 -/
set_option linter.unusedVariables false
set_option linter.unusedSimpArgs false
set_option pp.deepTerms true
set_option pp.maxSteps 100000
namespace Go.Proofs.YtcchhfkmhbjdmaaGreat
open Go.RowKit
section
variable {P : Program} {ops : Array Oper} {rest : List Oper} {op : Oper} {a : Act} {w : World} {Q : Exit → Act → World → Prop}
theorem wpList_load_w (hgd : op.guard = none) (ty : TypeId) (x : Operand) (ho : op.op = .load ty x) (B : Nat) (hx : a.eval x = .pointer (some ⟨B, 0, none⟩)) (t : TypeId) (l : List UInt32) (fr : Nat × Nat) (n : Nat) (e : TypeId)
    (hg : w.heap[B]? = some (.cells (wcells l ++ []).toArray t fr)) (hu : P.underlying ty = some (.array n e)) (hn : l.length = n) (hi : (P.info? ty).map (·.size) = some n)
    (h : wpList P ops Q rest (a.put op.dst (.agg (wcells l).toArray)) w) : wpList P ops Q (op :: rest) a w :=
  wpList_load_row hgd ty x ho B hx t _ fr _ (by rw [List.append_nil] at hg; exact hg) hu rfl (by rw [hi, ← hn]; simp [wcells]) h
end
end Go.Proofs.YtcchhfkmhbjdmaaGreat
/-! J8 -/
set_option linter.unusedVariables false
set_option linter.unusedSimpArgs false
set_option pp.deepTerms true
set_option pp.maxSteps 100000
namespace Go.Proofs.YtcchhfkmhbjdmaaGreat
open Go.RowKit
/-- A tally in memory. -/
def tcells (K : Nat) (t : Tal) : List Value := wcells t.h ++ [.string (str t.rest), .int .i64 (t.n : Int), .pointer (some ⟨K, 0, none⟩)]
theorem jstr_append (a b : List UInt8) : str a ++ str b = str (a ++ b) := by
  apply ByteArray.ext
  simp [str]
theorem jstr_take (a : List UInt8) (n : Nat) : (str a).extract 0 n = str (a.take n) := by
  apply ByteArray.ext
  simp [str]
theorem jstr_drop (a : List UInt8) (n : Nat) : (str a).extract n (str a).size = str (a.drop n) := by
  apply ByteArray.ext
  simp [str, ByteArray.size]
  exact List.take_of_length_le (by simp)
end Go.Proofs.YtcchhfkmhbjdmaaGreat
/-! J9 -/
set_option linter.unusedVariables false
set_option linter.unusedSimpArgs false
set_option pp.deepTerms true
set_option pp.maxSteps 100000
namespace Go.Proofs.YtcchhfkmhbjdmaaGreat
open Go.RowKit
end Go.Proofs.YtcchhfkmhbjdmaaGreat
/-! Ja -/
set_option linter.unusedVariables false
set_option linter.unusedSimpArgs false
namespace Go.Proofs.YtcchhfkmhbjdmaaGreat
open Go.Shelf
def lays105_ren : Go.Shelf.Ren := ⟨fun | 105 => 50 | 212 => 78 | 99 => 79 | 165 => 80 | 166 => 27 | 170 => 81 | 169 => 29 | 263 => 92 | 264 => 93 | 206 => 86 | 240 => 43 | 241 => 94 | 276 => 67 | 277 => 105 | n => n, fun | 9 => 9 | 3 => 3 | 4 => 4 | 20 => 20 | 0 => 0 | 46 => 94 | 109 => 128 | 5 => 5 | 72 => 57 | 76 => 61 | 51 => 141 | 146 => 142 | 53 => 95 | 148 => 144 | 70 => 55 | 37 => 53 | 75 => 59 | 127 => 88 | 164 => 110 | 80 => 65 | n => n, fun | n => n⟩
theorem lays105 : Go.Proofs.Lays.n105 Tryz.prog lays105_ren := {
  mixed := by kernel_rfl
  f99 := Tryz.func79.trans (congrArg some (by kernel_rfl))
  f105 := Tryz.func50.trans (congrArg some (by kernel_rfl))
  f165 := Tryz.func80.trans (congrArg some (by kernel_rfl))
  f166 := Tryz.func27.trans (congrArg some (by kernel_rfl))
  f169 := Tryz.func29.trans (congrArg some (by kernel_rfl))
  f170 := Tryz.func81.trans (congrArg some (by kernel_rfl))
  f206 := Tryz.func86.trans (congrArg some (by kernel_rfl))
  f212 := Tryz.func78.trans (congrArg some (by kernel_rfl))
  f240 := Tryz.func43.trans (congrArg some (by kernel_rfl))
  f241 := Tryz.func94.trans (congrArg some (by kernel_rfl))
  f263 := Tryz.func92.trans (congrArg some (by kernel_rfl))
  f264 := Tryz.func93.trans (congrArg some (by kernel_rfl))
  f276 := Tryz.func67.trans (congrArg some (by kernel_rfl))
  f277 := Tryz.func105.trans (congrArg some (by kernel_rfl))
  t0 := Tryz.underlying0
  a0 := Tryz.isAgg0
  z0 := Tryz.sizeOf0
  v0 := Tryz.zeroValue0
  t3 := Tryz.underlying3
  a3 := Tryz.isAgg3
  z3 := Tryz.sizeOf3
  v3 := Tryz.zeroValue3
  t4 := Tryz.underlying4
  a4 := Tryz.isAgg4
  z4 := Tryz.sizeOf4
  v4 := Tryz.zeroValue4
  t5 := Tryz.underlying5
  a5 := Tryz.isAgg5
  z5 := Tryz.sizeOf5
  v5 := Tryz.zeroValue5
  t9 := Tryz.underlying9
  a9 := Tryz.isAgg9
  z9 := Tryz.sizeOf9
  v9 := Tryz.zeroValue9
  t20 := Tryz.underlying20
  a20 := Tryz.isAgg20
  z20 := Tryz.sizeOf20
  v20 := Tryz.zeroValue20
  t37 := Tryz.underlying53
  a37 := Tryz.isAgg53
  z37 := Tryz.sizeOf53
  v37 := Tryz.zeroValue53
  t46 := Tryz.underlying94
  a46 := Tryz.isAgg94
  z46 := Tryz.sizeOf94
  v46 := Tryz.zeroValue94
  t51 := Tryz.underlying141
  a51 := Tryz.isAgg141
  z51 := Tryz.sizeOf141
  v51 := Tryz.zeroValue141
  t53 := Tryz.underlying95
  a53 := Tryz.isAgg95
  z53 := Tryz.sizeOf95
  v53 := Tryz.zeroValue95
  t70 := Tryz.underlying55
  a70 := Tryz.isAgg55
  z70 := Tryz.sizeOf55
  v70 := Tryz.zeroValue55
  t72 := Tryz.underlying57
  a72 := Tryz.isAgg57
  z72 := Tryz.sizeOf57
  v72 := Tryz.zeroValue57
  t75 := Tryz.underlying59
  a75 := Tryz.isAgg59
  z75 := Tryz.sizeOf59
  v75 := Tryz.zeroValue59
  t76 := Tryz.underlying61
  a76 := Tryz.isAgg61
  z76 := Tryz.sizeOf61
  v76 := Tryz.zeroValue61
  t109 := Tryz.underlying128
  a109 := Tryz.isAgg128
  z109 := Tryz.sizeOf128
  v109 := Tryz.zeroValue128
  t127 := Tryz.underlying88
  a127 := Tryz.isAgg88
  z127 := Tryz.sizeOf88
  v127 := Tryz.zeroValue88
  t146 := Tryz.underlying142
  a146 := Tryz.isAgg142
  z146 := Tryz.sizeOf142
  v146 := Tryz.zeroValue142
  t148 := Tryz.underlying144
  a148 := Tryz.isAgg144
  z148 := Tryz.sizeOf144
  v148 := Tryz.zeroValue144
  t164 := Tryz.underlying110
  a164 := Tryz.isAgg110
  z164 := Tryz.sizeOf110
  v164 := Tryz.zeroValue110 }
theorem builder_extra105 : Builder.Extra Tryz.prog lays105_ren := {
  sizeBuilder := by kernel_rfl
  liesBuilder := by kernel_rfl
  t5 := Tryz.underlying5
  a5 := Tryz.isAgg5
  z5 := Tryz.sizeOf5
  v5 := Tryz.zeroValue5
  infoByte := by kernel_rfl
  cellsByte := by kernel_rfl
  sizeByte := by kernel_rfl
  neB5 := by decide }
open Go.RowKit Go.Lib in
theorem strings_repeat (s : ByteArray) (c : Nat) (w : World) (hc : c ≤ 9223372036854775807) (hlen : s.size * c ≤ 140737488355328) :
    Calls Tryz.prog 50 #[.string s, .int .i64 c] w fun e w' => e = .returned (.string ⟨(Lib.repeatL s.data.toList c).toArray⟩) ∧ Below w.heap.size w w' := Any.strings_Repeat lays105 builder_extra105 s c w hc hlen
open Go.RowKit in
theorem repeat_zeros (c : Nat) (hc : c ≤ 100000) (w : World) :
    Calls Tryz.prog 50 #[.string ⟨#[0]⟩, .int .i64 c] w fun e w' => e = .returned (.string (str (List.replicate c 0))) ∧ Fr (fun _ => False) w w' := by
  refine (strings_repeat ⟨#[0]⟩ c w (by omega) (by simp [ByteArray.size]; omega)).mono ?_
  rintro e w' ⟨rfl, h⟩
  refine ⟨?_, Fr.of_below h⟩
  have := Lib.repeatL_replicate 0 1 c
  rw [Nat.mul_one] at this
  rw [← this]
  rfl
end Go.Proofs.YtcchhfkmhbjdmaaGreat
/-! Jb -/
set_option linter.unusedVariables false
set_option linter.unusedSimpArgs false
set_option pp.deepTerms true
set_option pp.maxSteps 100000
namespace Go.Proofs.YtcchhfkmhbjdmaaGreat
open Go.RowKit
section
variable {ops : Array Oper} {rest : List Oper} {op : Oper} {a : Act} {w : World} {Q : Exit → Act → World → Prop}
set_option maxRecDepth 20000 in
theorem wpList_append_own (hgd : op.guard = none) (s y : Operand) (ho : op.op = .call { callee := .builtin .append, args := #[s, y], argTypes := #[53, 53] })
    (base : Nat) (v : Value) (n : Nat) (xs : List UInt8) (hown : w.ownsRow base 5 1 v n (bcells xs)) (hs : a.eval s = v) (B m c : Nat) (hy : a.eval y = .slice (some ⟨B, 0, none⟩) m c)
    (ys : List UInt8) (hm : ys.length = m) (ha : w.rangeAt B 0 (bcells ys)) (hbig : n + m ≤ 100000) (hbase : base ≤ w.heap.size)
    (hk : ∀ v' w', w'.ownsRow base 5 1 v' (n + m) (bcells (xs ++ ys)) → w.grownBy w' v.ownBlock → wpList Tryz.prog ops Q rest (a.put op.dst v') w') : wpList Tryz.prog ops Q (op :: rest) a w := by
  refine wpList_plain hgd fun K hK => ?_
  obtain ⟨i0, hi0⟩ : ∃ i0, Tryz.prog.info? 5 = some i0 := ⟨_, rfl⟩
  have hz0 : (Tryz.prog.info? 5).map (fun i => (i.zero, i.size, i.bytes)) = some (some (.int .u8 0), 1, 1) := by kernel_rfl
  rw [hi0] at hz0
  simp only [Option.map_some, Option.some.injEq, Prod.mk.injEq] at hz0
  obtain ⟨v', w', hr, h1, h2, _⟩ := run_append_own (P := Tryz.prog) (w := w) base 53 op.type 5 i0 (.int .u8 0) 1 1 Tryz.underlying53 hi0 hz0.1 hz0.2.1 hz0.2.2 rfl (by omega) v n (bcells xs) hown ⟨B, 0, none⟩ m c (bcells ys)
    (by rw [bcells_length]; omega) (fun j u hj => by rw [Addr.add_mid]; exact ha j u hj) (bcells_one ys) (by unfold maxLen; omega) (by omega) hbase
  rw [← bcells_append] at h1
  unfold Oper.wp execOp
  simp only [ho, resolve, invoke, builtin, Sem.run_bind, Sem.run_pure, Result.andThen_ok, List.map_toArray, List.map_cons, List.map_nil, hs, hy, hr]
  exact hK _ _ (hk v' w' h1 h2)
end
theorem owns_slice {w : World} {base n : Nat} {v : Value} {xs : List UInt8} (h : w.ownsRow base 5 1 v n (bcells xs)) (hn : 0 < n) : ∃ g cap, v = .slice (some ⟨g, 0, none⟩) n cap ∧ xs.length = n ∧ w.rangeAt g 0 (bcells xs) := by
  obtain ⟨hl, h | ⟨g, cap, cur, hv, hg, hh, hnc, hcm, hcs, ht⟩⟩ := h
  · omega
  · rw [bcells_length, Nat.mul_one] at hl
    refine ⟨g, cap, hv, hl, fun j u hj => ?_⟩
    rw [Nat.zero_add, cell_of_row w g j _ _ _ hh]
    rw [← ht, List.getElem?_take] at hj
    split at hj
    · simpa using hj
    · cases hj
theorem outL_step (h : List UInt32) (i : Nat) (x : UInt32) (hx : h[i]? = some x) : outL (h.take (i + 1)) = outL (h.take i) ++ outW x := by
  unfold outL
  rw [List.take_add_one, hx, Option.toList_some, List.flatMap_append]
  simp
theorem out_b (x : UInt32) (s : Nat) (t : UInt32) (ht : t.toNat = s) (hs : s < 32) : ((x.toNat : Int) / ((2 ^ s : Nat) : Int)) % 256 = (((x >>> t).toUInt8).toNat : Int) := by
  rw [shr_u32 x s t ht hs]; simp
def padF (n : Nat) (i : Nat) : UInt8 := UInt8.ofNat (8 * n / 2 ^ (56 - 8 * i))
theorem sum_idx (n : Nat) (hn : n ≤ 1099511627776) : ∃ q r p : Nat, (n : Int).tmod 64 = (q : Int) ∧ (n : Int) % 64 = (q : Int) ∧ IntKind.i64.wrap (q : Int) = (q : Int) ∧ IntKind.i64.wrap (119 - (q : Int)) = (r : Int) ∧ IntKind.i64.wrap (r : Int) = (r : Int) ∧ (r : Int).tmod 64 = (p : Int) ∧ (r : Int) % 64 = (p : Int) ∧ IntKind.i64.wrap (p : Int) = (p : Int) ∧ p < 64 ∧ p = (119 - n % 64) % 64 := by
  refine ⟨n % 64, 119 - n % 64, (119 - n % 64) % 64, ?_, by omega, IntWalk.i64_in _ (by omega), ?_, IntWalk.i64_in _ (by omega), ?_, by omega, IntWalk.i64_in _ (by omega), by omega, rfl⟩
  · rw [Int.tmod_eq_emod_of_nonneg (by omega)]; omega
  · rw [IntWalk.i64_in _ (by omega)]; omega
  · rw [Int.tmod_eq_emod_of_nonneg (by omega)]; omega
end Go.Proofs.YtcchhfkmhbjdmaaGreat
/-! Jc -/
set_option linter.unusedVariables false
set_option linter.unusedSimpArgs false
set_option pp.deepTerms true
set_option pp.maxSteps 100000
namespace Go.Proofs.YtcchhfkmhbjdmaaGreat
open Go.RowKit
theorem dig_sum (l : List UInt8) : dig l = (Tal.new.add l).sum := rfl
theorem or_zero (v x y : UInt8) : (v ||| (x ^^^ y)) = 0 ↔ v = 0 ∧ x = y := by
  constructor
  · intro h
    have h1 : v = 0 := by
      apply UInt8.toNat_inj.mp
      have := congrArg UInt8.toNat h
      rw [UInt8.toNat_or] at this
      have h2 : v.toNat ≤ v.toNat ||| (x ^^^ y).toNat := Nat.left_le_or
      have h3 : (0 : UInt8).toNat = 0 := rfl
      omega
    refine ⟨h1, ?_⟩
    rw [h1, UInt8.zero_or] at h
    exact UInt8.xor_eq_zero_iff.mp h
  · rintro ⟨rfl, rfl⟩
    simp
set_option maxRecDepth 20000 in
set_option maxHeartbeats 4000000 in
theorem sha_equal (a b : List UInt8) (hal : a.length ≤ 4294967296) (w : World) : Calls Tryz.prog 41 #[.string (str a), .string (str b)] w fun e w' => e = .returned (.bool (decide (a = b))) ∧ Fr (fun _ => False) w w' := by
  have ha : (str a).size = a.length := str_size a
  have hb : (str b).size = b.length := str_size b
  by_cases hl : a.length = b.length
  · have q1 : ((a.length : Int) != (b.length : Int)) = false := by simp [hl]
    have HL := Lib.hid hl
    obtain ⟨n, hn⟩ : ∃ n, n = a.length := ⟨_, rfl⟩
    have hbn : b.length = n := by omega
    have HN := Lib.hid hn
    rw [← hn] at ha q1
    rw [hbn] at hb q1
    have HBN := Lib.hid hbn
    have hnb : n ≤ 4294967296 := by omega
    clear hl hn hbn hal
    go_enter Tryz.func41, Tryz.ntmps41
    go_wp2
    go_loopw [5, 14] (fun v5 v wr => ∃ (i : Nat) (x : UInt8), i ≤ n ∧ v = .int .i64 i ∧ v5 = .int .u8 (x.toNat : Int) ∧ (x = 0 ↔ a.take i = b.take i) ∧ Fr (fun _ => False) w wr) (fun _ v _ => n - (intOf v).toNat)
    case atStart => exact ⟨0, 0, Nat.zero_le _, rfl, rfl, by simp, Fr.refl _ _⟩
    case round =>
      obtain ⟨i, x, hi, rfl, rfl, hx, hf⟩ := hrel
      have HX := Lib.hid hx
      have HF := Lib.hid hf
      clear hx hf
      by_cases hlt : i < n
      · have hin : (i : Int) < (n : Int) := by omega
        obtain ⟨y, hy⟩ : ∃ y, y = a.getD i 0 := ⟨_, rfl⟩
        obtain ⟨z, hz⟩ : ∃ y, y = b.getD i 0 := ⟨_, rfl⟩
        have hya : ∀ h, (str a)[i]'h = y := fun h => by rw [str_at32, hy]
        have hzb : ∀ h, (str b)[i]'h = z := fun h => by rw [str_at32, hz]
        obtain ⟨p, hp⟩ : ∃ p, p = y ^^^ z := ⟨_, rfl⟩
        have e1 := xor_u8 y z
        rw [← hp] at e1
        have e2 := or_u8 x p
        obtain ⟨q, hq⟩ : ∃ q, q = x ||| p := ⟨_, rfl⟩
        rw [← hq] at e2
        have HQ := Lib.hid (show q = 0 ↔ a.take (i + 1) = b.take (i + 1) by
          have hga : a[i]? = some y := by rw [hy, List.getD_eq_getElem?_getD, List.getElem?_eq_getElem (by rw [← HN.out]; exact hlt)]; rfl
          have hgb : b[i]? = some z := by rw [hz, List.getD_eq_getElem?_getD, List.getElem?_eq_getElem (by rw [HBN.out]; exact hlt)]; rfl
          rw [hq, hp, or_zero, HX.out, List.take_add_one, List.take_add_one, hga, hgb]
          constructor
          · rintro ⟨h1, rfl⟩; rw [h1]
          · intro h
            have h2 := List.append_inj h (by rw [List.length_take, List.length_take, ← HN.out, HBN.out])
            exact ⟨h2.1, by simpa using h2.2⟩)
        have bx := x.toNat_lt
        have by1 := y.toNat_lt
        have bz := z.toNat_lt
        have bp := p.toNat_lt
        have bq := q.toNat_lt
        clear hy hz hp hq
        go_wp2
        refine wp_region_still_tail 9 (by kernel_rfl) (by kernel_rfl) ?_
        simp only [List.take_succ_cons, List.take_zero, List.drop_succ_cons, List.drop_zero]
        change wpStill _ _ wr.drew (fun a' => wpList _ _ _ _ a' wr.drew) _ _
        repeat still_step
        refine wpStill_nil ?_
        go_wp2
        go_roundw
        case rel => exact ⟨i + 1, q, by omega, by go_num, rfl, HQ.out, HF.out.drew⟩
        case measure => simp [intOf]; omega
      · have hie : i = n := by omega
        have HE := Lib.hid (show x = 0 ↔ a = b by
          have := HX.out
          rwa [hie, List.take_of_length_le (by rw [← HN.out]; omega), List.take_of_length_le (by rw [HBN.out]; omega)] at this)
        have hzz : ((x.toNat : Int) == 0) = decide (a = b) := by
          rw [Bool.eq_iff_iff, beq_iff_eq, decide_eq_true_iff, ← HE.out]
          constructor
          · intro h; exact UInt8.toNat_inj.mp (by have h2 : (0 : UInt8).toNat = 0 := rfl; omega)
          · intro h; rw [h]; rfl
        clear hie
        go_wp2
        go_ret
        exact ⟨rfl, HF.out⟩
  · have q1 : ((a.length : Int) != (b.length : Int)) = true := by simp; omega
    have hd : decide (a = b) = false := decide_eq_false (fun h => hl (by rw [h]))
    rw [hd]
    go_enter Tryz.func41, Tryz.ntmps41
    go_wp2
    go_ret
    exact ⟨rfl, Fr.refl _ _⟩
end Go.Proofs.YtcchhfkmhbjdmaaGreat
/-! Jj -/
set_option linter.unusedVariables false
set_option linter.unusedSimpArgs false
set_option pp.deepTerms true
set_option pp.maxSteps 100000
namespace Go.Proofs.YtcchhfkmhbjdmaaGreat
open Go.RowKit
theorem jmade_bytes (n : Nat) : madeCells #[.int .u8 0] n = (bcells (List.replicate n 0)).toArray := by
  apply Array.ext'
  rw [toList_madeCells_one]
  simp [bcells]
set_option maxRecDepth 20000 in
theorem make_zeros (m : Nat) (hm : m ≤ 100000) (w : World) : (Instr.makeSlice 53 (.int .i64 (m : Int)) (.int .i64 (m : Int))).run Tryz.prog w = .ok (.slice (some ⟨w.heap.size, 0, none⟩) m m) (w.alloc (.cells (bcells (List.replicate m 0)).toArray 5)) := by
  obtain ⟨i0, hi0⟩ : ∃ i0, Tryz.prog.info? 5 = some i0 := ⟨_, rfl⟩
  have hz0 : (Tryz.prog.info? 5).map (fun i => (i.zero, i.size, i.bytes)) = some (some (.int .u8 0), 1, 1) := by kernel_rfl
  rw [hi0] at hz0
  simp only [Option.map_some, Option.some.injEq, Prod.mk.injEq] at hz0
  have h := run_makeSlice (P := Tryz.prog) w 53 5 i0 (.int .u8 0) Tryz.underlying53 hi0 hz0.1 .i64 .i64 m m (by omega) (by omega) (by rw [hz0.2.1]; simp; omega) (by rw [hz0.2.2]; omega) (by omega)
  rw [h, hz0.2.1]
  simp only [Int.toNat_natCast, Nat.mul_one]
  rw [show (Value.int IntKind.u8 0).cells = #[.int .u8 0] from rfl, jmade_bytes]
end Go.Proofs.YtcchhfkmhbjdmaaGreat
/-! Pg2 -/
set_option linter.unusedVariables false
set_option linter.unusedSimpArgs false
set_option pp.deepTerms true
set_option pp.maxSteps 100000
namespace Go.Proofs.YtcchhfkmhbjdmaaGreat
open Go.RowKit
def ldF (l : List UInt8) : Nat → W2
  | 0 => W2.zero
  | i + 1 => if i < 8 then ⟨((ldF l i).a <<< 8) ||| (l.getD i 0).toUInt64, (ldF l i).b⟩ else ⟨(ldF l i).a, ((ldF l i).b <<< 8) ||| (l.getD i 0).toUInt64⟩
def loadL (l : List UInt8) : W2 := ldF l 16
theorem u8_64 (x : UInt8) : (x.toNat : Int) = ((x.toUInt64).toNat : Int) := by simp
theorem idx8 (i : Nat) (hi : i < 16) : ∃ q r : Nat, (i : Int).tdiv 8 = (q : Int) ∧ (i : Int) / 8 = (q : Int) ∧ IntKind.i64.wrap (q : Int) = (q : Int) ∧ (q : Int) < 2 ∧ (i : Int).tmod 8 = (r : Int) ∧ (i : Int) % 8 = (r : Int) ∧ IntKind.i64.wrap (r : Int) = (r : Int) ∧ r < 8 ∧ q = i / 8 ∧ r = i % 8 := by
  refine ⟨i / 8, i % 8, ?_, by omega, IntWalk.i64_in _ (by omega), by omega, ?_, by omega, IntWalk.i64_in _ (by omega), by omega, rfl, rfl⟩
  · rw [Int.tdiv_eq_ediv_of_nonneg (by omega)]; omega
  · rw [Int.tmod_eq_emod_of_nonneg (by omega)]; omega
/-- The word that i touches, and what it becomes. -/
theorem ld_word (l : List UInt8) (i q : Nat) (hi : i < 16) (hq : q = i / 8) : ∃ cw z : UInt64, (vals (ldF l i))[q]? = some (.int .u64 (cw.toNat : Int)) ∧ z = (cw <<< 8) ||| (l.getD i 0).toUInt64 ∧ (vals (ldF l i)).setIfInBounds q (.int .u64 (z.toNat : Int)) = vals (ldF l (i + 1)) := by
  by_cases h : i < 8
  · have hq0 : q = 0 := by omega
    subst hq0
    refine ⟨(ldF l i).a, _, rfl, rfl, ?_⟩
    rw [ldF, if_pos h]; rfl
  · have hq1 : q = 1 := by omega
    subst hq1
    refine ⟨(ldF l i).b, _, rfl, rfl, ?_⟩
    rw [ldF, if_neg h]; rfl
theorem two_alloc (w : World) (a b : Array Value) (t u : TypeId) :
    let w2 := (w.alloc (.cells a t)).alloc (.cells b u)
    w2.heap[w.heap.size]? = some (.cells a t (0, 0)) ∧ w2.heap[w.heap.size + 1]? = some (.cells b u (0, 0)) ∧ Fr (fun _ => False) w w2 := by
  intro w2
  have hA := heap_alloc_new w (.cells a t)
  have hB := heap_alloc_new (w.alloc (.cells a t)) (.cells b u)
  have fA := (Fr.refl (fun _ => False) (w.alloc (.cells a t))).alloc (.cells b u)
  simp only [World.size_alloc] at hB
  exact ⟨fA.heap hA id, hB, ((Fr.refl _ _).alloc _).alloc _⟩
set_option maxRecDepth 20000 in
set_option maxHeartbeats 2000000 in
theorem load_calls (l : List UInt8) (hl : l.length = 16) (w : World) : Calls Tryz.prog 52 #[.string (str l)] w fun e w' => e = .returned (.agg (vals (loadL l))) ∧ Fr (fun _ => False) w w' := by
  obtain ⟨h0, h1, hf⟩ := two_alloc w (vals W2.zero) (vals W2.zero) 97 97
  obtain ⟨S, hS⟩ : ∃ S, S = str l := ⟨_, rfl⟩
  have hsz : S.size = 16 := by rw [hS, str_size, hl]
  have HS := Lib.hid hS
  obtain ⟨R, hR⟩ : ∃ X, X = w.heap.size := ⟨_, rfl⟩
  obtain ⟨B, hB⟩ : ∃ X, X = w.heap.size + 1 := ⟨_, rfl⟩
  have HNE := Lib.hid (show w.heap.size ≤ R ∧ w.heap.size ≤ B ∧ R ≠ B by omega)
  rw [← hR] at h0
  rw [← hB] at h1
  rw [← hS]
  go_enter Tryz.func52, Tryz.ntmps52
  go_wp2
  change Code.wp _ _ _ _ ((w.alloc (.cells (vals W2.zero) 97)).alloc (.cells (vals W2.zero) 97))
  rw [← hB, ← hR]
  generalize (w.alloc (.cells (vals W2.zero) 97)).alloc (.cells (vals W2.zero) 97) = w2 at h0 h1 hf ⊢
  have H0 := Lib.hid h0
  have H1 := Lib.hid h1
  have HF := Lib.hid hf
  clear h0 h1 hf hR hB hS hl
  go_loopw [5] (fun v5 wr => ∃ i : Nat, i ≤ 16 ∧ v5 = .int .i64 i ∧ wr.heap[B]? = some (.cells (vals (ldF l i)) 97 (0, 0)) ∧ wr.heap[R]? = some (.cells (vals W2.zero) 97 (0, 0)) ∧ Fr (fun _ => False) w wr) (fun v _ => 16 - (intOf v).toNat)
  case atStart => exact ⟨0, Nat.zero_le _, rfl, H1.out, H0.out, HF.out⟩
  case round =>
    obtain ⟨i, hi, rfl, hb, hr, hf⟩ := hrel
    have HBr := Lib.hid hb
    have HRr := Lib.hid hr
    have HFr := Lib.hid hf
    clear hb hr hf H0 H1 HF
    by_cases hlt : i < 16
    · have hx16 : (i : Int) < 16 := by omega
      obtain ⟨q, r, hq1, hq2, hq3, hq4, hr1, hr2, hr3, hr8, hqd, hrd⟩ := idx8 i hlt
      obtain ⟨cw, z, hcw, hz, hset⟩ := ld_word l i q hlt hqd
      obtain ⟨x, hx⟩ : ∃ x, x = l.getD i 0 := ⟨_, rfl⟩
      rw [← hx] at hz
      have hxs : ∀ h, S[i]'h = x := by
        intro h
        have hk := HS.out
        subst hk
        rw [str_at32, hx]
      obtain ⟨c8, hc8⟩ : ∃ z, z = cw <<< 8 := ⟨_, rfl⟩
      have es1 : ((cw.toNat : Int) * 256) % 18446744073709551616 = (c8.toNat : Int) := by rw [hc8]; exact shl_u64 cw 8 8 rfl (by omega)
      have es2 : IntKind.u64.wrap ((cw.toNat : Int) * 256) = (c8.toNat : Int) := by rw [wrap_u64', es1]
      have eo : bits .or .u64 (c8.toNat : Int) (x.toNat : Int) = (z.toNat : Int) := by rw [hz, ← hc8, u8_64]; exact or_u64 _ _
      have c1 : wr.drew.cell? ⟨B, q, none⟩ = some (.int .u64 (cw.toNat : Int)) := (cell_of_row wr.drew B q _ _ _ HBr.out).trans hcw
      have fz : wr.drew.frozen? ⟨B, q, none⟩ = false := frozen_of_row wr.drew _ _ _ _ HBr.out
      have HB2 := Lib.hid (show (wr.drew.setCell ⟨B, q, none⟩ (.int .u64 (z.toNat : Int))).heap[B]? = some (.cells (vals (ldF l (i + 1))) 97 (0, 0)) by rw [← hset]; exact heap_setCell_same wr.drew B q _ _ _ HBr.out)
      have hfs : Fr (fun j => j = B) wr (wr.drew.setCell ⟨B, q, none⟩ (.int .u64 (z.toNat : Int))) := (Fr.refl _ _).drew.setCell _ _ (.inl rfl)
      have HR2 := Lib.hid (hfs.heap HRr.out HNE.out.2.2)
      have HF2 := Lib.hid (HFr.out.drew.setCell ⟨B, q, none⟩ (.int .u64 (z.toNat : Int)) (.inr HNE.out.2.1))
      have bc := cw.toNat_lt
      have bz := z.toNat_lt
      have bx := x.toNat_lt
      have b8 := c8.toNat_lt
      clear hx hz hc8 hset hcw hfs hqd hrd
      go_wp2
      refine wp_region_still_tail 13 (by kernel_rfl) (by kernel_rfl) ?_
      simp only [List.take_succ_cons, List.take_zero, List.drop_succ_cons, List.drop_zero]
      change wpStill _ _ wr.drew (fun a' => wpList _ _ _ _ a' wr.drew) _ _
      repeat still_step
      refine wpStill_nil ?_
      go_wp2
      go_roundw
      case rel => exact ⟨i + 1, by omega, by go_num, HB2.out, HR2.out, HF2.out⟩
      case measure => simp [intOf]; omega
    · have h16 : i = 16 := by omega
      subst h16
      obtain ⟨s, hs⟩ : ∃ s, s = ldF l 16 := ⟨_, rfl⟩
      have HLD := Lib.hid (show s = loadL l from hs)
      rw [← hs] at HBr
      have HBd := Lib.hid (show wr.heap[B]? = some (.cells #[.int .u64 (s.a.toNat : Int), .int .u64 (s.b.toNat : Int)] 97 (0, 0)) from HBr.out)
      have HRd := Lib.hid (show wr.heap[R]? = some (.cells #[.int .u64 0, .int .u64 0] 97 (0, 0)) from HRr.out)
      have HR2 := Lib.hid (show (wr.setRow R #[.int .u64 (s.a.toNat : Int), .int .u64 (s.b.toNat : Int)]).heap[R]? = some (.cells #[.int .u64 (s.a.toNat : Int), .int .u64 (s.b.toNat : Int)] 97 (0, 0)) from setRow_heap HRd.out)
      have HF2 := Lib.hid (HFr.out.setRow R #[.int .u64 (s.a.toNat : Int), .int .u64 (s.b.toNat : Int)] (.inr HNE.out.1))
      clear hs
      go_wp2_with (first
        | (with_reducible refine wpList_load127 (op := ⟨some 22, _, _, _, _, _⟩) rfl _ rfl B rfl _ _ HBd.out ?_)
        | (with_reducible refine wpList_store_whole (op := ⟨none, .store 97 _ _, _, _, _, _⟩) rfl 97 _ _ rfl R 97 #[.int .u64 0, .int .u64 0] #[.int .u64 (s.a.toNat : Int), .int .u64 (s.b.toNat : Int)] rfl rfl HRd.out rfl (by kernel_rfl) (by simp [Value.oneCell']) ?_))
      refine bodyPost_ret (results_cell_row rfl _ _ R 97 #[.int .u64 (s.a.toNat : Int), .int .u64 (s.b.toNat : Int)] (0, 0) _ rfl HR2.out Tryz.underlying97 rfl (by kernel_rfl)) rfl ?_
      exact ⟨by first | (rw [← HLD.out]; done) | (rw [← HLD.out]; rfl), HF2.out⟩
def txF (w : W2) (i : Nat) : UInt8 := UInt8.ofNat ((if i < 8 then w.a else w.b).toNat / 2 ^ (56 - 8 * (i % 8)))
def textL (w : W2) : List UInt8 := full (txF w) 16
theorem tx_word (x : W2) (i q r : Nat) (hi : i < 16) (hq : q = i / 8) (hr : r = i % 8) : ∃ cw : UInt64, (vals x)[q]? = some (.int .u64 (cw.toNat : Int)) ∧ ((cw.toNat : Int) / 2 ^ (56 - 8 * r)) % 256 = ((txF x i).toNat : Int) := by
  refine ⟨if i < 8 then x.a else x.b, ?_, ?_⟩
  · by_cases h : i < 8
    · rw [if_pos h, hq, show i / 8 = 0 by omega]; rfl
    · rw [if_neg h, hq, show i / 8 = 1 by omega]; rfl
  · unfold txF
    rw [hr]
    simp
set_option maxRecDepth 20000 in
set_option maxHeartbeats 2000000 in
theorem text_calls (x : W2) (w : World) : Calls Tryz.prog 56 #[.agg (vals x)] w fun e w' => e = .returned (.string (str (textL x))) ∧ Fr (fun _ => False) w w' := by
  obtain ⟨h0, h1, hf⟩ := two_alloc w (vals x) (bcells (List.replicate 16 0)).toArray 97 123
  obtain ⟨X, hX⟩ : ∃ X, X = w.heap.size := ⟨_, rfl⟩
  obtain ⟨B, hB⟩ : ∃ X, X = w.heap.size + 1 := ⟨_, rfl⟩
  have HNE := Lib.hid (show w.heap.size ≤ X ∧ w.heap.size ≤ B ∧ X ≠ B by omega)
  rw [← hX] at h0
  rw [← hB] at h1
  go_enter Tryz.func56, Tryz.ntmps56
  unfold vals
  go_wp2
  change Code.wp _ _ _ _ ((w.alloc (.cells (vals x) 97)).alloc (.cells (bcells (List.replicate 16 0)).toArray 123))
  rw [← hB, ← hX]
  generalize (w.alloc (.cells (vals x) 97)).alloc (.cells (bcells (List.replicate 16 0)).toArray 123) = w2 at h0 h1 hf ⊢
  have H0 := Lib.hid h0
  have H1 := Lib.hid h1
  have HF := Lib.hid hf
  clear h0 h1 hf hX hB
  go_loopw [5] (fun v5 wr => ∃ i : Nat, i ≤ 16 ∧ v5 = .int .i64 i ∧ wr.heap[X]? = some (.cells (vals x) 97 (0, 0)) ∧ wr.heap[B]? = some (.cells (bcells (upd (txF x) (List.replicate 16 0) i)).toArray 123 (0, 0)) ∧ Fr (fun _ => False) w wr) (fun v _ => 16 - (intOf v).toNat)
  case atStart => exact ⟨0, Nat.zero_le _, rfl, H0.out, by rw [upd_zero]; exact H1.out, HF.out⟩
  case round =>
    obtain ⟨i, hi, rfl, hx, hb, hf⟩ := hrel
    have HXr := Lib.hid hx
    have HBr := Lib.hid hb
    have HFr := Lib.hid hf
    clear hx hb hf H0 H1 HF
    by_cases hlt : i < 16
    · have hx16 : (i : Int) < 16 := by omega
      obtain ⟨q, r, hq1, hq2, hq3, hq4, hr1, hr2, hr3, hr8, hqd, hrd⟩ := idx8 i hlt
      obtain ⟨cw, hcw, hby⟩ := tx_word x i q r hlt hqd hrd
      obtain ⟨z, hz⟩ : ∃ z, z = txF x i := ⟨_, rfl⟩
      obtain ⟨r8, hr8d⟩ : ∃ k, k = 8 * r := ⟨_, rfl⟩
      obtain ⟨m, hm⟩ : ∃ m, m = 56 - 8 * r := ⟨_, rfl⟩
      have hw1 : IntKind.i64.wrap (8 * (r : Int)) = (r8 : Int) := by rw [IntWalk.i64_in _ (by omega)]; omega
      have hw2 : IntKind.i64.wrap (56 - (r8 : Int)) = (m : Int) := by rw [IntWalk.i64_in _ (by omega)]; omega
      have hm0 : (0 : Int) ≤ (m : Int) := by omega
      have hm1 : m ≤ 56 := by omega
      have hm2 : (m : Int) ≤ 64 := by omega
      rw [← hm, ← hz] at hby
      have hbw : IntKind.u8.wrap ((cw.toNat : Int) / 2 ^ m) = (z.toNat : Int) := by rw [IntKind.wrap_u8', hby]
      have c1 : wr.cell? ⟨X, q, none⟩ = some (.int .u64 (cw.toNat : Int)) := (cell_of_row wr X q _ _ _ HXr.out).trans hcw
      have cB : wr.cell? ⟨B, i, none⟩ = some (.int .u8 ((0 : UInt8).toNat : Int)) := bcells_cell HBr.out i 0 (by rw [upd_get _ _ _ _ (by simp; omega), if_neg (by omega), List.getD_eq_getElem?_getD, List.getElem?_replicate, if_pos hlt]; rfl)
      have fB : wr.frozen? ⟨B, i, none⟩ = false := frozen_of_row wr _ _ _ _ HBr.out
      have HB2 := Lib.hid (show (wr.setCell ⟨B, i, none⟩ (.int .u8 (z.toNat : Int))).heap[B]? = some (.cells (bcells (upd (txF x) (List.replicate 16 0) (i + 1))).toArray 123 (0, 0)) by
        rw [← upd_set _ _ _ (by simp; omega), ← hz]; exact bcells_set HBr.out i z)
      have hfs : Fr (fun j => j = B) wr (wr.setCell ⟨B, i, none⟩ (.int .u8 (z.toNat : Int))) := (Fr.refl _ _).setCell _ _ (.inl rfl)
      have HX2 := Lib.hid (hfs.heap HXr.out HNE.out.2.2)
      have HF2 := Lib.hid (HFr.out.setCell ⟨B, i, none⟩ (.int .u8 (z.toNat : Int)) (.inr HNE.out.2.1))
      have bc := cw.toNat_lt
      have bz := z.toNat_lt
      clear hz hm hr8d hcw hfs hqd hrd
      go_wp2
      go_roundw
      case rel => exact ⟨i + 1, by omega, by go_num, HX2.out, HB2.out, HF2.out⟩
      case measure => simp [intOf]; omega
    · have h16 : i = 16 := by omega
      subst h16
      have HBz := Lib.hid (show wr.heap[B]? = some (.cells (bcells (textL x)).toArray 123 (0, 0)) by have := HBr.out; rwa [upd_all _ _ 16 (by simp)] at this)
      have hcv := run_convert_str (P := Tryz.prog) wr 53 5 Tryz.underlying53 Tryz.underlying5 B 0 16 16 (textL x) (full_length _ _) (fun j v hj => by
        rw [Nat.zero_add, cell_of_row wr B j _ _ _ HBz.out]; simpa using hj) 9 Tryz.underlying9
      go_wp2
      go_ret
      exact ⟨rfl, HFr.out⟩
end Go.Proofs.YtcchhfkmhbjdmaaGreat
/-! Pg3 -/
set_option linter.unusedVariables false
set_option linter.unusedSimpArgs false
set_option pp.deepTerms true
set_option pp.maxSteps 100000
namespace Go.Proofs.YtcchhfkmhbjdmaaGreat
open Go.RowKit
def prodL (a b : List UInt8) : List UInt8 := textL (W2.times (loadL a) (loadL b))
def turnG (a b : List UInt8) (i : Nat) : UInt8 := a.getD i 0 ^^^ b.getD i 0
def turnL (a b : List UInt8) : List UInt8 := full (turnG a b) (min a.length b.length)
set_option maxRecDepth 20000 in
set_option maxHeartbeats 1000000 in
theorem gturn_calls (a b : List UInt8) (ha : a.length ≤ 100000) (hb : b.length ≤ 100000) (w : World) : Calls Tryz.prog 54 #[.string (str a), .string (str b)] w fun e w' => e = .returned (.string (str (turnL a b))) ∧ Fr (fun _ => False) w w' := by
  obtain ⟨A, hA⟩ : ∃ s, s = str a := ⟨_, rfl⟩
  obtain ⟨B, hB⟩ : ∃ s, s = str b := ⟨_, rfl⟩
  obtain ⟨la, hla⟩ : ∃ n, n = a.length := ⟨_, rfl⟩
  obtain ⟨lb, hlb⟩ : ∃ n, n = b.length := ⟨_, rfl⟩
  obtain ⟨m, hm⟩ : ∃ m, m = min a.length b.length := ⟨_, rfl⟩
  have hsa : A.size = la := by rw [hA, str_size, hla]
  have hsb : B.size = lb := by rw [hB, str_size, hlb]
  have hmin : min (la : Int) (lb : Int) = (m : Int) := by omega
  have hmk := make_zeros m (by omega) w
  have HA := Lib.hid hA
  have HB := Lib.hid hB
  have HM := Lib.hid (show m = min a.length b.length ∧ m ≤ la ∧ m ≤ lb ∧ m ≤ 100000 by omega)
  have hm1 : m ≤ la := HM.out.2.1
  have hm2 : m ≤ lb := HM.out.2.2.1
  have hm3 : m ≤ 100000 := HM.out.2.2.2
  rw [← hA, ← hB]
  clear hA hB hla hlb hm ha hb
  go_enter Tryz.func54, Tryz.ntmps54
  go_wp2_with fail
  have hR := heap_alloc_new w (.cells (bcells (List.replicate m 0)).toArray 5)
  have hf : Fr (fun _ => False) w (w.alloc (.cells (bcells (List.replicate m 0)).toArray 5)) := (Fr.refl _ _).alloc _
  obtain ⟨R, hRd⟩ : ∃ R, R = w.heap.size := ⟨_, rfl⟩
  rw [← hRd] at hR ⊢
  generalize w.alloc (.cells (bcells (List.replicate m 0)).toArray 5) = w1 at hR hf ⊢
  have HR := Lib.hid hR
  have HF := Lib.hid hf
  have HRW := Lib.hid (show w.heap.size ≤ R by omega)
  clear hR hf hRd hmk hmin
  go_loopw [15] (fun v wr => ∃ i : Nat, i ≤ m ∧ v = .int .i64 i ∧ wr.heap[R]? = some (.cells (bcells (upd (turnG a b) (List.replicate m 0) i)).toArray 5 (0, 0)) ∧ Fr (fun _ => False) w wr) (fun v _ => m - (intOf v).toNat)
  case atStart => exact ⟨0, Nat.zero_le _, rfl, by rw [upd_zero]; exact HR.out, HF.out⟩
  case round =>
    obtain ⟨i, hi, rfl, hr, hf⟩ := hrel
    have HRr := Lib.hid hr
    have HFr := Lib.hid hf
    clear hr hf HR HF
    by_cases hlt : i < m
    · have hx : (i : Int) < (m : Int) := by omega
      have hxa : (i : Int) < (la : Int) := by omega
      have hxb : (i : Int) < (lb : Int) := by omega
      obtain ⟨x, hxd⟩ : ∃ x, x = a.getD i 0 := ⟨_, rfl⟩
      obtain ⟨y, hyd⟩ : ∃ x, x = b.getD i 0 := ⟨_, rfl⟩
      obtain ⟨z, hz⟩ : ∃ z, z = x ^^^ y := ⟨_, rfl⟩
      have e1 := xor_u8 x y
      rw [← hz] at e1
      have hAs : ∀ h, A[i]'h = x := by
        intro h
        have hk := HA.out
        subst hk
        rw [str_at32, hxd]
      have hBs : ∀ h, B[i]'h = y := by
        intro h
        have hk := HB.out
        subst hk
        rw [str_at32, hyd]
      have cR : wr.drew.cell? ⟨R, i, none⟩ = some (.int .u8 ((0 : UInt8).toNat : Int)) := bcells_cell (w := wr.drew) HRr.out i 0 (by rw [upd_get _ _ _ _ (by simp; omega), if_neg (by omega), List.getD_eq_getElem?_getD, List.getElem?_replicate, if_pos hlt]; rfl)
      have fR : wr.drew.frozen? ⟨R, i, none⟩ = false := frozen_of_row wr.drew _ _ _ _ HRr.out
      have HR2 := Lib.hid (show (wr.drew.setCell ⟨R, i, none⟩ (.int .u8 (z.toNat : Int))).heap[R]? = some (.cells (bcells (upd (turnG a b) (List.replicate m 0) (i + 1))).toArray 5 (0, 0)) by
        rw [← upd_set _ _ _ (by simp; omega), show turnG a b i = z by rw [hz, hxd, hyd]; rfl]
        exact bcells_set (w := wr.drew) HRr.out i z)
      have HF2 := Lib.hid (HFr.out.drew.setCell ⟨R, i, none⟩ (.int .u8 (z.toNat : Int)) (.inr HRW.out))
      have bx := x.toNat_lt
      have by' := y.toNat_lt
      have bz := z.toNat_lt
      clear hxd hyd hz
      go_wp2
      refine wp_region_still_tail 10 (by kernel_rfl) (by kernel_rfl) ?_
      simp only [List.take_succ_cons, List.take_zero, List.drop_succ_cons, List.drop_zero]
      change wpStill _ _ wr.drew (fun a' => wpList _ _ _ _ a' wr.drew) _ _
      repeat still_step
      refine wpStill_nil ?_
      go_wp2
      go_roundw
      case rel => exact ⟨i + 1, by omega, by go_num, HR2.out, HF2.out⟩
      case measure => simp [intOf]; omega
    · have him : i = m := by omega
      have HRz := Lib.hid (show wr.heap[R]? = some (.cells (bcells (turnL a b)).toArray 5 (0, 0)) by
        have := HRr.out
        rw [him, upd_all _ _ m (by simp), HM.out.1] at this
        exact this)
      have hcv := run_convert_str (P := Tryz.prog) wr 53 5 Tryz.underlying53 Tryz.underlying5 R 0 m m (turnL a b) (by rw [HM.out.1]; exact full_length _ _) (fun j v hj => by
        rw [Nat.zero_add, cell_of_row wr R j _ _ _ HRz.out]; simpa using hj) 9 Tryz.underlying9
      clear him
      go_wp2
      go_ret
      exact ⟨rfl, HFr.out⟩
def fillL (s : List UInt8) : List UInt8 := s ++ List.replicate ((16 - s.length % 16) % 16) 0
theorem fill_idx (n : Nat) (hn : n ≤ 1000000) : ∃ q r p : Nat, (n : Int).tmod 16 = (q : Int) ∧ (n : Int) % 16 = (q : Int) ∧ IntKind.i64.wrap (q : Int) = (q : Int) ∧ IntKind.i64.wrap (16 - (q : Int)) = (r : Int) ∧ IntKind.i64.wrap (r : Int) = (r : Int) ∧ (r : Int).tmod 16 = (p : Int) ∧ (r : Int) % 16 = (p : Int) ∧ IntKind.i64.wrap (p : Int) = (p : Int) ∧ p < 16 ∧ p = (16 - n % 16) % 16 := by
  refine ⟨n % 16, 16 - n % 16, (16 - n % 16) % 16, ?_, by omega, IntWalk.i64_in _ (by omega), ?_, IntWalk.i64_in _ (by omega), ?_, by omega, IntWalk.i64_in _ (by omega), by omega, rfl⟩
  · rw [Int.tmod_eq_emod_of_nonneg (by omega)]; omega
  · rw [IntWalk.i64_in _ (by omega)]; omega
  · rw [Int.tmod_eq_emod_of_nonneg (by omega)]; omega
set_option maxRecDepth 20000 in
set_option maxHeartbeats 1000000 in
theorem fill_calls (s : List UInt8) (hs : s.length ≤ 1000000) (w : World) : Calls Tryz.prog 55 #[.string (str s)] w fun e w' => e = .returned (.string (str (fillL s))) ∧ Fr (fun _ => False) w w' := by
  obtain ⟨S, hS⟩ : ∃ t, t = str s := ⟨_, rfl⟩
  obtain ⟨n, hn⟩ : ∃ n, n = s.length := ⟨_, rfl⟩
  have hsz : S.size = n := by rw [hS, str_size, hn]
  obtain ⟨q, r, p, hq1, hq2, hq3, hr1, hr2, hp1, hp2, hp3, hp16, hpd⟩ := fill_idx n (by omega)
  obtain ⟨Z, hZ⟩ : ∃ t, t = str (List.replicate p 0) := ⟨_, rfl⟩
  obtain ⟨O, hO⟩ : ∃ t, t = str (fillL s) := ⟨_, rfl⟩
  have hap : S ++ Z = O := by rw [hS, hZ, hO, jstr_append, hpd, hn]; rfl
  have hzs : Z.size = p := by rw [hZ, str_size, List.length_replicate]
  have hb1 : ¬ 9223372036854775807 < S.size + Z.size := by omega
  have hb2 : S.size + Z.size ≤ 9223372036854775807 := by omega
  have hb3 : n + Z.size ≤ 9223372036854775807 := by omega
  have HRep := Lib.hid (show ∀ w, Calls Tryz.prog 50 #[.string ⟨#[0]⟩, .int .i64 (p : Int)] w fun e w' => e = .returned (.string Z) ∧ Fr (fun _ => False) w w' from fun w => by rw [hZ]; exact repeat_zeros p (by omega) w)
  rw [← hS, ← hO]
  clear hS hn hZ hO hpd hs
  go_enter Tryz.func55, Tryz.ntmps55
  go_wp2_with fail
  refine (HRep.out w).mono ?_
  rintro e w1 ⟨rfl, f1⟩
  have F1 := Lib.hid f1
  clear f1
  go_wp2_with fail
  go_ret
  exact ⟨rfl, F1.out⟩
end Go.Proofs.YtcchhfkmhbjdmaaGreat
