/- Words of 64 bits as the model has them; the product. -/
import Derived.Test.YtcchhfkmhbjdmaaPg0
import Derived.Test.YtcchhfkmhbjdmaaL3
import Derived.Test.YtcchhfkmhbjdmaaKe
import Derived.Laws.BitsAllLaws
set_option linter.unusedVariables false
set_option linter.unusedSimpArgs false
set_option pp.deepTerms true
set_option pp.maxSteps 100000
namespace Go.Proofs.Ytcchhfkmhbjdmaa
open Go.RowKit
theorem xor_u64 (a b : UInt64) : bits .xor .u64 (a.toNat : Int) (b.toNat : Int) = ((a ^^^ b).toNat : Int) := by
  rw [u64_xor_nat _ _ a.toNat_lt b.toNat_lt, UInt64.toNat_xor]
theorem and_u64 (a b : UInt64) : bits .and .u64 (a.toNat : Int) (b.toNat : Int) = ((a &&& b).toNat : Int) := by
  rw [u64_and_nat _ _ a.toNat_lt b.toNat_lt, UInt64.toNat_and]
theorem or_u64 (a b : UInt64) : bits .or .u64 (a.toNat : Int) (b.toNat : Int) = ((a ||| b).toNat : Int) := by
  rw [u64_or_nat _ _ a.toNat_lt b.toNat_lt, UInt64.toNat_or]
theorem shl_u64 (a : UInt64) (k : Nat) (s : UInt64) (hk : s.toNat = k) (h : k < 64) : ((a.toNat : Int) * ((2 ^ k : Nat) : Int)) % 18446744073709551616 = ((a <<< s).toNat : Int) := by
  rw [UInt64.toNat_shiftLeft, hk, Nat.mod_eq_of_lt h, Nat.shiftLeft_eq]
  rw [← Int.natCast_mul]; omega
theorem shr_u64 (a : UInt64) (k : Nat) (s : UInt64) (hk : s.toNat = k) (h : k < 64) : (a.toNat : Int) / ((2 ^ k : Nat) : Int) = ((a >>> s).toNat : Int) := by
  rw [UInt64.toNat_shiftRight, hk, Nat.mod_eq_of_lt h, Nat.shiftRight_eq_div_pow, Int.natCast_ediv]
theorem mul_u64 (a b : UInt64) : ((a.toNat : Int) * (b.toNat : Int)) % 18446744073709551616 = ((a * b).toNat : Int) := by
  rw [UInt64.toNat_mul, ← Int.natCast_mul]; omega
def vals (w : W2) : Array Value := #[.int .u64 (w.a.toNat : Int), .int .u64 (w.b.toNat : Int)]
theorem wrap_u64' (n : Int) : IntKind.u64.wrap n = n % 18446744073709551616 := by simp [IntKind.wrap, IntKind.bits, IntKind.signed]
/-- A word's bit, as the code takes it. -/
theorem bit_word (x : UInt64) (m : Nat) (hm : m < 64) : bits .and .u64 ((x.toNat : Int) / 2 ^ m) 1 = if x.toBitVec.getLsbD m then 1 else 0 := by
  have h1 : (x.toNat : Int) / 2 ^ m = ((x.toNat / 2 ^ m : Nat) : Int) := by rw [Int.natCast_ediv]; norm_cast
  have hlt : x.toNat / 2 ^ m < 18446744073709551616 := Nat.lt_of_le_of_lt (Nat.div_le_self _ _) x.toNat_lt
  rw [h1, show (1 : Int) = ((1 : Nat) : Int) from rfl, u64_and_nat _ _ hlt (by omega), Nat.and_one_is_mod]
  have h2 : x.toBitVec.getLsbD m = decide (x.toNat / 2 ^ m % 2 = 1) := by
    rw [BitVec.getLsbD]
    show x.toNat.testBit m = _
    rw [Nat.testBit_eq_decide_div_mod_eq]
  rw [h2]
  by_cases h : x.toNat / 2 ^ m % 2 = 1
  · simp [h]
  · simp [show x.toNat / 2 ^ m % 2 = 0 by omega]
section
variable {ops : Array Oper} {rest : List Oper} {op : Oper} {a : Act} {w : World} {Q : Exit → Act → World → Prop}
theorem wpList_load127 (hgd : op.guard = none) (x : Operand) (ho : op.op = .load 127 x) (V : Nat) (hx : a.eval x = .pointer (some ⟨V, 0, none⟩)) (u v : Value)
    (hg : w.heap[V]? = some (.cells #[u, v] 127 (0, 0))) (h : wpList Try.prog ops Q rest (a.put op.dst (.agg #[u, v])) w) : wpList Try.prog ops Q (op :: rest) a w :=
  wpList_load_row hgd 127 x ho V hx 127 #[u, v] (0, 0) _ hg Try.underlying127 rfl (by kernel_rfl) h
end
theorem four_alloc (w : World) (a b c d : Array Value) (t : TypeId) :
    let w4 := (((w.alloc (.cells a t)).alloc (.cells b t)).alloc (.cells c t)).alloc (.cells d t)
    w4.heap[w.heap.size]? = some (.cells a t (0, 0)) ∧ w4.heap[w.heap.size + 1]? = some (.cells b t (0, 0)) ∧ w4.heap[w.heap.size + 1 + 1]? = some (.cells c t (0, 0)) ∧ w4.heap[w.heap.size + 1 + 1 + 1]? = some (.cells d t (0, 0)) ∧ Fr (fun _ => False) w w4 := by
  intro w4
  have hA := heap_alloc_new w (.cells a t)
  have hB := heap_alloc_new (w.alloc (.cells a t)) (.cells b t)
  have hC := heap_alloc_new ((w.alloc (.cells a t)).alloc (.cells b t)) (.cells c t)
  have hD := heap_alloc_new (((w.alloc (.cells a t)).alloc (.cells b t)).alloc (.cells c t)) (.cells d t)
  have fA := (((Fr.refl (fun _ => False) (w.alloc (.cells a t))).alloc (.cells b t)).alloc (.cells c t)).alloc (.cells d t)
  have fB := ((Fr.refl (fun _ => False) ((w.alloc (.cells a t)).alloc (.cells b t))).alloc (.cells c t)).alloc (.cells d t)
  have fC := (Fr.refl (fun _ => False) (((w.alloc (.cells a t)).alloc (.cells b t)).alloc (.cells c t))).alloc (.cells d t)
  simp only [World.size_alloc] at hB hC hD
  exact ⟨fA.heap hA id, fB.heap hB id, fC.heap hC id, hD, ((((Fr.refl _ _).alloc _).alloc _).alloc _).alloc _⟩
theorem word_at (x : W2) (i : Nat) (hi : i < 128) : ∃ (q r m : Nat) (xw : UInt64), (i : Int).tdiv 64 = (q : Int) ∧ (i : Int) / 64 = (q : Int) ∧ IntKind.i64.wrap (q : Int) = (q : Int) ∧ (q : Int) < 2 ∧ (i : Int).tmod 64 = (r : Int) ∧ (i : Int) % 64 = (r : Int) ∧ IntKind.i64.wrap (r : Int) = (r : Int) ∧ IntKind.i64.wrap (63 - (r : Int)) = (m : Int) ∧ m < 64 ∧ (vals x)[q]? = some (.int .u64 (xw.toNat : Int)) ∧ W2.bit x i = xw.toBitVec.getLsbD m := by
  refine ⟨i / 64, i % 64, 63 - i % 64, if i < 64 then x.a else x.b, ?_, by omega, IntWalk.i64_in _ (by omega), by omega, ?_, by omega, IntWalk.i64_in _ (by omega), ?_, by omega, ?_, ?_⟩
  · rw [Int.tdiv_eq_ediv_of_nonneg (by omega)]; omega
  · rw [Int.tmod_eq_emod_of_nonneg (by omega)]; omega
  · rw [IntWalk.i64_in _ (by omega)]; omega
  · by_cases h : i < 64
    · rw [if_pos h, show i / 64 = 0 by omega]; rfl
    · rw [if_neg h, show i / 64 = 1 by omega]; rfl
  · unfold W2.bit
    by_cases h : i < 64
    · rw [if_pos h, if_pos h, show i % 64 = i by omega]
    · rw [if_neg h, if_neg h, show 63 - i % 64 = 127 - i by omega]
set_option maxRecDepth 20000 in
set_option maxHeartbeats 2000000 in
theorem times_calls (x v : W2) (w : World) : Calls Try.prog 90 #[.agg (vals x), .agg (vals v)] w fun e w' => e = .returned (.agg (vals (W2.times x v))) ∧ Fr (fun _ => False) w w' := by
  obtain ⟨h0, h1, h2, h3, hf⟩ := four_alloc w (vals x) (vals v) (vals W2.zero) (vals W2.zero) 127
  obtain ⟨X, hX⟩ : ∃ X, X = w.heap.size := ⟨_, rfl⟩
  obtain ⟨V, hV⟩ : ∃ X, X = w.heap.size + 1 := ⟨_, rfl⟩
  obtain ⟨R, hR⟩ : ∃ X, X = w.heap.size + 1 + 1 := ⟨_, rfl⟩
  obtain ⟨O, hO⟩ : ∃ X, X = w.heap.size + 1 + 1 + 1 := ⟨_, rfl⟩
  have HNE := Lib.hid (show w.heap.size ≤ X ∧ w.heap.size ≤ V ∧ w.heap.size ≤ R ∧ w.heap.size ≤ O ∧ X ≠ V ∧ X ≠ O ∧ V ≠ O ∧ R ≠ V ∧ R ≠ O by omega)
  rw [← hX] at h0
  rw [← hV] at h1
  rw [← hR] at h2
  rw [← hO] at h3
  go_enter Try.func90, Try.ntmps90
  unfold vals
  go_wp2
  change Code.wp _ _ _ _ ((((w.alloc (.cells (vals x) 127)).alloc (.cells (vals v) 127)).alloc (.cells (vals W2.zero) 127)).alloc (.cells (vals W2.zero) 127))
  rw [← hO, ← hR, ← hV, ← hX]
  generalize (((w.alloc (.cells (vals x) 127)).alloc (.cells (vals v) 127)).alloc (.cells (vals W2.zero) 127)).alloc (.cells (vals W2.zero) 127) = w4 at h0 h1 h2 h3 hf ⊢
  have H0 := Lib.hid h0
  have H1 := Lib.hid h1
  have H2 := Lib.hid h2
  have H3 := Lib.hid h3
  have HF := Lib.hid hf
  obtain ⟨f, hfd⟩ : ∃ f : Nat → W2, f = fun j => W2.sel (W2.bit x j) (W2.pw j v) := ⟨_, rfl⟩
  have HFD := Lib.hid hfd
  clear h0 h1 h2 h3 hf hX hV hR hO hfd
  go_loopw [7] (fun v7 wr => ∃ i : Nat, i ≤ 128 ∧ v7 = .int .i64 i ∧ wr.heap[X]? = some (.cells (vals x) 127 (0, 0)) ∧ wr.heap[V]? = some (.cells (vals (W2.pw i v)) 127 (0, 0)) ∧ wr.heap[O]? = some (.cells (vals (W2.S i f)) 127 (0, 0)) ∧ wr.heap[R]? = some (.cells (vals W2.zero) 127 (0, 0)) ∧ Fr (fun _ => False) w wr) (fun v _ => 128 - (intOf v).toNat)
  case atStart => exact ⟨0, Nat.zero_le _, rfl, H0.out, H1.out, H3.out, H2.out, HF.out⟩
  case round =>
    obtain ⟨i, hi, rfl, hx, hv, ho, hr, hf⟩ := hrel
    have HXr := Lib.hid hx
    have HVr := Lib.hid hv
    have HOr := Lib.hid ho
    have HRr := Lib.hid hr
    have HFr := Lib.hid hf
    clear hx hv ho hr hf H0 H1 H2 H3 HF
    by_cases hlt : i < 128
    · have hx128 : (i : Int) < 128 := by omega
      obtain ⟨q, r, m, xw, hq1, hq2, hq3, hq4, hr1, hr2, hr3, hm1, hm2, hcw, hbit⟩ := word_at x i hlt
      have hbw := bit_word xw m hm2
      rw [← hbit] at hbw
      have cX : wr.cell? ⟨X, q, none⟩ = some (.int .u64 (xw.toNat : Int)) := (cell_of_row wr X q _ _ _ HXr.out).trans hcw
      have hm0 : (0 : Int) ≤ (m : Int) := by omega
      have hm3 : (m : Int) ≤ 64 := by omega
      obtain ⟨p, hp⟩ : ∃ p, p = W2.pw i v := ⟨_, rfl⟩
      obtain ⟨s, hs⟩ : ∃ s, s = W2.S i f := ⟨_, rfl⟩
      have HPN := Lib.hid (show W2.pw (i + 1) v = W2.T p by rw [hp]; rfl)
      have HSN := Lib.hid (show W2.S (i + 1) f = W2.xr s (W2.sel (W2.bit x i) p) by rw [hs, hp]; show W2.xr _ (f i) = _; rw [HFD.out])
      rw [← hp] at HVr
      rw [← hs] at HOr
      have cV0 : wr.cell? ⟨V, 0, none⟩ = some (.int .u64 (p.a.toNat : Int)) := (cell_of_row wr V 0 _ _ _ HVr.out).trans rfl
      have cV1 : wr.cell? ⟨V, 1, none⟩ = some (.int .u64 (p.b.toNat : Int)) := (cell_of_row wr V 1 _ _ _ HVr.out).trans rfl
      obtain ⟨s0, hs0⟩ : ∃ z, z = p.a >>> 1 := ⟨_, rfl⟩
      obtain ⟨a1, ha1⟩ : ∃ z, z = p.b &&& 1 := ⟨_, rfl⟩
      obtain ⟨m1, hm1'⟩ : ∃ z, z = 0xe100000000000000 * a1 := ⟨_, rfl⟩
      obtain ⟨n0, hn0⟩ : ∃ z, z = s0 ^^^ m1 := ⟨_, rfl⟩
      obtain ⟨s1, hs1⟩ : ∃ z, z = p.b >>> 1 := ⟨_, rfl⟩
      obtain ⟨s2, hs2⟩ : ∃ z, z = p.a <<< 63 := ⟨_, rfl⟩
      obtain ⟨n1, hn1⟩ : ∃ z, z = s1 ||| s2 := ⟨_, rfl⟩
      have HTP := Lib.hid (show W2.T p = ⟨n0, n1⟩ by unfold W2.T; rw [hn0, hn1, hs0, hs1, hs2, hm1', ha1])
      have es0 : (p.a.toNat : Int) / 2 = (s0.toNat : Int) := by rw [hs0]; exact shr_u64 p.a 1 1 rfl (by omega)
      have es1 : (p.b.toNat : Int) / 2 = (s1.toNat : Int) := by rw [hs1]; exact shr_u64 p.b 1 1 rfl (by omega)
      have es2 : ((p.a.toNat : Int) * 9223372036854775808) % 18446744073709551616 = (s2.toNat : Int) := by rw [hs2]; exact shl_u64 p.a 63 63 rfl (by omega)
      have es2b : IntKind.u64.wrap ((p.a.toNat : Int) * 9223372036854775808) = (s2.toNat : Int) := by rw [wrap_u64', es2]
      have ea1 : bits .and .u64 (p.b.toNat : Int) 1 = (a1.toNat : Int) := by rw [ha1]; exact and_u64 p.b 1
      have em1 : (16212958658533785600 * (a1.toNat : Int)) % 18446744073709551616 = (m1.toNat : Int) := by rw [hm1']; exact mul_u64 0xe100000000000000 a1
      have em2 : IntKind.u64.wrap (16212958658533785600 * (a1.toNat : Int)) = (m1.toNat : Int) := by rw [wrap_u64', em1]
      have en0 : bits .xor .u64 (s0.toNat : Int) (m1.toNat : Int) = (n0.toNat : Int) := by rw [hn0]; exact xor_u64 _ _
      have en1 : bits .or .u64 (s1.toNat : Int) (s2.toNat : Int) = (n1.toNat : Int) := by rw [hn1]; exact or_u64 _ _
      have bbpa := p.a.toNat_lt
      have bbpb := p.b.toNat_lt
      have bbs0 := s0.toNat_lt
      have bba1 := a1.toNat_lt
      have bbm1 := m1.toNat_lt
      have bbn0 := n0.toNat_lt
      have bbs1 := s1.toNat_lt
      have bbs2 := s2.toNat_lt
      have bbn1 := n1.toNat_lt
      have bbxw := xw.toNat_lt
      clear hs0 ha1 hm1' hn0 hs1 hs2 hn1
      clear hp hs hcw
      cases hbb : W2.bit x i with
      | false =>
        rw [hbb] at hbw HSN
        rw [if_neg (by simp)] at hbw
        have HON := Lib.hid (show wr.heap[O]? = some (.cells (vals (W2.S (i + 1) f)) 127 (0, 0)) by rw [HSN.out, show W2.sel false p = W2.zero from rfl, W2.xr_zero]; exact HOr.out)
        have HVd := Lib.hid (show wr.heap[V]? = some (.cells #[.int .u64 (p.a.toNat : Int), .int .u64 (p.b.toNat : Int)] 127 (0, 0)) from HVr.out)
        have hfs : Fr (fun j => j = V) wr (wr.setRow V #[.int .u64 (n0.toNat : Int), .int .u64 (n1.toNat : Int)]) := (Fr.refl _ _).setRow _ _ (.inl rfl)
        have HX2 := Lib.hid (hfs.heap HXr.out HNE.out.2.2.2.2.1)
        have HO2 := Lib.hid (hfs.heap HON.out (Ne.symm HNE.out.2.2.2.2.2.2.1))
        have HR2 := Lib.hid (hfs.heap HRr.out HNE.out.2.2.2.2.2.2.2.1)
        have HV2 := Lib.hid (show (wr.setRow V #[.int .u64 (n0.toNat : Int), .int .u64 (n1.toNat : Int)]).heap[V]? = some (.cells (vals (W2.pw (i + 1) v)) 127 (0, 0)) by rw [HPN.out, HTP.out]; exact setRow_heap HVr.out)
        have HF2 := Lib.hid (HFr.out.setRow V #[.int .u64 (n0.toNat : Int), .int .u64 (n1.toNat : Int)] (.inr HNE.out.2.1))
        clear hfs hbit hbb
        go_wp2_with (with_reducible refine wpList_store_whole (op := ⟨none, .store 127 _ _, _, _, _, _⟩) rfl 127 _ _ rfl V 127 #[.int .u64 (p.a.toNat : Int), .int .u64 (p.b.toNat : Int)] #[.int .u64 (n0.toNat : Int), .int .u64 (n1.toNat : Int)] rfl rfl HVd.out rfl (by kernel_rfl) (by simp [Value.oneCell']) ?_)
        go_roundw
        case rel => exact ⟨i + 1, by omega, by go_num, HX2.out, HV2.out, HO2.out, HR2.out, HF2.out⟩
        case measure => simp [intOf]; omega
      | true =>
        rw [hbb] at hbw HSN
        rw [if_pos rfl] at hbw
        have HXS := Lib.hid (show W2.xr s p = ⟨s.a ^^^ p.a, s.b ^^^ p.b⟩ from rfl)
        obtain ⟨z0, hz0⟩ : ∃ z, z = s.a ^^^ p.a := ⟨_, rfl⟩
        obtain ⟨z1, hz1⟩ : ∃ z, z = s.b ^^^ p.b := ⟨_, rfl⟩
        have ez0 : bits .xor .u64 (s.a.toNat : Int) (p.a.toNat : Int) = (z0.toNat : Int) := by rw [hz0]; exact xor_u64 _ _
        have ez1 : bits .xor .u64 (s.b.toNat : Int) (p.b.toNat : Int) = (z1.toNat : Int) := by rw [hz1]; exact xor_u64 _ _
        have HSZ := Lib.hid (show W2.S (i + 1) f = ⟨z0, z1⟩ by rw [HSN.out, show W2.sel true p = p from rfl, HXS.out, hz0, hz1])
        have bz0 := z0.toNat_lt
        have bz1 := z1.toNat_lt
        have bs0 := s.a.toNat_lt
        have bs1 := s.b.toNat_lt
        have cO0 : wr.cell? ⟨O, 0, none⟩ = some (.int .u64 (s.a.toNat : Int)) := (cell_of_row wr O 0 _ _ _ HOr.out).trans rfl
        have fO0 : wr.frozen? ⟨O, 0, none⟩ = false := frozen_of_row wr _ _ _ _ HOr.out
        have hO2 : (wr.setCell ⟨O, 0, none⟩ (.int .u64 (z0.toNat : Int))).heap[O]? = some (.cells #[.int .u64 (z0.toNat : Int), .int .u64 (s.b.toNat : Int)] 127 (0, 0)) := heap_setCell_same wr O 0 _ _ _ HOr.out
        have cO1 : (wr.setCell ⟨O, 0, none⟩ (.int .u64 (z0.toNat : Int))).cell? ⟨O, 1, none⟩ = some (.int .u64 (s.b.toNat : Int)) := (cell_of_row _ O 1 _ _ _ hO2).trans rfl
        have fO1 : (wr.setCell ⟨O, 0, none⟩ (.int .u64 (z0.toNat : Int))).frozen? ⟨O, 1, none⟩ = false := frozen_of_row _ _ _ _ _ hO2
        have hf1 : Fr (fun j => j = O) wr (wr.setCell ⟨O, 0, none⟩ (.int .u64 (z0.toNat : Int))) := (Fr.refl _ _).setCell _ _ (.inl rfl)
        have hf2 : Fr (fun j => j = O) wr ((wr.setCell ⟨O, 0, none⟩ (.int .u64 (z0.toNat : Int))).setCell ⟨O, 1, none⟩ (.int .u64 (z1.toNat : Int))) := hf1.setCell _ _ (.inl rfl)
        have hO3 : ((wr.setCell ⟨O, 0, none⟩ (.int .u64 (z0.toNat : Int))).setCell ⟨O, 1, none⟩ (.int .u64 (z1.toNat : Int))).heap[O]? = some (.cells #[.int .u64 (z0.toNat : Int), .int .u64 (z1.toNat : Int)] 127 (0, 0)) := heap_setCell_same _ O 1 _ _ _ hO2
        have dV1 : (wr.setCell ⟨O, 0, none⟩ (.int .u64 (z0.toNat : Int))).cell? ⟨V, 1, none⟩ = some (.int .u64 (p.b.toNat : Int)) := hf1.cell cV1 HNE.out.2.2.2.2.2.2.1
        have eV0 : ((wr.setCell ⟨O, 0, none⟩ (.int .u64 (z0.toNat : Int))).setCell ⟨O, 1, none⟩ (.int .u64 (z1.toNat : Int))).cell? ⟨V, 0, none⟩ = some (.int .u64 (p.a.toNat : Int)) := hf2.cell cV0 HNE.out.2.2.2.2.2.2.1
        have eV1 : ((wr.setCell ⟨O, 0, none⟩ (.int .u64 (z0.toNat : Int))).setCell ⟨O, 1, none⟩ (.int .u64 (z1.toNat : Int))).cell? ⟨V, 1, none⟩ = some (.int .u64 (p.b.toNat : Int)) := hf2.cell cV1 HNE.out.2.2.2.2.2.2.1
        obtain ⟨w5, hw5⟩ : ∃ w5, w5 = (wr.setCell ⟨O, 0, none⟩ (.int .u64 (z0.toNat : Int))).setCell ⟨O, 1, none⟩ (.int .u64 (z1.toNat : Int)) := ⟨_, rfl⟩
        have HV5 := Lib.hid (show ((wr.setCell ⟨O, 0, none⟩ (.int .u64 (z0.toNat : Int))).setCell ⟨O, 1, none⟩ (.int .u64 (z1.toNat : Int))).heap[V]? = some (.cells #[.int .u64 (p.a.toNat : Int), .int .u64 (p.b.toNat : Int)] 127 (0, 0)) from hf2.heap HVr.out HNE.out.2.2.2.2.2.2.1)
        have hfs : Fr (fun j => j = V) ((wr.setCell ⟨O, 0, none⟩ (.int .u64 (z0.toNat : Int))).setCell ⟨O, 1, none⟩ (.int .u64 (z1.toNat : Int))) (((wr.setCell ⟨O, 0, none⟩ (.int .u64 (z0.toNat : Int))).setCell ⟨O, 1, none⟩ (.int .u64 (z1.toNat : Int))).setRow V #[.int .u64 (n0.toNat : Int), .int .u64 (n1.toNat : Int)]) := (Fr.refl _ _).setRow _ _ (.inl rfl)
        have HX2 := Lib.hid (hfs.heap (hf2.heap HXr.out HNE.out.2.2.2.2.2.1) HNE.out.2.2.2.2.1)
        have HO2 := Lib.hid (show (((wr.setCell ⟨O, 0, none⟩ (.int .u64 (z0.toNat : Int))).setCell ⟨O, 1, none⟩ (.int .u64 (z1.toNat : Int))).setRow V #[.int .u64 (n0.toNat : Int), .int .u64 (n1.toNat : Int)]).heap[O]? = some (.cells (vals (W2.S (i + 1) f)) 127 (0, 0)) by rw [HSZ.out]; exact hfs.heap hO3 (Ne.symm HNE.out.2.2.2.2.2.2.1))
        have HR2 := Lib.hid (hfs.heap (hf2.heap HRr.out HNE.out.2.2.2.2.2.2.2.2) HNE.out.2.2.2.2.2.2.2.1)
        have HV2 := Lib.hid (show (((wr.setCell ⟨O, 0, none⟩ (.int .u64 (z0.toNat : Int))).setCell ⟨O, 1, none⟩ (.int .u64 (z1.toNat : Int))).setRow V #[.int .u64 (n0.toNat : Int), .int .u64 (n1.toNat : Int)]).heap[V]? = some (.cells (vals (W2.pw (i + 1) v)) 127 (0, 0)) by rw [HPN.out, HTP.out]; exact setRow_heap HV5.out)
        have HF2 := Lib.hid (((HFr.out.setCell ⟨O, 0, none⟩ (.int .u64 (z0.toNat : Int)) (.inr HNE.out.2.2.2.1)).setCell ⟨O, 1, none⟩ (.int .u64 (z1.toNat : Int)) (.inr HNE.out.2.2.2.1)).setRow V #[.int .u64 (n0.toNat : Int), .int .u64 (n1.toNat : Int)] (.inr HNE.out.2.1))
        clear hfs hf1 hf2 hO2 hO3 hz0 hz1 hw5 hbit hbb
        go_wp2_with (with_reducible refine wpList_store_whole (op := ⟨none, .store 127 _ _, _, _, _, _⟩) rfl 127 _ _ rfl V 127 #[.int .u64 (p.a.toNat : Int), .int .u64 (p.b.toNat : Int)] #[.int .u64 (n0.toNat : Int), .int .u64 (n1.toNat : Int)] rfl rfl HV5.out rfl (by kernel_rfl) (by simp [Value.oneCell']) ?_)
        go_roundw
        case rel => exact ⟨i + 1, by omega, by go_num, HX2.out, HV2.out, HO2.out, HR2.out, HF2.out⟩
        case measure => simp [intOf]; omega
    · have h128 : i = 128 := by omega
      subst h128
      obtain ⟨s, hs⟩ : ∃ s, s = W2.S 128 f := ⟨_, rfl⟩
      have HTM := Lib.hid (show s = W2.times x v by rw [hs, HFD.out]; rfl)
      rw [← hs] at HOr
      have HOd := Lib.hid (show wr.heap[O]? = some (.cells #[.int .u64 (s.a.toNat : Int), .int .u64 (s.b.toNat : Int)] 127 (0, 0)) from HOr.out)
      have HRd := Lib.hid (show wr.heap[R]? = some (.cells #[.int .u64 0, .int .u64 0] 127 (0, 0)) from HRr.out)
      have HR2 := Lib.hid (show (wr.setRow R #[.int .u64 (s.a.toNat : Int), .int .u64 (s.b.toNat : Int)]).heap[R]? = some (.cells #[.int .u64 (s.a.toNat : Int), .int .u64 (s.b.toNat : Int)] 127 (0, 0)) from setRow_heap HRd.out)
      have HF2 := Lib.hid (HFr.out.setRow R #[.int .u64 (s.a.toNat : Int), .int .u64 (s.b.toNat : Int)] (.inr HNE.out.2.2.1))
      clear hs
      go_wp2_with (first
        | (with_reducible refine wpList_load127 (op := ⟨some 49, _, _, _, _, _⟩) rfl _ rfl O rfl _ _ HOd.out ?_)
        | (with_reducible refine wpList_store_whole (op := ⟨none, .store 127 _ _, _, _, _, _⟩) rfl 127 _ _ rfl R 127 #[.int .u64 0, .int .u64 0] #[.int .u64 (s.a.toNat : Int), .int .u64 (s.b.toNat : Int)] rfl rfl HRd.out rfl (by kernel_rfl) (by simp [Value.oneCell']) ?_))
      refine bodyPost_ret (results_cell_row rfl _ _ R 127 #[.int .u64 (s.a.toNat : Int), .int .u64 (s.b.toNat : Int)] (0, 0) _ rfl HR2.out Try.underlying127 rfl (by kernel_rfl)) rfl ?_
      exact ⟨by first | (rw [← HTM.out]; done) | (rw [← HTM.out]; rfl), HF2.out⟩
end Go.Proofs.Ytcchhfkmhbjdmaa
