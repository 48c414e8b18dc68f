/- The document's small functions, its product and its xor. -/
import Derived.Test.YtcchhfkmhbjdmaaGreatPm6
import Derived.Test.YtcchhfkmhbjdmaaGreatPm8
import Derived.Test.YtcchhfkmhbjdmaaGreatPm4
import Derived.Test.YtcchhfkmhbjdmaaGreatPm5
/-! PgI -/
set_option linter.unusedVariables false
set_option linter.unusedSimpArgs false
set_option pp.deepTerms true
set_option pp.maxSteps 100000
namespace Go.Proofs.YtcchhfkmhbjdmaaGreat
open Go.RowKit
def b8 (c : Bool) : UInt8 := if c then 1 else 0
theorem b8_nat (c : Bool) : ((b8 c).toNat : Int) = if c then 1 else 0 := by cases c <;> rfl
theorem idx8' (i : Nat) (hi : i < 128) : ∃ q r m : Nat, (i : Int).tdiv 8 = (q : Int) ∧ (i : Int) / 8 = (q : Int) ∧ IntKind.i64.wrap (q : Int) = (q : Int) ∧ q < 16 ∧ (i : Int).tmod 8 = (r : Int) ∧ (i : Int) % 8 = (r : Int) ∧ IntKind.i64.wrap (r : Int) = (r : Int) ∧ IntKind.i64.wrap (7 - (r : Int)) = (m : Int) ∧ IntKind.u64.wrap (m : Int) = (m : Int) ∧ m < 8 ∧ q = i / 8 ∧ m = 7 - i % 8 := by
  refine ⟨i / 8, i % 8, 7 - i % 8, ?_, by omega, IntWalk.i64_in _ (by omega), by omega, ?_, by omega, IntWalk.i64_in _ (by omega), ?_, by rw [wrap_u64']; omega, by omega, rfl, rfl⟩
  · rw [Int.tdiv_eq_ediv_of_nonneg (by omega)]; omega
  · rw [Int.tmod_eq_emod_of_nonneg (by omega)]; omega
  · rw [IntWalk.i64_in _ (by omega)]; omega
theorem bit_u8 (x : UInt8) (m : Nat) (hm : m < 8) : ∃ y : Nat, (x.toNat : Int) / 2 ^ m = (y : Int) ∧ y < 256 ∧ (y : Int).tmod 2 = ((b8 (x.toBitVec.getLsbD m)).toNat : Int) ∧ (y : Int) % 2 = ((b8 (x.toBitVec.getLsbD m)).toNat : Int) := by
  have hb : (b8 (x.toBitVec.getLsbD m)).toNat = x.toNat / 2 ^ m % 2 := by
    rw [BitVec.getLsbD]
    show (b8 (x.toNat.testBit m)).toNat = _
    rw [Nat.testBit_eq_decide_div_mod_eq]
    by_cases h : x.toNat / 2 ^ m % 2 = 1
    · rw [decide_eq_true h, h]; rfl
    · rw [decide_eq_false h, show x.toNat / 2 ^ m % 2 = 0 by omega]; rfl
  obtain ⟨y, hy⟩ : ∃ y, y = x.toNat / 2 ^ m := ⟨_, rfl⟩
  have hlt : y < 256 := by rw [hy]; exact Nat.lt_of_le_of_lt (Nat.div_le_self _ _) x.toNat_lt
  have he : (x.toNat : Int) / 2 ^ m = (y : Int) := by rw [hy, Int.natCast_ediv]; norm_cast
  rw [← hy] at hb
  obtain ⟨c, hc⟩ : ∃ c, c = (b8 (x.toBitVec.getLsbD m)).toNat := ⟨_, rfl⟩
  rw [← hc] at hb ⊢
  refine ⟨y, he, hlt, ?_, by omega⟩
  rw [Int.tmod_eq_emod_of_nonneg (Int.natCast_nonneg _)]; omega
set_option maxRecDepth 20000 in
set_option maxHeartbeats 1000000 in
theorem refbit_calls (X cap : Nat) (s : List UInt8) (hs : s.length = 16) (i : Nat) (hi : i < 128) (w : World) (hX : XRow w X cap s) :
    Calls Tryz.prog 85 #[.slice (some ⟨X, 0, none⟩) 16 cap, .int .i64 (i : Int)] w fun e w' => e = .returned (.int .u8 ((b8 (bitL s i)).toNat : Int)) ∧ w' = w := by
  obtain ⟨q, r, m, h1, h2, h3, h4, h5, h6, h7, h8, h9, h10, hq, hm⟩ := idx8' i hi
  obtain ⟨x, hx⟩ : ∃ x, x = s.getD q 0 := ⟨_, rfl⟩
  obtain ⟨y, e1, e2, e3, e4⟩ := bit_u8 x m h10
  obtain ⟨c, hc⟩ : ∃ c, c = b8 (x.toBitVec.getLsbD m) := ⟨_, rfl⟩
  rw [← hc] at e3 e4
  have HC := Lib.hid (show b8 (bitL s i) = c by rw [hc]; unfold bitL; rw [← hq, ← hm, ← hx])
  have cX : w.cell? ⟨X, q, none⟩ = some (.int .u8 (x.toNat : Int)) := hX.cell q x (by rw [hx, List.getD_eq_getElem?_getD, List.getElem?_eq_getElem (by omega)]; rfl)
  have hq0 : (q : Int) < 16 := by omega
  have hm0 : (0 : Int) ≤ (m : Int) := by omega
  have hm1 : m ≤ 8 := by omega
  have hm2 : (m : Int) ≤ 8 := by omega
  have bx := x.toNat_lt
  have bc := c.toNat_lt
  have ey : IntKind.u8.wrap (y : Int) = (y : Int) := by rw [IntKind.wrap_u8']; omega
  have ec : IntKind.u8.wrap (c.toNat : Int) = (c.toNat : Int) := by rw [IntKind.wrap_u8']; omega
  clear hq hm hx hc hX hs
  go_enter Tryz.func85, Tryz.ntmps85
  go_wp2_with fail
  go_ret
  exact ⟨by rw [HC.out]; rfl, rfl⟩
set_option maxRecDepth 20000 in
set_option maxHeartbeats 1000000 in
theorem four_calls (j : Nat) (hj : j ≤ 100000000) (w : World) : Calls Tryz.prog 61 #[.int .i64 (j : Int)] w fun e w' => e = .returned (.string (str (be4 j))) ∧ Fr (fun _ => False) w w' := by
  obtain ⟨y0, hy0⟩ : ∃ z, z = UInt8.ofNat (j / 16777216) := ⟨_, rfl⟩
  obtain ⟨y1, hy1⟩ : ∃ z, z = UInt8.ofNat (j / 65536) := ⟨_, rfl⟩
  obtain ⟨y2, hy2⟩ : ∃ z, z = UInt8.ofNat (j / 256) := ⟨_, rfl⟩
  obtain ⟨y3, hy3⟩ : ∃ z, z = UInt8.ofNat j := ⟨_, rfl⟩
  obtain ⟨q0, hq0⟩ : ∃ z, z = j / 16777216 := ⟨_, rfl⟩
  obtain ⟨q1, hq1⟩ : ∃ z, z = j / 65536 := ⟨_, rfl⟩
  obtain ⟨q2, hq2⟩ : ∃ z, z = j / 256 := ⟨_, rfl⟩
  have t0 : (j : Int).tdiv 16777216 = (q0 : Int) := by rw [Int.tdiv_eq_ediv_of_nonneg (by omega)]; omega
  have t1 : (j : Int).tdiv 65536 = (q1 : Int) := by rw [Int.tdiv_eq_ediv_of_nonneg (by omega)]; omega
  have t2 : (j : Int).tdiv 256 = (q2 : Int) := by rw [Int.tdiv_eq_ediv_of_nonneg (by omega)]; omega
  have u0 : (j : Int) / 16777216 = (q0 : Int) := by omega
  have u1 : (j : Int) / 65536 = (q1 : Int) := by omega
  have u2 : (j : Int) / 256 = (q2 : Int) := by omega
  have s0 : IntKind.i64.wrap (q0 : Int) = (q0 : Int) := IntWalk.i64_in _ (by omega)
  have s1 : IntKind.i64.wrap (q1 : Int) = (q1 : Int) := IntWalk.i64_in _ (by omega)
  have s2 : IntKind.i64.wrap (q2 : Int) = (q2 : Int) := IntWalk.i64_in _ (by omega)
  have o0 : (q0 : Int) % 256 = (y0.toNat : Int) := by rw [hy0, ← hq0]; simp
  have o1 : (q1 : Int) % 256 = (y1.toNat : Int) := by rw [hy1, ← hq1]; simp
  have o2 : (q2 : Int) % 256 = (y2.toNat : Int) := by rw [hy2, ← hq2]; simp
  have o3 : (j : Int) % 256 = (y3.toNat : Int) := by rw [hy3]; simp
  have p0 : IntKind.u8.wrap (q0 : Int) = (y0.toNat : Int) := by rw [IntKind.wrap_u8', o0]
  have p1 : IntKind.u8.wrap (q1 : Int) = (y1.toNat : Int) := by rw [IntKind.wrap_u8', o1]
  have p2 : IntKind.u8.wrap (q2 : Int) = (y2.toNat : Int) := by rw [IntKind.wrap_u8', o2]
  have p3 : IntKind.u8.wrap (j : Int) = (y3.toNat : Int) := by rw [IntKind.wrap_u8', o3]
  have hcv := run_convert_str (P := Tryz.prog) (w.alloc (.cells #[.int .u8 (y0.toNat : Int), .int .u8 (y1.toNat : Int), .int .u8 (y2.toNat : Int), .int .u8 (y3.toNat : Int)] 5)) 53 5 Tryz.underlying53 Tryz.underlying5 w.heap.size 0 4 4 [y0, y1, y2, y3] rfl (fun j v hj => by
    rw [Nat.zero_add, cell_of_row _ w.heap.size j _ _ _ (heap_alloc_new w _)]; simpa [bcells] using hj) 9 Tryz.underlying9
  obtain ⟨Y, hY⟩ : ∃ s, s = str [y0, y1, y2, y3] := ⟨_, rfl⟩
  rw [← hY] at hcv
  have HY := Lib.hid (show str (be4 j) = Y by rw [hY, hy0, hy1, hy2, hy3]; rfl)
  have bb0 := y0.toNat_lt
  have bb1 := y1.toNat_lt
  have bb2 := y2.toNat_lt
  have bb3 := y3.toNat_lt
  clear hy0 hy1 hy2 hy3 hY hq0 hq1 hq2
  go_enter Tryz.func61, Tryz.ntmps61
  go_wp2_with fail
  go_ret
  exact ⟨by rw [HY.out]; rfl, (Fr.refl _ _).alloc _⟩
theorem fill_step (s : List UInt8) (k : Nat) (hk : (s.length + k) % 16 ≠ 0) (hlt : k ≤ (16 - s.length % 16) % 16) : k + 1 ≤ (16 - s.length % 16) % 16 := by omega
set_option maxRecDepth 20000 in
set_option maxHeartbeats 1000000 in
theorem whole_calls (s : List UInt8) (hs : s.length ≤ 100000) (w : World) : Calls Tryz.prog 63 #[.string (str s)] w fun e w' => e = .returned (.string (str (fillL s))) ∧ w' = w := by
  have HS := Lib.hid hs
  clear hs
  go_enter Tryz.func63, Tryz.ntmps63
  go_wp2_with fail
  go_loopw [0] (fun v wr => ∃ k : Nat, k ≤ (16 - s.length % 16) % 16 ∧ v = .string (str (s ++ List.replicate k 0)) ∧ wr = w) (fun v _ => s.length + 100 - strSize v)
  case atStart => exact ⟨0, Nat.zero_le _, by simp, rfl⟩
  case round =>
    obtain ⟨k, hk, rfl, rfl⟩ := hrel
    obtain ⟨T, hT⟩ : ∃ t, t = str (s ++ List.replicate k 0) := ⟨_, rfl⟩
    rw [← hT]
    obtain ⟨n, hn⟩ : ∃ n, n = s.length + k := ⟨_, rfl⟩
    have hsz : T.size = n := by rw [hT, str_size, List.length_append, List.length_replicate, hn]
    obtain ⟨r, hr⟩ : ∃ r, r = n % 16 := ⟨_, rfl⟩
    have r1 : (n : Int).tmod 16 = (r : Int) := by rw [Int.tmod_eq_emod_of_nonneg (by omega)]; omega
    have r2 : (n : Int) % 16 = (r : Int) := by omega
    have r3 : IntKind.i64.wrap (r : Int) = (r : Int) := IntWalk.i64_in _ (by omega)
    by_cases h0 : r = 0
    · have hne : ((r : Int) != 0) = false := by rw [h0]; rfl
      have hkk : k = (16 - s.length % 16) % 16 := by
        rw [hr, hn] at h0
        omega
      have HT := Lib.hid (show str (fillL s) = T by rw [hT, hkk]; rfl)
      have r4 : ((n : Int).tmod 16 != 0) = false := by rw [r1]; exact hne
      clear hT hn hr h0 hkk
      go_wp2_with fail
      go_ret
      exact ⟨by rw [HT.out]; rfl, rfl⟩
    · have hne : ((r : Int) != 0) = true := by simp; omega
      have hk1 : k + 1 ≤ (16 - s.length % 16) % 16 := by
        rw [hr, hn] at h0
        omega
      obtain ⟨T2, hT2⟩ : ∃ t, t = str (s ++ List.replicate (k + 1) 0) := ⟨_, rfl⟩
      have hap : T ++ (⟨#[0]⟩ : ByteArray) = T2 := by
        rw [hT, hT2, show (⟨#[0]⟩ : ByteArray) = str [0] from rfl, jstr_append, List.append_assoc, List.replicate_succ']
      have hb1 : ¬ 9223372036854775807 < T.size + (⟨#[0]⟩ : ByteArray).size := by rw [hsz]; have := HS.out; show ¬ 9223372036854775807 < n + 1; omega
      have hb2 : T.size + (⟨#[0]⟩ : ByteArray).size ≤ 9223372036854775807 := by rw [hsz]; have := HS.out; show n + 1 ≤ 9223372036854775807; omega
      have hb3 : n + 1 ≤ 9223372036854775807 := by have := HS.out; omega
      have HT2 := Lib.hid hT2
      have HN := Lib.hid (show n = s.length + k ∧ T2.size = s.length + k + 1 by refine ⟨hn, ?_⟩; rw [hT2, str_size, List.length_append, List.length_replicate]; omega)
      clear hT hn hr h0 hT2
      go_wp2_with fail
      go_roundw
      case rel => exact ⟨k + 1, hk1, by rw [HT2.out], by first | rfl | trivial⟩
      case measure => have := HN.out; simp [strSize]; omega
end Go.Proofs.YtcchhfkmhbjdmaaGreat
/-! PgK -/
set_option linter.unusedVariables false
set_option linter.unusedSimpArgs false
set_option pp.deepTerms true
set_option pp.maxSteps 100000
namespace Go.Proofs.YtcchhfkmhbjdmaaGreat
open Go.RowKit
/-- Coefficients as they lie. -/
def PR (w : World) (B : Nat) (p : List Bool) : Prop := w.heap[B]? = some (.cells (bcells (p.map b8)).toArray 135 (0, 0)) ∧ p.length = 255
def pf (p : List Bool) (k : Nat) : Bool := p.getD k false
theorem PR.cell {w : World} {B : Nat} {p : List Bool} (h : PR w B p) (k : Nat) (hk : k < 255) : w.cell? ⟨B, k, none⟩ = some (.int .u8 ((b8 (pf p k)).toNat : Int)) := by
  refine bcells_cell h.1 k _ ?_
  have hl := h.2
  unfold pf
  rw [List.getElem?_map, List.getD_eq_getElem?_getD, List.getElem?_eq_getElem (by omega)]
  rfl
theorem PR.froz {w : World} {B : Nat} {p : List Bool} (h : PR w B p) (k : Nat) : w.frozen? ⟨B, k, none⟩ = false := frozen_of_row w _ _ _ _ h.1
theorem PR.set {w : World} {B : Nat} {p : List Bool} (h : PR w B p) (k : Nat) (c : Bool) : PR (w.setCell ⟨B, k, none⟩ (.int .u8 ((b8 c).toNat : Int))) B (p.set k c) := by
  refine ⟨?_, by rw [List.length_set]; exact h.2⟩
  rw [List.map_set]
  exact bcells_set h.1 k (b8 c)
theorem PR.fr {F : Nat → Prop} {w w' : World} {B : Nat} {p : List Bool} (h : PR w B p) (hf : Fr F w w') (hn : ¬ F B) : PR w' B p := ⟨hf.heap h.1 hn, h.2⟩
theorem pf_set (p : List Bool) (k : Nat) (c : Bool) (hk : k < p.length) (i : Nat) : pf (p.set k c) i = if i = k then c else pf p i := by
  unfold pf
  rw [List.getD_eq_getElem?_getD, List.getElem?_set, List.getD_eq_getElem?_getD]
  by_cases h : k = i
  · subst h; simp [hk]
  · rw [if_neg h, if_neg (Ne.symm h)]
theorem b8_xor (c d : Bool) : bits .xor .u8 ((b8 c).toNat : Int) ((b8 d).toNat : Int) = ((b8 (c ^^ d)).toNat : Int) := by
  rw [xor_u8]; cases c <;> cases d <;> rfl
theorem b8_flip (c : Bool) : bits .xor .u8 ((b8 c).toNat : Int) 1 = ((b8 (!c)).toNat : Int) := by
  have := b8_xor c true
  rw [Bool.xor_true] at this
  exact this
theorem b8_lt (c : Bool) : ((b8 c).toNat : Int) < 2 ∧ (0 : Int) ≤ ((b8 c).toNat : Int) := by cases c <;> decide
/-- The sum so far: the first i rounds, k steps into the round i. -/
def mulF (a b : List UInt8) (i k : Nat) : W2 := W2.xr (W2.S i (fun i => W2.sel (bitL a i) (W2.pw i (loadL b)))) (W2.S k (fun k => W2.sel (bitL a i && bitL b k) (W2.pw (i + k) W2.one)))
theorem gmul_start (a b : List UInt8) (i : Nat) : mulF a b i 0 = W2.S i (fun i => W2.sel (bitL a i) (W2.pw i (loadL b))) := by
  unfold mulF; rw [W2.S, W2.xr_zero]
theorem gmul_step (a b : List UInt8) (i k : Nat) : mulF a b i (k + 1) = W2.xr (mulF a b i k) (W2.sel (bitL a i && bitL b k) (W2.pw (i + k) W2.one)) := by
  unfold mulF; rw [W2.S, W2.xr_assoc]
theorem sel_and (c d : Bool) (v : W2) : W2.sel (c && d) v = W2.sel c (W2.sel d v) := by cases c <;> cases d <;> rfl
theorem gmul_row (a b : List UInt8) (i : Nat) : mulF a b i 128 = W2.S (i + 1) (fun i => W2.sel (bitL a i) (W2.pw i (loadL b))) := by
  show W2.xr _ (W2.S 128 _) = W2.xr _ (W2.sel (bitL a i) (W2.pw i (loadL b)))
  congr 1
  have h := W2.decomp (loadL b)
  conv => rhs; rw [← h]
  rw [W2.S_pw, W2.S_sel]
  refine W2.S_congr fun k hk => ?_
  rw [W2.pw_sel, W2.pw_add, sel_and, bit_load b k hk]
theorem gmul_none (a b : List UInt8) (i : Nat) (h : bitL a i = false) : W2.S (i + 1) (fun i => W2.sel (bitL a i) (W2.pw i (loadL b))) = W2.S i (fun i => W2.sel (bitL a i) (W2.pw i (loadL b))) := by
  rw [W2.S, h]
  show W2.xr _ W2.zero = _
  rw [W2.xr_zero]
theorem gmul_all (a b : List UInt8) : W2.S 128 (fun i => W2.sel (bitL a i) (W2.pw i (loadL b))) = W2.times (loadL a) (loadL b) := by
  unfold W2.times
  refine W2.S_congr fun i hi => ?_
  rw [bit_load a i hi]
theorem ev_zero (m : Nat) : ev m (pf (List.replicate 255 false)) = W2.zero := by
  unfold ev
  have : (fun k => W2.sel (pf (List.replicate 255 false) k) (W2.pw k W2.one)) = fun _ => W2.zero := by
    funext k
    have : pf (List.replicate 255 false) k = false := by
      unfold pf; rw [List.getD_eq_getElem?_getD, List.getElem?_replicate]; split <;> rfl
    rw [this]; rfl
  rw [this, W2.S_zero]
theorem ev_put (p : List Bool) (k : Nat) (c : Bool) (hl : p.length = 255) (hk : k < 255) : ev 255 (pf (p.set k (pf p k ^^ c))) = W2.xr (ev 255 (pf p)) (W2.sel c (W2.pw k W2.one)) :=
  ev_flip 255 k _ _ c hk (fun i hi => by rw [pf_set _ _ _ (by omega), if_neg hi]) (by rw [pf_set _ _ _ (by omega), if_pos rfl])
/-- A round of the folding, as the code writes it. -/
def foldP (p : List Bool) (i : Nat) : List Bool :=
  let p1 := p.set (i - 128) (!pf p (i - 128))
  let p2 := p1.set (i - 127) (!pf p1 (i - 127))
  let p3 := p2.set (i - 126) (!pf p2 (i - 126))
  p3.set (i - 121) (!pf p3 (i - 121))
theorem foldP_length (p : List Bool) (i : Nat) : (foldP p i).length = p.length := by simp [foldP]
theorem ev_not (m k : Nat) (p : List Bool) (hk : k < m) (hl : k < p.length) : ev m (pf (p.set k (!pf p k))) = W2.xr (ev m (pf p)) (W2.pw k W2.one) :=
  ev_flip m k _ _ true hk (fun i hi => by rw [pf_set _ _ _ hl, if_neg hi]) (by rw [pf_set _ _ _ hl, if_pos rfl, Bool.xor_true])
theorem foldP_ev (p : List Bool) (i : Nat) (hl : p.length = 255) (hi : 128 ≤ i) (hi2 : i < 255) (h : pf p i = true) : ev i (pf (foldP p i)) = ev (i + 1) (pf p) := by
  unfold foldP
  dsimp only
  rw [ev_not i (i - 121) _ (by omega) (by simp only [List.length_set]; omega), ev_not i (i - 126) _ (by omega) (by simp only [List.length_set]; omega), ev_not i (i - 127) _ (by omega) (by simp only [List.length_set]; omega), ev_not i (i - 128) _ (by omega) (by omega)]
  show _ = W2.xr (ev i (pf p)) (W2.sel (pf p i) (W2.pw i W2.one))
  rw [h]
  show _ = W2.xr (ev i (pf p)) (W2.pw i W2.one)
  rw [pw_fold i hi]
  simp only [W2.xr_assoc]
theorem fold_none (p : List Bool) (i : Nat) (h : pf p i = false) : ev (i + 1) (pf p) = ev i (pf p) := by
  unfold ev
  rw [W2.S, h]
  show W2.xr _ W2.zero = _
  rw [W2.xr_zero]
end Go.Proofs.YtcchhfkmhbjdmaaGreat
/-! PgL -/
set_option linter.unusedVariables false
set_option linter.unusedSimpArgs false
set_option pp.deepTerms true
set_option pp.maxSteps 100000
namespace Go.Proofs.YtcchhfkmhbjdmaaGreat
open Go.RowKit
theorem prodL_len (a b : List UInt8) : (prodL a b).length = 16 := text_length _
theorem wpj {i : Nat} (h : i < 100000) : IntKind.i64.wrap (i : Int) = (i : Int) := IntWalk.i64_in _ (by omega)
theorem b8_shl (c : Bool) (m : Nat) (hm : m < 8) : (((b8 c).toNat : Int) * ((2 ^ m : Nat) : Int)) % 256 = (((b8 c) <<< UInt8.ofNat m).toNat : Int) := by
  have : m = 0 ∨ m = 1 ∨ m = 2 ∨ m = 3 ∨ m = 4 ∨ m = 5 ∨ m = 6 ∨ m = 7 := by omega
  rcases this with rfl | rfl | rfl | rfl | rfl | rfl | rfl | rfl <;> cases c <;> rfl
set_option maxRecDepth 40000 in
set_option maxHeartbeats 8000000 in
theorem refproduct_calls (a b : List UInt8) (ha : a.length = 16) (hb : b.length = 16) (w : World) : Calls Tryz.prog 64 #[.string (str a), .string (str b)] w fun e w' => e = .returned (.tuple #[.string (str (prodL a b)), .int .i64 0]) ∧ Fr (fun _ => False) w w' := by
  obtain ⟨A, hA⟩ : ∃ s, s = str a := ⟨_, rfl⟩
  obtain ⟨B, hB⟩ : ∃ s, s = str b := ⟨_, rfl⟩
  have hsa : A.size = 16 := by rw [hA, str_size, ha]
  have hsb : B.size = 16 := by rw [hB, str_size, hb]
  have hconv : ∀ (T : ByteArray) (w : World), (convert 9 53 (.string T)).run Tryz.prog w = .ok (.slice (some ⟨w.heap.size, 0, none⟩) T.size (grownCap w T.size 0 5)) (Lib.bytesWorld w 5 T) := fun T w =>
    Lib.run_convert_string_bytes (P := Tryz.prog) w 9 53 5 T Tryz.underlying9 Tryz.underlying53 Tryz.underlying5
  have HA := Lib.hid hA
  have HB := Lib.hid hB
  have HL := Lib.hid (And.intro ha hb)
  rw [← hA, ← hB]
  clear hA hB ha hb
  go_enter Tryz.func64, Tryz.ntmps64
  go_wp2_with fail
  clear hconv
  obtain ⟨w1, hw1⟩ : ∃ x, x = w.alloc (.cells Tryz.zeroCells135 135) := ⟨_, rfl⟩
  obtain ⟨P, hP⟩ : ∃ x, x = w.heap.size := ⟨_, rfl⟩
  have hp1 : PR w1 P (List.replicate 255 false) := by
    refine ⟨?_, List.length_replicate⟩
    rw [hw1, hP, heap_alloc_new w _]
    rw [show Tryz.zeroCells135 = (bcells ((List.replicate 255 false).map b8)).toArray by kernel_rfl]
  have hs1 : w1.heap.size = w.heap.size + 1 := by rw [hw1]; simp
  have hf1 : Fr (fun _ => False) w w1 := by rw [hw1]; exact (Fr.refl _ _).alloc _
  rw [← hw1, ← hP]
  have hxa := xrow_conv w1 a
  have hfa := xbytesWorld_fr w1 5 A
  rw [← HA.out, hs1, ← hP, hsa] at hxa
  obtain ⟨wa, hwa⟩ : ∃ x, x = Lib.bytesWorld w1 5 A := ⟨_, rfl⟩
  have hsz2 : wa.heap.size = P + 1 + 1 := by rw [hwa, Lib.bytesWorld_size, hs1, hP]
  rw [← hwa] at hxa hfa ⊢
  have hxb := xrow_conv wa b
  have hfb := xbytesWorld_fr wa 5 B
  rw [← HB.out, hsz2, hsb] at hxb
  rw [hsz2]
  obtain ⟨wb, hwb⟩ : ∃ x, x = Lib.bytesWorld wa 5 B := ⟨_, rfl⟩
  rw [← hwb] at hxb hfb ⊢
  obtain ⟨ca, hca⟩ : ∃ c, c = grownCap w1 16 0 5 := ⟨_, rfl⟩
  obtain ⟨cb, hcb⟩ : ∃ c, c = grownCap wa 16 0 5 := ⟨_, rfl⟩
  rw [← hca] at hxa ⊢
  rw [← hcb] at hxb ⊢
  have HP0 := Lib.hid ((hp1.fr hfa id).fr hfb id)
  have HXA0 := Lib.hid (hxa.fr hfb id)
  have HXB0 := Lib.hid hxb
  have HF0 := Lib.hid ((hf1.trans hfa (fun i hi => hi.elim)).trans hfb (fun i hi => hi.elim))
  have HPW := Lib.hid (show w.heap.size ≤ P by omega)
  clear hp1 hs1 hf1 hxa hfa hsz2 hxb hfb hwa hwb hca hcb hw1 hP
  go_loopw [9] (fun v9 wr => ∃ i : Nat, i ≤ 128 ∧ v9 = .int .i64 i ∧ (∃ p, PR wr P p ∧ ev 255 (pf p) = W2.S i (fun i => W2.sel (bitL a i) (W2.pw i (loadL b)))) ∧ XRow wr (P + 1) ca a ∧ XRow wr (P + 1 + 1) cb b ∧ Fr (fun _ => False) w wr) (fun v _ => 128 - (intOf v).toNat)
  case atStart => exact ⟨0, Nat.zero_le _, rfl, ⟨_, HP0.out, ev_zero 255⟩, HXA0.out, HXB0.out, HF0.out⟩
  case round =>
    obtain ⟨i, hi, rfl, ⟨p, hp, hev⟩, hxa, hxb, hf⟩ := hrel
    have HPr := Lib.hid hp
    have HEV := Lib.hid hev
    have HXA := Lib.hid hxa
    have HXB := Lib.hid hxb
    have HFr := Lib.hid hf
    clear hp hev hxa hxb hf HP0 HXA0 HXB0 HF0
    by_cases hlt : i < 128
    · have hx : (i : Int) < 128 := by omega
      have hd : decide ((i : Int) < 128) = true := decide_eq_true hx
      have HBit := Lib.hid (refbit_calls (P + 1) ca a HL.out.1 i hlt wr HXA.out)
      obtain ⟨c, hc⟩ : ∃ c, c = bitL a i := ⟨_, rfl⟩
      have HC := Lib.hid hc
      rw [← hc] at HBit
      clear hc
      cases c with
      | false =>
        have hev1 := HEV.out
        have HEV1 := Lib.hid (show ev 255 (pf p) = W2.S (i + 1) (fun i => W2.sel (bitL a i) (W2.pw i (loadL b))) by rw [gmul_none a b i HC.out.symm]; exact hev1)
        clear hev1
        go_wp2_with fail
        refine HBit.out.mono ?_
        rintro e w' ⟨rfl, rfl⟩
        rw [show ((b8 false).toNat : Int) = 0 from rfl]
        go_wp2_with fail
        go_roundw
        case rel => exact ⟨i + 1, by omega, by go_num, ⟨_, HPr.out, HEV1.out⟩, HXA.out, HXB.out, HFr.out⟩
        case measure => simp [intOf]; omega
      | true =>
        go_wp2_with fail
        refine HBit.out.mono ?_
        rintro e w' ⟨rfl, rfl⟩
        rw [show ((b8 true).toNat : Int) = 1 from rfl]
        go_wp2_with fail
        clear HBit hx
        go_loopw [10] (fun v10 wr => ∃ k : Nat, k ≤ 128 ∧ v10 = .int .i64 k ∧ (∃ p, PR wr P p ∧ ev 255 (pf p) = mulF a b i k) ∧ XRow wr (P + 1) ca a ∧ XRow wr (P + 1 + 1) cb b ∧ Fr (fun _ => False) w wr) (fun v _ => 128 - (intOf v).toNat)
        case atStart => exact ⟨0, Nat.zero_le _, rfl, ⟨_, HPr.out, by rw [gmul_start]; exact HEV.out⟩, HXA.out, HXB.out, HFr.out⟩
        case round =>
          obtain ⟨k, hk, rfl, ⟨p, hp, hev⟩, hxa, hxb, hf⟩ := hrel
          have HPr2 := Lib.hid hp
          have HEV2 := Lib.hid hev
          have HXA2 := Lib.hid hxa
          have HXB2 := Lib.hid hxb
          have HFr2 := Lib.hid hf
          clear hp hev hxa hxb hf
          by_cases hlt2 : k < 128
          · have hx : (k : Int) < 128 := by omega
            obtain ⟨n, hn⟩ : ∃ n, n = i + k := ⟨_, rfl⟩
            have hw : IntKind.i64.wrap ((i : Int) + (k : Int)) = (n : Int) := by rw [IntWalk.i64_in _ (by omega)]; omega
            have hn255 : n < 255 := by omega
            have hn1 : (n : Int) < 255 := by omega
            have HBit := Lib.hid (refbit_calls (P + 1 + 1) cb b HL.out.2 k hlt2 wr.drew (HXB2.out.fr (Fr.refl (fun _ => False) _).drew id))
            obtain ⟨d, hdd⟩ : ∃ d, d = bitL b k := ⟨_, rfl⟩
            obtain ⟨x, hxx⟩ : ∃ x, x = b8 (pf p n) := ⟨_, rfl⟩
            obtain ⟨y, hyy⟩ : ∃ x, x = b8 d := ⟨_, rfl⟩
            obtain ⟨z, hzz⟩ : ∃ x, x = b8 (pf p n ^^ d) := ⟨_, rfl⟩
            rw [← hdd, ← hyy] at HBit
            have e1 : bits .xor .u8 (x.toNat : Int) (y.toNat : Int) = (z.toNat : Int) := by rw [hxx, hyy, hzz]; exact b8_xor _ _
            have c1 : wr.drew.cell? ⟨P, n, none⟩ = some (.int .u8 (x.toNat : Int)) := by rw [hxx]; exact (HPr2.out.fr (Fr.refl (fun _ => False) _).drew id).cell n hn255
            have f1 : wr.drew.frozen? ⟨P, n, none⟩ = false := (HPr2.out.fr (Fr.refl (fun _ => False) _).drew id).froz n
            have f3 : Fr (fun j => j = P) wr (wr.drew.setCell ⟨P, n, none⟩ (.int .u8 (z.toNat : Int))) := (Fr.refl _ _).drew.setCell _ _ (.inl rfl)
            have HP3 := Lib.hid (show PR (wr.drew.setCell ⟨P, n, none⟩ (.int .u8 (z.toNat : Int))) P (p.set n (pf p n ^^ d)) by rw [hzz]; exact (HPr2.out.fr (Fr.refl (fun _ => False) _).drew id).set n _)
            have HEV3 := Lib.hid (show ev 255 (pf (p.set n (pf p n ^^ d))) = mulF a b i (k + 1) by
              rw [ev_put p n d HPr2.out.2 hn255, HEV2.out, gmul_step, ← HC.out, ← hdd, hn, Bool.true_and])
            have HXA3 := Lib.hid (HXA2.out.fr f3 (by omega))
            have HXB3 := Lib.hid (HXB2.out.fr f3 (by omega))
            have HF3 := Lib.hid (HFr2.out.drew.setCell ⟨P, n, none⟩ (.int .u8 (z.toNat : Int)) (.inr HPW.out))
            have bx := x.toNat_lt
            have by' := y.toNat_lt
            have bz := z.toNat_lt
            clear hn hdd hxx hyy hzz f3
            go_wp2
            refine wp_region_still_tail 13 (by kernel_rfl) (by kernel_rfl) ?_
            simp only [List.take_succ_cons, List.take_zero, List.drop_succ_cons, List.drop_zero]
            change wpStill _ _ wr.drew (fun a' => wpList _ _ _ _ a' wr.drew) _ _
            repeat still_step
            still_call (HBit.out.mono (fun e w' h => ⟨h.1, h.2⟩))
            repeat still_step
            refine wpStill_nil ?_
            go_wp2
            go_roundw
            case rel => exact ⟨k + 1, by omega, by go_num, ⟨_, HP3.out, HEV3.out⟩, HXA3.out, HXB3.out, HF3.out⟩
            case measure => simp [intOf]; omega
          · have hk8 : k = 128 := by omega
            have HEV3 := Lib.hid (show ev 255 (pf p) = W2.S (i + 1) (fun i => W2.sel (bitL a i) (W2.pw i (loadL b))) by rw [HEV2.out, hk8, gmul_row])
            clear hk8
            go_wp2_with fail
            go_roundw
            case rel => exact ⟨i + 1, by omega, by go_num, ⟨_, HPr2.out, HEV3.out⟩, HXA2.out, HXB2.out, HFr2.out⟩
            case measure => simp [intOf]; omega
    · have hi128 : i = 128 := by omega
      have HEV4 := Lib.hid (show ev 255 (pf p) = W2.times (loadL a) (loadL b) by rw [HEV.out, hi128, gmul_all])
      clear hi128
      obtain ⟨Z, hZ⟩ : ∃ Z, Z = W2.times (loadL a) (loadL b) := ⟨_, rfl⟩
      have HZ := Lib.hid hZ
      rw [← hZ] at HEV4
      clear hZ
      go_wp2_with fail
      go_loopw [11] (fun v11 wr => ∃ m : Nat, 127 ≤ m ∧ m ≤ 254 ∧ v11 = .int .i64 m ∧ (∃ p, PR wr P p ∧ ev (m + 1) (pf p) = Z) ∧ Fr (fun _ => False) w wr) (fun v _ => (intOf v).toNat)
      case atStart => exact ⟨254, by omega, by omega, rfl, ⟨_, HPr.out, HEV4.out⟩, HFr.out⟩
      case round =>
        clear HPr HEV HXA HXB HFr HEV4
        obtain ⟨m, hm0, hm1, rfl, ⟨p, hp, hev⟩, hf⟩ := hrel
        have HPr := Lib.hid hp
        have HEV := Lib.hid hev
        have HFr := Lib.hid hf
        clear hp hev hf
        by_cases hge : 128 ≤ m
        · have hx : (128 : Int) ≤ (m : Int) := by omega
          have hm255 : (m : Int) < 255 := by omega
          have hm255n : m < 255 := by omega
          obtain ⟨mm, hmm⟩ : ∃ x, x = m - 1 := ⟨_, rfl⟩
          have hmw : IntKind.i64.wrap ((m : Int) - 1) = (mm : Int) := by rw [IntWalk.i64_in _ (by omega)]; omega
          have HMM := Lib.hid (show mm + 1 = m ∧ 127 ≤ mm ∧ mm ≤ 254 by omega)
          clear hmm
          obtain ⟨c, hc⟩ : ∃ c, c = pf p m := ⟨_, rfl⟩
          have HC := Lib.hid hc
          have cm : wr.cell? ⟨P, m, none⟩ = some (.int .u8 ((b8 c).toNat : Int)) := by rw [hc]; exact HPr.out.cell m hm255n
          clear hc
          cases c with
          | false =>
            have hev1 := HEV.out
            have HEV1 := Lib.hid (show ev (mm + 1) (pf p) = Z by rw [HMM.out.1, ← fold_none p m HC.out.symm]; exact hev1)
            clear hev1
            rw [show ((b8 false).toNat : Int) = 0 from rfl] at cm
            go_wp2_with fail
            go_roundw
            case rel => exact ⟨mm, HMM.out.2.1, HMM.out.2.2, rfl, ⟨_, HPr.out, HEV1.out⟩, HFr.out⟩
            case measure => have := HMM.out.1; simp [intOf]; omega
          | true =>
            rw [show ((b8 true).toNat : Int) = 1 from rfl] at cm
            obtain ⟨m128, hm128⟩ : ∃ x, x = m - 128 := ⟨_, rfl⟩
            obtain ⟨m127, hm127⟩ : ∃ x, x = m - 127 := ⟨_, rfl⟩
            obtain ⟨m126, hm126⟩ : ∃ x, x = m - 126 := ⟨_, rfl⟩
            obtain ⟨m121, hm121⟩ : ∃ x, x = m - 121 := ⟨_, rfl⟩
            have hq0 := HPr.out
            have hf0 := HFr.out
            have hw128 : IntKind.i64.wrap ((m : Int) - 128) = (m128 : Int) := by rw [IntWalk.i64_in _ (by omega)]; omega
            have hb128 : (m128 : Int) < 255 := by omega
            have hc128 : m128 < 255 := by omega
            obtain ⟨x128, hx128⟩ : ∃ x, x = b8 (pf p m128) := ⟨_, rfl⟩
            obtain ⟨y128, hy128⟩ : ∃ x, x = b8 (!pf p m128) := ⟨_, rfl⟩
            have e128 : bits .xor .u8 (x128.toNat : Int) 1 = (y128.toNat : Int) := by rw [hx128, hy128]; exact b8_flip _
            have c128 : wr.cell? ⟨P, m128, none⟩ = some (.int .u8 (x128.toNat : Int)) := by rw [hx128]; exact hq0.cell m128 hc128
            have z128 : wr.frozen? ⟨P, m128, none⟩ = false := hq0.froz m128
            have hq1 : PR (wr.setCell ⟨P, m128, none⟩ (.int .u8 (y128.toNat : Int))) P (p.set m128 (!pf p m128)) := by rw [hy128]; exact hq0.set m128 _
            have hf1 : Fr (fun _ => False) w (wr.setCell ⟨P, m128, none⟩ (.int .u8 (y128.toNat : Int))) := hf0.setCell _ _ (.inr HPW.out)
            have bx128 := x128.toNat_lt
            have by128 := y128.toNat_lt
            have hw127 : IntKind.i64.wrap ((m : Int) - 127) = (m127 : Int) := by rw [IntWalk.i64_in _ (by omega)]; omega
            have hb127 : (m127 : Int) < 255 := by omega
            have hc127 : m127 < 255 := by omega
            obtain ⟨x127, hx127⟩ : ∃ x, x = b8 (pf (p.set m128 (!pf p m128)) m127) := ⟨_, rfl⟩
            obtain ⟨y127, hy127⟩ : ∃ x, x = b8 (!pf (p.set m128 (!pf p m128)) m127) := ⟨_, rfl⟩
            have e127 : bits .xor .u8 (x127.toNat : Int) 1 = (y127.toNat : Int) := by rw [hx127, hy127]; exact b8_flip _
            have c127 : (wr.setCell ⟨P, m128, none⟩ (.int .u8 (y128.toNat : Int))).cell? ⟨P, m127, none⟩ = some (.int .u8 (x127.toNat : Int)) := by rw [hx127]; exact hq1.cell m127 hc127
            have z127 : (wr.setCell ⟨P, m128, none⟩ (.int .u8 (y128.toNat : Int))).frozen? ⟨P, m127, none⟩ = false := hq1.froz m127
            have hq2 : PR ((wr.setCell ⟨P, m128, none⟩ (.int .u8 (y128.toNat : Int))).setCell ⟨P, m127, none⟩ (.int .u8 (y127.toNat : Int))) P ((p.set m128 (!pf p m128)).set m127 (!pf (p.set m128 (!pf p m128)) m127)) := by rw [hy127]; exact hq1.set m127 _
            have hf2 : Fr (fun _ => False) w ((wr.setCell ⟨P, m128, none⟩ (.int .u8 (y128.toNat : Int))).setCell ⟨P, m127, none⟩ (.int .u8 (y127.toNat : Int))) := hf1.setCell _ _ (.inr HPW.out)
            have bx127 := x127.toNat_lt
            have by127 := y127.toNat_lt
            have hw126 : IntKind.i64.wrap ((m : Int) - 126) = (m126 : Int) := by rw [IntWalk.i64_in _ (by omega)]; omega
            have hb126 : (m126 : Int) < 255 := by omega
            have hc126 : m126 < 255 := by omega
            obtain ⟨x126, hx126⟩ : ∃ x, x = b8 (pf ((p.set m128 (!pf p m128)).set m127 (!pf (p.set m128 (!pf p m128)) m127)) m126) := ⟨_, rfl⟩
            obtain ⟨y126, hy126⟩ : ∃ x, x = b8 (!pf ((p.set m128 (!pf p m128)).set m127 (!pf (p.set m128 (!pf p m128)) m127)) m126) := ⟨_, rfl⟩
            have e126 : bits .xor .u8 (x126.toNat : Int) 1 = (y126.toNat : Int) := by rw [hx126, hy126]; exact b8_flip _
            have c126 : ((wr.setCell ⟨P, m128, none⟩ (.int .u8 (y128.toNat : Int))).setCell ⟨P, m127, none⟩ (.int .u8 (y127.toNat : Int))).cell? ⟨P, m126, none⟩ = some (.int .u8 (x126.toNat : Int)) := by rw [hx126]; exact hq2.cell m126 hc126
            have z126 : ((wr.setCell ⟨P, m128, none⟩ (.int .u8 (y128.toNat : Int))).setCell ⟨P, m127, none⟩ (.int .u8 (y127.toNat : Int))).frozen? ⟨P, m126, none⟩ = false := hq2.froz m126
            have hq3 : PR (((wr.setCell ⟨P, m128, none⟩ (.int .u8 (y128.toNat : Int))).setCell ⟨P, m127, none⟩ (.int .u8 (y127.toNat : Int))).setCell ⟨P, m126, none⟩ (.int .u8 (y126.toNat : Int))) P (((p.set m128 (!pf p m128)).set m127 (!pf (p.set m128 (!pf p m128)) m127)).set m126 (!pf ((p.set m128 (!pf p m128)).set m127 (!pf (p.set m128 (!pf p m128)) m127)) m126)) := by rw [hy126]; exact hq2.set m126 _
            have hf3 : Fr (fun _ => False) w (((wr.setCell ⟨P, m128, none⟩ (.int .u8 (y128.toNat : Int))).setCell ⟨P, m127, none⟩ (.int .u8 (y127.toNat : Int))).setCell ⟨P, m126, none⟩ (.int .u8 (y126.toNat : Int))) := hf2.setCell _ _ (.inr HPW.out)
            have bx126 := x126.toNat_lt
            have by126 := y126.toNat_lt
            have hw121 : IntKind.i64.wrap ((m : Int) - 121) = (m121 : Int) := by rw [IntWalk.i64_in _ (by omega)]; omega
            have hb121 : (m121 : Int) < 255 := by omega
            have hc121 : m121 < 255 := by omega
            obtain ⟨x121, hx121⟩ : ∃ x, x = b8 (pf (((p.set m128 (!pf p m128)).set m127 (!pf (p.set m128 (!pf p m128)) m127)).set m126 (!pf ((p.set m128 (!pf p m128)).set m127 (!pf (p.set m128 (!pf p m128)) m127)) m126)) m121) := ⟨_, rfl⟩
            obtain ⟨y121, hy121⟩ : ∃ x, x = b8 (!pf (((p.set m128 (!pf p m128)).set m127 (!pf (p.set m128 (!pf p m128)) m127)).set m126 (!pf ((p.set m128 (!pf p m128)).set m127 (!pf (p.set m128 (!pf p m128)) m127)) m126)) m121) := ⟨_, rfl⟩
            have e121 : bits .xor .u8 (x121.toNat : Int) 1 = (y121.toNat : Int) := by rw [hx121, hy121]; exact b8_flip _
            have c121 : (((wr.setCell ⟨P, m128, none⟩ (.int .u8 (y128.toNat : Int))).setCell ⟨P, m127, none⟩ (.int .u8 (y127.toNat : Int))).setCell ⟨P, m126, none⟩ (.int .u8 (y126.toNat : Int))).cell? ⟨P, m121, none⟩ = some (.int .u8 (x121.toNat : Int)) := by rw [hx121]; exact hq3.cell m121 hc121
            have z121 : (((wr.setCell ⟨P, m128, none⟩ (.int .u8 (y128.toNat : Int))).setCell ⟨P, m127, none⟩ (.int .u8 (y127.toNat : Int))).setCell ⟨P, m126, none⟩ (.int .u8 (y126.toNat : Int))).frozen? ⟨P, m121, none⟩ = false := hq3.froz m121
            have hq4 : PR ((((wr.setCell ⟨P, m128, none⟩ (.int .u8 (y128.toNat : Int))).setCell ⟨P, m127, none⟩ (.int .u8 (y127.toNat : Int))).setCell ⟨P, m126, none⟩ (.int .u8 (y126.toNat : Int))).setCell ⟨P, m121, none⟩ (.int .u8 (y121.toNat : Int))) P ((((p.set m128 (!pf p m128)).set m127 (!pf (p.set m128 (!pf p m128)) m127)).set m126 (!pf ((p.set m128 (!pf p m128)).set m127 (!pf (p.set m128 (!pf p m128)) m127)) m126)).set m121 (!pf (((p.set m128 (!pf p m128)).set m127 (!pf (p.set m128 (!pf p m128)) m127)).set m126 (!pf ((p.set m128 (!pf p m128)).set m127 (!pf (p.set m128 (!pf p m128)) m127)) m126)) m121)) := by rw [hy121]; exact hq3.set m121 _
            have hf4 : Fr (fun _ => False) w ((((wr.setCell ⟨P, m128, none⟩ (.int .u8 (y128.toNat : Int))).setCell ⟨P, m127, none⟩ (.int .u8 (y127.toNat : Int))).setCell ⟨P, m126, none⟩ (.int .u8 (y126.toNat : Int))).setCell ⟨P, m121, none⟩ (.int .u8 (y121.toNat : Int))) := hf3.setCell _ _ (.inr HPW.out)
            have bx121 := x121.toNat_lt
            have by121 := y121.toNat_lt
            have HPN := Lib.hid (show PR ((((wr.setCell ⟨P, m128, none⟩ (.int .u8 (y128.toNat : Int))).setCell ⟨P, m127, none⟩ (.int .u8 (y127.toNat : Int))).setCell ⟨P, m126, none⟩ (.int .u8 (y126.toNat : Int))).setCell ⟨P, m121, none⟩ (.int .u8 (y121.toNat : Int))) P (foldP p m) by unfold foldP; dsimp only; rw [← hm128, ← hm127, ← hm126, ← hm121]; exact hq4)
            have HFN := Lib.hid hf4
            have HEVN := Lib.hid (show ev (mm + 1) (pf (foldP p m)) = Z by rw [HMM.out.1, foldP_ev p m HPr.out.2 hge hm255n HC.out.symm]; exact HEV.out)
            clear hq0 hq1 hq2 hq3 hq4 hf0 hf1 hf2 hf3 hf4 hm128 hm127 hm126 hm121 hx128 hy128 hx127 hy127 hx126 hy126 hx121 hy121
            go_wp2_with fail
            go_roundw
            case rel => exact ⟨mm, HMM.out.2.1, HMM.out.2.2, rfl, ⟨_, HPN.out, HEVN.out⟩, HFN.out⟩
            case measure => have := HMM.out.1; simp [intOf]; omega
        · have hm127 : m = 127 := by omega
          have HEVZ := Lib.hid (show ev 128 (pf p) = Z by have := HEV.out; rwa [hm127] at this)
          clear hm127
          go_wp2_with fail
          have hO := heap_alloc_new wr (.cells (bcells (List.replicate 16 0)).toArray 123)
          change Code.wp _ _ _ _ (wr.alloc (.cells (bcells (List.replicate 16 0)).toArray 123))
          have hP2 := (HPr.out.fr ((Fr.refl (fun _ => False) wr).alloc (.cells (bcells (List.replicate 16 0)).toArray 123)) id)
          have hF2 := HFr.out.alloc (.cells (bcells (List.replicate 16 0)).toArray 123)
          obtain ⟨O, hOd⟩ : ∃ x, x = wr.heap.size := ⟨_, rfl⟩
          have HOP := Lib.hid (show w.heap.size ≤ O ∧ P ≠ O by have h1 := HFr.out.size; have h2 := lt_of_heap HPr.out.1; omega)
          rw [← hOd] at hO ⊢
          generalize wr.alloc (.cells (bcells (List.replicate 16 0)).toArray 123) = w4 at hO hP2 hF2 ⊢
          have HO4 := Lib.hid (show w4.heap[O]? = some (.cells (bcells (outF (pf p) 0)).toArray 123 (0, 0)) from hO)
          have HP4 := Lib.hid hP2
          have HF4 := Lib.hid hF2
          clear hO hP2 hF2 hOd
          go_loopw [13] (fun v13 wr => ∃ i : Nat, i ≤ 128 ∧ v13 = .int .i64 i ∧ PR wr P p ∧ wr.heap[O]? = some (.cells (bcells (outF (pf p) i)).toArray 123 (0, 0)) ∧ Fr (fun _ => False) w wr) (fun v _ => 128 - (intOf v).toNat)
          case atStart => exact ⟨0, Nat.zero_le _, rfl, HP4.out, HO4.out, HF4.out⟩
          case round =>
            clear HP4 HO4 HF4 HPr HFr HEV
            obtain ⟨i, hi, rfl, hp, ho, hf⟩ := hrel
            have HPr := Lib.hid hp
            have HOr := Lib.hid ho
            have HFr := Lib.hid hf
            clear hp ho hf
            by_cases hlt : i < 128
            · have hx : (i : Int) < 128 := by omega
              have hx255 : (i : Int) < 255 := by omega
              obtain ⟨q, r, n, h1, h2, h3, h4, h5, h6, h7, h8, h9, h10, hq, hn⟩ := idx8' i hlt
              have hq16 : (q : Int) < 16 := by omega
              have hn0 : (0 : Int) ≤ (n : Int) := by omega
              have hn1 : n ≤ 8 := by omega
              have hn2 : (n : Int) ≤ 8 := by omega
              obtain ⟨x, hxd⟩ : ∃ x, x = (outF (pf p) i).getD q 0 := ⟨_, rfl⟩
              obtain ⟨y, hyd⟩ : ∃ x, x = b8 (pf p i) := ⟨_, rfl⟩
              obtain ⟨s, hsd⟩ : ∃ x, x = y <<< UInt8.ofNat n := ⟨_, rfl⟩
              obtain ⟨z, hz⟩ : ∃ z, z = x ||| s := ⟨_, rfl⟩
              have es : ((y.toNat : Int) * ((2 ^ n : Nat) : Int)) % 256 = (s.toNat : Int) := by rw [hsd, hyd]; exact b8_shl _ _ h10
              have es2 : IntKind.u8.wrap ((y.toNat : Int) * 2 ^ n) = (s.toNat : Int) := by rw [IntKind.wrap_u8']; rw [← es]; norm_cast
              have es3 : ((y.toNat : Int) * 2 ^ n) % 256 = (s.toNat : Int) := by rw [← es]; norm_cast
              have eo : bits .or .u8 (x.toNat : Int) (s.toNat : Int) = (z.toNat : Int) := by rw [hz]; exact or_u8 _ _
              have cO : wr.drew.cell? ⟨O, q, none⟩ = some (.int .u8 (x.toNat : Int)) := bcells_cell (w := wr.drew) HOr.out q x (by rw [hxd, List.getD_eq_getElem?_getD, List.getElem?_eq_getElem (by rw [outF_length]; omega)]; rfl)
              have fO : wr.drew.frozen? ⟨O, q, none⟩ = false := frozen_of_row wr.drew _ _ _ _ HOr.out
              have cP : wr.drew.cell? ⟨P, i, none⟩ = some (.int .u8 (y.toNat : Int)) := by rw [hyd]; exact (HPr.out.fr (Fr.refl (fun _ => False) _).drew id).cell i (by omega)
              have HO2 := Lib.hid (show (wr.drew.setCell ⟨O, q, none⟩ (.int .u8 (z.toNat : Int))).heap[O]? = some (.cells (bcells (outF (pf p) (i + 1))).toArray 123 (0, 0)) by
                rw [outF, ← hq, ← hn, ← hxd]
                have e : x ||| (if pf p i then 1 else 0) <<< UInt8.ofNat n = z := by rw [hz, hsd, hyd]; rfl
                rw [e]
                exact bcells_set (w := wr.drew) HOr.out q z)
              have f3 : Fr (fun j => j = O) wr (wr.drew.setCell ⟨O, q, none⟩ (.int .u8 (z.toNat : Int))) := (Fr.refl _ _).drew.setCell _ _ (.inl rfl)
              have HP2 := Lib.hid (HPr.out.fr f3 HOP.out.2)
              have HF2 := Lib.hid (HFr.out.drew.setCell ⟨O, q, none⟩ (.int .u8 (z.toNat : Int)) (.inr HOP.out.1))
              have bx := x.toNat_lt
              have by' := y.toNat_lt
              have bz := z.toNat_lt
              have bs := s.toNat_lt
              clear hxd hyd hsd hz hq hn f3 es
              go_wp2
              refine wp_region_still_tail 16 (by kernel_rfl) (by kernel_rfl) ?_
              simp only [List.take_succ_cons, List.take_zero, List.drop_succ_cons, List.drop_zero]
              change wpStill _ _ wr.drew (fun a' => wpList _ _ _ _ a' wr.drew) _ _
              repeat still_step
              refine wpStill_nil ?_
              go_wp2
              go_roundw
              case rel => exact ⟨i + 1, by omega, by go_num, HP2.out, HO2.out, HF2.out⟩
              case measure => simp [intOf]; omega
            · have hi128 : i = 128 := by omega
              have HOz := Lib.hid (show wr.heap[O]? = some (.cells (bcells (prodL a b)).toArray 123 (0, 0)) by
                have := HOr.out
                rw [hi128, outF_text _ _ HEVZ.out, HZ.out] at this
                exact this)
              clear hi128
              have hcv := run_convert_str (P := Tryz.prog) wr 53 5 Tryz.underlying53 Tryz.underlying5 O 0 16 16 (prodL a b) (prodL_len a b) (fun j v hj => by
                rw [Nat.zero_add, cell_of_row wr O j _ _ _ HOz.out]; simpa using hj) 9 Tryz.underlying9
              go_wp2_with fail
              go_ret2
              exact ⟨rfl, HFr.out⟩
end Go.Proofs.YtcchhfkmhbjdmaaGreat
/-! PgJ -/
set_option linter.unusedVariables false
set_option linter.unusedSimpArgs false
set_option pp.deepTerms true
set_option pp.maxSteps 100000
namespace Go.Proofs.YtcchhfkmhbjdmaaGreat
open Go.RowKit
theorem turn_take (a b : List UInt8) (i : Nat) (ha : i < a.length) (hb : i < b.length) : (turnL a b).take (i + 1) = (turnL a b).take i ++ [a.getD i 0 ^^^ b.getD i 0] := by
  rw [List.take_add_one, List.getElem?_eq_getElem (by rw [turnL_length]; omega)]
  simp [turnL, full, turnG]
set_option maxRecDepth 20000 in
set_option maxHeartbeats 1000000 in
theorem refxor_calls (a b : List UInt8) (hab : a.length ≤ b.length) (hb : b.length ≤ 90000) (w : World) : Calls Tryz.prog 62 #[.string (str a), .string (str b)] w fun e w' => e = .returned (.string (str (turnL a b))) ∧ Fr (fun _ => False) w w' := by
  obtain ⟨A, hA⟩ : ∃ s, s = str a := ⟨_, rfl⟩
  obtain ⟨B, hB⟩ : ∃ s, s = str b := ⟨_, rfl⟩
  obtain ⟨la, hla⟩ : ∃ n, n = a.length := ⟨_, rfl⟩
  obtain ⟨lb, hlb⟩ : ∃ n, n = b.length := ⟨_, rfl⟩
  have hsa : A.size = la := by rw [hA, str_size, hla]
  have hsb : B.size = lb := by rw [hB, str_size, hlb]
  have HA := Lib.hid hA
  have HB := Lib.hid hB
  have HL := Lib.hid (And.intro hla hlb)
  have hl1 : la ≤ lb := by omega
  have hl2 : lb ≤ 90000 := by omega
  rw [← hA, ← hB]
  clear hA hB hla hlb hab hb
  go_enter Tryz.func62, Tryz.ntmps62
  go_wp2_with fail
  go_loopw [5, 6] (fun v5 v6 wr => ∃ i : Nat, i ≤ la ∧ v6 = .int .i64 i ∧ wr.ownsRow w.heap.size 5 1 v5 i (bcells ((turnL a b).take i)) ∧ Fr (fun _ => False) w wr) (fun _ v _ => la - (intOf v).toNat)
  case atStart => exact ⟨0, Nat.zero_le _, rfl, ⟨rfl, .inl ⟨rfl, rfl⟩⟩, Fr.refl _ _⟩
  case round =>
    obtain ⟨i, hi, rfl, ho, hf⟩ := hrel
    have HO := Lib.hid ho
    have HFr := Lib.hid hf
    clear ho hf
    by_cases hlt : i < la
    · have hx : (i : Int) < (la : Int) := by omega
      have hxb : (i : Int) < (lb : Int) := by omega
      obtain ⟨x, hxd⟩ : ∃ x, x = a.getD i 0 := ⟨_, rfl⟩
      obtain ⟨y, hyd⟩ : ∃ x, x = b.getD i 0 := ⟨_, rfl⟩
      obtain ⟨z, hz⟩ : ∃ z, z = x ^^^ y := ⟨_, rfl⟩
      have e1 := xor_u8 x y
      rw [← hz] at e1
      have hAs : ∀ h, A[i]'h = x := by
        intro h
        have hk := HA.out
        subst hk
        rw [str_at32, hxd]
      have hBs : ∀ h, B[i]'h = y := by
        intro h
        have hk := HB.out
        subst hk
        rw [str_at32, hyd]
      have HST := Lib.hid (show (turnL a b).take (i + 1) = (turnL a b).take i ++ [z] by
        rw [turn_take a b i (by rw [← HL.out.1]; exact hlt) (by rw [← HL.out.2]; omega), hz, hxd, hyd])
      have bx := x.toNat_lt
      have by' := y.toNat_lt
      have bz := z.toNat_lt
      have HOd := Lib.hid (show wr.drew.ownsRow w.heap.size 5 1 u5 i (bcells ((turnL a b).take i)) from (Fr.refl (fun _ => False) wr).drew.own HO.out (fun _ _ => id))
      have HFd := Lib.hid HFr.out.drew
      clear hxd hyd hz
      go_wp2
      refine wp_region_till (fun _ => True) 9 (by kernel_rfl) ?_
      have HS0 := Lib.hid (show (fun _ : World => True) wr from trivial)
      refine wpAnyT_take (i := 0) (n := 12) (v := u5) rfl (by kernel_rfl) (fun _ _ _ h => h) HS0.out (yieldsIf_plain rfl (fun W' hW => by clear hW; go_simp)) ?_
      simp only [List.getElem_toArray, List.getElem_cons_succ, List.getElem_cons_zero, Act.put, List.setIfInBounds_toArray, List.set_cons_zero, List.set_cons_succ]
      refine wpAnyT_take (i := 1) (n := 12) (v := .string A) rfl (by kernel_rfl) (fun _ _ _ h => h) HS0.out (yieldsIf_plain rfl (fun W' hW => by clear hW; go_simp)) ?_
      simp only [List.getElem_toArray, List.getElem_cons_succ, List.getElem_cons_zero, Act.put, List.setIfInBounds_toArray, List.set_cons_zero, List.set_cons_succ]
      refine wpAnyT_take (i := 2) (n := 12) (v := .int .i64 (i : Int)) rfl (by kernel_rfl) (fun _ _ _ h => h) HS0.out (yieldsIf_plain rfl (fun W' hW => by clear hW; go_simp)) ?_
      simp only [List.getElem_toArray, List.getElem_cons_succ, List.getElem_cons_zero, Act.put, List.setIfInBounds_toArray, List.set_cons_zero, List.set_cons_succ]
      refine wpAnyT_take (i := 3) (n := 12) (v := .int .u8 (x.toNat : Int)) rfl (by kernel_rfl) (fun _ _ _ h => h) HS0.out (yieldsIf_plain rfl (fun W' hW => by clear hW; go_simp)) ?_
      simp only [List.getElem_toArray, List.getElem_cons_succ, List.getElem_cons_zero, Act.put, List.setIfInBounds_toArray, List.set_cons_zero, List.set_cons_succ]
      refine wpAnyT_take (i := 4) (n := 12) (v := .string B) rfl (by kernel_rfl) (fun _ _ _ h => h) HS0.out (yieldsIf_plain rfl (fun W' hW => by clear hW; go_simp)) ?_
      simp only [List.getElem_toArray, List.getElem_cons_succ, List.getElem_cons_zero, Act.put, List.setIfInBounds_toArray, List.set_cons_zero, List.set_cons_succ]
      refine wpAnyT_take (i := 5) (n := 12) (v := .int .i64 (i : Int)) rfl (by kernel_rfl) (fun _ _ _ h => h) HS0.out (yieldsIf_plain rfl (fun W' hW => by clear hW; go_simp)) ?_
      simp only [List.getElem_toArray, List.getElem_cons_succ, List.getElem_cons_zero, Act.put, List.setIfInBounds_toArray, List.set_cons_zero, List.set_cons_succ]
      refine wpAnyT_take (i := 6) (n := 12) (v := .int .u8 (y.toNat : Int)) rfl (by kernel_rfl) (fun _ _ _ h => h) HS0.out (yieldsIf_plain rfl (fun W' hW => by clear hW; go_simp)) ?_
      simp only [List.getElem_toArray, List.getElem_cons_succ, List.getElem_cons_zero, Act.put, List.setIfInBounds_toArray, List.set_cons_zero, List.set_cons_succ]
      refine wpAnyT_take (i := 7) (n := 12) (v := .int .u8 (z.toNat : Int)) rfl (by kernel_rfl) (fun _ _ _ h => h) HS0.out (yieldsIf_plain rfl (fun W' hW => by clear hW; go_simp)) ?_
      simp only [List.getElem_toArray, List.getElem_cons_succ, List.getElem_cons_zero, Act.put, List.setIfInBounds_toArray, List.set_cons_zero, List.set_cons_succ]
      generalize wr.drew = wd at HOd HFd ⊢
      have HOb := Lib.hid (show (wd.alloc (.cells #[.int .u8 (z.toNat : Int)] 5)).ownsRow w.heap.size 5 1 u5 i (bcells ((turnL a b).take i)) from ((Fr.refl (fun _ => False) wd).alloc _).own HOd.out (fun _ _ => id))
      have HRb := Lib.hid (show (wd.alloc (.cells #[.int .u8 (z.toNat : Int)] 5)).rangeAt wd.heap.size 0 (bcells [z]) from fun j v hj => by
        rw [Nat.zero_add, cell_of_row _ wd.heap.size j _ _ _ (heap_alloc_new wd _)]; simpa [bcells] using hj)
      have HFb := Lib.hid (HFd.out.alloc (.cells #[.int .u8 (z.toNat : Int)] 5))
      have HSz := Lib.hid (show w.heap.size ≤ (wd.alloc (.cells #[.int .u8 (z.toNat : Int)] 5)).heap.size from HFb.out.size)
      refine wpAnyT_one (i := 8) rfl (by kernel_rfl) (wpOp_plain rfl rfl (fun K hK => ?_))
      simp only [List.getElem_toArray, List.getElem_cons_succ, List.getElem_cons_zero, Act.put, List.setIfInBounds_toArray, List.set_cons_zero, List.set_cons_succ]
      have HKK := Lib.hid hK
      clear hK
      go_wp2_with fail
      refine HKK.out _ _ ⟨fun _ => trivial, ?_⟩
      clear HKK K
      try simp only [List.getElem_toArray, List.getElem_cons_succ, List.getElem_cons_zero, Act.put, List.setIfInBounds_toArray, List.set_cons_zero, List.set_cons_succ]
      refine wpAnyT_of_any trivial [9, 10] _ _ _ _ (by kernel_rfl) (by simp) (.inr rfl) ?_
      simp only [List.filterMap_cons, List.filterMap_nil, List.getElem?_toArray, List.getElem?_cons_zero, List.getElem?_cons_succ]
      refine wpList_append_own (op := ⟨some 22, _, _, _, _, _⟩) rfl _ _ rfl w.heap.size u5 i ((turnL a b).take i) HOb.out rfl wd.heap.size 1 1 rfl [z] rfl HRb.out (by omega) HSz.out ?_
      intro v' w' ho' hgr
      have HO' := Lib.hid (show w'.ownsRow w.heap.size 5 1 v' (i + 1) (bcells ((turnL a b).take (i + 1))) by rw [HST.out]; exact ho')
      have HF' := Lib.hid (HFb.out.grown hgr (fun k hk => .inr (by
        obtain ⟨_, ⟨h1, _⟩ | ⟨g, cap, cur, h1, h2, _⟩⟩ := HO.out
        · rw [h1] at hk; cases hk
        · rw [h1] at hk; cases hk; exact h2)))
      clear ho' hgr
      go_wp2
      go_roundw
      case rel => exact ⟨i + 1, by omega, by go_num, HO'.out, HF'.out⟩
      case measure => simp [intOf]; omega
    · have him : i = la := by omega
      have HT := Lib.hid (show (turnL a b).take i = turnL a b by rw [List.take_of_length_le (by rw [turnL_length, ← HL.out.1]; omega)])
      clear him
      by_cases h0 : i = 0
      · have hnil : turnL a b = [] := by rw [← HT.out, h0]; rfl
        rcases HO.out.2 with ⟨h, _⟩ | ⟨g, cap, cur, h, _, _, hn, _⟩
        · have HE := Lib.hid (show str (turnL a b) = ⟨#[]⟩ by rw [hnil]; rfl)
          have hcv : (convert 53 9 (.slice none 0 0)).run Tryz.prog wr = .ok (.string ⟨#[]⟩) wr := run_convert_bytes_nil (P := Tryz.prog) wr 53 5 Tryz.underlying53 Tryz.underlying5 0 0 9 Tryz.underlying9
          clear hnil h0
          subst h
          go_wp2
          go_ret
          exact ⟨by rw [HE.out]; rfl, HFr.out⟩
        · have hcv := run_convert_str (P := Tryz.prog) wr 53 5 Tryz.underlying53 Tryz.underlying5 g 0 i cap (turnL a b) (by rw [hnil, h0]; rfl) (by rw [hnil]; intro j v hj; simp [bcells] at hj) 9 Tryz.underlying9
          clear hnil hn h0
          subst h
          go_wp2
          go_ret
          exact ⟨rfl, HFr.out⟩
      · obtain ⟨g, cap, hv, hlo, hro⟩ := owns_slice HO.out (by omega)
        have hcv := run_convert_str (P := Tryz.prog) wr 53 5 Tryz.underlying53 Tryz.underlying5 g 0 i cap (turnL a b) (by rw [← HT.out]; exact hlo) (by rw [← HT.out]; exact hro) 9 Tryz.underlying9
        clear hlo hro h0
        subst hv
        go_wp2
        go_ret
        exact ⟨rfl, HFr.out⟩
end Go.Proofs.YtcchhfkmhbjdmaaGreat
