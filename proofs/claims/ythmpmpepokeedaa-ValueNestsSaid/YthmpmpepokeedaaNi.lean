/- Values: the document's parse walked: leaves. -/
import Derived.Test.YthmpmpepokeedaaNh
import Derived.WalkLawsBesides
set_option linter.unusedVariables false
set_option linter.unusedSimpArgs false
set_option pp.deepTerms true
set_option pp.maxSteps 100000
namespace Go.Proofs.Ythmpmpepokeedaa
open Go.RowKit
theorem results_cell_tmp_row {P : Program} {fn : Func} {p u : Tmp} {ty : TypeId} (h : fn.results = #[.cell p ty, .tmp u]) (tmps : Array Value) (w : World) (g : Nat) (t : TypeId) (cs : Array Value) (fr : Nat × Nat) (d : TypeDesc) (x : Value)
    (hp : tmps.getD p undef = .pointer (some ⟨g, 0, none⟩)) (hx : tmps.getD u undef = x) (hg : w.heap[g]? = some (.cells cs t fr))
    (hu : P.underlying ty = some d) (hd : (match d with | .struct _ | .array _ _ => true | _ => false) = true) (hi : (P.info? ty).map (·.size) = some cs.size) :
    (results fn tmps).run P w = .ok (.tuple #[.agg cs, x]) w := by
  rw [results_cell_tmp h, hp, hx]
  simp [asAddr, Result.andThen, run_loadVar_row w g t ty cs fr d hg hu hd hi]
theorem run_at (l : List UInt8) (S : ByteArray) (hS : S = str l) (q : Nat) (c : UInt8) (h : l[q]? = some c) (w : World) : (Instr.index 9 (.string S) (.int .i64 (q : Int))).run Try.prog w = .ok (.int .u8 (c.toNat : Int)) w := by
  have hq := (List.getElem?_eq_some_iff.1 h).1
  have hs : q < S.size := by rw [hS, str_size]; exact hq
  rw [run_index_string (P := Try.prog) w 9 S .i64 (q : Int) Try.underlying9]
  have hc : S[q]'hs = c := by
    subst hS
    have := (List.getElem?_eq_some_iff.1 h).2
    rw [← this]
    simp [str, ByteArray.getElem_eq_getElem_data]
  subst hc
  simp [go_sem, hs]
  try rfl
def zeroV : List Value := [.int .i64 0, .int .i64 0, .string ⟨#[]⟩, .bool false, .slice none 0 0]
/-- What the document's parse answers. -/
def RpP (j : Nat) (l : List UInt8) (at_ : Nat) (w : World) (e : Ending) (w' : World) : Prop := ∃ (cs : List Value) (p : Int), e = .returned (.tuple #[.agg cs.toArray, .int .i64 p]) ∧ (match decA j (l.drop at_) with
  | some (a, rest) => p = ((l.length - rest.length : Nat) : Int) ∧ rest.length ≤ l.length ∧ rest = l.drop (l.length - rest.length) ∧ VR w' (fun i => w.heap.size ≤ i) (toV a) cs
  | none => p = -1 ∧ cs = zeroV) ∧ Fr (fun _ => False) w w'
theorem RpP.no {j : Nat} {l : List UInt8} {at_ : Nat} {w w' : World} (h : decA j (l.drop at_) = none) (hf : Fr (fun _ => False) w w') : RpP j l at_ w (.returned (.tuple #[.agg #[.int .i64 0, .int .i64 0, .string ⟨#[]⟩, .bool false, .slice none 0 0], .int .i64 (-1)])) w' :=
  ⟨zeroV, -1, rfl, by rw [h]; exact ⟨rfl, rfl⟩, hf⟩
theorem RpP.yes {j : Nat} {l rest : List UInt8} {at_ : Nat} {w w' : World} {a : AV} {cs : List Value} {q : Nat} (h : decA j (l.drop at_) = some (a, rest)) (hq : rest = l.drop q) (hql : q ≤ l.length) (hr : VR w' (fun i => w.heap.size ≤ i) (toV a) cs) (hf : Fr (fun _ => False) w w') : RpP j l at_ w (.returned (.tuple #[.agg cs.toArray, .int .i64 (q : Int)])) w' := by
  have hlen : l.length - rest.length = q := by rw [hq, List.length_drop]; omega
  exact ⟨cs, q, rfl, by rw [h]; exact ⟨by rw [hlen], by rw [hq, List.length_drop]; omega, by rw [hlen]; exact hq, hr⟩, hf⟩
theorem vr_int (w : World) (D : Nat → Prop) (n : Int) : VR w D (toV (.int n)) [.int .i64 1, .int .i64 n, .string ⟨#[]⟩, .bool false, .slice none 0 0] :=
  .mk 1 n [] false [] none 0 (fun _ => []) (Nat.le_refl _) (by decide) (by decide) (.inl rfl) (fun i t h => by simp at h)
theorem vr_text (w : World) (D : Nat → Prop) (s : List UInt8) (hs : s.length ≤ 9223372036854775807) : VR w D (toV (.text s)) [.int .i64 2, .int .i64 0, .string (str s), .bool false, .slice none 0 0] :=
  .mk 2 0 s false [] none 0 (fun _ => []) (Nat.le_refl _) (by decide) hs (.inl rfl) (fun i t h => by simp at h)
theorem vr_yes (w : World) (D : Nat → Prop) (b : Bool) : VR w D (toV (.yes b)) [.int .i64 3, .int .i64 0, .string ⟨#[]⟩, .bool b, .slice none 0 0] :=
  .mk 3 0 [] b [] none 0 (fun _ => []) (Nat.le_refl _) (by decide) (by decide) (.inl rfl) (fun i t h => by simp at h)
theorem drop_get {l : List UInt8} {p : Nat} {h : UInt8} {s : List UInt8} (e : l.drop p = h :: s) : l[p]? = some h ∧ s = l.drop (p + 1) ∧ p + 1 + s.length = l.length := by
  have hp : p < l.length := by
    have := congrArg List.length e
    rw [List.length_drop, List.length_cons] at this
    omega
  have h2 := List.drop_eq_getElem_cons hp
  rw [e] at h2
  obtain ⟨h3, h4⟩ := List.cons.inj h2
  refine ⟨by rw [List.getElem?_eq_getElem hp, h3], h4, ?_⟩
  rw [h4, List.length_drop]; omega
theorem drop_at {l : List UInt8} {p : Nat} {s : List UInt8} (e : s = l.drop p) (k : Nat) (c : UInt8) (h : s[k]? = some c) : l[p + k]? = some c := by
  rw [e, List.getElem?_drop] at h; exact h
set_option maxRecDepth 20000 in
set_option maxHeartbeats 8000000 in
theorem rparse_leaf (j d : Nat) (l : List UInt8) (p : Nat) (h : UInt8) (s : List UInt8) (hd : l.drop p = h :: s) (hl : l.length ≤ 4611686018427387904) (hne : h ≠ 108) (w : World) :
    Calls Try.prog 56 #[.string (str l), .int .i64 (p : Int), .int .i64 (d : Int)] w (RpP j l p w) := by
  obtain ⟨S, hS⟩ : ∃ x, x = str l := ⟨_, rfl⟩
  rw [← hS]
  have hSs : S.size = l.length := by rw [hS, str_size]
  obtain ⟨hg0, hs1, hlen1⟩ := drop_get hd
  have hx := run_at l S hS p h hg0
  have hpl : p < S.size := by omega
  have q0 : decide ((S.size : Int) ≤ (p : Int)) = false := decide_eq_false (by omega)
  have q0' : decide (S.size ≤ p) = false := decide_eq_false (by omega)
  have q0i : (p : Int) < (S.size : Int) := by omega
  have hsb : S.size ≤ 4611686018427387904 := by omega
  have HSS := Lib.hid (And.intro hS hSs)
  have HS1 := Lib.hid (And.intro hs1 hlen1)
  have HD0 := Lib.hid hd
  have HW1 := Lib.hid (rfl : w.alloc (.cells #[.int .i64 0, .int .i64 0, .string ⟨#[]⟩, .bool false, .slice none 0 0] 36) = w.alloc (.cells #[.int .i64 0, .int .i64 0, .string ⟨#[]⟩, .bool false, .slice none 0 0] 36))
  clear hg0 hd
  by_cases hk : h = 105
  · have k105 : ((h.toNat : Int) == 105) = true := by subst hk; rfl
    have k105' : (h.toNat == 105) = true := by subst hk; rfl
    have k115 : ((h.toNat : Int) == 115) = false := beq_eq_false_iff_ne.2 (by subst hk; decide)
    have k115' : (h.toNat == 115) = false := beq_eq_false_iff_ne.2 (by subst hk; decide)
    have k121 : ((h.toNat : Int) == 121) = false := beq_eq_false_iff_ne.2 (by subst hk; decide)
    have k121' : (h.toNat == 121) = false := beq_eq_false_iff_ne.2 (by subst hk; decide)
    have k110 : ((h.toNat : Int) == 110) = false := beq_eq_false_iff_ne.2 (by subst hk; decide)
    have k110' : (h.toNat == 110) = false := beq_eq_false_iff_ne.2 (by subst hk; decide)
    have k108 : ((h.toNat : Int) == 108) = false := beq_eq_false_iff_ne.2 (by subst hk; decide)
    have k108' : (h.toNat == 108) = false := beq_eq_false_iff_ne.2 (by subst hk; decide)
    obtain ⟨p9, hp9⟩ : ∃ q, q = p + 9 := ⟨_, rfl⟩
    have w9 : IntKind.i64.wrap ((p : Int) + 9) = (p9 : Int) := by rw [IntWalk.i64_in _ (by omega)]; omega
    by_cases h8 : s.length < 8
    · have HD := Lib.hid (show decA j (l.drop p) = none by rw [HD0.out, hk, decA_int, if_pos h8])
      have t1 : decide ((S.size : Int) < (p9 : Int)) = true := decide_eq_true (by omega)
      have t1' : decide (S.size < p9) = true := decide_eq_true (by omega)
      clear hk h8 hne hp9
      clear hS hSs hs1 hlen1 hl
      go_enter Try.func56, Try.ntmps56
      go_wp2_with (first | (with_reducible refine wpList_store_fresh (op := ⟨none, .store 36 _ _, _, _, _, _⟩) rfl 36 _ _ rfl w #[.int .i64 0, .int .i64 0, .string ⟨#[]⟩, .bool false, .slice none 0 0] #[.int .i64 0, .int .i64 0, .string ⟨#[]⟩, .bool false, .slice none 0 0] HW1.out rfl rfl rfl (by kernel_rfl) (by simp [Value.oneCell']) ?_))
      refine bodyPost_ret (results_cell_tmp_row rfl _ _ w.heap.size 36 #[.int .i64 0, .int .i64 0, .string ⟨#[]⟩, .bool false, .slice none 0 0] (0, 0) _ (.int .i64 (-1)) rfl rfl (heap_alloc_new w _) Try.underlying36 rfl (by kernel_rfl)) rfl ?_
      exact RpP.no HD.out ((Fr.refl _ _).alloc _)
    · have HD := Lib.hid (show decA j (l.drop p) = some (.int (accB 0 (s.take 8)), s.drop 8) by rw [HD0.out, hk, decA_int, if_neg h8])
      have t1 : decide ((S.size : Int) < (p9 : Int)) = false := decide_eq_false (by omega)
      have t1' : decide (S.size < p9) = false := decide_eq_false (by omega)
      have HP9 := Lib.hid (show s.drop 8 = l.drop p9 ∧ p9 ≤ l.length by rw [hs1, List.drop_drop]; exact ⟨by congr 1; omega, by omega⟩)
      have hp8 : p + 9 ≤ S.size := by omega
      have HIX := Lib.hid (show ∀ u c, s[u]? = some c → ∀ (w : World), (Instr.index 9 (.string S) (.int .i64 ((p + 1 + u : Nat) : Int))).run Try.prog w = .ok (.int .u8 (c.toNat : Int)) w from fun u c hc w => run_at l S hS (p + 1 + u) c (drop_at hs1 u c hc) w)
      have HS8 := Lib.hid (show 8 ≤ s.length by omega)
      clear hk h8 hne hp9
      clear hS hSs hs1 hlen1 hl
      go_enter Try.func56, Try.ntmps56
      go_wp2_with fail
      generalize hW : w.alloc (.cells #[.int .i64 0, .int .i64 0, .string ⟨#[]⟩, .bool false, .slice none 0 0] 36) = w1 at HW1 ⊢
      go_loopw [8, 9] (fun x i wr => ∃ u : Nat, u ≤ 8 ∧ x = .int .i64 (accB 0 (s.take u)) ∧ i = .int .i64 ((u + 1 : Nat) : Int) ∧ wr = w1) (fun _ i _ => 9 - (intOf i).toNat)
      case atStart => exact ⟨0, by omega, rfl, rfl, rfl⟩
      case round =>
        obtain ⟨u, hu, rfl, rfl, rfl⟩ := hrel
        obtain ⟨y, hy⟩ : ∃ y, y = accB 0 (s.take u) := ⟨_, rfl⟩
        obtain ⟨v, hv⟩ : ∃ v, v = u + 1 := ⟨_, rfl⟩
        rw [← hy, ← hv]
        have HY := Lib.hid hy
        have HV := Lib.hid hv
        by_cases hlt : u < 8
        · have hus : u < s.length := by have := HS8.out; omega
          have hv9 : (v : Int) < 9 := by omega
          obtain ⟨c, hc⟩ : ∃ c, s[u]? = some c := ⟨_, List.getElem?_eq_getElem hus⟩
          obtain ⟨pu, hpu⟩ : ∃ q, q = p + 1 + u := ⟨_, rfl⟩
          have hix := HIX.out u c hc
          rw [← hpu] at hix
          have wpu : IntKind.i64.wrap ((p : Int) + (v : Int)) = (pu : Int) := by rw [IntWalk.i64_in _ (by omega)]; omega
          have hcb := c.toNat_lt
          have hw0 : IntKind.i64.wrap (c.toNat : Int) = (c.toNat : Int) := IntWalk.i64_in _ (by omega)
          have hor := or_byte y c
          obtain ⟨z, hz⟩ : ∃ z, IntKind.i64.wrap (y * 256 + c.toNat) = z := ⟨_, rfl⟩
          rw [hz] at hor
          have hor2 : bits .or .i64 (wrap64 (y * 256)) (c.toNat : Int) = z := by rw [show wrap64 (y * 256) = IntKind.i64.wrap (y * 256) by rw [wrapI]; unfold wrap64; split <;> omega]; exact hor
          have HT := Lib.hid (show accB 0 (s.take (u + 1)) = z by
            rw [List.take_succ_eq_append_getElem hus, accB_snoc, ← hy, show s[u] = c from (List.getElem?_eq_some_iff.1 hc).2, hz])
          have hvw : IntKind.i64.wrap ((v : Int) + 1) = ((v + 1 : Nat) : Int) := by rw [IntWalk.i64_in _ (by omega)]; omega
          clear hy hus hc hcb hz hpu hv
          go_wp2_with fail
          go_roundw
          case rel => exact ⟨u + 1, by omega, by rw [HT.out], by rw [HV.out]; go_num, by first | trivial | rfl⟩
          case measure => simp [intOf]; omega
        · obtain rfl : u = 8 := by omega
          have hge : ¬ (v : Int) < 9 := by omega
          have HW2 := Lib.hid hW
          clear hy hlt hv
          subst hW
          go_wp2_with (first | (with_reducible refine wpList_store_fresh (op := ⟨none, .store 36 _ _, _, _, _, _⟩) rfl 36 _ _ rfl w #[.int .i64 0, .int .i64 0, .string ⟨#[]⟩, .bool false, .slice none 0 0] #[.int .i64 1, .int .i64 y, .string ⟨#[]⟩, .bool false, .slice none 0 0] HW1.out rfl rfl rfl (by kernel_rfl) (by simp [Value.oneCell']) ?_))
          refine bodyPost_ret (results_cell_tmp_row rfl _ _ w.heap.size 36 #[.int .i64 1, .int .i64 y, .string ⟨#[]⟩, .bool false, .slice none 0 0] (0, 0) _ (.int .i64 (p9 : Int)) rfl rfl (heap_alloc_new w _) Try.underlying36 rfl (by kernel_rfl)) rfl ?_
          rw [HY.out]
          exact RpP.yes HD.out HP9.out.1 HP9.out.2 (vr_int _ _ _) ((Fr.refl _ _).alloc _)
  have n105 := hk
  clear hk
  by_cases hk : h = 115
  · have k105 : ((h.toNat : Int) == 105) = false := beq_eq_false_iff_ne.2 (by subst hk; decide)
    have k105' : (h.toNat == 105) = false := beq_eq_false_iff_ne.2 (by subst hk; decide)
    have k115 : ((h.toNat : Int) == 115) = true := by subst hk; rfl
    have k115' : (h.toNat == 115) = true := by subst hk; rfl
    have k121 : ((h.toNat : Int) == 121) = false := beq_eq_false_iff_ne.2 (by subst hk; decide)
    have k121' : (h.toNat == 121) = false := beq_eq_false_iff_ne.2 (by subst hk; decide)
    have k110 : ((h.toNat : Int) == 110) = false := beq_eq_false_iff_ne.2 (by subst hk; decide)
    have k110' : (h.toNat == 110) = false := beq_eq_false_iff_ne.2 (by subst hk; decide)
    have k108 : ((h.toNat : Int) == 108) = false := beq_eq_false_iff_ne.2 (by subst hk; decide)
    have k108' : (h.toNat == 108) = false := beq_eq_false_iff_ne.2 (by subst hk; decide)
    obtain ⟨p3, hp3⟩ : ∃ q, q = p + 3 := ⟨_, rfl⟩
    have w3 : IntKind.i64.wrap ((p : Int) + 3) = (p3 : Int) := by rw [IntWalk.i64_in _ (by omega)]; omega
    by_cases h2 : s.length < 2
    · have HD := Lib.hid (show decA j (l.drop p) = none by rw [HD0.out, hk, decA_text, if_pos (.inl h2)])
      have t1 : decide ((S.size : Int) < (p3 : Int)) = true := decide_eq_true (by omega)
      have t1' : decide (S.size < p3) = true := decide_eq_true (by omega)
      clear hk h2 hne hp3 n105
      clear hS hSs hs1 hlen1 hl
      go_enter Try.func56, Try.ntmps56
      go_wp2_with (first | (with_reducible refine wpList_store_fresh (op := ⟨none, .store 36 _ _, _, _, _, _⟩) rfl 36 _ _ rfl w #[.int .i64 0, .int .i64 0, .string ⟨#[]⟩, .bool false, .slice none 0 0] #[.int .i64 0, .int .i64 0, .string ⟨#[]⟩, .bool false, .slice none 0 0] HW1.out rfl rfl rfl (by kernel_rfl) (by simp [Value.oneCell']) ?_))
      refine bodyPost_ret (results_cell_tmp_row rfl _ _ w.heap.size 36 #[.int .i64 0, .int .i64 0, .string ⟨#[]⟩, .bool false, .slice none 0 0] (0, 0) _ (.int .i64 (-1)) rfl rfl (heap_alloc_new w _) Try.underlying36 rfl (by kernel_rfl)) rfl ?_
      exact RpP.no HD.out ((Fr.refl _ _).alloc _)
    · have t1 : decide ((S.size : Int) < (p3 : Int)) = false := decide_eq_false (by omega)
      have t1' : decide (S.size < p3) = false := decide_eq_false (by omega)
      obtain ⟨a, b, r, hs0⟩ : ∃ a b r, s = a :: b :: r := by
        match s, h2 with
        | [], h2 => exact absurd (by decide) h2
        | [_], h2 => exact absurd (by simp) h2
        | a :: b :: r, _ => exact ⟨a, b, r, rfl⟩
      obtain ⟨n, hn⟩ : ∃ n, n = num2 s := ⟨_, rfl⟩
      have hn2 : n = a.toNat * 256 + b.toNat := by rw [hn, hs0]; rfl
      have ha := a.toNat_lt
      have hb := b.toNat_lt
      obtain ⟨p1, hp1⟩ : ∃ q, q = p + 1 := ⟨_, rfl⟩
      obtain ⟨p2, hp2⟩ : ∃ q, q = p + 2 := ⟨_, rfl⟩
      have hxa := run_at l S hS p1 a (by rw [hp1]; exact drop_at hs1 0 a (by rw [hs0]; rfl))
      have hxb := run_at l S hS p2 b (by rw [hp2]; exact drop_at hs1 1 b (by rw [hs0]; rfl))
      have e1 : IntKind.i64.wrap ((p : Int) + 1) = (p1 : Int) := by rw [IntWalk.i64_in _ (by omega)]; omega
      have e2 : IntKind.i64.wrap ((p : Int) + 2) = (p2 : Int) := by rw [IntWalk.i64_in _ (by omega)]; omega
      have wa : IntKind.i64.wrap (a.toNat : Int) = (a.toNat : Int) := IntWalk.i64_in _ (by omega)
      have wb : IntKind.i64.wrap (b.toNat : Int) = (b.toNat : Int) := IntWalk.i64_in _ (by omega)
      obtain ⟨ah, hah⟩ : ∃ q : Nat, q = a.toNat * 256 := ⟨_, rfl⟩
      have wm : IntKind.i64.wrap ((a.toNat : Int) * 256) = (ah : Int) := by rw [IntWalk.i64_in _ (by omega)]; omega
      have wn : IntKind.i64.wrap ((ah : Int) + (b.toNat : Int)) = (n : Int) := by rw [IntWalk.i64_in _ (by omega)]; omega
      obtain ⟨pn, hpn⟩ : ∃ q, q = p3 + n := ⟨_, rfl⟩
      have wpn : IntKind.i64.wrap ((p3 : Int) + (n : Int)) = (pn : Int) := by rw [IntWalk.i64_in _ (by omega)]; omega
      have hsl2 : (s.drop 2).length = s.length - 2 := List.length_drop
      have i1 : (p1 : Int) < (S.size : Int) := by omega
      have i2 : (p2 : Int) < (S.size : Int) := by omega
      have i1' : p1 < S.size := by omega
      have i2' : p2 < S.size := by omega
      by_cases hlt : (s.drop 2).length < n
      · have HD := Lib.hid (show decA j (l.drop p) = none by rw [HD0.out, hk, decA_text, if_pos (.inr (by rw [← hn]; exact hlt))])
        have t2 : decide ((S.size : Int) < (pn : Int)) = true := decide_eq_true (by omega)
        have t2' : decide (S.size < pn) = true := decide_eq_true (by omega)
        clear hk h2 hne hp3 n105 hs0 hn hn2 ha hb hp1 hp2 hah hpn hlt hsl2
        clear hS hSs hs1 hlen1 hl
        go_enter Try.func56, Try.ntmps56
        go_wp2_with fail
        go_quiet (fail)
        generalize hWq : (w.alloc (.cells #[.int .i64 0, .int .i64 0, .string ⟨#[]⟩, .bool false, .slice none 0 0] 36)).drewN _ = wq
        have HWq := Lib.hid hWq
        have HGq := Lib.hid (show wq.heap[w.heap.size]? = some (.cells #[.int .i64 0, .int .i64 0, .string ⟨#[]⟩, .bool false, .slice none 0 0] 36 (0, 0)) by rw [← hWq]; exact heap_alloc_new w _)
        clear hWq
        go_wp2_with (first | (with_reducible refine wpList_store_whole (op := ⟨none, .store 36 _ _, _, _, _, _⟩) rfl 36 _ _ rfl w.heap.size 36 #[.int .i64 0, .int .i64 0, .string ⟨#[]⟩, .bool false, .slice none 0 0] #[.int .i64 0, .int .i64 0, .string ⟨#[]⟩, .bool false, .slice none 0 0] rfl rfl HGq.out rfl (by kernel_rfl) (by simp [Value.oneCell']) ?_))
        refine bodyPost_ret (results_cell_tmp_row rfl _ _ w.heap.size 36 #[.int .i64 0, .int .i64 0, .string ⟨#[]⟩, .bool false, .slice none 0 0] (0, 0) _ (.int .i64 (-1)) rfl rfl (setRow_heap wq w.heap.size #[.int .i64 0, .int .i64 0, .string ⟨#[]⟩, .bool false, .slice none 0 0] _ 36 _ HGq.out) Try.underlying36 rfl (by kernel_rfl)) rfl ?_
        exact RpP.no HD.out ((show Fr (fun _ => False) w wq by rw [← HWq.out]; exact ((Fr.refl _ _).alloc _).drewN _).setRow _ _ (.inr (Nat.le_refl _)))
      · have HD := Lib.hid (show decA j (l.drop p) = some (.text ((s.drop 2).take n), (s.drop 2).drop n) by rw [HD0.out, hk, decA_text, if_neg (by rw [not_or]; exact ⟨h2, by rw [← hn]; exact hlt⟩), ← hn])
        have t2 : decide ((S.size : Int) < (pn : Int)) = false := decide_eq_false (by omega)
        have t2' : decide (S.size < pn) = false := decide_eq_false (by omega)
        have b1 : p3 ≤ pn := by omega
        have b2 : pn ≤ S.size := by omega
        have b1' : (p3 : Int) ≤ (pn : Int) := by omega
        have b2' : (pn : Int) ≤ (S.size : Int) := by omega
        obtain ⟨X, hX⟩ : ∃ x, x = str ((s.drop 2).take n) := ⟨_, rfl⟩
        have ex : S.extract p3 pn = X := by
          rw [hX, hS, hs1, List.drop_drop]
          apply ByteArray.ext
          simp only [str, ByteArray.data_extract, List.extract_toArray, List.extract_eq_take_drop]
          rw [show pn - p3 = n by omega, show p + 1 + 2 = p3 by omega]
        have HX := Lib.hid hX
        have HR := Lib.hid (show (s.drop 2).drop n = l.drop pn ∧ pn ≤ l.length ∧ ((s.drop 2).take n).length ≤ 9223372036854775807 by
          refine ⟨by rw [hs1, List.drop_drop, List.drop_drop]; congr 1; omega, by omega, by rw [List.length_take]; omega⟩)
        clear hk h2 hne hp3 n105 hs0 hn hn2 ha hb hp1 hp2 hah hpn hlt hsl2 hX
        clear hS hSs hs1 hlen1 hl
        go_enter Try.func56, Try.ntmps56
        go_wp2_with fail
        go_quiet (fail)
        generalize hWq : (w.alloc (.cells #[.int .i64 0, .int .i64 0, .string ⟨#[]⟩, .bool false, .slice none 0 0] 36)).drewN _ = wq
        have HWq := Lib.hid hWq
        have HGq := Lib.hid (show wq.heap[w.heap.size]? = some (.cells #[.int .i64 0, .int .i64 0, .string ⟨#[]⟩, .bool false, .slice none 0 0] 36 (0, 0)) by rw [← hWq]; exact heap_alloc_new w _)
        clear hWq
        go_wp2_with (first | (with_reducible refine wpList_store_whole (op := ⟨none, .store 36 _ _, _, _, _, _⟩) rfl 36 _ _ rfl w.heap.size 36 #[.int .i64 0, .int .i64 0, .string ⟨#[]⟩, .bool false, .slice none 0 0] #[.int .i64 2, .int .i64 0, .string X, .bool false, .slice none 0 0] rfl rfl HGq.out rfl (by kernel_rfl) (by simp [Value.oneCell']) ?_))
        refine bodyPost_ret (results_cell_tmp_row rfl _ _ w.heap.size 36 #[.int .i64 2, .int .i64 0, .string X, .bool false, .slice none 0 0] (0, 0) _ (.int .i64 (pn : Int)) rfl rfl (setRow_heap wq w.heap.size #[.int .i64 0, .int .i64 0, .string ⟨#[]⟩, .bool false, .slice none 0 0] _ 36 _ HGq.out) Try.underlying36 rfl (by kernel_rfl)) rfl ?_
        rw [HX.out]
        exact RpP.yes HD.out HR.out.1 HR.out.2.1 (vr_text _ _ _ HR.out.2.2) ((show Fr (fun _ => False) w wq by rw [← HWq.out]; exact ((Fr.refl _ _).alloc _).drewN _).setRow _ _ (.inr (Nat.le_refl _)))
  have n115 := hk
  clear hk
  by_cases hk : h = 121
  · have k105 : ((h.toNat : Int) == 105) = false := beq_eq_false_iff_ne.2 (by subst hk; decide)
    have k105' : (h.toNat == 105) = false := beq_eq_false_iff_ne.2 (by subst hk; decide)
    have k115 : ((h.toNat : Int) == 115) = false := beq_eq_false_iff_ne.2 (by subst hk; decide)
    have k115' : (h.toNat == 115) = false := beq_eq_false_iff_ne.2 (by subst hk; decide)
    have k121 : ((h.toNat : Int) == 121) = true := by subst hk; rfl
    have k121' : (h.toNat == 121) = true := by subst hk; rfl
    have k110 : ((h.toNat : Int) == 110) = false := beq_eq_false_iff_ne.2 (by subst hk; decide)
    have k110' : (h.toNat == 110) = false := beq_eq_false_iff_ne.2 (by subst hk; decide)
    have k108 : ((h.toNat : Int) == 108) = false := beq_eq_false_iff_ne.2 (by subst hk; decide)
    have k108' : (h.toNat == 108) = false := beq_eq_false_iff_ne.2 (by subst hk; decide)
    have HD := Lib.hid (show decA j (l.drop p) = some (.yes true, s) by rw [HD0.out, hk, decA_yes])
    obtain ⟨p1, hp1⟩ : ∃ q, q = p + 1 := ⟨_, rfl⟩
    have e1 : IntKind.i64.wrap ((p : Int) + 1) = (p1 : Int) := by rw [IntWalk.i64_in _ (by omega)]; omega
    have HR := Lib.hid (show s = l.drop p1 ∧ p1 ≤ l.length from ⟨by rw [hp1]; exact hs1, by omega⟩)
    clear hk hne hp1
    clear hS hSs hs1 hlen1 hl
    go_enter Try.func56, Try.ntmps56
    go_wp2_with (first | (with_reducible refine wpList_store_fresh (op := ⟨none, .store 36 _ _, _, _, _, _⟩) rfl 36 _ _ rfl w #[.int .i64 0, .int .i64 0, .string ⟨#[]⟩, .bool false, .slice none 0 0] #[.int .i64 3, .int .i64 0, .string ⟨#[]⟩, .bool true, .slice none 0 0] HW1.out rfl rfl rfl (by kernel_rfl) (by simp [Value.oneCell']) ?_))
    refine bodyPost_ret (results_cell_tmp_row rfl _ _ w.heap.size 36 #[.int .i64 3, .int .i64 0, .string ⟨#[]⟩, .bool true, .slice none 0 0] (0, 0) _ (.int .i64 (p1 : Int)) rfl rfl (heap_alloc_new w _) Try.underlying36 rfl (by kernel_rfl)) rfl ?_
    exact RpP.yes HD.out HR.out.1 HR.out.2 (vr_yes _ _ _) ((Fr.refl _ _).alloc _)
  have n121 := hk
  clear hk
  by_cases hk : h = 110
  · have k105 : ((h.toNat : Int) == 105) = false := beq_eq_false_iff_ne.2 (by subst hk; decide)
    have k105' : (h.toNat == 105) = false := beq_eq_false_iff_ne.2 (by subst hk; decide)
    have k115 : ((h.toNat : Int) == 115) = false := beq_eq_false_iff_ne.2 (by subst hk; decide)
    have k115' : (h.toNat == 115) = false := beq_eq_false_iff_ne.2 (by subst hk; decide)
    have k121 : ((h.toNat : Int) == 121) = false := beq_eq_false_iff_ne.2 (by subst hk; decide)
    have k121' : (h.toNat == 121) = false := beq_eq_false_iff_ne.2 (by subst hk; decide)
    have k110 : ((h.toNat : Int) == 110) = true := by subst hk; rfl
    have k110' : (h.toNat == 110) = true := by subst hk; rfl
    have k108 : ((h.toNat : Int) == 108) = false := beq_eq_false_iff_ne.2 (by subst hk; decide)
    have k108' : (h.toNat == 108) = false := beq_eq_false_iff_ne.2 (by subst hk; decide)
    have HD := Lib.hid (show decA j (l.drop p) = some (.yes false, s) by rw [HD0.out, hk, decA_noo])
    obtain ⟨p1, hp1⟩ : ∃ q, q = p + 1 := ⟨_, rfl⟩
    have e1 : IntKind.i64.wrap ((p : Int) + 1) = (p1 : Int) := by rw [IntWalk.i64_in _ (by omega)]; omega
    have HR := Lib.hid (show s = l.drop p1 ∧ p1 ≤ l.length from ⟨by rw [hp1]; exact hs1, by omega⟩)
    clear hk hne hp1
    clear hS hSs hs1 hlen1 hl
    go_enter Try.func56, Try.ntmps56
    go_wp2_with (first | (with_reducible refine wpList_store_fresh (op := ⟨none, .store 36 _ _, _, _, _, _⟩) rfl 36 _ _ rfl w #[.int .i64 0, .int .i64 0, .string ⟨#[]⟩, .bool false, .slice none 0 0] #[.int .i64 3, .int .i64 0, .string ⟨#[]⟩, .bool false, .slice none 0 0] HW1.out rfl rfl rfl (by kernel_rfl) (by simp [Value.oneCell']) ?_))
    refine bodyPost_ret (results_cell_tmp_row rfl _ _ w.heap.size 36 #[.int .i64 3, .int .i64 0, .string ⟨#[]⟩, .bool false, .slice none 0 0] (0, 0) _ (.int .i64 (p1 : Int)) rfl rfl (heap_alloc_new w _) Try.underlying36 rfl (by kernel_rfl)) rfl ?_
    exact RpP.yes HD.out HR.out.1 HR.out.2 (vr_yes _ _ _) ((Fr.refl _ _).alloc _)
  have n110 := hk
  have n108 := hne
  clear hk
  have k105 : ((h.toNat : Int) == 105) = false := beq_eq_false_iff_ne.2 (fun e => n105 (by apply UInt8.toNat_inj.1; rw [show h.toNat = 105 by omega]; rfl))
  have k105' : (h.toNat == 105) = false := beq_eq_false_iff_ne.2 (fun e => n105 (by apply UInt8.toNat_inj.1; rw [show h.toNat = 105 by omega]; rfl))
  have k115 : ((h.toNat : Int) == 115) = false := beq_eq_false_iff_ne.2 (fun e => n115 (by apply UInt8.toNat_inj.1; rw [show h.toNat = 115 by omega]; rfl))
  have k115' : (h.toNat == 115) = false := beq_eq_false_iff_ne.2 (fun e => n115 (by apply UInt8.toNat_inj.1; rw [show h.toNat = 115 by omega]; rfl))
  have k121 : ((h.toNat : Int) == 121) = false := beq_eq_false_iff_ne.2 (fun e => n121 (by apply UInt8.toNat_inj.1; rw [show h.toNat = 121 by omega]; rfl))
  have k121' : (h.toNat == 121) = false := beq_eq_false_iff_ne.2 (fun e => n121 (by apply UInt8.toNat_inj.1; rw [show h.toNat = 121 by omega]; rfl))
  have k110 : ((h.toNat : Int) == 110) = false := beq_eq_false_iff_ne.2 (fun e => n110 (by apply UInt8.toNat_inj.1; rw [show h.toNat = 110 by omega]; rfl))
  have k110' : (h.toNat == 110) = false := beq_eq_false_iff_ne.2 (fun e => n110 (by apply UInt8.toNat_inj.1; rw [show h.toNat = 110 by omega]; rfl))
  have k108 : ((h.toNat : Int) == 108) = false := beq_eq_false_iff_ne.2 (fun e => n108 (by apply UInt8.toNat_inj.1; rw [show h.toNat = 108 by omega]; rfl))
  have k108' : (h.toNat == 108) = false := beq_eq_false_iff_ne.2 (fun e => n108 (by apply UInt8.toNat_inj.1; rw [show h.toNat = 108 by omega]; rfl))
  have HD := Lib.hid (show decA j (l.drop p) = none by rw [HD0.out]; exact decA_else j h s n105 n115 n121 n110 n108)
  clear hne n105 n115 n121 n110 n108
  clear hS hSs hs1 hlen1 hl
  go_enter Try.func56, Try.ntmps56
  go_wp2_with (first | (with_reducible refine wpList_store_fresh (op := ⟨none, .store 36 _ _, _, _, _, _⟩) rfl 36 _ _ rfl w #[.int .i64 0, .int .i64 0, .string ⟨#[]⟩, .bool false, .slice none 0 0] #[.int .i64 0, .int .i64 0, .string ⟨#[]⟩, .bool false, .slice none 0 0] HW1.out rfl rfl rfl (by kernel_rfl) (by simp [Value.oneCell']) ?_))
  refine bodyPost_ret (results_cell_tmp_row rfl _ _ w.heap.size 36 #[.int .i64 0, .int .i64 0, .string ⟨#[]⟩, .bool false, .slice none 0 0] (0, 0) _ (.int .i64 (-1)) rfl rfl (heap_alloc_new w _) Try.underlying36 rfl (by kernel_rfl)) rfl ?_
  exact RpP.no HD.out ((Fr.refl _ _).alloc _)
set_option maxRecDepth 20000 in
set_option maxHeartbeats 8000000 in
theorem rparse_end (j d : Nat) (l : List UInt8) (p : Nat) (hp : p = l.length) (hl : l.length ≤ 4611686018427387904) (w : World) :
    Calls Try.prog 56 #[.string (str l), .int .i64 (p : Int), .int .i64 (d : Int)] w (RpP j l p w) := by
  obtain ⟨S, hS⟩ : ∃ x, x = str l := ⟨_, rfl⟩
  rw [← hS]
  have hSs : S.size = l.length := by rw [hS, str_size]
  have q0 : decide ((S.size : Int) ≤ (p : Int)) = true := decide_eq_true (by omega)
  have q0' : decide (S.size ≤ p) = true := decide_eq_true (by omega)
  have HD := Lib.hid (show decA j (l.drop p) = none by rw [hp, List.drop_eq_nil_of_le (Nat.le_refl _)]; cases j <;> rfl)
  have HW1 := Lib.hid (rfl : w.alloc (.cells #[.int .i64 0, .int .i64 0, .string ⟨#[]⟩, .bool false, .slice none 0 0] 36) = w.alloc (.cells #[.int .i64 0, .int .i64 0, .string ⟨#[]⟩, .bool false, .slice none 0 0] 36))
  clear hS hSs hp hl
  go_enter Try.func56, Try.ntmps56
  go_wp2_with (first | (with_reducible refine wpList_store_fresh (op := ⟨none, .store 36 _ _, _, _, _, _⟩) rfl 36 _ _ rfl w #[.int .i64 0, .int .i64 0, .string ⟨#[]⟩, .bool false, .slice none 0 0] #[.int .i64 0, .int .i64 0, .string ⟨#[]⟩, .bool false, .slice none 0 0] HW1.out rfl rfl rfl (by kernel_rfl) (by simp [Value.oneCell']) ?_))
  refine bodyPost_ret (results_cell_tmp_row rfl _ _ w.heap.size 36 #[.int .i64 0, .int .i64 0, .string ⟨#[]⟩, .bool false, .slice none 0 0] (0, 0) _ (.int .i64 (-1)) rfl rfl (heap_alloc_new w _) Try.underlying36 rfl (by kernel_rfl)) rfl ?_
  exact RpP.no HD.out ((Fr.refl _ _).alloc _)
end Go.Proofs.Ythmpmpepokeedaa
