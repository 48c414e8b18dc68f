/- Values: write and Print walked. -/
import Derived.Test.YthmpmpepokeedaaNe
set_option linter.unusedVariables false
set_option linter.unusedSimpArgs false
set_option pp.deepTerms true
set_option pp.maxSteps 100000
namespace Go.Proofs.Ythmpmpepokeedaa
open Go.RowKit
theorem ta_ii (v : Value) (W : World) : (Instr.typeAssert (.iface 3 v) 20 3 true).run Try.prog W = .ok (.tuple #[v, .bool true]) W := by kernel_rfl
theorem ta_is (v : Value) (W : World) : (Instr.typeAssert (.iface 3 v) 20 9 true).run Try.prog W = .ok (.tuple #[.string ⟨#[]⟩, .bool false]) W := by kernel_rfl
theorem ta_ib (v : Value) (W : World) : (Instr.typeAssert (.iface 3 v) 20 4 true).run Try.prog W = .ok (.tuple #[.bool false, .bool false]) W := by kernel_rfl
theorem ta_il (v : Value) (W : World) : (Instr.typeAssert (.iface 3 v) 20 58 true).run Try.prog W = .ok (.tuple #[.slice none 0 0, .bool false]) W := by kernel_rfl
theorem ta_si (v : Value) (W : World) : (Instr.typeAssert (.iface 9 v) 20 3 true).run Try.prog W = .ok (.tuple #[.int .i64 0, .bool false]) W := by kernel_rfl
theorem ta_ss (v : Value) (W : World) : (Instr.typeAssert (.iface 9 v) 20 9 true).run Try.prog W = .ok (.tuple #[v, .bool true]) W := by kernel_rfl
theorem ta_sb (v : Value) (W : World) : (Instr.typeAssert (.iface 9 v) 20 4 true).run Try.prog W = .ok (.tuple #[.bool false, .bool false]) W := by kernel_rfl
theorem ta_sl (v : Value) (W : World) : (Instr.typeAssert (.iface 9 v) 20 58 true).run Try.prog W = .ok (.tuple #[.slice none 0 0, .bool false]) W := by kernel_rfl
theorem ta_bi (v : Value) (W : World) : (Instr.typeAssert (.iface 4 v) 20 3 true).run Try.prog W = .ok (.tuple #[.int .i64 0, .bool false]) W := by kernel_rfl
theorem ta_bs (v : Value) (W : World) : (Instr.typeAssert (.iface 4 v) 20 9 true).run Try.prog W = .ok (.tuple #[.string ⟨#[]⟩, .bool false]) W := by kernel_rfl
theorem ta_bb (v : Value) (W : World) : (Instr.typeAssert (.iface 4 v) 20 4 true).run Try.prog W = .ok (.tuple #[v, .bool true]) W := by kernel_rfl
theorem ta_bl (v : Value) (W : World) : (Instr.typeAssert (.iface 4 v) 20 58 true).run Try.prog W = .ok (.tuple #[.slice none 0 0, .bool false]) W := by kernel_rfl
theorem ta_li (v : Value) (W : World) : (Instr.typeAssert (.iface 58 v) 20 3 true).run Try.prog W = .ok (.tuple #[.int .i64 0, .bool false]) W := by kernel_rfl
theorem ta_ls (v : Value) (W : World) : (Instr.typeAssert (.iface 58 v) 20 9 true).run Try.prog W = .ok (.tuple #[.string ⟨#[]⟩, .bool false]) W := by kernel_rfl
theorem ta_lb (v : Value) (W : World) : (Instr.typeAssert (.iface 58 v) 20 4 true).run Try.prog W = .ok (.tuple #[.bool false, .bool false]) W := by kernel_rfl
theorem ta_ll (v : Value) (W : World) : (Instr.typeAssert (.iface 58 v) 20 58 true).run Try.prog W = .ok (.tuple #[v, .bool true]) W := by kernel_rfl
theorem ta_ni (W : World) : (Instr.typeAssert .nilIface 20 3 true).run Try.prog W = .ok (.tuple #[.int .i64 0, .bool false]) W := by kernel_rfl
theorem ta_fi (v : Value) (W : World) : (Instr.typeAssert (.iface 86 v) 20 3 true).run Try.prog W = .ok (.tuple #[.int .i64 0, .bool false]) W := by kernel_rfl
theorem ta_ns (W : World) : (Instr.typeAssert .nilIface 20 9 true).run Try.prog W = .ok (.tuple #[.string ⟨#[]⟩, .bool false]) W := by kernel_rfl
theorem ta_fs (v : Value) (W : World) : (Instr.typeAssert (.iface 86 v) 20 9 true).run Try.prog W = .ok (.tuple #[.string ⟨#[]⟩, .bool false]) W := by kernel_rfl
theorem ta_nb (W : World) : (Instr.typeAssert .nilIface 20 4 true).run Try.prog W = .ok (.tuple #[.bool false, .bool false]) W := by kernel_rfl
theorem ta_fb (v : Value) (W : World) : (Instr.typeAssert (.iface 86 v) 20 4 true).run Try.prog W = .ok (.tuple #[.bool false, .bool false]) W := by kernel_rfl
theorem ta_nl (W : World) : (Instr.typeAssert .nilIface 20 58 true).run Try.prog W = .ok (.tuple #[.slice none 0 0, .bool false]) W := by kernel_rfl
theorem ta_fl (v : Value) (W : World) : (Instr.typeAssert (.iface 86 v) 20 58 true).run Try.prog W = .ok (.tuple #[.slice none 0 0, .bool false]) W := by kernel_rfl
attribute [local go_sem] ta_ii ta_is ta_ib ta_il ta_si ta_ss ta_sb ta_sl ta_bi ta_bs ta_bb ta_bl ta_li ta_ls ta_lb ta_ll ta_ni ta_fi ta_ns ta_fs ta_nb ta_fb ta_nl ta_fl
theorem be8_take (n : Int) (u : Nat) (hu : u < 8) : (be8 n).take (u + 1) = (be8 n).take u ++ [bAt n (7 - u)] := by
  match u, hu with
  | 0, _ => rfl
  | 1, _ => rfl
  | 2, _ => rfl
  | 3, _ => rfl
  | 4, _ => rfl
  | 5, _ => rfl
  | 6, _ => rfl
  | 7, _ => rfl
theorem pow_shift (u : Nat) (hu : u < 8) : (2 : Int) ^ (56 - 8 * u) = 256 ^ (7 - u) := by
  match u, hu with
  | 0, _ => rfl
  | 1, _ => rfl
  | 2, _ => rfl
  | 3, _ => rfl
  | 4, _ => rfl
  | 5, _ => rfl
  | 6, _ => rfl
  | 7, _ => rfl
/-- What write leaves. -/
def WrP (b B : Nat) (bs : List UInt8) (w : World) (R : List UInt8 × Nat) (e : Ending) (w' : World) : Prop := e = .returned (.int .i64 (R.2 : Int)) ∧ (R.2 = 0 → BD w' b B (bs ++ R.1)) ∧ Fr (FU b B w) w w'
set_option maxRecDepth 20000 in
set_option maxHeartbeats 8000000 in
theorem write_leaf (j d : Nat) (hd : d ≤ 8) (a : AV) (ha : ∀ l, a ≠ .row l) (D : Nat → Prop) (v : Value) (b B : Nat) (bs : List UInt8) (w : World) (hr : AR w D a v) (hbd : BD w b B bs) (hbB : b < B) (hBw : B ≤ w.heap.size) (hlen : bs.length + lenK j a ≤ 140737488355328) :
    Calls Try.prog 52 #[.pointer (some ⟨b, 0, none⟩), v, .int .i64 (d : Int)] w (WrP b B bs w (encA j a)) := by
  cases hr with
  | row l g cap vs hlc hcap hD hb hc h => exact absurd rfl (ha l)
  | non =>
    have HE := Lib.hid (show encA j .non = ([], 9) by cases j <;> rfl)
    rw [HE.out]
    clear hbd hlen
    go_enter Try.func52, Try.ntmps52
    go_wp2_with fail
    go_ret
    exact ⟨rfl, fun h => (by cases h), Fr.refl _ _⟩
  | yes q =>
    have hl1 : lenK j (.yes q) = 1 := by cases j <;> rfl
    rw [hl1] at hlen
    cases q with
    | false =>
      have HE := Lib.hid (show encA j (.yes false) = ([110], 0) by cases j <;> rfl)
      have HW := Lib.hid (show Calls Try.prog 63 #[.pointer (some ⟨b, 0, none⟩), .int .u8 110] w fun e w' => e = .returned .nilIface ∧ BD w' b B (bs ++ [110]) ∧ Fr (FU b B w) w w' from lb_byte B b bs 110 w hbd hbB hBw (by omega))
      rw [HE.out]
      clear hbd hlen
      go_enter Try.func52, Try.ntmps52
      go_wp2_with fail
      refine HW.out.mono ?_
      rintro e w1 ⟨rfl, h1, f1⟩
      have H1 := Lib.hid h1
      have F1 := Lib.hid f1
      clear h1 f1
      go_wp2_with fail
      go_ret
      exact ⟨rfl, fun _ => H1.out, F1.out⟩
    | true =>
      have HE := Lib.hid (show encA j (.yes true) = ([121], 0) by cases j <;> rfl)
      have HW := Lib.hid (show Calls Try.prog 63 #[.pointer (some ⟨b, 0, none⟩), .int .u8 121] w fun e w' => e = .returned .nilIface ∧ BD w' b B (bs ++ [121]) ∧ Fr (FU b B w) w w' from lb_byte B b bs 121 w hbd hbB hBw (by omega))
      rw [HE.out]
      clear hbd hlen
      go_enter Try.func52, Try.ntmps52
      go_wp2_with fail
      refine HW.out.mono ?_
      rintro e w1 ⟨rfl, h1, f1⟩
      have H1 := Lib.hid h1
      have F1 := Lib.hid f1
      clear h1 f1
      go_wp2_with fail
      go_ret
      exact ⟨rfl, fun _ => H1.out, F1.out⟩
  | text s hs =>
    obtain ⟨S, hS⟩ : ∃ x, x = str s := ⟨_, rfl⟩
    have hSs : S.size = s.length := by rw [hS, str_size]
    rw [← hS]
    have hl1 : lenK j (.text s) = if 65535 < s.length then 0 else s.length + 3 := by cases j <;> rfl
    have he1 : encA j (.text s) = if 65535 < s.length then ([], 3) else (115 :: UInt8.ofNat (s.length / 256) :: UInt8.ofNat s.length :: s, 0) := by cases j <;> rfl
    rw [hl1] at hlen
    rw [← hSs] at hlen he1 hs
    by_cases hlong : 65535 < S.size
    · rw [if_pos hlong] at he1
      have HE := Lib.hid he1
      have t1 : decide ((65535 : Int) < (S.size : Int)) = true := decide_eq_true (by omega)
      have t1' : decide (65535 < S.size) = true := decide_eq_true (by omega)
      rw [HE.out]
      clear hbd hlen hlong he1 hl1 hS hSs
      go_enter Try.func52, Try.ntmps52
      go_wp2_with fail
      go_ret
      exact ⟨rfl, fun h => (by cases h), Fr.refl _ _⟩
    · rw [if_neg hlong] at he1 hlen
      have HE := Lib.hid he1
      have t1 : decide ((65535 : Int) < (S.size : Int)) = false := decide_eq_false (by omega)
      have t1' : decide (65535 < S.size) = false := decide_eq_false (by omega)
      obtain ⟨q, hq⟩ : ∃ q, q = S.size / 256 := ⟨_, rfl⟩
      obtain ⟨c, hc⟩ : ∃ c, c = UInt8.ofNat q := ⟨_, rfl⟩
      obtain ⟨e, he⟩ : ∃ e, e = UInt8.ofNat S.size := ⟨_, rfl⟩
      have hq1 : (S.size : Int) / 256 = (q : Int) := by rw [hq]; rfl
      have hc1 : (q : Int) % 256 = (c.toNat : Int) := by rw [hc]; simp
      have hc2 : IntKind.u8.wrap (q : Int) = (c.toNat : Int) := by rw [IntKind.wrap_u8', hc1]
      have he2 : (S.size : Int) % 256 = (e.toNat : Int) := by rw [he]; simp
      have he3 : IntKind.u8.wrap (S.size : Int) = (e.toNat : Int) := by rw [IntKind.wrap_u8', he2]
      have hcv := conv_two c e w
      have hz1 : (ByteArray.mk #[115]).size + (str [c, e]).size ≤ 9223372036854775807 := by rw [str_size, show (ByteArray.mk #[115]).size = 1 from rfl]; simp
      obtain ⟨T1, hT1⟩ : ∃ T, ByteArray.mk #[115] ++ str [c, e] = T := ⟨_, rfl⟩
      have hz2 : T1.size + S.size ≤ 9223372036854775807 := by rw [← hT1, ByteArray.size_append, str_size, show (ByteArray.mk #[115]).size = 1 from rfl]; simp; omega
      obtain ⟨T2, hT2⟩ : ∃ T, T1 ++ S = T := ⟨_, rfl⟩
      obtain ⟨L, hL⟩ : ∃ L, L = 115 :: c :: e :: s := ⟨_, rfl⟩
      have HT2 := Lib.hid (show T2 = str L by rw [← hT2, ← hT1, hL, hS, show ByteArray.mk #[115] = str [115] from rfl, str_append, str_append]; rfl)
      have HE2 := Lib.hid (show encA j (.text s) = (L, 0) by rw [HE.out, hL, hc, he, hq])
      have HW := Lib.hid (show ∀ w1, Fr (fun _ => False) w w1 → Calls Try.prog 64 #[.pointer (some ⟨b, 0, none⟩), .string T2] w1 fun e w' => (∃ u, e = .returned u) ∧ BD w' b B (bs ++ L) ∧ Fr (FU b B w1) w1 w' from fun w1 hf => by
        rw [HT2.out]
        exact lb_write B b bs L w1 (hbd.fr hf id (fun _ _ => id)) hbB (Nat.le_trans hBw hf.size) (by rw [hL]; simp; omega))
      rw [HE2.out]
      clear hbd hlen hlong he1 hl1 hS hSs hq hc hc1 he he2 HE hL
      go_enter Try.func52, Try.ntmps52
      go_wp2_with fail
      refine (HW.out _ ((Fr.refl _ _).alloc _)).mono ?_
      rintro e w1 ⟨⟨u, rfl⟩, h1, f1⟩
      have H1 := Lib.hid h1
      have F1 := Lib.hid (show Fr (FU b B w) w w1 from FU.trans ((Fr.refl _ w).alloc _) f1)
      clear h1 f1
      go_wp2_with fail
      go_ret
      exact ⟨rfl, fun _ => H1.out, F1.out⟩
  | int n =>
    have HE := Lib.hid (show encA j (.int n) = (105 :: be8 n, 0) by cases j <;> rfl)
    have hl1 : lenK j (.int n) = 9 := by cases j <;> rfl
    rw [hl1] at hlen
    have HW := Lib.hid (show Calls Try.prog 63 #[.pointer (some ⟨b, 0, none⟩), .int .u8 105] w fun e w' => e = .returned .nilIface ∧ BD w' b B (bs ++ [105]) ∧ Fr (FU b B w) w w' from lb_byte B b bs 105 w hbd hbB hBw (by omega))
    have HB := Lib.hid (show bs.length ≤ 140737488355319 ∧ b < B ∧ B ≤ w.heap.size from ⟨by omega, hbB, hBw⟩)
    rw [HE.out]
    clear hbd hlen hl1
    go_enter Try.func52, Try.ntmps52
    go_wp2_with fail
    refine HW.out.mono ?_
    rintro e w1 ⟨rfl, h1, f1⟩
    have H1 := Lib.hid h1
    have F1 := Lib.hid f1
    clear h1 f1
    go_wp2_with fail
    go_loopw [8] (fun i wr => ∃ u : Nat, u ≤ 8 ∧ i = .int .i64 (56 - 8 * (u : Int)) ∧ BD wr b B (bs ++ 105 :: (be8 n).take u) ∧ Fr (FU b B w) w wr) (fun i _ => (intOf i + 8).toNat)
    case atStart => exact ⟨0, by omega, rfl, H1.out, F1.out⟩
    case round =>
      obtain ⟨u, hu, rfl, hbd, hfr⟩ := hrel
      have HF := Lib.hid hfr
      have HD := Lib.hid hbd
      obtain ⟨y, hy⟩ : ∃ y : Int, y = 56 - 8 * (u : Int) := ⟨_, rfl⟩
      rw [← hy]
      have HY := Lib.hid hy
      clear hfr hbd
      by_cases hlt : u < 8
      · have hy0 : 0 ≤ y := by omega
        have hy1 : y ≤ 64 := by omega
        have t1 : decide ((0 : Int) ≤ y) = true := decide_eq_true hy0
        have hyn : y.toNat = 56 - 8 * u := by omega
        obtain ⟨c, hc⟩ : ∃ c, c = bAt n (7 - u) := ⟨_, rfl⟩
        obtain ⟨z, hz⟩ : ∃ z, n / 2 ^ y.toNat = z := ⟨_, rfl⟩
        have hz1 : z % 256 = (c.toNat : Int) := by rw [hc, bAt_toNat, ← hz, hyn, pow_shift u hlt]
        have hz2 : IntKind.u8.wrap z = (c.toNat : Int) := by rw [IntKind.wrap_u8', hz1]
        have hw8 : IntKind.i64.wrap (y - 8) = y - 8 := IntWalk.i64_in _ (by omega)
        have HN := Lib.hid (show y - 8 = 56 - 8 * ((u + 1 : Nat) : Int) by omega)
        have HT := Lib.hid (be8_take n u hlt)
        rw [← hc] at HT
        have hll : (bs ++ 105 :: (be8 n).take u).length + 1 ≤ 140737488355328 := by
          have := HB.out.1
          rw [List.length_append, List.length_cons, List.length_take]; omega
        have HW2 := Lib.hid (lb_byte B b _ c wr HD.out HB.out.2.1 (Nat.le_trans HB.out.2.2 HF.out.size) hll)
        clear hy hyn hc hz1 hll
        go_wp2_with fail
        refine HW2.out.mono ?_
        rintro e w2 ⟨rfl, h2, f2⟩
        have H2 := Lib.hid h2
        have F2 := Lib.hid (FU.trans HF.out f2)
        clear h2 f2
        go_wp2_with fail
        go_roundw
        case rel => exact ⟨u + 1, by omega, by rw [HN.out], by rw [HT.out]; have := H2.out; rw [List.append_assoc] at this; exact this, F2.out⟩
        case measure => simp [intOf]; omega
      · obtain rfl : u = 8 := by omega
        have hy8 : y = -8 := by omega
        have t1 : decide ((0 : Int) ≤ y) = false := decide_eq_false (by omega)
        have HD2 := Lib.hid (show BD wr b B (bs ++ 105 :: be8 n) from HD.out)
        clear hy hy8
        go_wp2_with fail
        go_ret
        exact ⟨rfl, fun _ => HD2.out, HF.out⟩
theorem enc_err : ∀ (k : Nat) (a : AV), (encA k a).2 ≠ 0 → (encA k a).1 = []
  | k, .non, _ => by cases k <;> rfl
  | k, .int n, h => absurd (by cases k <;> rfl) h
  | k, .text s, h => by
    have e : encA k (.text s) = if 65535 < s.length then ([], 3) else (115 :: UInt8.ofNat (s.length / 256) :: UInt8.ofNat s.length :: s, 0) := by cases k <;> rfl
    rw [e] at h ⊢
    split
    · rfl
    · rename_i hh; rw [if_neg hh] at h; exact absurd rfl h
  | k, .yes b, h => absurd (by cases k <;> rfl) h
  | 0, .row l, _ => rfl
  | k + 1, .row l, h => by
    simp only [encA] at h ⊢
    split
    · rfl
    · rename_i hh
      rw [if_neg hh] at h
      split
      · rename_i h2; rw [if_pos h2] at h; exact absurd rfl h
      · rfl
def Aside0' (p : Prop) : Prop := p
set_option maxRecDepth 20000 in
set_option maxHeartbeats 8000000 in
theorem write_calls (j : Nat) : ∀ (d : Nat) (hj : d + j = 8) (a : AV) (D : Nat → Prop) (v : Value) (b B : Nat) (bs : List UInt8) (w : World), AR w D a v → (∀ i, D i → i < b) → BD w b B bs → b < B → B ≤ w.heap.size → bs.length + lenK j a ≤ 140737488355328 →
    Calls Try.prog 52 #[.pointer (some ⟨b, 0, none⟩), v, .int .i64 (d : Int)] w (WrP b B bs w (encA j a)) := by
  induction j with
  | zero =>
    intro d hj a D v b B bs w hr hD hbd hbB hBw hlen
    obtain rfl : d = 8 := by omega
    by_cases ha : ∃ l, a = .row l
    · obtain ⟨l, rfl⟩ := ha
      have HE := Lib.hid (show encA 0 (.row l) = ([], 3) from rfl)
      rw [HE.out]
      cases hr with
      | row l g cap vs hlc hcap hDg hb hc h =>
        obtain ⟨m, hm⟩ : ∃ x, x = l.length := ⟨_, rfl⟩
        rw [← hm] at hlc ⊢
        clear hm hbd hlen hc h
        by_cases hlong : 255 < m
        · have t1 : decide ((255 : Int) < (m : Int)) = true := decide_eq_true (by omega)
          have t1' : decide (255 < m) = true := decide_eq_true hlong
          clear hlong
          go_enter Try.func52, Try.ntmps52
          go_wp2_with fail
          go_ret
          exact ⟨rfl, fun h => (by cases h), Fr.refl _ _⟩
        · have t1 : decide ((255 : Int) < (m : Int)) = false := decide_eq_false (by omega)
          have t1' : decide (255 < m) = false := decide_eq_false hlong
          clear hlong
          go_enter Try.func52, Try.ntmps52
          go_wp2_with fail
          go_ret
          exact ⟨rfl, fun h => (by cases h), Fr.refl _ _⟩
    · exact write_leaf 0 8 (by omega) a (fun l e => ha ⟨l, e⟩) D v b B bs w hr hbd hbB hBw hlen
  | succ j ih =>
    intro d hj a D v b B bs w hr hD hbd hbB hBw hlen
    by_cases ha : ∃ l, a = .row l
    rotate_left
    · exact write_leaf (j + 1) d (by omega) a (fun l e => ha ⟨l, e⟩) D v b B bs w hr hbd hbB hBw hlen
    obtain ⟨l, rfl⟩ := ha
    have HE0 := Lib.hid (show encA (j + 1) (.row l) = (if 255 < l.length then ([], 3) else if (encL (encA j) l).2 = 0 then (108 :: UInt8.ofNat l.length :: (encL (encA j) l).1, 0) else ([], (encL (encA j) l).2)) from rfl)
    have hlen2 : bs.length + (if 255 < l.length then 0 else lenL (lenK j) l + 2) ≤ 140737488355328 := hlen
    obtain ⟨R, hR⟩ : ∃ R, R = encA (j + 1) (.row l) := ⟨_, rfl⟩
    rw [← hR] at HE0 ⊢
    have HR := Lib.hid hr
    cases hr with
    | row l g cap vs hlc hcap hDg hb hc h =>
      obtain ⟨m, hm⟩ : ∃ x, x = l.length := ⟨_, rfl⟩
      rw [← hm] at hlc hlen2 HE0 ⊢
      have HM := Lib.hid hm
      have HC := Lib.hid hc
      have HH := Lib.hid h
      have HIH := Lib.hid ih
      have HJ := Lib.hid (show d + 1 + j = 8 by omega)
      have HDD := Lib.hid (And.intro hD (hD g hDg))
      have hd7 : d ≤ 7 := by omega
      have d0 : ((d : Int) == 8) = false := beq_eq_false_iff_ne.2 (by omega)
      have d0' : (d == 8) = false := beq_eq_false_iff_ne.2 (by omega)
      clear hm hc h ih hD hj hR hlen HR
      by_cases hlong : 255 < m
      · have t1 : decide ((255 : Int) < (m : Int)) = true := decide_eq_true (by omega)
        have t1' : decide (255 < m) = true := decide_eq_true hlong
        have HE := Lib.hid (show R = ([], 3) by rw [HE0.out, if_pos hlong])
        clear hlong hlen2 hbd
        go_enter Try.func52, Try.ntmps52
        go_wp2_with fail
        go_ret
        exact ⟨by rw [HE.out]; rfl, fun h => (by rw [HE.out] at h; cases h), Fr.refl _ _⟩
      have t1 : decide ((255 : Int) < (m : Int)) = false := decide_eq_false (by omega)
      have t1' : decide (255 < m) = false := decide_eq_false hlong
      rw [if_neg hlong] at hlen2 HE0
      have HL2 := Lib.hid hlen2
      obtain ⟨c, hcc⟩ : ∃ c, c = UInt8.ofNat m := ⟨_, rfl⟩
      rw [← hcc] at HE0
      have hc1 : (m : Int) % 256 = (c.toNat : Int) := by rw [hcc]; simp
      have hc2 : IntKind.u8.wrap (m : Int) = (c.toNat : Int) := by rw [IntKind.wrap_u8', hc1]
      have hcv := conv_one c w
      have hz1 : (ByteArray.mk #[108]).size + (str [c]).size ≤ 9223372036854775807 := by rw [str_size, show (ByteArray.mk #[108]).size = 1 from rfl]; simp
      obtain ⟨T0, hT0⟩ : ∃ T, ByteArray.mk #[108] ++ str [c] = T := ⟨_, rfl⟩
      have HT0 := Lib.hid (show T0 = str [108, c] by rw [← hT0, show ByteArray.mk #[108] = str [108] from rfl, str_append]; rfl)
      have HW := Lib.hid (show ∀ w1, Fr (fun _ => False) w w1 → Calls Try.prog 64 #[.pointer (some ⟨b, 0, none⟩), .string T0] w1 fun e w' => (∃ u, e = .returned u) ∧ BD w' b B (bs ++ [108, c]) ∧ Fr (FU b B w1) w1 w' from fun w1 hf => by
        rw [HT0.out]
        exact lb_write B b bs _ w1 (hbd.fr hf id (fun _ _ => id)) hbB (Nat.le_trans hBw hf.size) (by simp; omega))
      have HBB := Lib.hid (And.intro hbB hBw)
      clear hlong hlen2 hcc hc1 hbd hbB hBw
      go_enter Try.func52, Try.ntmps52
      go_wp2_with fail
      refine (HW.out _ ((Fr.refl _ _).alloc _)).mono ?_
      rintro e w1 ⟨⟨u, rfl⟩, h1, f1⟩
      have H1 := Lib.hid h1
      have F1 := Lib.hid (show Fr (FU b B w) w w1 from FU.trans ((Fr.refl _ w).alloc _) f1)
      clear h1 f1
      go_wp2_with fail
      go_loopw [80] (fun i wr => ∃ u : Nat, u ≤ m ∧ i = .int .i64 (u : Int) ∧ BD wr b B (bs ++ 108 :: c :: (encL (encA j) (l.take u)).1) ∧ Aside0' ((encL (encA j) (l.take u)).2 = 0) ∧ Fr (FU b B w) w wr) (fun i _ => m - (intOf i).toNat)
      case atStart => exact ⟨0, Nat.zero_le _, rfl, H1.out, rfl, F1.out⟩
      case round =>
        obtain ⟨u, hu, rfl, hbd, hz0, hfr⟩ := hrel
        have HF := Lib.hid hfr
        have HD := Lib.hid hbd
        have HZ0 := Lib.hid (show (encL (encA j) (l.take u)).2 = 0 from hz0)
        clear hbd hz0
        by_cases hlt : u < m
        · have hul : u < l.length := by rw [← HM.out]; exact hlt
          have hi0 : (u : Int) < (m : Int) := by omega
          obtain ⟨x1, hx1⟩ : ∃ x, l[u]? = some x := ⟨_, List.getElem?_eq_getElem hul⟩
          have hnF : ∀ i, D i → ¬ FU b B w i := fun i hi hf => by
            have h1 := HDD.out.1 i hi
            have h2 := HBB.out.1
            rcases hf with hf | ⟨hf, _⟩ <;> omega
          have cu : wr.cell? ⟨g, u, none⟩ = some (vs u) := hfr.cell (HC.out u x1 hx1) (show ¬ FU b B w g from fun hf => by
            have h1 := HDD.out.2
            have h2 := HBB.out.1
            rcases hf with hf | ⟨hf, _⟩ <;> omega)
          have har := (HH.out u x1 hx1).fr hfr hnF
          have hmem : x1 ∈ l := List.mem_of_getElem? hx1
          have hll := lenL_append (lenK j) (l.take u) (l.drop u)
          rw [List.take_append_drop, List.drop_eq_getElem_cons hul, show l[u] = x1 from (List.getElem?_eq_some_iff.1 hx1).2] at hll
          simp only [lenL] at hll
          have hle := encL_len j (fun a => encA_len j a) (l.take u)
          have HCall := Lib.hid (HIH.out (d + 1) HJ.out x1 D (vs u) b B _ wr har HDD.out.1 HD.out HBB.out.1 (Nat.le_trans HBB.out.2 hfr.size) (by
            have := HL2.out
            rw [List.length_append, List.length_cons, List.length_cons]; omega))
          have hone := har.one
          have hw1 : IntKind.i64.wrap ((d : Int) + 1) = ((d + 1 : Nat) : Int) := by rw [IntWalk.i64_in _ (by omega)]; omega
          obtain ⟨d1, hd1⟩ : ∃ x, x = d + 1 := ⟨_, rfl⟩
          rw [← hd1] at HCall hw1
          obtain ⟨E, hE⟩ : ∃ E, E = encA j x1 := ⟨_, rfl⟩
          rw [← hE] at HCall
          have htk : l.take (u + 1) = l.take u ++ [x1] := by rw [List.take_succ_eq_append_getElem hul, show l[u] = x1 from (List.getElem?_eq_some_iff.1 hx1).2]
          have hdr : l = l.take u ++ x1 :: l.drop (u + 1) := by
            conv => lhs; rw [← List.take_append_drop u l, List.drop_eq_getElem_cons hul, show l[u] = x1 from (List.getElem?_eq_some_iff.1 hx1).2]
          have HS1 := Lib.hid (encL_snoc (encA j) (l.take u) x1 HZ0.out)
          rw [← htk, ← hE] at HS1
          have HBad := Lib.hid (show E.2 ≠ 0 → R = ([], E.2) from fun h9 => by
            have hb := encL_bad (encA j) (l.take u) (l.drop (u + 1)) x1 HZ0.out (by rw [← hE]; exact h9)
            rw [← hdr, ← hE] at hb
            rw [HE0.out, hb, if_neg h9])
          obtain ⟨E2, hE2⟩ : ∃ q : Nat, q = E.2 := ⟨_, rfl⟩
          have HE2 := Lib.hid hE2
          obtain ⟨VU, hVU⟩ : ∃ x, x = vs u := ⟨_, rfl⟩
          rw [← hVU] at HCall cu hone
          clear hul hx1 hnF har hmem hll hle hd1 hE htk hdr hfr hE2 hVU
          go_wp2_with fail
          refine HCall.out.mono ?_
          rintro e w2 ⟨rfl, hb2, f2⟩
          rw [← HE2.out]
          have HF2 := Lib.hid (FU.trans HF.out f2)
          have HB2 := Lib.hid hb2
          clear f2 hb2 HCall
          by_cases h9 : E2 = 0
          · subst h9
            have HB3 := Lib.hid (HB2.out HE2.out.symm)
            have HS2 := Lib.hid (show encL (encA j) (l.take (u + 1)) = ((encL (encA j) (l.take u)).1 ++ E.1, 0) by rw [HS1.out, if_pos HE2.out.symm])
            clear HB2 HBad HS1
            go_wp2_with fail
            go_roundw
            case rel => exact ⟨u + 1, by omega, by go_num, by rw [HS2.out]; have := HB3.out; rw [List.append_assoc] at this; exact this, by rw [HS2.out]; rfl, HF2.out⟩
            case measure => simp [intOf]; omega
          · have t9 : ((E2 : Int) == 0) = false := beq_eq_false_iff_ne.2 (by omega)
            have t9' : ((E2 : Int) != 0) = true := by simp; omega
            have t9'' : (E2 == 0) = false := beq_eq_false_iff_ne.2 h9
            have HR := Lib.hid (HBad.out (by rw [← HE2.out]; exact h9))
            have HR2 := Lib.hid (show R.2 = E2 by rw [HR.out, HE2.out])
            have H9 := Lib.hid h9
            clear HB2 HBad h9
            go_wp2_with fail
            go_ret
            exact ⟨by rw [HR2.out]; rfl, fun h => absurd (HR2.out.symm.trans h) H9.out, HF2.out⟩
        · obtain rfl : u = m := by omega
          have hge : ¬ (u : Int) < (u : Int) := by omega
          have HFin := Lib.hid (show R = (108 :: c :: (encL (encA j) (l.take u)).1, 0) by
            have h1 := HZ0.out
            have h3 : l.take u = l := by rw [HM.out]; exact List.take_of_length_le (Nat.le_refl _)
            rw [h3] at h1 ⊢
            rw [HE0.out, if_pos h1])
          clear hlt hfr
          go_wp2_with fail
          go_ret
          exact ⟨by rw [HFin.out]; rfl, fun _ => by rw [HFin.out]; exact HD.out, HF.out⟩
set_option maxRecDepth 20000 in
set_option maxHeartbeats 8000000 in
theorem print_calls (a : AV) (D : Nat → Prop) (v : Value) (w : World) (hr : AR w D a v) (hlen : lenK 8 a ≤ 140737488355328) :
    Calls Try.prog 17 #[v] w fun e w' => e = .returned (.tuple #[.string (str (encA 8 a).1), .int .i64 ((encA 8 a).2 : Int)]) ∧ Fr (fun _ => False) w w' := by
  obtain ⟨w1, hw1⟩ : ∃ w1, w1 = w.alloc (.cells #[.pointer none, .slice none 0 0] 91) := ⟨_, rfl⟩
  obtain ⟨b, hb⟩ : ∃ b, b = w.heap.size := ⟨_, rfl⟩
  have hsz : w1.heap.size = b + 1 := by rw [hw1, hb]; simp
  have HF0 := Lib.hid (show Fr (fun _ => False) w w1 by rw [hw1]; exact (Fr.refl _ _).alloc _)
  have hBD : BD w1 b (b + 1) [] := ⟨_, _, .inl rfl, by rw [hw1, hb]; exact heap_alloc_new w _, rfl, .inl ⟨rfl, rfl⟩⟩
  have HC := Lib.hid (write_calls 8 0 rfl a _ v b (b + 1) [] w1 (hr.lt.frF HF0.out) (fun i hi => by rw [hb]; exact hi.2) hBD (by omega) (by omega) (by simpa using hlen))
  have HW := Lib.hid (And.intro hw1 hb)
  have HSZ := Lib.hid hsz
  have HErr := Lib.hid (show (encA 8 a).2 ≠ 0 → (encA 8 a).1 = [] from fun h => enc_err 8 a h)
  obtain ⟨R, hR⟩ : ∃ R, R = encA 8 a := ⟨_, rfl⟩
  rw [← hR] at HC HErr ⊢
  clear hw1 hb hsz hBD hr hlen hR
  go_enter Try.func17, Try.ntmps17
  go_wp2_with fail
  rw [← HW.out.2, ← HW.out.1]
  refine HC.out.mono ?_
  rintro e w2 ⟨rfl, h2, f2⟩
  have F2 := Lib.hid f2
  have H2 := Lib.hid h2
  have HFin := Lib.hid (show Fr (fun _ => False) w w2 from HF0.out.trans f2 (fun i hi => .inr (by rcases hi with hi | ⟨hi, _⟩; rw [hi, HW.out.2]; exact Nat.le_refl _; have := HW.out.2; omega)))
  obtain ⟨E2, hE2⟩ : ∃ q : Nat, q = R.2 := ⟨_, rfl⟩
  have HE2 := Lib.hid hE2
  rw [← hE2] at HErr H2 ⊢
  clear h2 f2 hE2
  by_cases h9 : E2 = 0
  · subst h9
    have HS := Lib.hid (lb_string (b + 1) b _ w2 (H2.out rfl) (by omega) (by have := F2.out.size; have := HSZ.out; omega))
    rw [List.nil_append] at HS
    clear H2 HErr
    go_wp2_with fail
    refine HS.out.mono ?_
    rintro e w3 ⟨rfl, h3⟩
    have HF3 := Lib.hid (show Fr (fun _ => False) w w3 from HFin.out.trans (G := fun j => b ≤ j) ⟨h3.os, h3.tape, h3.output, h3.size, fun i hi hn => h3.block i (by omega)⟩ (fun i hi => .inr (by have := HW.out.2; omega)))
    clear h3
    go_wp2_with fail
    go_ret2
    exact ⟨by rw [← HE2.out]; rfl, HF3.out⟩
  · have t9 : ((E2 : Int) == 0) = false := beq_eq_false_iff_ne.2 (by omega)
    have t9' : ((E2 : Int) != 0) = true := by simp; omega
    have t9'' : (E2 == 0) = false := beq_eq_false_iff_ne.2 h9
    have HR := Lib.hid (HErr.out h9)
    clear H2 HErr h9
    go_wp2_with fail
    go_ret2
    exact ⟨by rw [HR.out, ← HE2.out]; rfl, HFin.out⟩
end Go.Proofs.Ythmpmpepokeedaa
