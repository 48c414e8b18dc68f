/- Disks: the document's Read, Image and New, walked (no printed text). -/
import Derived.Test.YthlngbdbmnnnaaaQl
import Derived.Test.YthlngbdbmnnnaaaQd
set_option linter.unusedVariables false
set_option linter.unusedSimpArgs false
set_option pp.deepTerms true
set_option pp.maxSteps 100000
namespace Go.Proofs.Ythlngbdbmnnnaaa
open Go.RowKit
theorem latest_push (p : Int) (x : Wr) : ∀ l : List Wr, Dk.latest (l ++ [x]) p = if x.place = p then some x.data else Dk.latest l p
  | [] => by simp [Dk.latest]
  | y :: l => by
    show (Dk.latest (l ++ [x]) p).or _ = if x.place = p then some x.data else (Dk.latest l p).or _
    rw [latest_push p x l]
    by_cases h : x.place = p
    · rw [if_pos h, if_pos h]; rfl
    · rw [if_neg h, if_neg h]
set_option maxRecDepth 20000 in
set_option maxHeartbeats 4000000 in
theorem refread_calls (E : Dk) {n m : Nat} (hW : Wd n m E) (hm : m < 99999) (hn : n ≤ 100000) (p : Int) (u v : Value) (w : World) (hR : RD w E u v) :
    Calls Try.prog 20 #[.agg (refRow E u v), .int .i64 p] w fun e w' => e = .returned (.tuple #[.string (str (E.read p)), .int .i64 (E.asked p)]) ∧ Fr (fun _ => False) w w' := by
  obtain ⟨A1, c1, rfl, hs1, _, _⟩ := hR.u
  obtain ⟨A2, c2, rfl, hs2, _, _⟩ := hR.v
  have hsl : (secs E.n E.lasts).length = n := by rw [secs_length, hW.nn]
  rw [hsl]
  obtain ⟨n1, hn1⟩ : ∃ x, x = n := ⟨_, rfl⟩
  obtain ⟨n2, hn2⟩ : ∃ x, x = E.wait.length := ⟨_, rfl⟩
  rw [← hn1, ← hn2]
  unfold refRow
  have hcase : (E.down = true ∧ E.read p = [] ∧ E.asked p = 7) ∨ (E.down = false ∧ p < 0 ∧ E.read p = [] ∧ E.asked p = 1) ∨ (E.down = false ∧ 0 ≤ p ∧ (n : Int) ≤ p ∧ E.read p = [] ∧ E.asked p = 1) ∨ (E.down = false ∧ 0 ≤ p ∧ p < n ∧ E.read p = (Dk.latest E.wait p).getD (E.sector p) ∧ E.asked p = 0) := by
    have hnn := hW.nn
    rcases Bool.eq_false_or_eq_true E.down with hd | hd
    · exact .inl ⟨hd, by simp [Dk.read, Dk.asked, hd], by simp [Dk.asked, hd]⟩
    · by_cases h0 : p < 0
      · exact .inr (.inl ⟨hd, h0, by simp [Dk.read, Dk.asked, hd, h0], by simp [Dk.asked, hd, h0]⟩)
      · by_cases h1 : (n : Int) ≤ p
        · have : (E.n : Int) ≤ p := by omega
          exact .inr (.inr (.inl ⟨hd, by omega, h1, by simp [Dk.read, Dk.asked, hd, this], by simp [Dk.asked, hd, this]⟩))
        · have h3 : ¬ (E.n : Int) ≤ p := by omega
          exact .inr (.inr (.inr ⟨hd, by omega, by omega, by simp [Dk.read, Dk.asked, hd, h0, h3], by simp [Dk.asked, hd, h0, h3]⟩))
  obtain ⟨w0, hw0⟩ : ∃ x, x = w.alloc (.cells #[.slice A1 n1 c1, .slice A2 n2 c2, .int .i64 E.cutAt, .int .u64 E.keep, .int .i64 E.torn, .int .i64 E.count, .bool E.down] 48) := ⟨_, rfl⟩
  have hf0 : Fr (fun _ => False) w w0 := by rw [hw0]; exact (Fr.refl _ _).alloc _
  have hb0 : w0.heap[w.heap.size]? = some (.cells #[.slice A1 n1 c1, .slice A2 n2 c2, .int .i64 E.cutAt, .int .u64 E.keep, .int .i64 E.torn, .int .i64 E.count, .bool E.down] 48 (0, 0)) := by rw [hw0]; exact heap_alloc_new w _
  obtain ⟨ca, hca⟩ : ∃ x, x = E.cutAt := ⟨_, rfl⟩
  obtain ⟨ck, hck⟩ : ∃ x, x = E.keep := ⟨_, rfl⟩
  obtain ⟨ct, hct⟩ : ∃ x, x = E.torn := ⟨_, rfl⟩
  obtain ⟨cc, hcc⟩ : ∃ x, x = E.count := ⟨_, rfl⟩
  obtain ⟨dn, hdn⟩ : ∃ x, x = E.down := ⟨_, rfl⟩
  rw [← hca, ← hck, ← hct, ← hcc, ← hdn] at hb0 hw0 ⊢
  rw [← hdn] at hcase
  have k0 : w0.cell? ⟨w.heap.size, 0, none⟩ = some (.slice A1 n1 c1) := (cell_of_row w0 _ 0 _ _ _ hb0).trans rfl
  have k1 : w0.cell? ⟨w.heap.size, 1, none⟩ = some (.slice A2 n2 c2) := (cell_of_row w0 _ 1 _ _ _ hb0).trans rfl
  have k2 : w0.cell? ⟨w.heap.size, 2, none⟩ = some (.int .i64 ca) := (cell_of_row w0 _ 2 _ _ _ hb0).trans rfl
  have k3 : w0.cell? ⟨w.heap.size, 3, none⟩ = some (.int .u64 ck) := (cell_of_row w0 _ 3 _ _ _ hb0).trans rfl
  have k4 : w0.cell? ⟨w.heap.size, 4, none⟩ = some (.int .i64 ct) := (cell_of_row w0 _ 4 _ _ _ hb0).trans rfl
  have k5 : w0.cell? ⟨w.heap.size, 5, none⟩ = some (.int .i64 cc) := (cell_of_row w0 _ 5 _ _ _ hb0).trans rfl
  have k6 : w0.cell? ⟨w.heap.size, 6, none⟩ = some (.bool dn) := (cell_of_row w0 _ 6 _ _ _ hb0).trans rfl
  have HW0 := hw0.symm
  have HF0 := Lib.hid hf0
  have HS1 := Lib.hid (hs1.frF hf0)
  have HS2 := Lib.hid (hs2.frF hf0)
  have HWd := Lib.hid hW
  have HN1 := Lib.hid hn1
  have HN2 := Lib.hid hn2
  have hb1 : n1 ≤ 100000 := by omega
  have hb2 : n2 ≤ 99999 := by have := hW.len; omega
  obtain ⟨Res, hRes⟩ : ∃ s, s = E.read p := ⟨_, rfl⟩
  obtain ⟨er, her⟩ : ∃ s, s = E.asked p := ⟨_, rfl⟩
  rw [← hRes, ← her]
  rw [← hRes, ← her] at hcase
  clear hR hs1 hs2 hsl hca hck hct hcc hdn hw0 hf0 hb0 hW hn2 hRes her
  subst hn1
  rcases hcase with ⟨rfl, rfl, rfl⟩ | ⟨rfl, h0, rfl, rfl⟩ | ⟨rfl, h0, h1, rfl, rfl⟩ | ⟨rfl, h0, h1, hr, rfl⟩
  · go_enter Try.func20, Try.ntmps20
    go_wp2_with (guard_target =~ bodyPost _ _ _ _ _ _; go_ret2; exact ⟨rfl, HF0.out⟩)
  · have d1 : decide (p < 0) = true := decide_eq_true h0
    go_enter Try.func20, Try.ntmps20
    go_wp2_with (guard_target =~ bodyPost _ _ _ _ _ _; go_ret2; exact ⟨rfl, HF0.out⟩)
  · have d1 : decide (p < 0) = false := decide_eq_false (by omega)
    have d2 : decide ((n1 : Int) ≤ p) = true := decide_eq_true h1
    go_enter Try.func20, Try.ntmps20
    go_wp2_with (guard_target =~ bodyPost _ _ _ _ _ _; go_ret2; exact ⟨rfl, HF0.out⟩)
  · have d1 : decide (p < 0) = false := decide_eq_false (by omega)
    have d2 : decide ((n1 : Int) ≤ p) = false := decide_eq_false (by omega)
    obtain ⟨q, rfl⟩ : ∃ q : Nat, p = q := ⟨p.toNat, by omega⟩
    have hq : q < n1 := by omega
    obtain ⟨b1, off1, rfl, hr1⟩ := HS1.out q _ (secs_get E.n E.lasts q (by have := HWd.out.nn; omega))
    obtain ⟨S0, hS0⟩ : ∃ s, s = E.sector q := ⟨_, rfl⟩
    rw [← hS0] at hr
    have q1 : w0.cell? ⟨b1, off1 + q * 1, none⟩ = some (.string (str S0)) := by
      rw [hS0]
      exact hr1 0 _ rfl
    rw [Nat.mul_one] at q1
    have HR := Lib.hid hr
    clear hr1 hr hS0
    go_enter Try.func20, Try.ntmps20
    go_wp2_with fail
    clear q1
    go_loopw [6, 7] (fun s i wr => ∃ k : Nat, k ≤ n2 ∧ i = .int .i64 (k : Int) ∧ s = .string (str ((Dk.latest (E.wait.take k) q).getD S0)) ∧ wr = w0) (fun s i _ => n2 - (intOf i).toNat)
    case atStart => exact ⟨0, Nat.zero_le _, rfl, rfl, rfl⟩
    case round =>
      obtain ⟨k, hk, rfl, rfl, rfl⟩ := hrel
      obtain ⟨S1, hS1⟩ : ∃ s, s = str ((Dk.latest (E.wait.take k) q).getD S0) := ⟨_, rfl⟩
      have HS := Lib.hid hS1
      rw [← hS1]
      clear hS1
      by_cases hlt : k < n2
      · have e1 : decide ((k : Int) < (n2 : Int)) = true := decide_eq_true (by omega)
        have e1' : decide (k < n2) = true := decide_eq_true hlt
        have hkw : k < E.wait.length := by rw [← HN2.out]; exact hlt
        obtain ⟨x, hx⟩ : ∃ x, x = E.wait[k] := ⟨_, rfl⟩
        have hgx : E.wait[k]? = some x := by rw [hx]; exact List.getElem?_eq_getElem hkw
        obtain ⟨b2, off2, e2, hr2⟩ := HS2.out k x hgx
        subst e2
        obtain ⟨D, hD⟩ : ∃ s, s = str x.data := ⟨_, rfl⟩
        obtain ⟨pl, hpl⟩ : ∃ s, s = x.place := ⟨_, rfl⟩
        have q0 : wr.cell? ⟨b2, off2 + k * 2, none⟩ = some (.int .i64 pl) := by rw [hpl]; exact hr2 0 _ rfl
        have q1 : wr.cell? ⟨b2, off2 + k * 2 + 1, none⟩ = some (.string D) := by rw [hD]; exact hr2 1 _ rfl
        have hst : Dk.latest (E.wait.take (k + 1)) q = if x.place = q then some x.data else Dk.latest (E.wait.take k) q := by
          rw [List.take_succ_eq_append_getElem hkw, latest_push, ← hx]
        have HSt := Lib.hid hst
        have HD := Lib.hid hD
        have HPl := Lib.hid hpl
        clear hx hgx hr2 hD hpl hst hkw
        by_cases he : pl = q
        · have e2 : (pl == (q : Int)) = true := beq_iff_eq.2 he
          have HE := Lib.hid he
          clear he
          go_wp2_with fail
          go_roundw
          case rel => exact ⟨k + 1, by omega, by go_num, by rw [HSt.out, if_pos (HPl.out ▸ HE.out), HD.out]; rfl, by first | rfl | trivial⟩
          case measure => simp [intOf]; omega
        · have e2 : (pl == (q : Int)) = false := beq_eq_false_iff_ne.2 he
          have HE := Lib.hid he
          clear he
          go_wp2_with fail
          go_roundw
          case rel => exact ⟨k + 1, by omega, by go_num, by rw [HSt.out, if_neg (HPl.out ▸ HE.out), HS.out], by first | rfl | trivial⟩
          case measure => simp [intOf]; omega
      · have e1 : decide ((k : Int) < (n2 : Int)) = false := decide_eq_false (by omega)
        have e1' : decide (k < n2) = false := decide_eq_false hlt
        have hres : S1 = str Res := by
          rw [HS.out, HR.out, List.take_of_length_le (by rw [← HN2.out]; omega)]
        have HRS := Lib.hid hres
        clear hres
        go_wp2_with (guard_target =~ bodyPost _ _ _ _ _ _; go_ret2; exact ⟨by rw [HRS.out]; rfl, HF0.out⟩)
set_option maxRecDepth 20000 in
set_option maxHeartbeats 4000000 in
theorem refimage_calls (E : Dk) {n m : Nat} (hW : Wd n m E) (hn : n ≤ 100000) (u v : Value) (w : World) (hR : RD w E u v) :
    Calls Try.prog 28 #[.agg (refRow E u v)] w fun e w' => e = .returned (.string (str E.lasts)) ∧ Fr (fun _ => False) w w' := by
  obtain ⟨A1, c1, rfl, hs1, _, _⟩ := hR.u
  obtain ⟨A2, n2, c2, rfl⟩ : ∃ A m c, v = .slice A m c := by obtain ⟨A, c, e⟩ := hR.v.sl; exact ⟨_, _, _, e⟩
  have hsl : (secs E.n E.lasts).length = n := by rw [secs_length, hW.nn]
  rw [hsl]
  obtain ⟨n1, hn1⟩ : ∃ x, x = n := ⟨_, rfl⟩
  rw [← hn1]
  unfold refRow
  obtain ⟨w0, hw0⟩ : ∃ x, x = w.alloc (.cells #[.slice A1 n1 c1, .slice A2 n2 c2, .int .i64 E.cutAt, .int .u64 E.keep, .int .i64 E.torn, .int .i64 E.count, .bool E.down] 48) := ⟨_, rfl⟩
  have hf0 : Fr (fun _ => False) w w0 := by rw [hw0]; exact (Fr.refl _ _).alloc _
  have hb0 : w0.heap[w.heap.size]? = some (.cells #[.slice A1 n1 c1, .slice A2 n2 c2, .int .i64 E.cutAt, .int .u64 E.keep, .int .i64 E.torn, .int .i64 E.count, .bool E.down] 48 (0, 0)) := by rw [hw0]; exact heap_alloc_new w _
  obtain ⟨ca, hca⟩ : ∃ x, x = E.cutAt := ⟨_, rfl⟩
  obtain ⟨ck, hck⟩ : ∃ x, x = E.keep := ⟨_, rfl⟩
  obtain ⟨ct, hct⟩ : ∃ x, x = E.torn := ⟨_, rfl⟩
  obtain ⟨cc, hcc⟩ : ∃ x, x = E.count := ⟨_, rfl⟩
  obtain ⟨dn, hdn⟩ : ∃ x, x = E.down := ⟨_, rfl⟩
  rw [← hca, ← hck, ← hct, ← hcc, ← hdn] at hb0 hw0 ⊢
  have k0 : w0.cell? ⟨w.heap.size, 0, none⟩ = some (.slice A1 n1 c1) := (cell_of_row w0 _ 0 _ _ _ hb0).trans rfl
  have k1 : w0.cell? ⟨w.heap.size, 1, none⟩ = some (.slice A2 n2 c2) := (cell_of_row w0 _ 1 _ _ _ hb0).trans rfl
  have k2 : w0.cell? ⟨w.heap.size, 2, none⟩ = some (.int .i64 ca) := (cell_of_row w0 _ 2 _ _ _ hb0).trans rfl
  have k3 : w0.cell? ⟨w.heap.size, 3, none⟩ = some (.int .u64 ck) := (cell_of_row w0 _ 3 _ _ _ hb0).trans rfl
  have k4 : w0.cell? ⟨w.heap.size, 4, none⟩ = some (.int .i64 ct) := (cell_of_row w0 _ 4 _ _ _ hb0).trans rfl
  have k5 : w0.cell? ⟨w.heap.size, 5, none⟩ = some (.int .i64 cc) := (cell_of_row w0 _ 5 _ _ _ hb0).trans rfl
  have k6 : w0.cell? ⟨w.heap.size, 6, none⟩ = some (.bool dn) := (cell_of_row w0 _ 6 _ _ _ hb0).trans rfl
  have HW0 := hw0.symm
  have HF0 := Lib.hid hf0
  have HS1 := Lib.hid (hs1.frF hf0)
  have HWd := Lib.hid hW
  have HN1 := Lib.hid hn1
  have hb1 : n1 ≤ 100000 := by omega
  clear hR hs1 hsl hca hck hct hcc hdn hw0 hf0 hb0 hW
  subst hn1
  go_enter Try.func28, Try.ntmps28
  go_wp2_with fail
  go_loopw [3, 4] (fun s i wr => ∃ k : Nat, k ≤ n1 ∧ i = .int .i64 (k : Int) ∧ s = .string (str (E.lasts.take (64 * k))) ∧ wr = w0) (fun s i _ => n1 - (intOf i).toNat)
  case atStart => exact ⟨0, Nat.zero_le _, rfl, rfl, rfl⟩
  case round =>
    obtain ⟨k, hk, rfl, rfl, rfl⟩ := hrel
    obtain ⟨S1, hS1⟩ : ∃ s, s = str (E.lasts.take (64 * k)) := ⟨_, rfl⟩
    have HS := Lib.hid hS1
    rw [← hS1]
    clear hS1
    by_cases hlt : k < n1
    · have e1 : decide ((k : Int) < (n1 : Int)) = true := decide_eq_true (by omega)
      have e1' : decide (k < n1) = true := decide_eq_true hlt
      obtain ⟨b1, off1, e2, hr1⟩ := HS1.out k _ (secs_get E.n E.lasts k (by have := HWd.out.nn; omega))
      subst e2
      obtain ⟨D, hD⟩ : ∃ s, s = str ((E.lasts.drop (64 * k)).take 64) := ⟨_, rfl⟩
      have q1 : wr.cell? ⟨b1, off1 + k * 1, none⟩ = some (.string D) := by rw [hD]; exact hr1 0 _ rfl
      rw [Nat.mul_one] at q1
      obtain ⟨U, hU⟩ : ∃ s, S1 ++ D = s := ⟨_, rfl⟩
      have hs1 : S1.size ≤ 6400000 := by rw [HS.out, str_size, List.length_take]; omega
      have hd1 : D.size ≤ 64 := by rw [hD, str_size, List.length_take]; omega
      have hz1 : S1.size + D.size ≤ 9223372036854775807 := by omega
      have hz2 : ¬ 9223372036854775807 < S1.size + D.size := by omega
      have HU := Lib.hid (show U = str (E.lasts.take (64 * (k + 1))) by
        rw [← hU, HS.out, hD, str_append, show 64 * (k + 1) = 64 * k + 64 by omega, List.take_add])
      clear hr1 hD
      go_wp2_with fail
      go_roundw
      case rel => exact ⟨k + 1, by omega, by go_num, by rw [HU.out], by first | rfl | trivial⟩
      case measure => simp [intOf]; omega
    · have e1 : decide ((k : Int) < (n1 : Int)) = false := decide_eq_false (by omega)
      have e1' : decide (k < n1) = false := decide_eq_false hlt
      have hres : S1 = str E.lasts := by
        rw [HS.out, List.take_of_length_le (by rw [HWd.out.L]; omega)]
      have HRS := Lib.hid hres
      clear hres
      go_wp2_with (guard_target =~ bodyPost _ _ _ _ _ _; go_ret; exact ⟨by rw [HRS.out]; rfl, HF0.out⟩)
theorem secs_zero (n : Nat) : secs n (List.replicate (64 * n) 0) = List.replicate n (str (List.replicate 64 0)) := by
  apply List.ext_getElem?
  intro p
  by_cases hp : p < n
  · rw [secs_get _ _ _ hp, List.getElem?_replicate, if_pos hp, List.drop_replicate, List.take_replicate, show min 64 (64 * n - 64 * p) = 64 by omega]
  · rw [List.getElem?_eq_none (by rw [secs_length]; omega), List.getElem?_eq_none (by simp; omega)]
theorem str_size_zero : (str []).size = 0 := rfl
set_option maxRecDepth 20000 in
set_option maxHeartbeats 8000000 in
theorem refnew_calls (n : Nat) (hn : n ≤ 10000) (w : World) :
    Calls Try.prog 18 #[.int .i64 (n : Int)] w fun e w' => ∃ u', e = .returned (.agg (refRow (Dk.new n) u' (.slice none 0 0))) ∧ RD w' (Dk.new n) u' (.slice none 0 0) ∧ Fr (fun _ => False) w w' ∧ ∀ b, u'.ownBlock = some b → w.heap.size ≤ b ∧ b < w'.heap.size := by
  have hN : n ≤ 10000 := hn
  obtain ⟨R, hR⟩ : ∃ b, b = w.heap.size := ⟨_, rfl⟩
  obtain ⟨w0, hw0, hf0, hz0, hb0⟩ := two_rows w #[.slice none 0 0, .slice none 0 0, .int .i64 0, .int .u64 0, .int .i64 0, .int .i64 0, .bool false] #[.slice none 0 0, .slice none 0 0, .int .i64 0, .int .u64 0, .int .i64 0, .int .i64 0, .bool false]
  rw [← hR] at hz0 hb0
  have hsz0 : w0.heap.size = R + 2 := by rw [hw0, hR]; simp
  have HF0 := Lib.hid hf0
  have HB0 := Lib.hid hb0
  have HZ0 := Lib.hid hz0
  have HW0 := hw0.symm
  have HRe := Lib.hid hR
  have HR1 := hR.symm
  have HFill := Lib.hid (show ∀ w, Calls Try.prog 46 #[.string ⟨#[]⟩] w fun e w' => e = .returned (.string (str (List.replicate 64 0))) ∧ Fr (fun _ => False) w w' from fun w => reffill_calls [] (by simp) w)
  obtain ⟨F, hF⟩ : ∃ s, s = str (List.replicate 64 0) := ⟨_, rfl⟩
  rw [← hF] at HFill
  have HFv := Lib.hid hF
  clear hf0 hz0 hb0 hw0 hR hF
  go_enter Try.func18, Try.ntmps18
  go_wp2_with fail
  go_loopw [4] (fun i wr => ∃ (k : Nat) (u : Value), k ≤ n ∧ i = .int .i64 (k : Int) ∧ wr.heap[R + 1]? = some (.cells #[u, .slice none 0 0, .int .i64 0, .int .u64 0, .int .i64 0, .int .i64 0, .bool false] 48 (0, 0)) ∧ wr.ownsRow (R + 2) 9 1 u k ((List.replicate k F).flatMap strC) ∧ Fr (fun j => j = R + 1) w0 wr) (fun i _ => n - (intOf i).toNat)
  case atStart => exact ⟨0, _, Nat.zero_le _, rfl, HB0.out, World.ownsRow_nil _ _ _ _, Fr.refl _ _⟩
  case round =>
    obtain ⟨k, u, hk, rfl, hb, hown, hfr⟩ := hrel
    by_cases hlt : k < n
    · have e1 : decide ((k : Int) < (n : Int)) = true := decide_eq_true (by omega)
      have e1' : decide (k < n) = true := decide_eq_true hlt
      obtain ⟨A, c, rfl, hB⟩ := own_sl hown
      have HB := Lib.hid hb
      have HO := Lib.hid hown
      have HF := Lib.hid hfr
      have HBl := Lib.hid hB
      clear hb hown hfr hB
      go_wp2_with fail
      refine wp_region_till (fun W' => W'.cell? ⟨R + 1, 0, none⟩ = some (.slice A k c)) 6 (by kernel_rfl) ?_
      have HS0 := Lib.hid (show wr.drew.cell? ⟨R + 1, 0, none⟩ = some (.slice A k c) from (cell_of_row wr _ 0 _ _ _ HB.out).trans rfl)
      refine wpAnyT_take (i := 0) (n := 12) (v := .pointer (some ⟨R + 1, 0, none⟩)) rfl (by kernel_rfl) (fun _ _ _ h => h) HS0.out (yieldsIf_plain rfl (fun W' hW => by clear hW; go_simp)) ?_
      simp only [List.getElem_toArray, List.getElem_cons_succ, List.getElem_cons_zero, Act.put, List.setIfInBounds_toArray, List.set_cons_zero, List.set_cons_succ]
      refine wpAnyT_take (i := 1) (n := 12) (v := .slice A k c) rfl (by kernel_rfl) (fun _ _ _ h => h) HS0.out (yieldsIf_plain rfl (fun W' hW => by have h1 := hW; clear hW; go_simp)) ?_
      simp only [List.getElem_toArray, List.getElem_cons_succ, List.getElem_cons_zero, Act.put, List.setIfInBounds_toArray, List.set_cons_zero, List.set_cons_succ]
      refine wpAnyT_one (i := 2) rfl (by kernel_rfl) (wpOp_plain rfl rfl (fun K hK => ?_))
      simp only [List.getElem_toArray, List.getElem_cons_succ, List.getElem_cons_zero, Act.put, List.setIfInBounds_toArray, List.set_cons_zero, List.set_cons_succ]
      have HKK := Lib.hid hK
      clear hK
      go_wp2_with fail
      refine (HFill.out _).mono ?_
      rintro e w3 ⟨rfl, f3⟩
      have HF3 := Lib.hid (show Fr (fun _ => False) wr w3 from (Fr.refl (fun _ => False) wr).drew.trans f3 (fun i hi => hi.elim))
      have HS3 := Lib.hid (f3.cell HS0.out id)
      clear f3
      go_wp2_with fail
      refine HKK.out _ _ ⟨fun _ => HS3.out, ?_⟩
      clear HKK K
      try simp only [List.getElem_toArray, List.getElem_cons_succ, List.getElem_cons_zero, Act.put, List.setIfInBounds_toArray, List.set_cons_zero, List.set_cons_succ]
      refine wpAnyT_one (i := 3) rfl (by kernel_rfl) (wpOp_plain rfl rfl (fun K hK => ?_))
      simp only [List.getElem_toArray, List.getElem_cons_succ, List.getElem_cons_zero, Act.put, List.setIfInBounds_toArray, List.set_cons_zero, List.set_cons_succ]
      refine wp_buildSlice_str 37 (.tmp 12) rfl 9 F rfl Try.underlying37 (by kernel_rfl) ?_
      obtain ⟨w4, hw4⟩ : ∃ x, x = w3.alloc (.cells #[.string F] 9) := ⟨_, rfl⟩
      have hf4 : Fr (fun _ => False) w3 w4 := by rw [hw4]; exact (Fr.refl _ _).alloc _
      have hnew : w4.heap[w3.heap.size]? = some (.cells #[.string F] 9 (0, 0)) := by rw [hw4]; exact heap_alloc_new w3 _
      rw [← hw4]
      have HS4 := Lib.hid (hf4.cell HS3.out id)
      refine hK _ _ ⟨fun _ => HS4.out, ?_⟩
      clear hK K
      try simp only [List.getElem_toArray, List.getElem_cons_succ, List.getElem_cons_zero, Act.put, List.setIfInBounds_toArray, List.set_cons_zero, List.set_cons_succ]
      have hrd : RdV w4 1 strC (.slice (some ⟨w3.heap.size, 0, none⟩) 1 1) [F] := ⟨_, 1, rfl, fun i y hy => by
        match i, hy with
        | 0, hy =>
          obtain rfl : F = y := by simpa using hy
          refine ⟨_, 0, rfl, fun j u hj => ?_⟩
          rw [Nat.zero_mul, Nat.zero_add, cell_of_row w4 _ _ _ _ _ hnew]
          simpa [strC] using hj
        | i + 1, hy => simp at hy, Nat.le_refl _, by decide⟩
      have hF4 : Fr (fun _ => False) wr w4 := HF3.out.trans hf4 (fun i hi => hi.elim)
      have hR4 : R + 2 ≤ w4.heap.size := by have := hF4.size; have := HF.out.size; omega
      obtain ⟨v', w5, hap, hown5, hgr⟩ := rows_append rowS (R + 2) _ k _ _ [F] 37 w4 (own_fr HO.out hF4 (fun _ _ => id)) hrd hR4 (by simp; omega)
      have hf5 : Fr (fun j => (Value.slice A k c).ownBlock = some j) w4 w5 := (Fr.refl _ _).grown hgr (fun k hk => .inl hk)
      have hne : ¬ (Value.slice A k c).ownBlock = some (R + 1) := fun h => by have := HBl.out _ h; omega
      refine wpAnyT_one (i := 4) rfl (by kernel_rfl) (wpOp_plain rfl rfl (fun K hK => ?_))
      simp only [List.getElem_toArray, List.getElem_cons_succ, List.getElem_cons_zero, Act.put, List.setIfInBounds_toArray, List.set_cons_zero, List.set_cons_succ]
      refine wp_append_run (t := 37) (.tmp 11) (.tmp 13) rfl v' w5 hap ?_
      have HS5 := Lib.hid (hf5.cell HS4.out hne)
      refine hK _ _ ⟨fun _ => HS5.out, ?_⟩
      clear hK K
      try simp only [List.getElem_toArray, List.getElem_cons_succ, List.getElem_cons_zero, Act.put, List.setIfInBounds_toArray, List.set_cons_zero, List.set_cons_succ]
      refine wpAnyT_take (i := 5) (n := 12) (v := .pointer (some ⟨R + 1, 0, none⟩)) rfl (by kernel_rfl) (fun _ _ _ h => h) HS5.out (yieldsIf_plain rfl (fun W' hW => by clear hW; go_simp)) ?_
      simp only [List.getElem_toArray, List.getElem_cons_succ, List.getElem_cons_zero, Act.put, List.setIfInBounds_toArray, List.set_cons_zero, List.set_cons_succ]
      have hb5 : w5.heap[R + 1]? = some (.cells #[.slice A k c, .slice none 0 0, .int .i64 0, .int .u64 0, .int .i64 0, .int .i64 0, .bool false] 48 (0, 0)) := hf5.heap (hF4.heap HB.out id) hne
      have hb6 := heap_setCell_same w5 (R + 1) 0 _ 48 v' hb5
      have hf6 : Fr (fun j => j = R + 1) w5 (w5.setCell ⟨R + 1, 0, none⟩ v') := (Fr.refl (fun j => j = R + 1) w5).setCell _ _ (.inl rfl)
      obtain ⟨A', c', rfl, hB'⟩ := own_sl hown5
      have hown6 := own_fr hown5 hf6 (fun j hj e => by have := hB' _ hj; omega)
      have hF6 : Fr (fun j => j = R + 1) w0 (w5.setCell ⟨R + 1, 0, none⟩ (.slice A' (k + [F].length) c')) := ((HF.out.trans hF4 (fun i hi => hi.elim)).trans hf5 (fun i hi => .inr (by have := HBl.out _ hi; omega))).trans hf6 (fun i hi => .inl hi)
      have z0 : w5.frozen? ⟨R + 1, 0, none⟩ = false := frozen_of_row w5 _ _ _ _ hb5
      have z1 : w5.cell? ⟨R + 1, 0, none⟩ = some (.slice A k c) := (cell_of_row w5 _ 0 _ _ _ hb5).trans rfl
      have HO6 := Lib.hid (show (w5.setCell ⟨R + 1, 0, none⟩ (.slice A' (k + [F].length) c')).ownsRow (R + 2) 9 1 (.slice A' (k + [F].length) c') (k + 1) ((List.replicate (k + 1) F).flatMap strC) by
        rw [List.replicate_succ', List.flatMap_append]
        exact hown6)
      have HF6 := Lib.hid hF6
      have HB6 := Lib.hid (show (w5.setCell ⟨R + 1, 0, none⟩ (.slice A' (k + [F].length) c')).heap[R + 1]? = some (.cells #[.slice A' (k + [F].length) c', .slice none 0 0, .int .i64 0, .int .u64 0, .int .i64 0, .int .i64 0, .bool false] 48 (0, 0)) from hb6)
      clear hb6 hf6 hown6 hF6 hown5 hgr hap hb5 hB' hf5 hne hrd hF4 hnew hf4 hw4
      refine wpAnyT_of_any trivial [6] _ _ _ _ (by kernel_rfl) (by simp) (.inr rfl) ?_
      simp only [List.filterMap_cons, List.filterMap_nil, List.getElem?_toArray, List.getElem?_cons_zero, List.getElem?_cons_succ]
      go_wp2_with fail
      go_roundw
      case rel => exact ⟨k + 1, _, by omega, by go_num, HB6.out, HO6.out, HF6.out⟩
      case measure => simp [intOf]; omega
    · obtain rfl : k = n := by omega
      have e1 : decide ((k : Int) < (k : Int)) = false := decide_eq_false (by omega)
      have e1' : decide (k < k) = false := decide_eq_false (by omega)
      obtain ⟨A, c, rfl, hB⟩ := own_sl hown
      have hz := hfr.heap HZ0.out (by omega)
      have b0 : wr.cell? ⟨(R + 1), 0, none⟩ = some (.slice A k c) := (cell_of_row wr _ 0 _ _ _ hb).trans rfl
      have b1 : wr.cell? ⟨(R + 1), 1, none⟩ = some (.slice none 0 0) := (cell_of_row wr _ 1 _ _ _ hb).trans rfl
      have b2 : wr.cell? ⟨(R + 1), 2, none⟩ = some (.int .i64 0) := (cell_of_row wr _ 2 _ _ _ hb).trans rfl
      have b3 : wr.cell? ⟨(R + 1), 3, none⟩ = some (.int .u64 0) := (cell_of_row wr _ 3 _ _ _ hb).trans rfl
      have b4 : wr.cell? ⟨(R + 1), 4, none⟩ = some (.int .i64 0) := (cell_of_row wr _ 4 _ _ _ hb).trans rfl
      have b5 : wr.cell? ⟨(R + 1), 5, none⟩ = some (.int .i64 0) := (cell_of_row wr _ 5 _ _ _ hb).trans rfl
      have b6 : wr.cell? ⟨(R + 1), 6, none⟩ = some (.bool false) := (cell_of_row wr _ 6 _ _ _ hb).trans rfl
      have z0 : wr.cell? ⟨R, 0, none⟩ = some (.slice none 0 0) := (cell_of_row wr _ 0 _ _ _ hz).trans rfl
      have y0 : wr.frozen? ⟨R, 0, none⟩ = false := frozen_of_row wr _ _ _ _ hz
      have z1 : wr.cell? ⟨R, 1, none⟩ = some (.slice none 0 0) := (cell_of_row wr _ 1 _ _ _ hz).trans rfl
      have y1 : wr.frozen? ⟨R, 1, none⟩ = false := frozen_of_row wr _ _ _ _ hz
      have z2 : wr.cell? ⟨R, 2, none⟩ = some (.int .i64 0) := (cell_of_row wr _ 2 _ _ _ hz).trans rfl
      have y2 : wr.frozen? ⟨R, 2, none⟩ = false := frozen_of_row wr _ _ _ _ hz
      have z3 : wr.cell? ⟨R, 3, none⟩ = some (.int .u64 0) := (cell_of_row wr _ 3 _ _ _ hz).trans rfl
      have y3 : wr.frozen? ⟨R, 3, none⟩ = false := frozen_of_row wr _ _ _ _ hz
      have z4 : wr.cell? ⟨R, 4, none⟩ = some (.int .i64 0) := (cell_of_row wr _ 4 _ _ _ hz).trans rfl
      have y4 : wr.frozen? ⟨R, 4, none⟩ = false := frozen_of_row wr _ _ _ _ hz
      have z5 : wr.cell? ⟨R, 5, none⟩ = some (.int .i64 0) := (cell_of_row wr _ 5 _ _ _ hz).trans rfl
      have y5 : wr.frozen? ⟨R, 5, none⟩ = false := frozen_of_row wr _ _ _ _ hz
      have z6 : wr.cell? ⟨R, 6, none⟩ = some (.bool false) := (cell_of_row wr _ 6 _ _ _ hz).trans rfl
      have y6 : wr.frozen? ⟨R, 6, none⟩ = false := frozen_of_row wr _ _ _ _ hz
      have hput := put7_heap hz (.slice A k c) (.slice none 0 0) (.int .i64 0) (.int .u64 0) (.int .i64 0) (.int .i64 0) (.bool false)
      have hpf := put7_fr wr R (.slice A k c) (.slice none 0 0) (.int .i64 0) (.int .u64 0) (.int .i64 0) (.int .i64 0) (.bool false)
      have hoF := own_fr hown hpf (fun j hj e => by have := hB _ hj; omega)
      rw [HFv.out, ← secs_zero] at hoF
      have HRd := Lib.hid (show RD _ (Dk.new k) (.slice A k c) (.slice none 0 0) from ⟨RdV.of_own (l := secs k (List.replicate (64 * k) 0)) rowS (by rw [secs_length]; exact hoF), ⟨none, 0, rfl, fun i x hx => by simp [Dk.new] at hx, Nat.le_refl _, Nat.zero_le _⟩⟩)
      have HPut := Lib.hid hput
      have HPF := Lib.hid ((HF0.out.trans hfr (fun i hi => .inr (by have := HRe.out; omega))).trans hpf (fun i hi => .inr (by have := HRe.out; omega)))
      have HY := Lib.hid (fun b hb => And.intro (show w.heap.size ≤ b from by have h1 := hB b hb; have h2 := HRe.out; omega) (own_lt hoF b hb))
      unfold put7 at HRd HPut HPF HY
      clear hput hpf hoF hz hB hown hfr hb
      go_wp2_with (guard_target =~ bodyPost _ _ _ _ _ _; refine bodyPost_ret (results_cell_row rfl _ _ R 48 _ (0, 0) _ rfl HPut.out Try.underlying48 rfl (by kernel_rfl)) rfl ?_; exact ⟨_, rfl, HRd.out, HPF.out, HY.out⟩)
end Go.Proofs.Ythlngbdbmnnnaaa
