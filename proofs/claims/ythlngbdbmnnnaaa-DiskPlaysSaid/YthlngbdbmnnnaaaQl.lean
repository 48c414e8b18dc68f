/- Disks: the document's Flush, walked (no printed text). -/
import Derived.Test.YthlngbdbmnnnaaaQk
set_option linter.unusedVariables false
set_option linter.unusedSimpArgs false
set_option pp.deepTerms true
set_option pp.maxSteps 100000
namespace Go.Proofs.Ythlngbdbmnnnaaa
open Go.RowKit
set_option maxRecDepth 20000 in
set_option maxHeartbeats 8000000 in
theorem refflush_calls (E : Dk) {n m : Nat} (hW : Wd n m E) (hm : m < 99999) (hn : n ≤ 100000) (u v : Value) (w : World) (hR : RD w E u v) :
    Calls Try.prog 21 #[.agg (refRow E u v)] w fun e w' => ∃ u' v', e = .returned (.tuple #[.agg (refRow E.flush u' v'), .int .i64 E.flushE]) ∧ RD w' E.flush u' v' ∧ Fr (fun _ => False) w w' ∧ Yg w w' u v u' v' := by
  obtain ⟨A1, c1, rfl⟩ := hR.u.sl
  obtain ⟨A2, c2, rfl⟩ := hR.v.sl
  have hsl : (secs E.n E.lasts).length = n := by rw [secs_length, hW.nn]
  rw [hsl] at hR ⊢
  obtain ⟨n2, hn2⟩ : ∃ x, x = E.wait.length := ⟨_, rfl⟩
  rw [← hn2] at hR ⊢
  obtain ⟨w0, hw0, hf0, hb0, hz0⟩ := two_rows w #[.slice A1 n c1, .slice A2 n2 c2, .int .i64 E.cutAt, .int .u64 E.keep, .int .i64 E.torn, .int .i64 E.count, .bool E.down] #[.slice none 0 0, .slice none 0 0, .int .i64 0, .int .u64 0, .int .i64 0, .int .i64 0, .bool false]
  have HF0 := Lib.hid hf0
  have HZ0 := Lib.hid hz0
  have HR0 := Lib.hid (hR.frF hf0)
  have hsz0 : w0.heap.size = w.heap.size + 2 := by rw [hw0]; simp
  have hcase : (E.down = true ∧ E.flush = E ∧ E.flushE = 7) ∨ (E.down = false ∧ E.failing = true ∧ E.flush = E.counted ∧ E.flushE = 7) ∨ (E.down = false ∧ E.failing = false ∧ E.flush = { E with count := E.count + 1, lasts := settle (fun _ => 64) 0 E.wait E.lasts, wait := [] } ∧ E.counted = { E with count := E.count + 1 } ∧ E.flushE = 0) := by
    rcases Bool.eq_false_or_eq_true E.down with hd | hd
    · exact .inl ⟨hd, by simp [Dk.flush, hd], by simp [Dk.flushE, hd]⟩
    · rcases Bool.eq_false_or_eq_true E.failing with hf | hf
      · exact .inr (.inl ⟨hd, hf, by simp [Dk.flush, hd, hf], by simp [Dk.flushE, hd, hf]⟩)
      · have hc : E.counted = { E with count := E.count + 1 } := by
          unfold Dk.counted
          unfold Dk.failing at hf
          rw [if_neg (of_decide_eq_false hf)]
        exact .inr (.inr ⟨hd, hf, by unfold Dk.flush; rw [if_neg (by rw [hd]; decide), if_neg (by rw [hf]; decide), hc], hc, by simp [Dk.flushE, hd, hf]⟩)
  unfold refRow
  obtain ⟨ca, hca⟩ : ∃ x, x = E.cutAt := ⟨_, rfl⟩
  obtain ⟨ck, hck⟩ : ∃ x, x = E.keep := ⟨_, rfl⟩
  obtain ⟨ct, hct⟩ : ∃ x, x = E.torn := ⟨_, rfl⟩
  obtain ⟨cc, hcc⟩ : ∃ x, x = E.count := ⟨_, rfl⟩
  obtain ⟨dn, hdn⟩ : ∃ x, x = E.down := ⟨_, rfl⟩
  have HQ := Lib.hid (And.intro hca (And.intro hck (And.intro hct (And.intro hcc hdn))))
  rw [← hca, ← hck, ← hct, ← hcc, ← hdn] at hb0 hw0 ⊢
  rw [← hdn] at hcase
  have HB0 := Lib.hid hb0
  have k0 : w0.cell? ⟨w.heap.size, 0, none⟩ = some (.slice A1 n c1) := (cell_of_row w0 _ 0 _ _ _ hb0).trans rfl
  have kf0 : w0.frozen? ⟨w.heap.size, 0, none⟩ = false := frozen_of_row w0 _ _ _ _ hb0
  have k1 : w0.cell? ⟨w.heap.size, 1, none⟩ = some (.slice A2 n2 c2) := (cell_of_row w0 _ 1 _ _ _ hb0).trans rfl
  have kf1 : w0.frozen? ⟨w.heap.size, 1, none⟩ = false := frozen_of_row w0 _ _ _ _ hb0
  have k2 : w0.cell? ⟨w.heap.size, 2, none⟩ = some (.int .i64 ca) := (cell_of_row w0 _ 2 _ _ _ hb0).trans rfl
  have kf2 : w0.frozen? ⟨w.heap.size, 2, none⟩ = false := frozen_of_row w0 _ _ _ _ hb0
  have k3 : w0.cell? ⟨w.heap.size, 3, none⟩ = some (.int .u64 ck) := (cell_of_row w0 _ 3 _ _ _ hb0).trans rfl
  have kf3 : w0.frozen? ⟨w.heap.size, 3, none⟩ = false := frozen_of_row w0 _ _ _ _ hb0
  have k4 : w0.cell? ⟨w.heap.size, 4, none⟩ = some (.int .i64 ct) := (cell_of_row w0 _ 4 _ _ _ hb0).trans rfl
  have kf4 : w0.frozen? ⟨w.heap.size, 4, none⟩ = false := frozen_of_row w0 _ _ _ _ hb0
  have k5 : w0.cell? ⟨w.heap.size, 5, none⟩ = some (.int .i64 cc) := (cell_of_row w0 _ 5 _ _ _ hb0).trans rfl
  have kf5 : w0.frozen? ⟨w.heap.size, 5, none⟩ = false := frozen_of_row w0 _ _ _ _ hb0
  have k6 : w0.cell? ⟨w.heap.size, 6, none⟩ = some (.bool dn) := (cell_of_row w0 _ 6 _ _ _ hb0).trans rfl
  have kf6 : w0.frozen? ⟨w.heap.size, 6, none⟩ = false := frozen_of_row w0 _ _ _ _ hb0
  have z0 : w0.cell? ⟨w.heap.size + 1, 0, none⟩ = some (.slice none 0 0) := (cell_of_row w0 _ 0 _ _ _ hz0).trans rfl
  have y0 : w0.frozen? ⟨w.heap.size + 1, 0, none⟩ = false := frozen_of_row w0 _ _ _ _ hz0
  have z1 : w0.cell? ⟨w.heap.size + 1, 1, none⟩ = some (.slice none 0 0) := (cell_of_row w0 _ 1 _ _ _ hz0).trans rfl
  have y1 : w0.frozen? ⟨w.heap.size + 1, 1, none⟩ = false := frozen_of_row w0 _ _ _ _ hz0
  have z2 : w0.cell? ⟨w.heap.size + 1, 2, none⟩ = some (.int .i64 0) := (cell_of_row w0 _ 2 _ _ _ hz0).trans rfl
  have y2 : w0.frozen? ⟨w.heap.size + 1, 2, none⟩ = false := frozen_of_row w0 _ _ _ _ hz0
  have z3 : w0.cell? ⟨w.heap.size + 1, 3, none⟩ = some (.int .u64 0) := (cell_of_row w0 _ 3 _ _ _ hz0).trans rfl
  have y3 : w0.frozen? ⟨w.heap.size + 1, 3, none⟩ = false := frozen_of_row w0 _ _ _ _ hz0
  have z4 : w0.cell? ⟨w.heap.size + 1, 4, none⟩ = some (.int .i64 0) := (cell_of_row w0 _ 4 _ _ _ hz0).trans rfl
  have y4 : w0.frozen? ⟨w.heap.size + 1, 4, none⟩ = false := frozen_of_row w0 _ _ _ _ hz0
  have z5 : w0.cell? ⟨w.heap.size + 1, 5, none⟩ = some (.int .i64 0) := (cell_of_row w0 _ 5 _ _ _ hz0).trans rfl
  have y5 : w0.frozen? ⟨w.heap.size + 1, 5, none⟩ = false := frozen_of_row w0 _ _ _ _ hz0
  have z6 : w0.cell? ⟨w.heap.size + 1, 6, none⟩ = some (.bool false) := (cell_of_row w0 _ 6 _ _ _ hz0).trans rfl
  have y6 : w0.frozen? ⟨w.heap.size + 1, 6, none⟩ = false := frozen_of_row w0 _ _ _ _ hz0
  have HW0 := hw0.symm
  have HWd := Lib.hid hW
  have HN2 := Lib.hid hn2
  clear hR hsl hw0 hf0 hb0 hz0 hca hck hct hcc hdn hW hn2
  rcases hcase with ⟨rfl, he1, he2⟩ | ⟨rfl, hfl, he1, he2⟩ | ⟨rfl, hfl, he1, hcd, he2⟩
  · rw [he1, he2]
    clear he1 he2
    have hputC := put7_heap HZ0.out (.slice A1 n c1) (.slice A2 n2 c2) (.int .i64 ca) (.int .u64 ck) (.int .i64 ct) (.int .i64 cc) (.bool true)
    have hpfC := put7_fr w0 (w.heap.size + 1) (.slice A1 n c1) (.slice A2 n2 c2) (.int .i64 ca) (.int .u64 ck) (.int .i64 ct) (.int .i64 cc) (.bool true)
    have HRdC := Lib.hid (HR0.out.aside HZ0.out (seven_no _ _ _ _ _ _ _ _ _ _ _) hpfC)
    have HPutC := Lib.hid hputC
    have HPFC := Lib.hid (HF0.out.trans hpfC (fun i hi => .inr (by omega)))
    have HSC := Lib.hid hpfC.size
    unfold put7 at HPFC HPutC HRdC HSC
    clear hputC hpfC
    go_enter Try.func21, Try.ntmps21
    go_wp2_with (guard_target =~ bodyPost _ _ _ _ _ _; refine bodyPost_ret (results_two rfl _ _ (w.heap.size + 1) 48 _ (0, 0) _ (.int .i64 7) rfl rfl HPutC.out Try.underlying48 rfl (by kernel_rfl)) rfl ?_; refine ⟨_, _, ?_, HRdC.out, HPFC.out, fun b hb => .inl hb⟩; rw [← HQ.out.1, ← HQ.out.2.1, ← HQ.out.2.2.1, ← HQ.out.2.2.2.1, ← HQ.out.2.2.2.2])
  · rw [he1, he2]
    clear he1 he2
    have hcall := refcounted_calls E HWd.out (by omega) hn HQ.out.2.2.2.2.symm _ _ w0 HR0.out
    unfold refRow at hcall
    rw [← HQ.out.1, ← HQ.out.2.1, ← HQ.out.2.2.1, ← HQ.out.2.2.2.1, ← HQ.out.2.2.2.2, hfl] at hcall
    have HCall := Lib.hid hcall
    clear hcall hfl
    go_enter Try.func21, Try.ntmps21
    go_wp2_with fail
    refine HCall.out.mono ?_
    rintro e w7 ⟨u', v', rfl, hrd7, f7, hy7⟩
    have hz7 := f7.heap HZ0.out id
    have hb7 := f7.heap HB0.out id
    obtain ⟨A5, n5, c5, A6, n6, c6, rfl, rfl⟩ := hrd7.sl
    have HY7 := Lib.hid (show Yg w w7 (.slice A1 n c1) (.slice A2 n2 c2) (.slice A5 n5 c5) (.slice A6 n6 c6) from fun b hb => (hy7 b hb).imp id (fun h => ⟨by have := HF0.out.size; omega, h.2⟩))
    clear hy7
    obtain ⟨ca', hca'⟩ : ∃ x, x = E.counted.cutAt := ⟨_, rfl⟩
    obtain ⟨ck', hck'⟩ : ∃ x, x = E.counted.keep := ⟨_, rfl⟩
    obtain ⟨ct', hct'⟩ : ∃ x, x = E.counted.torn := ⟨_, rfl⟩
    obtain ⟨cc', hcc'⟩ : ∃ x, x = E.counted.count := ⟨_, rfl⟩
    obtain ⟨dn', hdn'⟩ : ∃ x, x = E.counted.down := ⟨_, rfl⟩
    rw [← hca', ← hck', ← hct', ← hcc', ← hdn']
    have HQ7 := Lib.hid (And.intro hca' (And.intro hck' (And.intro hct' (And.intro hcc' hdn'))))
    have hput8 := put7_heap hb7 (.slice A5 n5 c5) (.slice A6 n6 c6) (.int .i64 ca') (.int .u64 ck') (.int .i64 ct') (.int .i64 cc') (.bool dn')
    have hpf8 := put7_fr w7 w.heap.size (.slice A5 n5 c5) (.slice A6 n6 c6) (.int .i64 ca') (.int .u64 ck') (.int .i64 ct') (.int .i64 cc') (.bool dn')
    obtain ⟨w8, hw8⟩ : ∃ x, x = put7 w7 w.heap.size (.slice A5 n5 c5) (.slice A6 n6 c6) (.int .i64 ca') (.int .u64 ck') (.int .i64 ct') (.int .i64 cc') (.bool dn') := ⟨_, rfl⟩
    rw [← hw8] at hput8 hpf8
    have hz8 := hpf8.heap hz7 (by omega)
    have HZ8 := Lib.hid hz8
    have HF8 := Lib.hid ((HF0.out.trans f7 (fun i hi => hi.elim)).trans hpf8 (fun i hi => .inr (by omega)))
    have HR8 := Lib.hid (hrd7.aside hb7 (seven_no _ _ _ _ _ _ _ _ _ _ _) hpf8)
    have s0 : w7.cell? ⟨w.heap.size, 0, none⟩ = some (.slice A1 n c1) := (cell_of_row w7 _ 0 _ _ _ hb7).trans rfl
    have sf0 : w7.frozen? ⟨w.heap.size, 0, none⟩ = false := frozen_of_row w7 _ _ _ _ hb7
    have s1 : w7.cell? ⟨w.heap.size, 1, none⟩ = some (.slice A2 n2 c2) := (cell_of_row w7 _ 1 _ _ _ hb7).trans rfl
    have sf1 : w7.frozen? ⟨w.heap.size, 1, none⟩ = false := frozen_of_row w7 _ _ _ _ hb7
    have s2 : w7.cell? ⟨w.heap.size, 2, none⟩ = some (.int .i64 ca) := (cell_of_row w7 _ 2 _ _ _ hb7).trans rfl
    have sf2 : w7.frozen? ⟨w.heap.size, 2, none⟩ = false := frozen_of_row w7 _ _ _ _ hb7
    have s3 : w7.cell? ⟨w.heap.size, 3, none⟩ = some (.int .u64 ck) := (cell_of_row w7 _ 3 _ _ _ hb7).trans rfl
    have sf3 : w7.frozen? ⟨w.heap.size, 3, none⟩ = false := frozen_of_row w7 _ _ _ _ hb7
    have s4 : w7.cell? ⟨w.heap.size, 4, none⟩ = some (.int .i64 ct) := (cell_of_row w7 _ 4 _ _ _ hb7).trans rfl
    have sf4 : w7.frozen? ⟨w.heap.size, 4, none⟩ = false := frozen_of_row w7 _ _ _ _ hb7
    have s5 : w7.cell? ⟨w.heap.size, 5, none⟩ = some (.int .i64 cc) := (cell_of_row w7 _ 5 _ _ _ hb7).trans rfl
    have sf5 : w7.frozen? ⟨w.heap.size, 5, none⟩ = false := frozen_of_row w7 _ _ _ _ hb7
    have s6 : w7.cell? ⟨w.heap.size, 6, none⟩ = some (.bool false) := (cell_of_row w7 _ 6 _ _ _ hb7).trans rfl
    have sf6 : w7.frozen? ⟨w.heap.size, 6, none⟩ = false := frozen_of_row w7 _ _ _ _ hb7
    have t0 : w8.cell? ⟨w.heap.size, 0, none⟩ = some (.slice A5 n5 c5) := (cell_of_row w8 _ 0 _ _ _ hput8).trans rfl
    have tf0 : w8.frozen? ⟨w.heap.size, 0, none⟩ = false := frozen_of_row w8 _ _ _ _ hput8
    have t1 : w8.cell? ⟨w.heap.size, 1, none⟩ = some (.slice A6 n6 c6) := (cell_of_row w8 _ 1 _ _ _ hput8).trans rfl
    have tf1 : w8.frozen? ⟨w.heap.size, 1, none⟩ = false := frozen_of_row w8 _ _ _ _ hput8
    have t2 : w8.cell? ⟨w.heap.size, 2, none⟩ = some (.int .i64 ca') := (cell_of_row w8 _ 2 _ _ _ hput8).trans rfl
    have tf2 : w8.frozen? ⟨w.heap.size, 2, none⟩ = false := frozen_of_row w8 _ _ _ _ hput8
    have t3 : w8.cell? ⟨w.heap.size, 3, none⟩ = some (.int .u64 ck') := (cell_of_row w8 _ 3 _ _ _ hput8).trans rfl
    have tf3 : w8.frozen? ⟨w.heap.size, 3, none⟩ = false := frozen_of_row w8 _ _ _ _ hput8
    have t4 : w8.cell? ⟨w.heap.size, 4, none⟩ = some (.int .i64 ct') := (cell_of_row w8 _ 4 _ _ _ hput8).trans rfl
    have tf4 : w8.frozen? ⟨w.heap.size, 4, none⟩ = false := frozen_of_row w8 _ _ _ _ hput8
    have t5 : w8.cell? ⟨w.heap.size, 5, none⟩ = some (.int .i64 cc') := (cell_of_row w8 _ 5 _ _ _ hput8).trans rfl
    have tf5 : w8.frozen? ⟨w.heap.size, 5, none⟩ = false := frozen_of_row w8 _ _ _ _ hput8
    have t6 : w8.cell? ⟨w.heap.size, 6, none⟩ = some (.bool dn') := (cell_of_row w8 _ 6 _ _ _ hput8).trans rfl
    have tf6 : w8.frozen? ⟨w.heap.size, 6, none⟩ = false := frozen_of_row w8 _ _ _ _ hput8
    have zz0 : w8.cell? ⟨w.heap.size + 1, 0, none⟩ = some (.slice none 0 0) := (cell_of_row w8 _ 0 _ _ _ hz8).trans rfl
    have yy0 : w8.frozen? ⟨w.heap.size + 1, 0, none⟩ = false := frozen_of_row w8 _ _ _ _ hz8
    have zz1 : w8.cell? ⟨w.heap.size + 1, 1, none⟩ = some (.slice none 0 0) := (cell_of_row w8 _ 1 _ _ _ hz8).trans rfl
    have yy1 : w8.frozen? ⟨w.heap.size + 1, 1, none⟩ = false := frozen_of_row w8 _ _ _ _ hz8
    have zz2 : w8.cell? ⟨w.heap.size + 1, 2, none⟩ = some (.int .i64 0) := (cell_of_row w8 _ 2 _ _ _ hz8).trans rfl
    have yy2 : w8.frozen? ⟨w.heap.size + 1, 2, none⟩ = false := frozen_of_row w8 _ _ _ _ hz8
    have zz3 : w8.cell? ⟨w.heap.size + 1, 3, none⟩ = some (.int .u64 0) := (cell_of_row w8 _ 3 _ _ _ hz8).trans rfl
    have yy3 : w8.frozen? ⟨w.heap.size + 1, 3, none⟩ = false := frozen_of_row w8 _ _ _ _ hz8
    have zz4 : w8.cell? ⟨w.heap.size + 1, 4, none⟩ = some (.int .i64 0) := (cell_of_row w8 _ 4 _ _ _ hz8).trans rfl
    have yy4 : w8.frozen? ⟨w.heap.size + 1, 4, none⟩ = false := frozen_of_row w8 _ _ _ _ hz8
    have zz5 : w8.cell? ⟨w.heap.size + 1, 5, none⟩ = some (.int .i64 0) := (cell_of_row w8 _ 5 _ _ _ hz8).trans rfl
    have yy5 : w8.frozen? ⟨w.heap.size + 1, 5, none⟩ = false := frozen_of_row w8 _ _ _ _ hz8
    have zz6 : w8.cell? ⟨w.heap.size + 1, 6, none⟩ = some (.bool false) := (cell_of_row w8 _ 6 _ _ _ hz8).trans rfl
    have yy6 : w8.frozen? ⟨w.heap.size + 1, 6, none⟩ = false := frozen_of_row w8 _ _ _ _ hz8
    unfold put7 at hw8
    have HW8 := hw8.symm
    have hs8 : w.heap.size + 2 ≤ w8.heap.size := by have := hpf8.size; have := f7.size; omega
    have HB8 := Lib.hid hput8
    have HS78 := Lib.hid hpf8.size
    clear hz7 hb7 hput8 hpf8 hw8 hz8 hrd7 f7 HW0 k0 k1 k2 k3 k4 k5 k6 kf0 kf1 kf2 kf3 kf4 kf5 kf6 z0 z1 z2 z3 z4 z5 z6 y0 y1 y2 y3 y4 y5 y6
    clear hca' hck' hct' hcc' hdn'
    have hputC := put7_heap HZ8.out (.slice A5 n5 c5) (.slice A6 n6 c6) (.int .i64 ca') (.int .u64 ck') (.int .i64 ct') (.int .i64 cc') (.bool dn')
    have hpfC := put7_fr w8 (w.heap.size + 1) (.slice A5 n5 c5) (.slice A6 n6 c6) (.int .i64 ca') (.int .u64 ck') (.int .i64 ct') (.int .i64 cc') (.bool dn')
    have HRdC := Lib.hid (HR8.out.aside HZ8.out (seven_no _ _ _ _ _ _ _ _ _ _ _) hpfC)
    have HPutC := Lib.hid hputC
    have HPFC := Lib.hid (HF8.out.trans hpfC (fun i hi => .inr (by omega)))
    have HSC := Lib.hid hpfC.size
    unfold put7 at HPFC HPutC HRdC HSC
    clear hputC hpfC
    go_wp2_with (guard_target =~ bodyPost _ _ _ _ _ _; refine bodyPost_ret (results_two rfl _ _ (w.heap.size + 1) 48 _ (0, 0) _ (.int .i64 7) rfl rfl HPutC.out Try.underlying48 rfl (by kernel_rfl)) rfl ?_; refine ⟨_, _, ?_, HRdC.out, HPFC.out, fun b hb => (HY7.out b hb).imp id (fun h => ⟨h.1, Nat.lt_of_lt_of_le h.2 (Nat.le_trans HS78.out HSC.out)⟩)⟩; rw [← HQ7.out.1, ← HQ7.out.2.1, ← HQ7.out.2.2.1, ← HQ7.out.2.2.2.1, ← HQ7.out.2.2.2.2])
  · rw [he1, he2]
    clear he1 he2
    have hcall := refcounted_calls E HWd.out (by omega) hn HQ.out.2.2.2.2.symm _ _ w0 HR0.out
    unfold refRow at hcall
    rw [← HQ.out.1, ← HQ.out.2.1, ← HQ.out.2.2.1, ← HQ.out.2.2.2.1, ← HQ.out.2.2.2.2, hfl] at hcall
    have HCall := Lib.hid hcall
    clear hcall hfl
    go_enter Try.func21, Try.ntmps21
    go_wp2_with fail
    refine HCall.out.mono ?_
    rintro e w7 ⟨u', v', rfl, hrd7, f7, hy7⟩
    have hz7 := f7.heap HZ0.out id
    have hb7 := f7.heap HB0.out id
    obtain ⟨A5, n5, c5, A6, n6, c6, rfl, rfl⟩ := hrd7.sl
    have HY7 := Lib.hid (show Yg w w7 (.slice A1 n c1) (.slice A2 n2 c2) (.slice A5 n5 c5) (.slice A6 n6 c6) from fun b hb => (hy7 b hb).imp id (fun h => ⟨by have := HF0.out.size; omega, h.2⟩))
    clear hy7
    obtain ⟨ca', hca'⟩ : ∃ x, x = E.counted.cutAt := ⟨_, rfl⟩
    obtain ⟨ck', hck'⟩ : ∃ x, x = E.counted.keep := ⟨_, rfl⟩
    obtain ⟨ct', hct'⟩ : ∃ x, x = E.counted.torn := ⟨_, rfl⟩
    obtain ⟨cc', hcc'⟩ : ∃ x, x = E.counted.count := ⟨_, rfl⟩
    obtain ⟨dn', hdn'⟩ : ∃ x, x = E.counted.down := ⟨_, rfl⟩
    rw [← hca', ← hck', ← hct', ← hcc', ← hdn']
    have HQ7 := Lib.hid (And.intro hca' (And.intro hck' (And.intro hct' (And.intro hcc' hdn'))))
    have hput8 := put7_heap hb7 (.slice A5 n5 c5) (.slice A6 n6 c6) (.int .i64 ca') (.int .u64 ck') (.int .i64 ct') (.int .i64 cc') (.bool dn')
    have hpf8 := put7_fr w7 w.heap.size (.slice A5 n5 c5) (.slice A6 n6 c6) (.int .i64 ca') (.int .u64 ck') (.int .i64 ct') (.int .i64 cc') (.bool dn')
    obtain ⟨w8, hw8⟩ : ∃ x, x = put7 w7 w.heap.size (.slice A5 n5 c5) (.slice A6 n6 c6) (.int .i64 ca') (.int .u64 ck') (.int .i64 ct') (.int .i64 cc') (.bool dn') := ⟨_, rfl⟩
    rw [← hw8] at hput8 hpf8
    have hz8 := hpf8.heap hz7 (by omega)
    have HZ8 := Lib.hid hz8
    have HF8 := Lib.hid ((HF0.out.trans f7 (fun i hi => hi.elim)).trans hpf8 (fun i hi => .inr (by omega)))
    have HR8 := Lib.hid (hrd7.aside hb7 (seven_no _ _ _ _ _ _ _ _ _ _ _) hpf8)
    have s0 : w7.cell? ⟨w.heap.size, 0, none⟩ = some (.slice A1 n c1) := (cell_of_row w7 _ 0 _ _ _ hb7).trans rfl
    have sf0 : w7.frozen? ⟨w.heap.size, 0, none⟩ = false := frozen_of_row w7 _ _ _ _ hb7
    have s1 : w7.cell? ⟨w.heap.size, 1, none⟩ = some (.slice A2 n2 c2) := (cell_of_row w7 _ 1 _ _ _ hb7).trans rfl
    have sf1 : w7.frozen? ⟨w.heap.size, 1, none⟩ = false := frozen_of_row w7 _ _ _ _ hb7
    have s2 : w7.cell? ⟨w.heap.size, 2, none⟩ = some (.int .i64 ca) := (cell_of_row w7 _ 2 _ _ _ hb7).trans rfl
    have sf2 : w7.frozen? ⟨w.heap.size, 2, none⟩ = false := frozen_of_row w7 _ _ _ _ hb7
    have s3 : w7.cell? ⟨w.heap.size, 3, none⟩ = some (.int .u64 ck) := (cell_of_row w7 _ 3 _ _ _ hb7).trans rfl
    have sf3 : w7.frozen? ⟨w.heap.size, 3, none⟩ = false := frozen_of_row w7 _ _ _ _ hb7
    have s4 : w7.cell? ⟨w.heap.size, 4, none⟩ = some (.int .i64 ct) := (cell_of_row w7 _ 4 _ _ _ hb7).trans rfl
    have sf4 : w7.frozen? ⟨w.heap.size, 4, none⟩ = false := frozen_of_row w7 _ _ _ _ hb7
    have s5 : w7.cell? ⟨w.heap.size, 5, none⟩ = some (.int .i64 cc) := (cell_of_row w7 _ 5 _ _ _ hb7).trans rfl
    have sf5 : w7.frozen? ⟨w.heap.size, 5, none⟩ = false := frozen_of_row w7 _ _ _ _ hb7
    have s6 : w7.cell? ⟨w.heap.size, 6, none⟩ = some (.bool false) := (cell_of_row w7 _ 6 _ _ _ hb7).trans rfl
    have sf6 : w7.frozen? ⟨w.heap.size, 6, none⟩ = false := frozen_of_row w7 _ _ _ _ hb7
    have t0 : w8.cell? ⟨w.heap.size, 0, none⟩ = some (.slice A5 n5 c5) := (cell_of_row w8 _ 0 _ _ _ hput8).trans rfl
    have tf0 : w8.frozen? ⟨w.heap.size, 0, none⟩ = false := frozen_of_row w8 _ _ _ _ hput8
    have t1 : w8.cell? ⟨w.heap.size, 1, none⟩ = some (.slice A6 n6 c6) := (cell_of_row w8 _ 1 _ _ _ hput8).trans rfl
    have tf1 : w8.frozen? ⟨w.heap.size, 1, none⟩ = false := frozen_of_row w8 _ _ _ _ hput8
    have t2 : w8.cell? ⟨w.heap.size, 2, none⟩ = some (.int .i64 ca') := (cell_of_row w8 _ 2 _ _ _ hput8).trans rfl
    have tf2 : w8.frozen? ⟨w.heap.size, 2, none⟩ = false := frozen_of_row w8 _ _ _ _ hput8
    have t3 : w8.cell? ⟨w.heap.size, 3, none⟩ = some (.int .u64 ck') := (cell_of_row w8 _ 3 _ _ _ hput8).trans rfl
    have tf3 : w8.frozen? ⟨w.heap.size, 3, none⟩ = false := frozen_of_row w8 _ _ _ _ hput8
    have t4 : w8.cell? ⟨w.heap.size, 4, none⟩ = some (.int .i64 ct') := (cell_of_row w8 _ 4 _ _ _ hput8).trans rfl
    have tf4 : w8.frozen? ⟨w.heap.size, 4, none⟩ = false := frozen_of_row w8 _ _ _ _ hput8
    have t5 : w8.cell? ⟨w.heap.size, 5, none⟩ = some (.int .i64 cc') := (cell_of_row w8 _ 5 _ _ _ hput8).trans rfl
    have tf5 : w8.frozen? ⟨w.heap.size, 5, none⟩ = false := frozen_of_row w8 _ _ _ _ hput8
    have t6 : w8.cell? ⟨w.heap.size, 6, none⟩ = some (.bool dn') := (cell_of_row w8 _ 6 _ _ _ hput8).trans rfl
    have tf6 : w8.frozen? ⟨w.heap.size, 6, none⟩ = false := frozen_of_row w8 _ _ _ _ hput8
    have zz0 : w8.cell? ⟨w.heap.size + 1, 0, none⟩ = some (.slice none 0 0) := (cell_of_row w8 _ 0 _ _ _ hz8).trans rfl
    have yy0 : w8.frozen? ⟨w.heap.size + 1, 0, none⟩ = false := frozen_of_row w8 _ _ _ _ hz8
    have zz1 : w8.cell? ⟨w.heap.size + 1, 1, none⟩ = some (.slice none 0 0) := (cell_of_row w8 _ 1 _ _ _ hz8).trans rfl
    have yy1 : w8.frozen? ⟨w.heap.size + 1, 1, none⟩ = false := frozen_of_row w8 _ _ _ _ hz8
    have zz2 : w8.cell? ⟨w.heap.size + 1, 2, none⟩ = some (.int .i64 0) := (cell_of_row w8 _ 2 _ _ _ hz8).trans rfl
    have yy2 : w8.frozen? ⟨w.heap.size + 1, 2, none⟩ = false := frozen_of_row w8 _ _ _ _ hz8
    have zz3 : w8.cell? ⟨w.heap.size + 1, 3, none⟩ = some (.int .u64 0) := (cell_of_row w8 _ 3 _ _ _ hz8).trans rfl
    have yy3 : w8.frozen? ⟨w.heap.size + 1, 3, none⟩ = false := frozen_of_row w8 _ _ _ _ hz8
    have zz4 : w8.cell? ⟨w.heap.size + 1, 4, none⟩ = some (.int .i64 0) := (cell_of_row w8 _ 4 _ _ _ hz8).trans rfl
    have yy4 : w8.frozen? ⟨w.heap.size + 1, 4, none⟩ = false := frozen_of_row w8 _ _ _ _ hz8
    have zz5 : w8.cell? ⟨w.heap.size + 1, 5, none⟩ = some (.int .i64 0) := (cell_of_row w8 _ 5 _ _ _ hz8).trans rfl
    have yy5 : w8.frozen? ⟨w.heap.size + 1, 5, none⟩ = false := frozen_of_row w8 _ _ _ _ hz8
    have zz6 : w8.cell? ⟨w.heap.size + 1, 6, none⟩ = some (.bool false) := (cell_of_row w8 _ 6 _ _ _ hz8).trans rfl
    have yy6 : w8.frozen? ⟨w.heap.size + 1, 6, none⟩ = false := frozen_of_row w8 _ _ _ _ hz8
    unfold put7 at hw8
    have HW8 := hw8.symm
    have hs8 : w.heap.size + 2 ≤ w8.heap.size := by have := hpf8.size; have := f7.size; omega
    have HB8 := Lib.hid hput8
    have HS78 := Lib.hid hpf8.size
    clear hz7 hb7 hput8 hpf8 hw8 hz8 hrd7 f7 HW0 k0 k1 k2 k3 k4 k5 k6 kf0 kf1 kf2 kf3 kf4 kf5 kf6 z0 z1 z2 z3 z4 z5 z6 y0 y1 y2 y3 y4 y5 y6
    clear hca' hck' hct' hcc' hdn'
    have hU8 := HR8.out.u
    have hV8 := HR8.out.v
    rw [hcd] at hU8 hV8
    have hl5 : n5 = n := by
      obtain ⟨A', c', e⟩ := hU8.sl
      injection e with _ e
      rw [secs_length] at e
      have := HWd.out.nn
      exact e.trans this
    have hl6 : n6 = n2 := by
      obtain ⟨A', c', e⟩ := hV8.sl
      injection e with _ e
      rw [← HN2.out] at e
      exact e
    subst hl5
    subst hl6
    have hnm : n6 ≤ m := by rw [HN2.out]; exact HWd.out.len
    obtain ⟨w9, hw9⟩ : ∃ x, x = w8.alloc (.cells #[] 9) := ⟨_, rfl⟩
    obtain ⟨G, hG⟩ : ∃ G, G = w8.heap.size := ⟨_, rfl⟩
    have hf9 : Fr (fun _ => False) w8 w9 := by rw [hw9]; exact (Fr.refl _ _).alloc _
    have hown0 : w9.ownsRow G 9 1 (.slice (some ⟨G, 0, none⟩) 0 0) 0 [] := by rw [hw9, hG]; exact rows_own0 w8 _ (Nat.le_refl _)
    have hsz9 : w9.heap.size = G + 1 := by rw [hw9, hG]; simp
    have hsl7 : (secs E.n E.lasts).length = n5 := by rw [secs_length, HWd.out.nn]
    obtain ⟨v', w10, hap, hown, hgr⟩ := rows_append rowS G _ 0 [] (.slice A5 n5 c5) (secs E.n E.lasts) 37 w9 hown0 (hU8.frF hf9) (by omega) (by rw [hsl7]; omega)
    rw [Nat.zero_add, List.nil_append, hsl7, HWd.out.nn] at hown
    obtain ⟨A7, c7, rfl, hB7⟩ := own_sl hown
    have hf10 : Fr (fun j => j = G) w9 w10 := (Fr.refl _ _).grown hgr (fun k hk => .inl (Option.some.inj hk).symm)
    have hF810 : Fr (fun _ => False) w8 w10 := hf9.trans hf10 (fun i hi => .inr (by omega))
    have hF10 : Fr (fun _ => False) w w10 := HF8.out.trans hF810 (fun i hi => hi.elim)
    have hb10 := hF810.heap HB8.out id
    have hz10 := hF810.heap HZ8.out id
    have c0' : w9.cell? ⟨w.heap.size, 0, none⟩ = some (.slice A5 n5 c5) := (cell_of_row w9 _ 0 _ _ _ (hf9.heap HB8.out id)).trans rfl
    have HV8 := Lib.hid hV8
    have HOwn := Lib.hid hown
    have HBlk := Lib.hid hB7
    have HF810 := Lib.hid hF810
    have HF10 := Lib.hid hF10
    have HB10 := Lib.hid hb10
    have HZ10 := Lib.hid hz10
    have HCd := Lib.hid hcd
    have hs10 := hF810.size
    have HW9 := hw9.symm
    have HGe := hG.symm
    have hGw : w.heap.size + 2 ≤ G := by omega
    clear hU8 hV8 hw9 hG hf9 hown0 hsl7 hown hgr hB7 hf10 hF810 hF10 hb10 hz10 hcd
    go_wp2_with (first
      | (refine wpList_append_run rfl _ _ rfl _ _ hap ?_))
    go_loopw [6] (fun i wr => ∃ k : Nat, k ≤ n6 ∧ i = .int .i64 (k : Int) ∧ wr.ownsRow G 9 1 (.slice A7 n5 c7) n5 ((secs n5 (settle (fun _ => 64) 0 (E.wait.take k) E.lasts)).flatMap strC) ∧ Fr (fun j => (Value.slice A7 n5 c7).ownBlock = some j) w10 wr) (fun i _ => n6 - (intOf i).toNat)
    case atStart => exact ⟨0, Nat.zero_le _, rfl, HOwn.out, Fr.refl _ _⟩
    case round =>
      obtain ⟨k, hk, rfl, hown, hfr⟩ := hrel
      have HO := Lib.hid hown
      have HF := Lib.hid hfr
      have hbx := hfr.heap HB10.out (fun h => by have := HBlk.out _ h; omega)
      have HBr := Lib.hid hbx
      have b1 : wr.cell? ⟨w.heap.size, 1, none⟩ = some (.slice A6 n6 c6) := (cell_of_row wr _ 1 _ _ _ hbx).trans rfl
      clear hown hfr hbx HW8 HW9 c0' s0 s1 s2 s3 s4 s5 s6 sf0 sf1 sf2 sf3 sf4 sf5 sf6 t0 t1 t2 t3 t4 t5 t6 tf0 tf1 tf2 tf3 tf4 tf5 tf6 zz0 zz1 zz2 zz3 zz4 zz5 zz6 yy0 yy1 yy2 yy3 yy4 yy5 yy6
      by_cases hlt : k < n6
      · have d1 : decide ((k : Int) < (n6 : Int)) = true := decide_eq_true (by omega)
        have d1' : decide (k < n6) = true := decide_eq_true hlt
        have hkw : k < E.wait.length := by rw [← HN2.out]; exact hlt
        obtain ⟨x, hx⟩ : ∃ x, x = E.wait[k] := ⟨_, rfl⟩
        have hgx : E.wait[k]? = some x := by rw [hx]; exact List.getElem?_eq_getElem hkw
        obtain ⟨p0, p1, pl⟩ := HWd.out.W x (List.mem_of_getElem? hgx)
        have hF8r : Fr (fun _ => False) w8 wr := HF810.out.trans HF.out (fun i hi => .inr (by have := HBlk.out _ hi; omega))
        obtain ⟨A6', c6', e6, hs6, _, _⟩ := HV8.out.frF hF8r
        injection e6 with e61 e62 e63
        subst e61
        subst e63
        obtain ⟨b2, off2, e2, hr2⟩ := hs6 k x hgx
        subst e2
        obtain ⟨p, hp⟩ : ∃ p : Nat, x.place = p := ⟨x.place.toNat, by omega⟩
        obtain ⟨D, hD⟩ : ∃ s, s = str x.data := ⟨_, rfl⟩
        have q0 : wr.cell? ⟨b2, off2 + k * 2, none⟩ = some (.int .i64 (p : Int)) := by rw [← hp]; exact hr2 0 _ rfl
        have q1 : wr.cell? ⟨b2, off2 + k * 2 + 1, none⟩ = some (.string D) := by rw [hD]; exact hr2 1 _ rfl
        have hpn : p < n5 := by omega
        obtain ⟨L, hL⟩ : ∃ L, L = settle (fun _ => 64) 0 (E.wait.take k) E.lasts := ⟨_, rfl⟩
        have hLl : L.length = 64 * n5 := by rw [hL]; exact settle_length _ n5 _ _ _ (fun y hy => HWd.out.W y (List.mem_of_mem_take hy)) HWd.out.L
        have hO3 := HO.out
        rw [← hL] at hO3
        have hO4 : wr.ownsRow G 9 1 (.slice A7 n5 c7) (secs n5 L).length ((secs n5 L).flatMap strC) := by rw [secs_length]; exact hO3
        obtain ⟨g, cap, HVV, hnc, hcm, hgB, hgl, hcg, hfg, hset⟩ := own_set hO4 (p := p) (by rw [secs_length]; exact hpn)
        rw [secs_length] at HVV hnc
        have hst := hset D
        rw [secs_length] at hst
        have hss := secs_splice n5 L p x.data hpn hLl (by omega)
        rw [show str (x.data ++ ((L.drop (64 * p)).take 64).drop x.data.length) = D by rw [List.drop_eq_nil_of_le (by rw [sec_length n5 L p hpn hLl]; omega), List.append_nil, hD]] at hss
        have hstp := settle_step (fun _ => 64) E.wait k hkw E.lasts
        rw [← hL, ← hx, hp, Int.toNat_natCast, List.take_of_length_le (show x.data.length ≤ 64 by omega)] at hstp
        rw [← hss, ← hstp] at hst
        obtain ⟨S0, hS0⟩ : ∃ s, s = (secs n5 L)[p]'(by rw [secs_length]; exact hpn) := ⟨_, rfl⟩
        rw [← hS0] at hcg
        have HSet := Lib.hid hst
        have HBk := HBlk.out
        have HG := Lib.hid hgl
        obtain ⟨e1', e2', e3'⟩ : (some ⟨g, 0, none⟩ : Option Addr) = A7 ∧ n5 = n5 ∧ cap = c7 := by
          injection HVV with h1 h2 h3; exact ⟨h1.symm, rfl, h3.symm⟩
        subst e1'
        subst e3'
        have g2 : (p : Int) < (n5 : Int) := by omega
        have g3 : (0 : Int) ≤ (p : Int) := by omega
        clear hgx p0 p1 pl hF8r e62 hs6 hr2 hp hx hL hLl hO3 hO4 HVV hst hss hstp hS0 hset hD HO hkw
        go_wp2_with fail
        go_region
        all_goals
          have hfe : Fr (fun j => j = g) wr (wr.setCell ⟨g, p, none⟩ (.string D)).drew := ((Fr.refl (fun j => j = g) wr).setCell ⟨g, p, none⟩ _ (.inl rfl)).drew
          have HFE := Lib.hid (HF.out.trans hfe (fun i hi => .inl (by rw [hi]; rfl)))
          have HOE := Lib.hid (show (wr.setCell ⟨g, p, none⟩ (.string D)).drew.ownsRow G 9 1 (.slice (some ⟨g, 0, none⟩) n5 cap) n5 ((secs n5 (settle (fun _ => 64) 0 (E.wait.take (k + 1)) E.lasts)).flatMap strC) from own_fr HSet.out (Fr.refl (fun _ => False) _).drew (fun _ _ => id))
          clear hfe
          generalize hWf : (wr.setCell ⟨g, p, none⟩ (.string D)).drew = Wf at HFE HOE ⊢
          clear hWf
          go_wp2_with fail
          go_roundw
          case rel => exact ⟨k + 1, by omega, by go_num, HOE.out, HFE.out⟩
          case measure => simp [intOf]; omega
      · obtain rfl : k = n6 := by omega
        have d1 : decide ((k : Int) < (k : Int)) = false := decide_eq_false (by omega)
        have d1' : decide (k < k) = false := decide_eq_false (by omega)
        have hO := HO.out
        rw [HN2.out, List.take_length] at hO
        obtain ⟨w11, hw11⟩ : ∃ x, x = (wr.setCell ⟨w.heap.size, 0, none⟩ (.slice A7 n5 c7)).setCell ⟨w.heap.size, 1, none⟩ (.slice none 0 0) := ⟨_, rfl⟩
        have hf11 : Fr (fun i => i = w.heap.size) wr w11 := by rw [hw11]; exact ((Fr.refl (fun i => i = w.heap.size) wr).setCell _ _ (.inl rfl)).setCell _ _ (.inl rfl)
        have hb11 : w11.heap[w.heap.size]? = some (.cells #[.slice A7 n5 c7, .slice none 0 0, .int .i64 ca', .int .u64 ck', .int .i64 ct', .int .i64 cc', .bool dn'] 48 (0, 0)) := by
          rw [hw11]
          exact heap_setCell_same _ w.heap.size 1 _ 48 (.slice none 0 0) (heap_setCell_same wr w.heap.size 0 _ 48 (.slice A7 n5 c7) HBr.out)
        have hz11 := hf11.heap (HF.out.heap HZ10.out (fun h => by have := HBlk.out _ h; omega)) (by omega)
        have hO11 := own_fr hO hf11 (fun j hj e => by have := HBlk.out _ hj; omega)
        have HR11 := Lib.hid (show RD w11 { E with count := E.count + 1, lasts := settle (fun _ => 64) 0 E.wait E.lasts, wait := [], down := false } (.slice A7 n5 c7) (.slice none 0 0) from
          ⟨by
            show RdV w11 1 strC _ (secs E.n _)
            rw [HWd.out.nn]
            exact RdV.of_own rowS (by rw [secs_length]; exact hO11), ⟨none, 0, rfl, fun i x hx => by simp at hx, Nat.le_refl _, Nat.zero_le _⟩⟩)
        have HYL := Lib.hid (show Yg w w11 (.slice A1 n5 c1) (.slice A2 k c2) (.slice A7 n5 c7) (.slice none 0 0) from fun b hb => .inr (by rcases hb with hb | hb; have := HBlk.out b hb; exact ⟨by omega, own_lt hO11 b hb⟩; cases hb))
        have HF11 := Lib.hid ((HF10.out.trans HF.out (fun i hi => .inr (by have := HBlk.out _ hi; omega))).trans hf11 (fun i hi => .inr (by omega)))
        have HZ11 := Lib.hid hz11
        have r0 : wr.cell? ⟨w.heap.size, 0, none⟩ = some (.slice A5 n5 c5) := (cell_of_row wr _ 0 _ _ _ HBr.out).trans rfl
        have rf0 : wr.frozen? ⟨w.heap.size, 0, none⟩ = false := frozen_of_row wr _ _ _ _ HBr.out
        have r1 : wr.cell? ⟨w.heap.size, 1, none⟩ = some (.slice A6 k c6) := (cell_of_row wr _ 1 _ _ _ HBr.out).trans rfl
        have rf1 : wr.frozen? ⟨w.heap.size, 1, none⟩ = false := frozen_of_row wr _ _ _ _ HBr.out
        have r2 : wr.cell? ⟨w.heap.size, 2, none⟩ = some (.int .i64 ca') := (cell_of_row wr _ 2 _ _ _ HBr.out).trans rfl
        have rf2 : wr.frozen? ⟨w.heap.size, 2, none⟩ = false := frozen_of_row wr _ _ _ _ HBr.out
        have r3 : wr.cell? ⟨w.heap.size, 3, none⟩ = some (.int .u64 ck') := (cell_of_row wr _ 3 _ _ _ HBr.out).trans rfl
        have rf3 : wr.frozen? ⟨w.heap.size, 3, none⟩ = false := frozen_of_row wr _ _ _ _ HBr.out
        have r4 : wr.cell? ⟨w.heap.size, 4, none⟩ = some (.int .i64 ct') := (cell_of_row wr _ 4 _ _ _ HBr.out).trans rfl
        have rf4 : wr.frozen? ⟨w.heap.size, 4, none⟩ = false := frozen_of_row wr _ _ _ _ HBr.out
        have r5 : wr.cell? ⟨w.heap.size, 5, none⟩ = some (.int .i64 cc') := (cell_of_row wr _ 5 _ _ _ HBr.out).trans rfl
        have rf5 : wr.frozen? ⟨w.heap.size, 5, none⟩ = false := frozen_of_row wr _ _ _ _ HBr.out
        have r6 : wr.cell? ⟨w.heap.size, 6, none⟩ = some (.bool dn') := (cell_of_row wr _ 6 _ _ _ HBr.out).trans rfl
        have rf6 : wr.frozen? ⟨w.heap.size, 6, none⟩ = false := frozen_of_row wr _ _ _ _ HBr.out
        have l0 : w11.cell? ⟨w.heap.size, 0, none⟩ = some (.slice A7 n5 c7) := (cell_of_row w11 _ 0 _ _ _ hb11).trans rfl
        have lf0 : w11.frozen? ⟨w.heap.size, 0, none⟩ = false := frozen_of_row w11 _ _ _ _ hb11
        have l1 : w11.cell? ⟨w.heap.size, 1, none⟩ = some (.slice none 0 0) := (cell_of_row w11 _ 1 _ _ _ hb11).trans rfl
        have lf1 : w11.frozen? ⟨w.heap.size, 1, none⟩ = false := frozen_of_row w11 _ _ _ _ hb11
        have l2 : w11.cell? ⟨w.heap.size, 2, none⟩ = some (.int .i64 ca') := (cell_of_row w11 _ 2 _ _ _ hb11).trans rfl
        have lf2 : w11.frozen? ⟨w.heap.size, 2, none⟩ = false := frozen_of_row w11 _ _ _ _ hb11
        have l3 : w11.cell? ⟨w.heap.size, 3, none⟩ = some (.int .u64 ck') := (cell_of_row w11 _ 3 _ _ _ hb11).trans rfl
        have lf3 : w11.frozen? ⟨w.heap.size, 3, none⟩ = false := frozen_of_row w11 _ _ _ _ hb11
        have l4 : w11.cell? ⟨w.heap.size, 4, none⟩ = some (.int .i64 ct') := (cell_of_row w11 _ 4 _ _ _ hb11).trans rfl
        have lf4 : w11.frozen? ⟨w.heap.size, 4, none⟩ = false := frozen_of_row w11 _ _ _ _ hb11
        have l5 : w11.cell? ⟨w.heap.size, 5, none⟩ = some (.int .i64 cc') := (cell_of_row w11 _ 5 _ _ _ hb11).trans rfl
        have lf5 : w11.frozen? ⟨w.heap.size, 5, none⟩ = false := frozen_of_row w11 _ _ _ _ hb11
        have l6 : w11.cell? ⟨w.heap.size, 6, none⟩ = some (.bool dn') := (cell_of_row w11 _ 6 _ _ _ hb11).trans rfl
        have lf6 : w11.frozen? ⟨w.heap.size, 6, none⟩ = false := frozen_of_row w11 _ _ _ _ hb11
        have zl0 : w11.cell? ⟨w.heap.size + 1, 0, none⟩ = some (.slice none 0 0) := (cell_of_row w11 _ 0 _ _ _ hz11).trans rfl
        have yl0 : w11.frozen? ⟨w.heap.size + 1, 0, none⟩ = false := frozen_of_row w11 _ _ _ _ hz11
        have zl1 : w11.cell? ⟨w.heap.size + 1, 1, none⟩ = some (.slice none 0 0) := (cell_of_row w11 _ 1 _ _ _ hz11).trans rfl
        have yl1 : w11.frozen? ⟨w.heap.size + 1, 1, none⟩ = false := frozen_of_row w11 _ _ _ _ hz11
        have zl2 : w11.cell? ⟨w.heap.size + 1, 2, none⟩ = some (.int .i64 0) := (cell_of_row w11 _ 2 _ _ _ hz11).trans rfl
        have yl2 : w11.frozen? ⟨w.heap.size + 1, 2, none⟩ = false := frozen_of_row w11 _ _ _ _ hz11
        have zl3 : w11.cell? ⟨w.heap.size + 1, 3, none⟩ = some (.int .u64 0) := (cell_of_row w11 _ 3 _ _ _ hz11).trans rfl
        have yl3 : w11.frozen? ⟨w.heap.size + 1, 3, none⟩ = false := frozen_of_row w11 _ _ _ _ hz11
        have zl4 : w11.cell? ⟨w.heap.size + 1, 4, none⟩ = some (.int .i64 0) := (cell_of_row w11 _ 4 _ _ _ hz11).trans rfl
        have yl4 : w11.frozen? ⟨w.heap.size + 1, 4, none⟩ = false := frozen_of_row w11 _ _ _ _ hz11
        have zl5 : w11.cell? ⟨w.heap.size + 1, 5, none⟩ = some (.int .i64 0) := (cell_of_row w11 _ 5 _ _ _ hz11).trans rfl
        have yl5 : w11.frozen? ⟨w.heap.size + 1, 5, none⟩ = false := frozen_of_row w11 _ _ _ _ hz11
        have zl6 : w11.cell? ⟨w.heap.size + 1, 6, none⟩ = some (.bool false) := (cell_of_row w11 _ 6 _ _ _ hz11).trans rfl
        have yl6 : w11.frozen? ⟨w.heap.size + 1, 6, none⟩ = false := frozen_of_row w11 _ _ _ _ hz11
        have HW11 := hw11.symm
        have hsz11 : w.heap.size + 2 ≤ w11.heap.size := by have := hf11.size; have := HF.out.size; omega
        clear hO hw11 hf11 hb11 hz11 hO11 b1
        have hputC := put7_heap HZ11.out (.slice A7 n5 c7) (.slice none 0 0) (.int .i64 ca') (.int .u64 ck') (.int .i64 ct') (.int .i64 cc') (.bool dn')
        have hpfC := put7_fr w11 (w.heap.size + 1) (.slice A7 n5 c7) (.slice none 0 0) (.int .i64 ca') (.int .u64 ck') (.int .i64 ct') (.int .i64 cc') (.bool dn')
        have HRdC := Lib.hid (HR11.out.aside HZ11.out (seven_no _ _ _ _ _ _ _ _ _ _ _) hpfC)
        have HPutC := Lib.hid hputC
        have HPFC := Lib.hid (HF11.out.trans hpfC (fun i hi => .inr (by omega)))
        have HSC := Lib.hid hpfC.size
        unfold put7 at HPFC HPutC HRdC HSC
        clear hputC hpfC
        go_wp2_with (guard_target =~ bodyPost _ _ _ _ _ _; refine bodyPost_ret (results_two rfl _ _ (w.heap.size + 1) 48 _ (0, 0) _ (.int .i64 0) rfl rfl HPutC.out Try.underlying48 rfl (by kernel_rfl)) rfl ?_; refine ⟨_, _, ?_, HRdC.out, HPFC.out, fun b hb => (HYL.out b hb).imp id (fun h => ⟨h.1, Nat.lt_of_lt_of_le h.2 HSC.out⟩)⟩; rw [HQ7.out.1, HQ7.out.2.1, HQ7.out.2.2.1, HQ7.out.2.2.2.1, HQ7.out.2.2.2.2, HCd.out])
end Go.Proofs.Ythlngbdbmnnnaaa
