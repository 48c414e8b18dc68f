/- Disks: the document's Put, walked (no printed text). -/
import Derived.Test.YthlngbdbmnnnaaaQj
set_option linter.unusedVariables false
set_option linter.unusedSimpArgs false
set_option pp.deepTerms true
set_option pp.maxSteps 100000
namespace Go.Proofs.Ythlngbdbmnnnaaa
open Go.RowKit
theorem wp_build1 {op : Oper} {a : Act} {w : World} {K : Act → World → Prop} {Q : Exit → Act → World → Prop} {t : TypeId} (x : Operand) (ho : op.op = .buildSlice t 1 #[(0, x)]) (v' : Value) (w' : World)
    (hr : (Instr.buildSlice t 1 #[(0, a.eval x)]).run Try.prog w = .ok v' w') (h : K (a.put op.dst v') w') : op.wp Try.prog a w K Q := by
  unfold Oper.wp execOp
  simp only [ho, List.map_toArray, List.map_cons, List.map_nil, Sem.run_bind, hr, Result.andThen_ok]
  exact h
theorem wpList_build1 {ops : Array Oper} {rest : List Oper} {op : Oper} {a : Act} {w : World} {Q : Exit → Act → World → Prop} {t : TypeId} (hgd : op.guard = none) (x : Operand) (ho : op.op = .buildSlice t 1 #[(0, x)]) (v' : Value) (w' : World)
    (hr : (Instr.buildSlice t 1 #[(0, a.eval x)]).run Try.prog w = .ok v' w') (h : wpList Try.prog ops Q rest (a.put op.dst v') w') : wpList Try.prog ops Q (op :: rest) a w :=
  wpList_plain hgd fun _ hK => wp_build1 x ho v' w' hr (hK _ _ h)
theorem build_wr (p : Int) (F : ByteArray) (w : World) : (Instr.buildSlice 46 1 #[(0, .agg #[.int .i64 p, .string F])]).run Try.prog w = .ok (.slice (some ⟨w.heap.size, 0, none⟩) 1 1) (w.alloc (.cells #[.int .i64 p, .string F] 94)) :=
  run_buildSlice_one w 46 94 #[.int .i64 p, .string F] #[.int .i64 0, .string ⟨#[]⟩] Try.underlying46 (by kernel_rfl) (by simp) (by simp)
theorem own_sl {w : World} {B : Nat} {e : TypeId} {k n : Nat} {v : Value} {xs : List Value} (h : w.ownsRow B e k v n xs) : ∃ A c, v = .slice A n c ∧ ∀ g, v.ownBlock = some g → B ≤ g := by
  rcases h.2 with ⟨rfl, rfl⟩ | ⟨g, cap, cur, rfl, hb, _⟩
  · exact ⟨_, _, rfl, fun g hg => by cases hg⟩
  · exact ⟨_, _, rfl, fun g' hg => by cases hg; exact hb⟩
set_option maxRecDepth 20000 in
set_option maxHeartbeats 8000000 in
theorem refput_calls (E : Dk) {n m : Nat} (hW : Wd n m E) (hm : m < 99999) (hn : n ≤ 100000) (p : Int) (l : List UInt8) (u v : Value) (w : World) (hR : RD w E u v) :
    Calls Try.prog 19 #[.agg (refRow E u v), .int .i64 p, .string (str l)] w fun e w' => ∃ u' v', e = .returned (.tuple #[.agg (refRow (E.write p l) u' v'), .int .i64 (E.writeE p l)]) ∧ RD w' (E.write p l) u' v' ∧ Fr (fun _ => False) w w' ∧ Yg w w' u v u' v' := by
  obtain ⟨A1, c1, rfl⟩ := hR.u.sl
  obtain ⟨A2, c2, rfl⟩ := hR.v.sl
  have hsl : (secs E.n E.lasts).length = n := by rw [secs_length, hW.nn]
  rw [hsl] at hR ⊢
  obtain ⟨n1, hn1⟩ : ∃ x, x = n := ⟨_, rfl⟩
  obtain ⟨n2, hn2⟩ : ∃ x, x = E.wait.length := ⟨_, rfl⟩
  rw [← hn1, ← hn2] at hR ⊢
  have hWait := hR.v
  have hUr := hR.u
  obtain ⟨S, hS⟩ : ∃ s, s = str l := ⟨_, rfl⟩
  obtain ⟨tn, htn⟩ : ∃ x, x = S.size := ⟨_, rfl⟩
  have htl : tn = l.length := by rw [htn, hS, str_size]
  have htn' : S.size = tn := htn.symm
  obtain ⟨w0, hw0, hf0, hb0, hz0⟩ := two_rows w #[.slice A1 n1 c1, .slice A2 n2 c2, .int .i64 E.cutAt, .int .u64 E.keep, .int .i64 E.torn, .int .i64 E.count, .bool E.down] #[.slice none 0 0, .slice none 0 0, .int .i64 0, .int .u64 0, .int .i64 0, .int .i64 0, .bool false]
  have HF0 := Lib.hid hf0
  have HZ0 := Lib.hid hz0
  have HR0 := Lib.hid (hR.frF hf0)
  have hsz0 : w0.heap.size = w.heap.size + 2 := by rw [hw0]; simp
  have hasked : E.asked p = if E.down = true then 7 else if p < 0 ∨ (n : Int) ≤ p then 1 else 0 := by unfold Dk.asked; rw [hW.nn]
  unfold refRow
  obtain ⟨ca, hca⟩ : ∃ x, x = E.cutAt := ⟨_, rfl⟩
  obtain ⟨ck, hck⟩ : ∃ x, x = E.keep := ⟨_, rfl⟩
  obtain ⟨ct, hct⟩ : ∃ x, x = E.torn := ⟨_, rfl⟩
  obtain ⟨cc, hcc⟩ : ∃ x, x = E.count := ⟨_, rfl⟩
  obtain ⟨dn, hdn⟩ : ∃ x, x = E.down := ⟨_, rfl⟩
  have HQ := Lib.hid (And.intro hca (And.intro hck (And.intro hct (And.intro hcc hdn))))
  rw [← hca, ← hck, ← hct, ← hcc, ← hdn] at hb0 hw0 ⊢
  rw [← hS]
  have HB0 := Lib.hid hb0
  have k0 : w0.cell? ⟨w.heap.size, 0, none⟩ = some (.slice A1 n1 c1) := (cell_of_row w0 _ 0 _ _ _ hb0).trans rfl
  have kf0 : w0.frozen? ⟨w.heap.size, 0, none⟩ = false := frozen_of_row w0 _ _ _ _ hb0
  have k1 : w0.cell? ⟨w.heap.size, 1, none⟩ = some (.slice A2 n2 c2) := (cell_of_row w0 _ 1 _ _ _ hb0).trans rfl
  have kf1 : w0.frozen? ⟨w.heap.size, 1, none⟩ = false := frozen_of_row w0 _ _ _ _ hb0
  have k2 : w0.cell? ⟨w.heap.size, 2, none⟩ = some (.int .i64 ca) := (cell_of_row w0 _ 2 _ _ _ hb0).trans rfl
  have kf2 : w0.frozen? ⟨w.heap.size, 2, none⟩ = false := frozen_of_row w0 _ _ _ _ hb0
  have k3 : w0.cell? ⟨w.heap.size, 3, none⟩ = some (.int .u64 ck) := (cell_of_row w0 _ 3 _ _ _ hb0).trans rfl
  have kf3 : w0.frozen? ⟨w.heap.size, 3, none⟩ = false := frozen_of_row w0 _ _ _ _ hb0
  have k4 : w0.cell? ⟨w.heap.size, 4, none⟩ = some (.int .i64 ct) := (cell_of_row w0 _ 4 _ _ _ hb0).trans rfl
  have kf4 : w0.frozen? ⟨w.heap.size, 4, none⟩ = false := frozen_of_row w0 _ _ _ _ hb0
  have k5 : w0.cell? ⟨w.heap.size, 5, none⟩ = some (.int .i64 cc) := (cell_of_row w0 _ 5 _ _ _ hb0).trans rfl
  have kf5 : w0.frozen? ⟨w.heap.size, 5, none⟩ = false := frozen_of_row w0 _ _ _ _ hb0
  have k6 : w0.cell? ⟨w.heap.size, 6, none⟩ = some (.bool dn) := (cell_of_row w0 _ 6 _ _ _ hb0).trans rfl
  have kf6 : w0.frozen? ⟨w.heap.size, 6, none⟩ = false := frozen_of_row w0 _ _ _ _ hb0
  have z0 : w0.cell? ⟨w.heap.size + 1, 0, none⟩ = some (.slice none 0 0) := (cell_of_row w0 _ 0 _ _ _ hz0).trans rfl
  have y0 : w0.frozen? ⟨w.heap.size + 1, 0, none⟩ = false := frozen_of_row w0 _ _ _ _ hz0
  have z1 : w0.cell? ⟨w.heap.size + 1, 1, none⟩ = some (.slice none 0 0) := (cell_of_row w0 _ 1 _ _ _ hz0).trans rfl
  have y1 : w0.frozen? ⟨w.heap.size + 1, 1, none⟩ = false := frozen_of_row w0 _ _ _ _ hz0
  have z2 : w0.cell? ⟨w.heap.size + 1, 2, none⟩ = some (.int .i64 0) := (cell_of_row w0 _ 2 _ _ _ hz0).trans rfl
  have y2 : w0.frozen? ⟨w.heap.size + 1, 2, none⟩ = false := frozen_of_row w0 _ _ _ _ hz0
  have z3 : w0.cell? ⟨w.heap.size + 1, 3, none⟩ = some (.int .u64 0) := (cell_of_row w0 _ 3 _ _ _ hz0).trans rfl
  have y3 : w0.frozen? ⟨w.heap.size + 1, 3, none⟩ = false := frozen_of_row w0 _ _ _ _ hz0
  have z4 : w0.cell? ⟨w.heap.size + 1, 4, none⟩ = some (.int .i64 0) := (cell_of_row w0 _ 4 _ _ _ hz0).trans rfl
  have y4 : w0.frozen? ⟨w.heap.size + 1, 4, none⟩ = false := frozen_of_row w0 _ _ _ _ hz0
  have z5 : w0.cell? ⟨w.heap.size + 1, 5, none⟩ = some (.int .i64 0) := (cell_of_row w0 _ 5 _ _ _ hz0).trans rfl
  have y5 : w0.frozen? ⟨w.heap.size + 1, 5, none⟩ = false := frozen_of_row w0 _ _ _ _ hz0
  have z6 : w0.cell? ⟨w.heap.size + 1, 6, none⟩ = some (.bool false) := (cell_of_row w0 _ 6 _ _ _ hz0).trans rfl
  have y6 : w0.frozen? ⟨w.heap.size + 1, 6, none⟩ = false := frozen_of_row w0 _ _ _ _ hz0
  have HW0 := hw0.symm
  have hcase : (dn = true ∧ E.write p l = E ∧ E.writeE p l = 7) ∨ (dn = false ∧ p < 0 ∧ E.write p l = E ∧ E.writeE p l = 1) ∨ (dn = false ∧ 0 ≤ p ∧ (n : Int) ≤ p ∧ E.write p l = E ∧ E.writeE p l = 1) ∨ (dn = false ∧ 0 ≤ p ∧ p < n ∧ 64 < tn ∧ E.write p l = E ∧ E.writeE p l = 3) ∨
      (dn = false ∧ 0 ≤ p ∧ p < n ∧ tn ≤ 64 ∧ E.write p l = ({ E with wait := E.wait ++ [(⟨p, Dk.fill l⟩ : Wr)] : Dk }).counted ∧ E.writeE p l = if ({ E with wait := E.wait ++ [(⟨p, Dk.fill l⟩ : Wr)] : Dk }).failing = true then 7 else 0) := by
    unfold Dk.write Dk.writeE
    rw [hasked, hdn, htl]
    cases hd : E.down with
    | true => exact .inl ⟨rfl, by simp, by simp⟩
    | false =>
      by_cases h0 : p < 0
      · exact .inr (.inl ⟨rfl, h0, by simp [h0], by simp [h0]⟩)
      · by_cases h1 : (n : Int) ≤ p
        · exact .inr (.inr (.inl ⟨rfl, by omega, h1, by simp [h1], by simp [h1]⟩))
        · have hno : ¬ (p < 0 ∨ (n : Int) ≤ p) := by omega
          by_cases h2 : 64 < l.length
          · exact .inr (.inr (.inr (.inl ⟨rfl, by omega, by omega, h2, by simp [hno, h2], by simp [hno, h2]⟩)))
          · refine .inr (.inr (.inr (.inr ⟨rfl, by omega, by omega, by omega, ?_, ?_⟩)))
            · rw [if_neg (by simp [hno]), if_neg h2]
            · rw [if_neg (by simp [hno]), if_neg h2]; rfl
  have HS := Lib.hid hS
  have HWt := Lib.hid hWait
  have HWd := Lib.hid hW
  have HUr := Lib.hid hUr
  have HTl := Lib.hid htl
  have HN2 := Lib.hid hn2
  clear hR hsl hWait hUr hS htn htl hw0 hf0 hb0 hz0 hasked hca hck hct hcc hdn hW hn2
  subst hn1
  rcases hcase with ⟨rfl, he1, he2⟩ | ⟨rfl, h0, he1, he2⟩ | ⟨rfl, h0, h1, he1, he2⟩ | ⟨rfl, h0, h1, h2, he1, he2⟩ | ⟨rfl, h0, h1, h2, he1, he2⟩
  · rw [he1, he2]
    clear he1 he2
    have hputC := put7_heap HZ0.out (.slice A1 n1 c1) (.slice A2 n2 c2) (.int .i64 ca) (.int .u64 ck) (.int .i64 ct) (.int .i64 cc) (.bool true)
    have hpfC := put7_fr w0 (w.heap.size + 1) (.slice A1 n1 c1) (.slice A2 n2 c2) (.int .i64 ca) (.int .u64 ck) (.int .i64 ct) (.int .i64 cc) (.bool true)
    have HRdC := Lib.hid (HR0.out.aside HZ0.out (seven_no _ _ _ _ _ _ _ _ _ _ _) hpfC)
    have HPutC := Lib.hid hputC
    have HPFC := Lib.hid (HF0.out.trans hpfC (fun i hi => .inr (by omega)))
    have HSC := Lib.hid hpfC.size
    unfold put7 at HPFC HPutC HRdC HSC
    clear hputC hpfC
    go_enter Try.func19, Try.ntmps19
    go_wp2_with fail
    refine bodyPost_ret (results_two rfl _ _ (w.heap.size + 1) 48 _ (0, 0) _ (.int .i64 7) rfl rfl HPutC.out Try.underlying48 rfl (by kernel_rfl)) rfl ?_
    refine ⟨_, _, ?_, HRdC.out, HPFC.out, fun b hb => .inl hb⟩
    rw [← HQ.out.1, ← HQ.out.2.1, ← HQ.out.2.2.1, ← HQ.out.2.2.2.1, ← HQ.out.2.2.2.2]
  · rw [he1, he2]
    clear he1 he2
    have d1 : decide (p < 0) = true := decide_eq_true h0
    have hputC := put7_heap HZ0.out (.slice A1 n1 c1) (.slice A2 n2 c2) (.int .i64 ca) (.int .u64 ck) (.int .i64 ct) (.int .i64 cc) (.bool false)
    have hpfC := put7_fr w0 (w.heap.size + 1) (.slice A1 n1 c1) (.slice A2 n2 c2) (.int .i64 ca) (.int .u64 ck) (.int .i64 ct) (.int .i64 cc) (.bool false)
    have HRdC := Lib.hid (HR0.out.aside HZ0.out (seven_no _ _ _ _ _ _ _ _ _ _ _) hpfC)
    have HPutC := Lib.hid hputC
    have HPFC := Lib.hid (HF0.out.trans hpfC (fun i hi => .inr (by omega)))
    have HSC := Lib.hid hpfC.size
    unfold put7 at HPFC HPutC HRdC HSC
    clear hputC hpfC
    go_enter Try.func19, Try.ntmps19
    go_wp2_with fail
    refine bodyPost_ret (results_two rfl _ _ (w.heap.size + 1) 48 _ (0, 0) _ (.int .i64 1) rfl rfl HPutC.out Try.underlying48 rfl (by kernel_rfl)) rfl ?_
    refine ⟨_, _, ?_, HRdC.out, HPFC.out, fun b hb => .inl hb⟩
    rw [← HQ.out.1, ← HQ.out.2.1, ← HQ.out.2.2.1, ← HQ.out.2.2.2.1, ← HQ.out.2.2.2.2]
  · rw [he1, he2]
    clear he1 he2
    have d1 : decide (p < 0) = false := decide_eq_false (by omega)
    have d2 : decide ((n1 : Int) ≤ p) = true := decide_eq_true h1
    have hputC := put7_heap HZ0.out (.slice A1 n1 c1) (.slice A2 n2 c2) (.int .i64 ca) (.int .u64 ck) (.int .i64 ct) (.int .i64 cc) (.bool false)
    have hpfC := put7_fr w0 (w.heap.size + 1) (.slice A1 n1 c1) (.slice A2 n2 c2) (.int .i64 ca) (.int .u64 ck) (.int .i64 ct) (.int .i64 cc) (.bool false)
    have HRdC := Lib.hid (HR0.out.aside HZ0.out (seven_no _ _ _ _ _ _ _ _ _ _ _) hpfC)
    have HPutC := Lib.hid hputC
    have HPFC := Lib.hid (HF0.out.trans hpfC (fun i hi => .inr (by omega)))
    have HSC := Lib.hid hpfC.size
    unfold put7 at HPFC HPutC HRdC HSC
    clear hputC hpfC
    go_enter Try.func19, Try.ntmps19
    go_wp2_with fail
    refine bodyPost_ret (results_two rfl _ _ (w.heap.size + 1) 48 _ (0, 0) _ (.int .i64 1) rfl rfl HPutC.out Try.underlying48 rfl (by kernel_rfl)) rfl ?_
    refine ⟨_, _, ?_, HRdC.out, HPFC.out, fun b hb => .inl hb⟩
    rw [← HQ.out.1, ← HQ.out.2.1, ← HQ.out.2.2.1, ← HQ.out.2.2.2.1, ← HQ.out.2.2.2.2]
  · rw [he1, he2]
    clear he1 he2
    have d1 : decide (p < 0) = false := decide_eq_false (by omega)
    have d2 : decide ((n1 : Int) ≤ p) = false := decide_eq_false (by omega)
    have d3 : decide ((64 : Int) < (tn : Int)) = true := decide_eq_true (by omega)
    have d4 : decide (64 < tn) = true := decide_eq_true h2
    have hputC := put7_heap HZ0.out (.slice A1 n1 c1) (.slice A2 n2 c2) (.int .i64 ca) (.int .u64 ck) (.int .i64 ct) (.int .i64 cc) (.bool false)
    have hpfC := put7_fr w0 (w.heap.size + 1) (.slice A1 n1 c1) (.slice A2 n2 c2) (.int .i64 ca) (.int .u64 ck) (.int .i64 ct) (.int .i64 cc) (.bool false)
    have HRdC := Lib.hid (HR0.out.aside HZ0.out (seven_no _ _ _ _ _ _ _ _ _ _ _) hpfC)
    have HPutC := Lib.hid hputC
    have HPFC := Lib.hid (HF0.out.trans hpfC (fun i hi => .inr (by omega)))
    have HSC := Lib.hid hpfC.size
    unfold put7 at HPFC HPutC HRdC HSC
    clear hputC hpfC
    go_enter Try.func19, Try.ntmps19
    go_wp2_with fail
    refine bodyPost_ret (results_two rfl _ _ (w.heap.size + 1) 48 _ (0, 0) _ (.int .i64 3) rfl rfl HPutC.out Try.underlying48 rfl (by kernel_rfl)) rfl ?_
    refine ⟨_, _, ?_, HRdC.out, HPFC.out, fun b hb => .inl hb⟩
    rw [← HQ.out.1, ← HQ.out.2.1, ← HQ.out.2.2.1, ← HQ.out.2.2.2.1, ← HQ.out.2.2.2.2]
  · have d1 : decide (p < 0) = false := decide_eq_false (by omega)
    have d2 : decide ((n1 : Int) ≤ p) = false := decide_eq_false (by omega)
    have d3 : decide ((64 : Int) < (tn : Int)) = false := decide_eq_false (by omega)
    have d4 : decide (64 < tn) = false := decide_eq_false (by omega)
    obtain ⟨E2, hE2⟩ : ∃ E2 : Dk, E2 = { E with wait := E.wait ++ [(⟨p, Dk.fill l⟩ : Wr)] } := ⟨_, rfl⟩
    rw [← hE2] at he1 he2
    obtain ⟨fl, hfl⟩ : ∃ b, b = E2.failing := ⟨_, rfl⟩
    rw [← hfl] at he2
    have HFl := Lib.hid hfl
    clear hfl
    rw [he1, he2]
    have hW2 : Wd n1 (m + 1) E2 := by rw [hE2]; exact wd_push HWd.out p l h0 h1 (by have := HTl.out; omega)
    have hrow2 : refRow E2 (.slice A1 n1 c1) = refRow E (.slice A1 n1 c1) := by rw [hE2]; rfl
    have hdn2 : E2.down = false := by rw [hE2]; exact HQ.out.2.2.2.2.symm
    obtain ⟨w1, hw1⟩ : ∃ x, x = w0.alloc (.cells #[] 94) := ⟨_, rfl⟩
    have hf1 : Fr (fun _ => False) w0 w1 := by rw [hw1]; exact (Fr.refl _ _).alloc _
    have hown0 : w1.ownsRow (w.heap.size + 2) 94 2 (.slice (some ⟨w.heap.size + 2, 0, none⟩) 0 0) 0 [] := by rw [hw1, ← hsz0]; exact rows_own0 w0 _ (Nat.le_refl _)
    have hsz1 : w1.heap.size = w.heap.size + 3 := by rw [hw1]; simp [hsz0]
    obtain ⟨v1, w2, hap1, hown1, hgr1⟩ := rows_append rowW (w.heap.size + 2) _ 0 [] (.slice A2 n2 c2) E.wait 46 w1 hown0 ((HWt.out.frF HF0.out).frF hf1) (by omega) (by have := HWd.out.len; omega)
    rw [Nat.zero_add, List.nil_append] at hown1
    obtain ⟨A3, c3, rfl, hB3⟩ := own_sl hown1
    have hf2 : Fr (fun j => j = w.heap.size + 2) w1 w2 := (Fr.refl _ _).grown hgr1 (fun k hk => .inl (Option.some.inj hk).symm)
    have hF2 : Fr (fun _ => False) w w2 := (HF0.out.trans hf1 (fun i hi => hi.elim)).trans hf2 (fun i hi => .inr (by omega))
    have hb2 := hf2.heap (hf1.heap HB0.out id) (by omega)
    have hz2 := hf2.heap (hf1.heap HZ0.out id) (by omega)
    have c1' : w1.cell? ⟨w.heap.size, 1, none⟩ = some (.slice A2 n2 c2) := (cell_of_row w1 _ 1 _ _ _ (hf1.heap HB0.out id)).trans rfl
    have hs2 := hf2.size
    obtain ⟨F, hF⟩ : ∃ s, s = str (Dk.fill l) := ⟨_, rfl⟩
    have HFill := Lib.hid (show ∀ w, Calls Try.prog 46 #[.string S] w fun e w' => e = .returned (.string F) ∧ Fr (fun _ => False) w w' from fun w => by rw [HS.out, hF]; exact reffill_calls l (by have := HTl.out; omega) w)
    have HFv := Lib.hid hF
    have HE2 := Lib.hid hE2
    have HW2 := Lib.hid hW2
    have HD2 := Lib.hid hdn2
    have HOwn1 := Lib.hid hown1
    have HB3 := Lib.hid hB3
    have HF2 := Lib.hid hF2
    have HB2 := Lib.hid hb2
    have HZ2 := Lib.hid hz2
    have HW1 := hw1.symm
    clear he1 he2 hE2 hW2 hdn2 hw1 hf1 hown0 hown1 hgr1 hB3 hf2 hF2 hb2 hz2 hF hrow2
    go_enter Try.func19, Try.ntmps19
    go_wp2_with (first
      | (refine wpList_append_run rfl _ _ rfl _ _ hap1 ?_))
    refine (HFill.out w2).mono ?_
    rintro e w3 ⟨rfl, f3⟩
    have hF3 := HF2.out.trans f3 (fun i hi => hi.elim)
    have hown3 := own_fr HOwn1.out f3 (fun _ _ => id)
    have hb3 := f3.heap HB2.out id
    have hz3 := f3.heap HZ2.out id
    obtain ⟨g4, hg4⟩ : ∃ g, g = w3.heap.size := ⟨_, rfl⟩
    obtain ⟨w4, hw4⟩ : ∃ x, x = w3.alloc (.cells #[.int .i64 p, .string F] 94) := ⟨_, rfl⟩
    have hf4 : Fr (fun _ => False) w3 w4 := by rw [hw4]; exact (Fr.refl _ _).alloc _
    have hbl := build_wr p F w3
    rw [← hw4, ← hg4] at hbl
    have hnew : w4.heap[g4]? = some (.cells #[.int .i64 p, .string F] 94 (0, 0)) := by rw [hw4, hg4]; exact heap_alloc_new w3 _
    have hrd4 : RdV w4 2 wrC (.slice (some ⟨g4, 0, none⟩) 1 1) [(⟨p, Dk.fill l⟩ : Wr)] := ⟨_, 1, rfl, fun i y hy => by
      match i, hy with
      | 0, hy =>
        obtain rfl : (⟨p, Dk.fill l⟩ : Wr) = y := by simpa using hy
        refine ⟨g4, 0, rfl, fun j u hj => ?_⟩
        rw [Nat.zero_mul, Nat.zero_add, cell_of_row w4 _ _ _ _ _ hnew, HFv.out]
        simpa [wrC] using hj
      | i + 1, hy => simp at hy, Nat.le_refl _, by decide⟩
    obtain ⟨v2, w5, hap2, hown5, hgr5⟩ := rows_append rowW (w.heap.size + 2) _ E.wait.length _ _ _ 46 w4 (own_fr hown3 hf4 (fun _ _ => id)) hrd4 (by have := hF3.size; have := hf4.size; have := f3.size; omega) (by have := HWd.out.len; simp; omega)
    obtain ⟨A4, c4, rfl, hB4⟩ := own_sl hown5
    have hf5 : Fr (fun j => (Value.slice A3 E.wait.length c3).ownBlock = some j) w4 w5 := (Fr.refl _ _).grown hgr5 (fun k hk => .inl hk)
    have hF5 : Fr (fun _ => False) w w5 := (hF3.trans hf4 (fun i hi => hi.elim)).trans hf5 (fun i hi => .inr (by have := HB3.out _ hi; omega))
    have hb5 := hf5.heap (hf4.heap hb3 id) (fun h => by have := HB3.out _ h; omega)
    have hz5 := hf5.heap (hf4.heap hz3 id) (fun h => by have := HB3.out _ h; omega)
    obtain ⟨a4, ha4⟩ : ∃ a, a = E.wait.length + [(⟨p, Dk.fill l⟩ : Wr)].length := ⟨_, rfl⟩
    rw [← ha4] at hown5 hap2 hB4
    have hrd5 : RdV w5 2 wrC (.slice A4 a4 c4) (E.wait ++ [(⟨p, Dk.fill l⟩ : Wr)]) := RdV.of_own rowW (B := w.heap.size + 2) (by rw [List.length_append, ← ha4, List.flatMap_append]; exact hown5)
    have hz6 := ((Fr.refl (fun i => i = w.heap.size) w5).setCell ⟨w.heap.size, 1, none⟩ (.slice A4 a4 c4) (.inl rfl)).heap hz5 (by omega)
    have hb6 := heap_setCell_same w5 w.heap.size 1 _ _ (.slice A4 a4 c4) hb5
    obtain ⟨w6, hw6⟩ : ∃ x, x = w5.setCell ⟨w.heap.size, 1, none⟩ (.slice A4 a4 c4) := ⟨_, rfl⟩
    have hf6 : Fr (fun i => i = w.heap.size) w5 w6 := by rw [hw6]; exact (Fr.refl (fun i => i = w.heap.size) w5).setCell _ _ (.inl rfl)
    rw [← hw6] at hz6 hb6
    have hb6' : w6.heap[w.heap.size]? = some (.cells #[.slice A1 n1 c1, .slice A4 a4 c4, .int .i64 ca, .int .u64 ck, .int .i64 ct, .int .i64 cc, .bool false] 48 (0, 0)) := hb6
    have hF6 : Fr (fun _ => False) w w6 := hF5.trans hf6 (fun i hi => .inr (by omega))
    have hrd6 : RD w6 E2 (.slice A1 n1 c1) (.slice A4 a4 c4) := by
      have h5 : RD w5 E2 (.slice A1 n1 c1) (.slice A4 a4 c4) := by rw [HE2.out]; exact ⟨HUr.out.frF hF5, hrd5⟩
      exact h5.aside hb5 (seven_no _ _ _ _ _ _ _ _ _ _ _) hf6
    have hcall := refcounted_calls E2 HW2.out (by omega) hn HD2.out _ _ w6 hrd6
    unfold refRow at hcall
    have hq2 : (ca = E2.cutAt ∧ ck = E2.keep ∧ ct = E2.torn ∧ cc = E2.count ∧ false = E2.down) := by rw [HE2.out]; exact HQ.out
    rw [← hq2.1, ← hq2.2.1, ← hq2.2.2.1, ← hq2.2.2.2.1, ← hq2.2.2.2.2] at hcall
    rw [← HFl.out] at hcall
    have HCall := Lib.hid hcall
    have HF6 := Lib.hid hF6
    have HB4 := Lib.hid hB4
    have HL4 := Lib.hid (own_lt hown5)
    have hs56 := hf6.size
    have HB6 := Lib.hid hb6'
    have HZ6 := Lib.hid hz6
    have m0 : w5.cell? ⟨w.heap.size, 0, none⟩ = some (.slice A1 n1 c1) := (cell_of_row w5 _ 0 _ _ _ hb5).trans rfl
    have mf0 : w5.frozen? ⟨w.heap.size, 0, none⟩ = false := frozen_of_row w5 _ _ _ _ hb5
    have m1 : w5.cell? ⟨w.heap.size, 1, none⟩ = some (.slice A2 n2 c2) := (cell_of_row w5 _ 1 _ _ _ hb5).trans rfl
    have mf1 : w5.frozen? ⟨w.heap.size, 1, none⟩ = false := frozen_of_row w5 _ _ _ _ hb5
    have m2 : w5.cell? ⟨w.heap.size, 2, none⟩ = some (.int .i64 ca) := (cell_of_row w5 _ 2 _ _ _ hb5).trans rfl
    have mf2 : w5.frozen? ⟨w.heap.size, 2, none⟩ = false := frozen_of_row w5 _ _ _ _ hb5
    have m3 : w5.cell? ⟨w.heap.size, 3, none⟩ = some (.int .u64 ck) := (cell_of_row w5 _ 3 _ _ _ hb5).trans rfl
    have mf3 : w5.frozen? ⟨w.heap.size, 3, none⟩ = false := frozen_of_row w5 _ _ _ _ hb5
    have m4 : w5.cell? ⟨w.heap.size, 4, none⟩ = some (.int .i64 ct) := (cell_of_row w5 _ 4 _ _ _ hb5).trans rfl
    have mf4 : w5.frozen? ⟨w.heap.size, 4, none⟩ = false := frozen_of_row w5 _ _ _ _ hb5
    have m5 : w5.cell? ⟨w.heap.size, 5, none⟩ = some (.int .i64 cc) := (cell_of_row w5 _ 5 _ _ _ hb5).trans rfl
    have mf5 : w5.frozen? ⟨w.heap.size, 5, none⟩ = false := frozen_of_row w5 _ _ _ _ hb5
    have m6 : w5.cell? ⟨w.heap.size, 6, none⟩ = some (.bool false) := (cell_of_row w5 _ 6 _ _ _ hb5).trans rfl
    have mf6 : w5.frozen? ⟨w.heap.size, 6, none⟩ = false := frozen_of_row w5 _ _ _ _ hb5
    have q0 : w6.cell? ⟨w.heap.size, 0, none⟩ = some (.slice A1 n1 c1) := (cell_of_row w6 _ 0 _ _ _ hb6').trans rfl
    have qf0 : w6.frozen? ⟨w.heap.size, 0, none⟩ = false := frozen_of_row w6 _ _ _ _ hb6'
    have q1 : w6.cell? ⟨w.heap.size, 1, none⟩ = some (.slice A4 a4 c4) := (cell_of_row w6 _ 1 _ _ _ hb6').trans rfl
    have qf1 : w6.frozen? ⟨w.heap.size, 1, none⟩ = false := frozen_of_row w6 _ _ _ _ hb6'
    have q2 : w6.cell? ⟨w.heap.size, 2, none⟩ = some (.int .i64 ca) := (cell_of_row w6 _ 2 _ _ _ hb6').trans rfl
    have qf2 : w6.frozen? ⟨w.heap.size, 2, none⟩ = false := frozen_of_row w6 _ _ _ _ hb6'
    have q3 : w6.cell? ⟨w.heap.size, 3, none⟩ = some (.int .u64 ck) := (cell_of_row w6 _ 3 _ _ _ hb6').trans rfl
    have qf3 : w6.frozen? ⟨w.heap.size, 3, none⟩ = false := frozen_of_row w6 _ _ _ _ hb6'
    have q4 : w6.cell? ⟨w.heap.size, 4, none⟩ = some (.int .i64 ct) := (cell_of_row w6 _ 4 _ _ _ hb6').trans rfl
    have qf4 : w6.frozen? ⟨w.heap.size, 4, none⟩ = false := frozen_of_row w6 _ _ _ _ hb6'
    have q5 : w6.cell? ⟨w.heap.size, 5, none⟩ = some (.int .i64 cc) := (cell_of_row w6 _ 5 _ _ _ hb6').trans rfl
    have qf5 : w6.frozen? ⟨w.heap.size, 5, none⟩ = false := frozen_of_row w6 _ _ _ _ hb6'
    have q6 : w6.cell? ⟨w.heap.size, 6, none⟩ = some (.bool false) := (cell_of_row w6 _ 6 _ _ _ hb6').trans rfl
    have qf6 : w6.frozen? ⟨w.heap.size, 6, none⟩ = false := frozen_of_row w6 _ _ _ _ hb6'
    have HW4 := hw4.symm
    have HG4 := hg4.symm
    have HW6 := hw6.symm
    have hr2 := hap2
    clear hF3 hown3 hb3 hz3 hg4 hw4 hf4 hnew hrd4 hown5 hgr5 hB4 hf5 hF5 hb5 hz5 ha4 hrd5 hw6 hf6 hb6 hb6' hz6 hF6 hrd6 hcall hq2 f3 hap2
    go_wp2_with (with_reducible refine wpList_append_run (op := ⟨some 35, _, _, _, _, _⟩) rfl (.tmp 29) (.tmp 34) rfl (.slice A4 a4 c4) w5 (by first | exact hr2 | (with_unfolding_all exact hr2)) ?_)
    refine HCall.out.mono ?_
    rintro e w7 ⟨u', v', rfl, hrd7, f7, hy7⟩
    have HS67 := Lib.hid (Nat.le_trans hs56 f7.size)
    have hz7 := f7.heap HZ6.out id
    have hb7 := f7.heap HB6.out id
    obtain ⟨A5, n5, c5, A6, n6, c6, rfl, rfl⟩ := hrd7.sl
    obtain ⟨ca', hca'⟩ : ∃ x, x = E2.counted.cutAt := ⟨_, rfl⟩
    obtain ⟨ck', hck'⟩ : ∃ x, x = E2.counted.keep := ⟨_, rfl⟩
    obtain ⟨ct', hct'⟩ : ∃ x, x = E2.counted.torn := ⟨_, rfl⟩
    obtain ⟨cc', hcc'⟩ : ∃ x, x = E2.counted.count := ⟨_, rfl⟩
    obtain ⟨dn', hdn'⟩ : ∃ x, x = E2.counted.down := ⟨_, rfl⟩
    rw [← hca', ← hck', ← hct', ← hcc', ← hdn']
    have HQ7 := Lib.hid (And.intro hca' (And.intro hck' (And.intro hct' (And.intro hcc' hdn'))))
    have hput8 := put7_heap hb7 (.slice A5 n5 c5) (.slice A6 n6 c6) (.int .i64 ca') (.int .u64 ck') (.int .i64 ct') (.int .i64 cc') (.bool dn')
    have hpf8 := put7_fr w7 w.heap.size (.slice A5 n5 c5) (.slice A6 n6 c6) (.int .i64 ca') (.int .u64 ck') (.int .i64 ct') (.int .i64 cc') (.bool dn')
    obtain ⟨w8, hw8⟩ : ∃ x, x = put7 w7 w.heap.size (.slice A5 n5 c5) (.slice A6 n6 c6) (.int .i64 ca') (.int .u64 ck') (.int .i64 ct') (.int .i64 cc') (.bool dn') := ⟨_, rfl⟩
    rw [← hw8] at hput8 hpf8
    have hz8 := hpf8.heap hz7 (by omega)
    have hsz87 := hpf8.size
    have HY7 := Lib.hid (show Yg w w8 (.slice A1 n1 c1) (.slice A2 n2 c2) (.slice A5 n5 c5) (.slice A6 n6 c6) from fun b hb => by
      rcases hy7 b hb with (h | h) | h
      · exact .inl (.inl h)
      · exact .inr ⟨by have := HB4.out b h; omega, by have := HL4.out b h; have := HS67.out; omega⟩
      · exact .inr ⟨by have := HF6.out.size; omega, by omega⟩)
    clear hy7 hsz87
    have HZ8 := Lib.hid hz8
    have HF8 := Lib.hid ((HF6.out.trans f7 (fun i hi => hi.elim)).trans hpf8 (fun i hi => .inr (by omega)))
    have HR8 := Lib.hid (hrd7.aside hb7 (seven_no _ _ _ _ _ _ _ _ _ _ _) hpf8)
    have s0 : w7.cell? ⟨w.heap.size, 0, none⟩ = some (.slice A1 n1 c1) := (cell_of_row w7 _ 0 _ _ _ hb7).trans rfl
    have sf0 : w7.frozen? ⟨w.heap.size, 0, none⟩ = false := frozen_of_row w7 _ _ _ _ hb7
    have s1 : w7.cell? ⟨w.heap.size, 1, none⟩ = some (.slice A4 a4 c4) := (cell_of_row w7 _ 1 _ _ _ hb7).trans rfl
    have sf1 : w7.frozen? ⟨w.heap.size, 1, none⟩ = false := frozen_of_row w7 _ _ _ _ hb7
    have s2 : w7.cell? ⟨w.heap.size, 2, none⟩ = some (.int .i64 ca) := (cell_of_row w7 _ 2 _ _ _ hb7).trans rfl
    have sf2 : w7.frozen? ⟨w.heap.size, 2, none⟩ = false := frozen_of_row w7 _ _ _ _ hb7
    have s3 : w7.cell? ⟨w.heap.size, 3, none⟩ = some (.int .u64 ck) := (cell_of_row w7 _ 3 _ _ _ hb7).trans rfl
    have sf3 : w7.frozen? ⟨w.heap.size, 3, none⟩ = false := frozen_of_row w7 _ _ _ _ hb7
    have s4 : w7.cell? ⟨w.heap.size, 4, none⟩ = some (.int .i64 ct) := (cell_of_row w7 _ 4 _ _ _ hb7).trans rfl
    have sf4 : w7.frozen? ⟨w.heap.size, 4, none⟩ = false := frozen_of_row w7 _ _ _ _ hb7
    have s5 : w7.cell? ⟨w.heap.size, 5, none⟩ = some (.int .i64 cc) := (cell_of_row w7 _ 5 _ _ _ hb7).trans rfl
    have sf5 : w7.frozen? ⟨w.heap.size, 5, none⟩ = false := frozen_of_row w7 _ _ _ _ hb7
    have s6 : w7.cell? ⟨w.heap.size, 6, none⟩ = some (.bool false) := (cell_of_row w7 _ 6 _ _ _ hb7).trans rfl
    have sf6 : w7.frozen? ⟨w.heap.size, 6, none⟩ = false := frozen_of_row w7 _ _ _ _ hb7
    have t0 : w8.cell? ⟨w.heap.size, 0, none⟩ = some (.slice A5 n5 c5) := (cell_of_row w8 _ 0 _ _ _ hput8).trans rfl
    have t1 : w8.cell? ⟨w.heap.size, 1, none⟩ = some (.slice A6 n6 c6) := (cell_of_row w8 _ 1 _ _ _ hput8).trans rfl
    have t2 : w8.cell? ⟨w.heap.size, 2, none⟩ = some (.int .i64 ca') := (cell_of_row w8 _ 2 _ _ _ hput8).trans rfl
    have t3 : w8.cell? ⟨w.heap.size, 3, none⟩ = some (.int .u64 ck') := (cell_of_row w8 _ 3 _ _ _ hput8).trans rfl
    have t4 : w8.cell? ⟨w.heap.size, 4, none⟩ = some (.int .i64 ct') := (cell_of_row w8 _ 4 _ _ _ hput8).trans rfl
    have t5 : w8.cell? ⟨w.heap.size, 5, none⟩ = some (.int .i64 cc') := (cell_of_row w8 _ 5 _ _ _ hput8).trans rfl
    have t6 : w8.cell? ⟨w.heap.size, 6, none⟩ = some (.bool dn') := (cell_of_row w8 _ 6 _ _ _ hput8).trans rfl
    have zz0 : w8.cell? ⟨w.heap.size + 1, 0, none⟩ = some (.slice none 0 0) := (cell_of_row w8 _ 0 _ _ _ hz8).trans rfl
    have yy0 : w8.frozen? ⟨w.heap.size + 1, 0, none⟩ = false := frozen_of_row w8 _ _ _ _ hz8
    have zz1 : w8.cell? ⟨w.heap.size + 1, 1, none⟩ = some (.slice none 0 0) := (cell_of_row w8 _ 1 _ _ _ hz8).trans rfl
    have yy1 : w8.frozen? ⟨w.heap.size + 1, 1, none⟩ = false := frozen_of_row w8 _ _ _ _ hz8
    have zz2 : w8.cell? ⟨w.heap.size + 1, 2, none⟩ = some (.int .i64 0) := (cell_of_row w8 _ 2 _ _ _ hz8).trans rfl
    have yy2 : w8.frozen? ⟨w.heap.size + 1, 2, none⟩ = false := frozen_of_row w8 _ _ _ _ hz8
    have zz3 : w8.cell? ⟨w.heap.size + 1, 3, none⟩ = some (.int .u64 0) := (cell_of_row w8 _ 3 _ _ _ hz8).trans rfl
    have yy3 : w8.frozen? ⟨w.heap.size + 1, 3, none⟩ = false := frozen_of_row w8 _ _ _ _ hz8
    have zz4 : w8.cell? ⟨w.heap.size + 1, 4, none⟩ = some (.int .i64 0) := (cell_of_row w8 _ 4 _ _ _ hz8).trans rfl
    have yy4 : w8.frozen? ⟨w.heap.size + 1, 4, none⟩ = false := frozen_of_row w8 _ _ _ _ hz8
    have zz5 : w8.cell? ⟨w.heap.size + 1, 5, none⟩ = some (.int .i64 0) := (cell_of_row w8 _ 5 _ _ _ hz8).trans rfl
    have yy5 : w8.frozen? ⟨w.heap.size + 1, 5, none⟩ = false := frozen_of_row w8 _ _ _ _ hz8
    have zz6 : w8.cell? ⟨w.heap.size + 1, 6, none⟩ = some (.bool false) := (cell_of_row w8 _ 6 _ _ _ hz8).trans rfl
    have yy6 : w8.frozen? ⟨w.heap.size + 1, 6, none⟩ = false := frozen_of_row w8 _ _ _ _ hz8
    unfold put7 at hw8
    have HW8 := hw8.symm
    clear hz7 hb7 hca' hck' hct' hcc' hdn' hput8 hpf8 hw8 hz8 hrd7 f7 HW6 HW4
    clear hr2 hap1 c1' HW0 HW1 HG4 m0 m1 m2 m3 m4 m5 m6 mf0 mf1 mf2 mf3 mf4 mf5 mf6 q0 q1 q2 q3 q4 q5 q6 qf0 qf1 qf2 qf3 qf4 qf5 qf6 k0 k1 k2 k3 k4 k5 k6 kf0 kf1 kf2 kf3 kf4 kf5 kf6 z0 z1 z2 z3 z4 z5 z6 y0 y1 y2 y3 y4 y5 y6
    cases fl with
    | true =>
      have hputC := put7_heap HZ8.out (.slice A5 n5 c5) (.slice A6 n6 c6) (.int .i64 ca') (.int .u64 ck') (.int .i64 ct') (.int .i64 cc') (.bool dn')
      have hpfC := put7_fr w8 (w.heap.size + 1) (.slice A5 n5 c5) (.slice A6 n6 c6) (.int .i64 ca') (.int .u64 ck') (.int .i64 ct') (.int .i64 cc') (.bool dn')
      have HRdC := Lib.hid (HR8.out.aside HZ8.out (seven_no _ _ _ _ _ _ _ _ _ _ _) hpfC)
      have HPutC := Lib.hid hputC
      have HPFC := Lib.hid (HF8.out.trans hpfC (fun i hi => .inr (by omega)))
      have HSC := Lib.hid hpfC.size
      unfold put7 at HPFC HPutC HRdC HSC
      clear hputC hpfC
      go_wp2_with (guard_target =~ bodyPost _ _ _ _ _ _; refine bodyPost_ret (results_two rfl _ _ (w.heap.size + 1) 48 _ (0, 0) _ (.int .i64 7) rfl rfl HPutC.out Try.underlying48 rfl (by kernel_rfl)) rfl ?_; refine ⟨_, _, ?_, HRdC.out, HPFC.out, fun b hb => (HY7.out b hb).imp id (fun h => ⟨h.1, Nat.lt_of_lt_of_le h.2 HSC.out⟩)⟩; rw [← HQ7.out.1, ← HQ7.out.2.1, ← HQ7.out.2.2.1, ← HQ7.out.2.2.2.1, ← HQ7.out.2.2.2.2]; first | rfl | skip)
    | false =>
      have hputC := put7_heap HZ8.out (.slice A5 n5 c5) (.slice A6 n6 c6) (.int .i64 ca') (.int .u64 ck') (.int .i64 ct') (.int .i64 cc') (.bool dn')
      have hpfC := put7_fr w8 (w.heap.size + 1) (.slice A5 n5 c5) (.slice A6 n6 c6) (.int .i64 ca') (.int .u64 ck') (.int .i64 ct') (.int .i64 cc') (.bool dn')
      have HRdC := Lib.hid (HR8.out.aside HZ8.out (seven_no _ _ _ _ _ _ _ _ _ _ _) hpfC)
      have HPutC := Lib.hid hputC
      have HPFC := Lib.hid (HF8.out.trans hpfC (fun i hi => .inr (by omega)))
      have HSC := Lib.hid hpfC.size
      unfold put7 at HPFC HPutC HRdC HSC
      clear hputC hpfC
      go_wp2_with (guard_target =~ bodyPost _ _ _ _ _ _; refine bodyPost_ret (results_two rfl _ _ (w.heap.size + 1) 48 _ (0, 0) _ (.int .i64 0) rfl rfl HPutC.out Try.underlying48 rfl (by kernel_rfl)) rfl ?_; refine ⟨_, _, ?_, HRdC.out, HPFC.out, fun b hb => (HY7.out b hb).imp id (fun h => ⟨h.1, Nat.lt_of_lt_of_le h.2 HSC.out⟩)⟩; rw [← HQ7.out.1, ← HQ7.out.2.1, ← HQ7.out.2.2.1, ← HQ7.out.2.2.2.1, ← HQ7.out.2.2.2.2]; first | rfl | skip)
end Go.Proofs.Ythlngbdbmnnnaaa
