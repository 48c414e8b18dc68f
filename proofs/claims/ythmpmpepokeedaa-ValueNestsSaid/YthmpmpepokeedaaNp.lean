/- Values: awake walked. -/
import Derived.Test.YthmpmpepokeedaaNn
set_option linter.unusedVariables false
set_option linter.unusedSimpArgs false
set_option pp.deepTerms true
set_option pp.maxSteps 100000
namespace Go.Proofs.Ythmpmpepokeedaa
open Go.RowKit
attribute [local go_sem] ta_ii ta_is ta_ib ta_il ta_si ta_ss ta_sb ta_sl ta_bi ta_bs ta_bb ta_bl ta_li ta_ls ta_lb ta_ll ta_ni ta_fi ta_ns ta_fs ta_nb ta_fb ta_nl ta_fl
set_option maxRecDepth 20000 in
set_option maxHeartbeats 4000000 in
theorem write_float (x : Value) (b : Nat) (d : Nat) (w : World) : Calls Try.prog 52 #[.pointer (some ⟨b, 0, none⟩), .iface 86 x, .int .i64 (d : Int)] w fun e w' => e = .returned (.int .i64 9) ∧ w' = w := by
  go_enter Try.func52, Try.ntmps52
  go_wp2_with fail
  go_ret
  exact ⟨rfl, rfl⟩
set_option maxRecDepth 20000 in
set_option maxHeartbeats 4000000 in
theorem print_float (x : Value) (w : World) : Calls Try.prog 17 #[.iface 86 x] w fun e w' => e = .returned (.tuple #[.string ⟨#[]⟩, .int .i64 9]) ∧ Fr (fun _ => False) w w' := by
  have HW := Lib.hid (fun (b : Nat) (w' : World) => show Calls Try.prog 52 #[.pointer (some ⟨b, 0, none⟩), .iface 86 x, .int .i64 0] w' fun e w'' => e = .returned (.int .i64 9) ∧ w'' = w' from write_float x b 0 w')
  go_enter Try.func17, Try.ntmps17
  go_wp2_with fail
  refine (HW.out _ _).mono ?_
  rintro e w2 ⟨rfl, rfl⟩
  go_wp2_with fail
  go_ret2
  exact ⟨rfl, (Fr.refl _ _).alloc _⟩
def av0 : AV := .row [.int 1, .text [97], .yes true, .row []]
theorem av0_enc : encA 8 av0 = ([108, 4, 105, 0, 0, 0, 0, 0, 0, 0, 1, 115, 0, 1, 97, 121, 108, 0], 0) := by rfl
theorem av0_wf : WfA av0 := .row _ (fun a ha => by
  simp only [List.mem_cons, List.not_mem_nil, or_false] at ha
  rcases ha with rfl | rfl | rfl | rfl
  · exact .int 1 ⟨by decide, by decide⟩
  · exact .text _
  · exact .yes _
  · exact .row _ (fun a ha => by cases ha))
theorem av0_dec : decA 8 [108, 4, 105, 0, 0, 0, 0, 0, 0, 0, 1, 115, 0, 1, 97, 121, 108, 0] = some (av0, []) := by
  have h := dec_enc 8 av0 _ [] av0_wf av0_enc
  rwa [List.append_nil] at h
theorem av0_len : lenK 8 av0 ≤ 140737488355328 := by
  show lenK 8 (.row [.int 1, .text [97], .yes true, .row []]) ≤ _
  simp [lenK, lenL]
theorem ints_one (w : World) (g : Nat) (x : Int) (t : TypeId) (fr : Nat × Nat) (h : w.heap[g]? = some (.cells #[.int .i64 x] t fr)) : IntsAt w (some ⟨g, 0, none⟩) [x] := fun i y hy => by
  match i, hy with
  | 0, hy =>
    simp at hy; subst hy
    exact ⟨g, 0, rfl, (cell_of_row w g 0 _ _ _ h).trans rfl⟩
set_option maxRecDepth 20000 in
set_option maxHeartbeats 16000000 in
theorem value_awake (w : World) : Calls Try.prog 15 #[] w fun e w' => e = .returned (.bool true) ∧ Fr (fun _ => False) w w' := by
  obtain ⟨w1, hw1⟩ : ∃ w1, w1 = (w.alloc (.cells #[] 20)).alloc (.cells #[.iface 3 (.int .i64 1), .iface 9 (.string ⟨#[97]⟩), .iface 4 (.bool true), .iface 58 (.slice (some ⟨w.heap.size, 0, none⟩) 0 0)] 20) := ⟨_, rfl⟩
  obtain ⟨g, hg⟩ : ∃ g, g = w.heap.size := ⟨_, rfl⟩
  have hF1 : Fr (fun _ => False) w w1 := by rw [hw1]; exact ((Fr.refl _ _).alloc _).alloc _
  have hb : w1.heap[g + 1]? = some (.cells #[.iface 3 (.int .i64 1), .iface 9 (.string ⟨#[97]⟩), .iface 4 (.bool true), .iface 58 (.slice (some ⟨g, 0, none⟩) 0 0)] 20 (0, 0)) := by
    have h := heap_alloc_new (w.alloc (.cells #[] 20)) (.cells #[.iface 3 (.int .i64 1), .iface 9 (.string ⟨#[97]⟩), .iface 4 (.bool true), .iface 58 (.slice (some ⟨w.heap.size, 0, none⟩) 0 0)] 20)
    rw [World.size_alloc] at h
    rw [hw1, hg]; exact h
  have hsz : w1.heap.size = g + 2 := by rw [hw1, hg]; simp
  have hA : AR w1 (fun _ => True) av0 (.iface 58 (.slice (some ⟨g + 1, 0, none⟩) 4 4)) := by
    refine .row [.int 1, .text [97], .yes true, .row []] (g + 1) 4 (fun i => (#[.iface 3 (.int .i64 1), .iface 9 (.string ⟨#[97]⟩), .iface 4 (.bool true), .iface 58 (.slice (some ⟨g, 0, none⟩) 0 0)] : Array Value).getD i .nilIface) (Nat.le_refl _) (by decide) trivial (by omega) (fun i a ha => ?_) (fun i a ha => ?_)
    · rw [cell_of_row w1 _ i _ _ _ hb]
      match i, ha with
      | 0, _ => rfl
      | 1, _ => rfl
      | 2, _ => rfl
      | 3, _ => rfl
    · match i, ha with
      | 0, ha => cases ha; exact .int 1
      | 1, ha => cases ha; exact .text [97] (by decide)
      | 2, ha => cases ha; exact .yes true
      | 3, ha => cases ha; exact .row [] g 0 (fun _ => .nilIface) (Nat.le_refl _) (by decide) trivial (by omega) (fun i a ha => by simp at ha) (fun i a ha => by simp at ha)
  have HA := Lib.hid (fun (w' : World) (hf : Fr (fun _ => False) w1 w') => hA.frF hf)
  have HF1 := Lib.hid hF1
  have HW1 := Lib.hid hw1
  have HG := Lib.hid hg
  have HP := Lib.hid (show ∀ w', Fr (fun _ => False) w1 w' → Calls Try.prog 17 #[.iface 58 (.slice (some ⟨g + 1, 0, none⟩) 4 4)] w' fun e w'' => e = .returned (.tuple #[.string ⟨#[108, 4, 105, 0, 0, 0, 0, 0, 0, 0, 1, 115, 0, 1, 97, 121, 108, 0]⟩, .int .i64 0]) ∧ Fr (fun _ => False) w' w'' from fun w' hf => by
    have h := print_calls av0 _ _ w' (HA.out w' hf) av0_len
    rw [av0_enc] at h
    exact h)
  have HQ := Lib.hid (show ∀ w', Calls Try.prog 20 #[.string ⟨#[108, 4, 105, 0, 0, 0, 0, 0, 0, 0, 1, 115, 0, 1, 97, 121, 108, 0]⟩] w' fun e w'' => ∃ v, e = .returned (.tuple #[v, .int .i64 0]) ∧ AR w'' (fun _ => True) av0 v ∧ Fr (fun _ => False) w' w'' from fun w' => by
    refine (vparse_calls [108, 4, 105, 0, 0, 0, 0, 0, 0, 0, 1, 115, 0, 1, 97, 121, 108, 0] (by decide) w').mono ?_
    rintro e w2 ⟨v, c, rfl, h1, h2, h3⟩
    rw [av0_dec] at h2
    obtain ⟨rfl, h2⟩ := h2
    exact ⟨v, rfl, h2.mono (fun _ _ => trivial), h3⟩)
  clear hw1 hg hF1 hb hsz hA
  go_enter Try.func15, Try.ntmps15
  go_wp2_with (first | (refine wpList_buildA0 rfl rfl ?_))
  rw [← HW1.out, ← HG.out]
  refine (HP.out w1 (Fr.refl _ _)).mono ?_
  rintro e w2 ⟨rfl, f2⟩
  have HF2 := Lib.hid f2
  clear f2
  go_wp2_with fail
  refine (HQ.out w2).mono ?_
  rintro e w3 ⟨v, rfl, hv, f3⟩
  have HF3 := Lib.hid (HF2.out.trans f3 (fun i hi => hi.elim))
  have HV := Lib.hid (fun (w' : World) (hf : Fr (fun _ => False) w3 w') => hv.frF hf)
  have HV1 := Lib.hid hv.one
  have hs3 := Fr.refl (fun _ => False) w3
  have HS3 := Lib.hid hs3
  clear hv f3 hs3
  have HC4 := Lib.hid (show Calls Try.prog 26 #[v, .slice (some ⟨w3.heap.size, 0, none⟩) 1 1] (w3.alloc (.cells #[.int .i64 0] 3)) fun e w' => e = .returned (.tuple #[.int .i64 1, .int .i64 0]) ∧ Fr (fun _ => False) (w3.alloc (.cells #[.int .i64 0] 3)) w' from int_calls av0 _ v (some ⟨w3.heap.size, 0, none⟩) 1 [0] (w3.alloc (.cells #[.int .i64 0] 3)) (HV.out _ (HS3.out.alloc _)) (ints_one _ _ _ _ _ (heap_alloc_new w3 _)) (Nat.le_refl _) (by decide))
  go_wp2_with fail
  refine HC4.out.mono ?_
  rintro e w4 ⟨rfl, f4⟩
  have HS4 := Lib.hid ((HS3.out.alloc (.cells #[.int .i64 0] 3)).trans f4 (fun i hi => hi.elim))
  clear f4 HC4
  have HC5 := Lib.hid (show Calls Try.prog 27 #[v, .slice (some ⟨w4.heap.size, 0, none⟩) 1 1] (w4.alloc (.cells #[.int .i64 1] 3)) fun e w' => e = .returned (.tuple #[.string ⟨#[97]⟩, .int .i64 0]) ∧ Fr (fun _ => False) (w4.alloc (.cells #[.int .i64 1] 3)) w' from text_calls av0 _ v (some ⟨w4.heap.size, 0, none⟩) 1 [1] (w4.alloc (.cells #[.int .i64 1] 3)) (HV.out _ (HS4.out.alloc _)) (ints_one _ _ _ _ _ (heap_alloc_new w4 _)) (Nat.le_refl _) (by decide))
  go_wp2_with fail
  refine HC5.out.mono ?_
  rintro e w5 ⟨rfl, f5⟩
  have HS5 := Lib.hid ((HS4.out.alloc (.cells #[.int .i64 1] 3)).trans f5 (fun i hi => hi.elim))
  clear f5 HC5
  have HC6 := Lib.hid (show Calls Try.prog 28 #[v, .slice (some ⟨w5.heap.size, 0, none⟩) 1 1] (w5.alloc (.cells #[.int .i64 2] 3)) fun e w' => e = .returned (.tuple #[.bool true, .int .i64 0]) ∧ Fr (fun _ => False) (w5.alloc (.cells #[.int .i64 2] 3)) w' from bool_calls av0 _ v (some ⟨w5.heap.size, 0, none⟩) 1 [2] (w5.alloc (.cells #[.int .i64 2] 3)) (HV.out _ (HS5.out.alloc _)) (ints_one _ _ _ _ _ (heap_alloc_new w5 _)) (Nat.le_refl _) (by decide))
  go_wp2_with fail
  refine HC6.out.mono ?_
  rintro e w6 ⟨rfl, f6⟩
  have HS6 := Lib.hid ((HS5.out.alloc (.cells #[.int .i64 2] 3)).trans f6 (fun i hi => hi.elim))
  clear f6 HC6
  have HC7 := Lib.hid (show Calls Try.prog 29 #[v, .slice (some ⟨w6.heap.size, 0, none⟩) 1 1] (w6.alloc (.cells #[.int .i64 3] 3)) fun e w' => ∃ ls, e = .returned (.tuple #[ls, .int .i64 0]) ∧ LsR w' (fun _ => True) (.row []) ls ∧ Fr (fun _ => False) (w6.alloc (.cells #[.int .i64 3] 3)) w' from list_calls av0 _ v (some ⟨w6.heap.size, 0, none⟩) 1 [3] (w6.alloc (.cells #[.int .i64 3] 3)) (HV.out _ (HS6.out.alloc _)) (ints_one _ _ _ _ _ (heap_alloc_new w6 _)) (Nat.le_refl _) (by decide) (by decide))
  go_wp2_with fail
  refine HC7.out.mono ?_
  rintro e w7 ⟨ls, rfl, ⟨gl, cl, vl, rfl, _⟩, f7⟩
  have HS7 := Lib.hid ((HS6.out.alloc (.cells #[.int .i64 3] 3)).trans f7 (fun i hi => hi.elim))
  clear f7 HC7
  have HC8 := Lib.hid (show Calls Try.prog 26 #[v, .slice (some ⟨w7.heap.size, 0, none⟩) 1 1] (w7.alloc (.cells #[.int .i64 1] 3)) fun e w' => e = .returned (.tuple #[.int .i64 0, .int .i64 9]) ∧ Fr (fun _ => False) (w7.alloc (.cells #[.int .i64 1] 3)) w' from int_calls av0 _ v (some ⟨w7.heap.size, 0, none⟩) 1 [1] (w7.alloc (.cells #[.int .i64 1] 3)) (HV.out _ (HS7.out.alloc _)) (ints_one _ _ _ _ _ (heap_alloc_new w7 _)) (Nat.le_refl _) (by decide))
  go_wp2_with fail
  refine HC8.out.mono ?_
  rintro e w8 ⟨rfl, f8⟩
  have HS8 := Lib.hid ((HS7.out.alloc (.cells #[.int .i64 1] 3)).trans f8 (fun i hi => hi.elim))
  clear f8 HC8
  have HC9 := Lib.hid (show Calls Try.prog 26 #[v, .slice (some ⟨w8.heap.size, 0, none⟩) 1 1] (w8.alloc (.cells #[.int .i64 9] 3)) fun e w' => e = .returned (.tuple #[.int .i64 0, .int .i64 4]) ∧ Fr (fun _ => False) (w8.alloc (.cells #[.int .i64 9] 3)) w' from int_calls av0 _ v (some ⟨w8.heap.size, 0, none⟩) 1 [9] (w8.alloc (.cells #[.int .i64 9] 3)) (HV.out _ (HS8.out.alloc _)) (ints_one _ _ _ _ _ (heap_alloc_new w8 _)) (Nat.le_refl _) (by decide))
  go_wp2_with fail
  refine HC9.out.mono ?_
  rintro e w9 ⟨rfl, f9⟩
  have HS9 := Lib.hid ((HS8.out.alloc (.cells #[.int .i64 9] 3)).trans f9 (fun i hi => hi.elim))
  clear f9 HC9
  go_wp2_with fail
  refine (print_float _ _).mono ?_
  rintro e wa ⟨rfl, fa⟩
  have HSa := Lib.hid (HS9.out.trans fa (fun i hi => hi.elim))
  have HSame := Lib.hid (show Calls Try.prog 31 #[.iface 58 (.slice (some ⟨g + 1, 0, none⟩) 4 4), v] wa fun e w' => e = .returned (.bool true) ∧ Fr (fun _ => False) wa w' from by
    have h := vsame_calls av0 av0 _ _ _ v wa (HA.out wa (HF3.out.trans HSa.out (fun i hi => hi.elim))) (HV.out wa HSa.out) av0_len av0_len
    rw [show sameB av0 av0 = true from rfl] at h
    exact h)
  clear fa
  go_wp2_with fail
  refine HSame.out.mono ?_
  rintro e wb ⟨rfl, fb⟩
  have HFin := Lib.hid (((HF1.out.trans HF3.out (fun i hi => hi.elim)).trans HSa.out (fun i hi => hi.elim)).trans fb (fun i hi => hi.elim))
  clear fb HSame
  go_wp2_with fail
  refine (must_calls ⟨#[120]⟩ _).mono ?_
  rintro e wc ⟨rfl, rfl⟩
  go_wp2_with fail
  go_ret
  exact ⟨rfl, HFin.out⟩
end Go.Proofs.Ythmpmpepokeedaa
