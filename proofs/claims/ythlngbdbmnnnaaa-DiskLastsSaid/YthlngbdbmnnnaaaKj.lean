/- awake of layer 8. -/
import Derived.Test.YthlngbdbmnnnaaaKi
set_option linter.unusedVariables false
set_option linter.unusedSimpArgs false
namespace Go.Proofs.Ythlngbdbmnnnaaa
open Go.RowKit
def aw0 : Dk := Dk.new 2
def aw1 : Dk := aw0.write 0 [97, 98]
def aw2 : Dk := aw1.write 1 [99, 100]
def aw3 : Dk := aw2.crash 3 1
def aw4 : Dk := aw3.start
def aw5 : Dk := aw4.flush
theorem fine_of {D : Dk} (h : (decide (0 ≤ D.keep) && decide (D.keep ≤ 18446744073709551615) && decide (D.wait.length < 1000000) && decide (D.count ≤ 1000000)) = true) : Fine D := by
  simp only [Bool.and_eq_true, decide_eq_true_eq] at h
  exact ⟨h.1.1.1, h.1.1.2, h.1.2, h.2⟩
theorem fine0 : Fine aw0 := fine_of (by decide +kernel)
theorem fine1 : Fine aw1 := fine_of (by decide +kernel)
theorem fine2 : Fine aw2 := fine_of (by decide +kernel)
theorem fine3 : Fine aw3 := fine_of (by decide +kernel)
theorem fine4 : Fine aw4 := fine_of (by decide +kernel)
theorem fine5 : Fine aw5 := fine_of (by decide +kernel)
theorem val0 : aw0.writeE 0 [97, 98] = 0 := by decide +kernel
theorem val1 : aw1.writeE 1 [99, 100] = 0 := by decide +kernel
theorem val3 : aw3.writeE 0 [120] = 7 := by decide +kernel
theorem val3' : aw3.write 0 [120] = aw3 := by rw [Dk.write, if_pos (by decide +kernel)]
theorem rd0 : aw4.read 0 = 97 :: 98 :: 0 :: List.replicate 61 0 := by decide +kernel
theorem rd1 : aw4.read 1 = 99 :: 0 :: List.replicate 62 0 := by decide +kernel
theorem ask0 : aw4.asked 0 = 0 := by decide +kernel
theorem ask1 : aw4.asked 1 = 0 := by decide +kernel
theorem fl4 : aw4.flushE = 0 := by decide +kernel
theorem n5 : aw5.n = 2 := by decide +kernel
theorem dn5 : aw5.down = false := by decide +kernel
theorem len5 : aw5.lasts.length = 128 := by decide +kernel
theorem val5 : aw5.writeE 2 [] = 1 := by decide +kernel
set_option maxRecDepth 20000 in
set_option maxHeartbeats 1000000 in
theorem awake_true (w : World) : Calls Try.prog 10 #[] w fun e w' => e = .returned (.bool true) ∧ Fr (fun _ => False) w w' := by
  have hS0 : (str (aw4.read 0)).size = 64 := by rw [str_size, rd0]; rfl
  have hS1 : (str (aw4.read 1)).size = 64 := by rw [str_size, rd1]; rfl
  have hT0 : (str (aw4.read 0)).extract 0 3 = ⟨#[97, 98, 0]⟩ := by rw [rd0]; rfl
  have hT1 : (str (aw4.read 1)).extract 0 2 = ⟨#[99, 0]⟩ := by rw [rd1]; rfl
  have hS5 : (str aw5.lasts).size = 128 := by rw [str_size, len5]
  generalize hab : str (aw4.read 0) = ab at *
  generalize hcd : str (aw4.read 1) = cd at *
  generalize him : str aw5.lasts = im at *
  have Hab := Lib.hid hab
  have Hcd := Lib.hid hcd
  have Him := Lib.hid him
  clear hab hcd him
  go_enter Try.func10, Try.ntmps10
  go_wp2_with fail
  refine (on_new 2 _ (by omega) (by omega)).mono ?_
  rintro e w1 ⟨g, rfl, ho⟩
  have HO1 := Lib.hid (show On w w1 g aw0 from ho)
  clear ho
  go_wp2_with fail
  refine (new_no 0 _ (by omega)).mono ?_
  rintro e w2 ⟨rfl, rfl⟩
  go_wp2_with fail
  refine (on_write HO1.out fine0 0 ⟨#[97, 98]⟩).mono ?_
  rintro e w' ⟨rfl, ho⟩
  rw [show aw0.writeE 0 (⟨#[97, 98]⟩ : ByteArray).data.toList = 0 from val0]
  have HO2 := Lib.hid (show On w w' g aw1 from ho)
  clear ho
  go_wp2_with fail
  refine (on_write HO2.out fine1 1 ⟨#[99, 100]⟩).mono ?_
  rintro e w' ⟨rfl, ho⟩
  rw [show aw1.writeE 1 (⟨#[99, 100]⟩ : ByteArray).data.toList = 0 from val1]
  have HO3 := Lib.hid (show On w w' g aw2 from ho)
  clear ho
  go_wp2_with fail
  refine (on_crash HO3.out fine2 3 1 (by omega) (by omega)).mono ?_
  rintro e w' ⟨rfl, ho⟩
  have HO4 := Lib.hid (show On w w' g aw3 from ho)
  clear ho
  go_wp2_with fail
  refine (on_write HO4.out fine3 0 ⟨#[120]⟩).mono ?_
  rintro e w' ⟨rfl, ho⟩
  rw [show aw3.writeE 0 (⟨#[120]⟩ : ByteArray).data.toList = 7 from val3]
  have HO5 := Lib.hid (show On w w' g (aw3.write 0 [120]) from ho)
  clear ho
  go_wp2_with fail
  refine (on_start (val3' ▸ HO5.out)).mono ?_
  rintro e w' ⟨rfl, ho⟩
  have HO6 := Lib.hid (show On w w' g aw4 from ho)
  clear ho
  go_wp2_with fail
  refine (on_read HO6.out fine4 0).mono ?_
  rintro e w' ⟨rfl, rfl⟩
  rw [Hab.out, ask0]
  go_wp2_with fail
  refine (on_read HO6.out fine4 1).mono ?_
  rintro e w' ⟨rfl, rfl⟩
  rw [Hcd.out, ask1]
  go_wp2_with fail
  refine (on_flush HO6.out fine4).mono ?_
  rintro e w' ⟨rfl, ho⟩
  rw [fl4]
  have HO7 := Lib.hid (show On w w' g aw5 from ho)
  clear ho
  go_wp2_with fail
  refine (on_size HO7.out).mono ?_
  rintro e w' ⟨rfl, rfl⟩
  rw [n5]
  go_wp2_with fail
  refine (on_down HO7.out).mono ?_
  rintro e w' ⟨rfl, rfl⟩
  rw [dn5]
  go_wp2_with fail
  refine (on_image HO7.out).mono ?_
  rintro e w' ⟨rfl, rfl⟩
  rw [Him.out]
  go_wp2_with fail
  refine (on_write HO7.out fine5 2 ⟨#[]⟩).mono ?_
  rintro e w' ⟨rfl, ho⟩
  rw [show aw5.writeE 2 (⟨#[]⟩ : ByteArray).data.toList = 1 from val5]
  have HO8 := Lib.hid ho.fr
  clear ho
  go_wp2
  go_ret
  exact ⟨rfl, HO8.out⟩
end Go.Proofs.Ythlngbdbmnnnaaa
