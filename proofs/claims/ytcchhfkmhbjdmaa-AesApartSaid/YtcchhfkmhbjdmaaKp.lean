/- Unlike blocks, unlike boxes: the walk. -/
import Derived.Test.YtcchhfkmhbjdmaaKl
set_option linter.unusedVariables false
set_option linter.unusedSimpArgs false
set_option pp.deepTerms true
set_option pp.maxSteps 100000
namespace Go.Proofs.Ytcchhfkmhbjdmaa
open Go.RowKit
theorem str_of (s : ByteArray) : s = str s.data.toList := by apply ByteArray.ext; simp [str]
theorem str_inj {a b : List UInt8} (h : str a = str b) : a = b := by
  have := congrArg (fun s : ByteArray => s.data.toList) h
  simpa [str] using this
set_option maxRecDepth 20000 in
set_option maxHeartbeats 4000000 in
theorem apart_walk (key x y : ByteArray) (a b : UInt8) (w : World) : Calls Try.prog 4 #[.string key, .string x, .string y, .int .u8 (a.toNat : Int), .int .u8 (b.toNat : Int)] w fun e w' => e = .returned (.bool true) ∧ Fr (fun _ => False) w w' := by
  by_cases hk : key.size = 32
  · have q1 : ((key.size : Int) != 32) = false := by rw [hk]; rfl
    by_cases hx : x.size = 16
    · have q2 : ((x.size : Int) != 16) = false := by rw [hx]; rfl
      by_cases hy : y.size = 16
      · have q3 : ((y.size : Int) != 16) = false := by rw [hy]; rfl
        obtain ⟨kl, hkl⟩ : ∃ l, key = str l := ⟨_, str_of key⟩
        obtain ⟨xl, hxl⟩ : ∃ l, x = str l := ⟨_, str_of x⟩
        obtain ⟨yl, hyl⟩ : ∃ l, y = str l := ⟨_, str_of y⟩
        have HK := Lib.hid (show kl.length = 32 by rw [hkl, str_size] at hk; exact hk)
        have HX := Lib.hid (show xl.length = 16 by rw [hxl, str_size] at hx; exact hx)
        have HY := Lib.hid (show yl.length = 16 by rw [hyl, str_size] at hy; exact hy)
        subst hkl; subst hxl; subst hyl
        have HPS := Lib.hid (fun W => press_length W xl)
        obtain ⟨q, hq1⟩ : ∃ q, ((str xl).toList == (str yl).toList) = q := ⟨_, rfl⟩
        obtain ⟨r, hr1⟩ : ∃ r, ((a.toNat : Int) == (b.toNat : Int)) = r := ⟨_, rfl⟩
        have HQ := Lib.hid (show ∀ W, ((str (press W xl)).toList == (str (press W yl)).toList) = q from fun W => by
          rw [← hq1, Bool.eq_iff_iff, beq_iff_eq, beq_iff_eq, str_toList, str_toList, str_toList, str_toList]
          exact ⟨fun e => press_inj HX.out HY.out e, fun e => by rw [e]⟩)
        have hr2 : (((box a).toNat : Int) == ((box b).toNat : Int)) = r := by
          rw [← hr1, toNat_beq, toNat_beq, Bool.eq_iff_iff, beq_iff_eq, beq_iff_eq]
          exact ⟨box_inj, fun e => by rw [e]⟩
        go_enter Try.func4, Try.ntmps4
        go_wp2_with fail
        refine (awake_true _).mono ?_
        rintro e w1 ⟨rfl, h1⟩
        have HF1 := Lib.hid h1
        clear h1
        go_wp2_with fail
        refine (new_yes kl HK.out w1).mono ?_
        rintro e w2 ⟨C, rfl, hC, _, h2⟩
        have HC := Lib.hid hC
        have HF2 := Lib.hid (HF1.out.trans h2 (fun i hi => hi.elim))
        clear hC h2
        go_wp2_with fail
        refine (new_yes kl HK.out w2).mono ?_
        rintro e w3 ⟨C2, rfl, hC, _, h2⟩
        have HC2 := Lib.hid hC
        have HC1 := Lib.hid (HC.out.fr h2 id)
        have HF3 := Lib.hid (HF2.out.trans h2 (fun i hi => hi.elim))
        clear hC h2
        go_wp2_with fail
        refine (press_yes C (words kl 52) xl HX.out w3 HC1.out).mono ?_
        rintro e w4 ⟨rfl, h4⟩
        have HC3 := Lib.hid (HC1.out.fr h4 id)
        have HC4 := Lib.hid (HC2.out.fr h4 id)
        have HF4 := Lib.hid (HF3.out.trans h4 (fun i hi => hi.elim))
        clear h4
        go_wp2_with fail
        refine (press_yes C (words kl 52) yl HY.out w4 HC3.out).mono ?_
        rintro e w5 ⟨rfl, h5⟩
        have HC5 := Lib.hid (HC4.out.fr h5 id)
        have HF5 := Lib.hid (HF4.out.trans h5 (fun i hi => hi.elim))
        clear h5
        go_wp2_with fail
        refine (press_yes C2 (words kl 52) xl HX.out w5 HC5.out).mono ?_
        rintro e w6 ⟨rfl, h6⟩
        have HF6 := Lib.hid (HF5.out.trans h6 (fun i hi => hi.elim))
        clear h6
        have hq2 := HQ.out (words kl 52)
        have hsz : (str (press (words kl 52) xl)).size = 16 := by rw [str_size]; exact HPS.out _
        generalize str (press (words kl 52) xl) = s1 at hq2 hsz ⊢
        generalize str (press (words kl 52) yl) = s2 at hq2 ⊢
        go_wp2_with fail
        refine (box_calls a _).mono ?_
        rintro e w7 ⟨rfl, h7⟩
        have HF7 := Lib.hid (HF6.out.trans h7 (fun i hi => hi.elim))
        clear h7
        go_wp2_with fail
        refine (box_calls b _).mono ?_
        rintro e w8 ⟨rfl, h8⟩
        have HF8 := Lib.hid (HF7.out.trans h8 (fun i hi => hi.elim))
        clear h8
        go_wp2_with fail
        go_ret
        exact ⟨rfl, HF8.out⟩
      · have q3 : ((y.size : Int) != 16) = true := by simp; omega
        go_enter Try.func4, Try.ntmps4
        go_wp2_with fail
        refine (awake_true _).mono ?_
        rintro e w1 ⟨rfl, h1⟩
        have HF1 := Lib.hid h1
        clear h1
        go_wp2_with fail
        go_ret
        exact ⟨rfl, HF1.out⟩
    · have q2 : ((x.size : Int) != 16) = true := by simp; omega
      go_enter Try.func4, Try.ntmps4
      go_wp2_with fail
      refine (awake_true _).mono ?_
      rintro e w1 ⟨rfl, h1⟩
      have HF1 := Lib.hid h1
      clear h1
      go_wp2_with fail
      go_ret
      exact ⟨rfl, HF1.out⟩
  · have q1 : ((key.size : Int) != 32) = true := by simp; omega
    go_enter Try.func4, Try.ntmps4
    go_wp2_with fail
    refine (awake_true _).mono ?_
    rintro e w1 ⟨rfl, h1⟩
    have HF1 := Lib.hid h1
    clear h1
    go_wp2_with fail
    go_ret
    exact ⟨rfl, HF1.out⟩
end Go.Proofs.Ytcchhfkmhbjdmaa
