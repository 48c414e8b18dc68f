/- Labels: letters, names' runes walked; the document's too. -/
import Derived.Test.YtcchhfkmhbjdmaaGreatLb
import Derived.Test.YtcchhfkmhbjdmaaGreatLc
import Derived.Shelf.Strings.BuilderK
set_option linter.unusedVariables false
set_option linter.unusedSimpArgs false
set_option pp.deepTerms true
set_option pp.maxSteps 100000
namespace Go.Proofs.YtcchhfkmhbjdmaaGreat
open Go.RowKit
set_option maxRecDepth 20000 in
set_option maxHeartbeats 1000000 in
theorem letter_calls (r : Nat) (w : World) : Calls Tryz.prog 66 #[.int .i32 (r : Int)] w fun e w' => e = .returned (.bool (letB r)) ∧ w' = w := by
  have hcs : r ≤ 44 ∨ r = 45 ∨ (46 ≤ r ∧ r ≤ 47) ∨ (48 ≤ r ∧ r ≤ 57) ∨ (58 ≤ r ∧ r ≤ 96) ∨ (97 ≤ r ∧ r ≤ 122) ∨ (123 ≤ r ∧ r ≤ 944) ∨ (945 ≤ r ∧ r ≤ 969) ∨ 970 ≤ r := by omega
  rcases hcs with hc | hc | hc | hc | hc | hc | hc | hc | hc
  · have hb : letB r = false := by
      unfold letB
      first
        | (simp only [Bool.or_eq_true, Bool.and_eq_true, decide_eq_true_eq]; omega)
        | (simp only [Bool.or_eq_false_iff, Bool.and_eq_false_iff, decide_eq_false_iff_not]; omega)
    rw [hb]
    clear hb
    have da : decide ((97 : Int) ≤ (r : Int)) = false := decide_eq_false (by omega)
    have ea : decide (97 ≤ r) = false := decide_eq_false (by omega)
    have db : decide ((r : Int) ≤ 122) = true := decide_eq_true (by omega)
    have eb : decide (r ≤ 122) = true := decide_eq_true (by omega)
    have dc : decide ((48 : Int) ≤ (r : Int)) = false := decide_eq_false (by omega)
    have ec : decide (48 ≤ r) = false := decide_eq_false (by omega)
    have dd : decide ((r : Int) ≤ 57) = true := decide_eq_true (by omega)
    have ed : decide (r ≤ 57) = true := decide_eq_true (by omega)
    have df : decide ((945 : Int) ≤ (r : Int)) = false := decide_eq_false (by omega)
    have ef : decide (945 ≤ r) = false := decide_eq_false (by omega)
    have dg : decide ((r : Int) ≤ 969) = true := decide_eq_true (by omega)
    have eg : decide (r ≤ 969) = true := decide_eq_true (by omega)
    have de : ((r : Int) == 45) = false := beq_eq_false_iff_ne.2 (by omega)
    have ee : (r == 45) = false := beq_eq_false_iff_ne.2 (by omega)
    clear hc
    go_enter Tryz.func66, Tryz.ntmps66
    go_wp2_with fail
    go_ret
    exact ⟨rfl, rfl⟩
  · have hb : letB r = true := by
      unfold letB
      first
        | (simp only [Bool.or_eq_true, Bool.and_eq_true, decide_eq_true_eq]; omega)
        | (simp only [Bool.or_eq_false_iff, Bool.and_eq_false_iff, decide_eq_false_iff_not]; omega)
    rw [hb]
    clear hb
    subst hc
    go_enter Tryz.func66, Tryz.ntmps66
    go_wp2_with fail
    go_ret
    exact ⟨rfl, rfl⟩
  · have hb : letB r = false := by
      unfold letB
      first
        | (simp only [Bool.or_eq_true, Bool.and_eq_true, decide_eq_true_eq]; omega)
        | (simp only [Bool.or_eq_false_iff, Bool.and_eq_false_iff, decide_eq_false_iff_not]; omega)
    rw [hb]
    clear hb
    have da : decide ((97 : Int) ≤ (r : Int)) = false := decide_eq_false (by omega)
    have ea : decide (97 ≤ r) = false := decide_eq_false (by omega)
    have db : decide ((r : Int) ≤ 122) = true := decide_eq_true (by omega)
    have eb : decide (r ≤ 122) = true := decide_eq_true (by omega)
    have dc : decide ((48 : Int) ≤ (r : Int)) = false := decide_eq_false (by omega)
    have ec : decide (48 ≤ r) = false := decide_eq_false (by omega)
    have dd : decide ((r : Int) ≤ 57) = true := decide_eq_true (by omega)
    have ed : decide (r ≤ 57) = true := decide_eq_true (by omega)
    have df : decide ((945 : Int) ≤ (r : Int)) = false := decide_eq_false (by omega)
    have ef : decide (945 ≤ r) = false := decide_eq_false (by omega)
    have dg : decide ((r : Int) ≤ 969) = true := decide_eq_true (by omega)
    have eg : decide (r ≤ 969) = true := decide_eq_true (by omega)
    have de : ((r : Int) == 45) = false := beq_eq_false_iff_ne.2 (by omega)
    have ee : (r == 45) = false := beq_eq_false_iff_ne.2 (by omega)
    clear hc
    go_enter Tryz.func66, Tryz.ntmps66
    go_wp2_with fail
    go_ret
    exact ⟨rfl, rfl⟩
  · have hb : letB r = true := by
      unfold letB
      first
        | (simp only [Bool.or_eq_true, Bool.and_eq_true, decide_eq_true_eq]; omega)
        | (simp only [Bool.or_eq_false_iff, Bool.and_eq_false_iff, decide_eq_false_iff_not]; omega)
    rw [hb]
    clear hb
    have da : decide ((97 : Int) ≤ (r : Int)) = false := decide_eq_false (by omega)
    have ea : decide (97 ≤ r) = false := decide_eq_false (by omega)
    have db : decide ((r : Int) ≤ 122) = true := decide_eq_true (by omega)
    have eb : decide (r ≤ 122) = true := decide_eq_true (by omega)
    have dc : decide ((48 : Int) ≤ (r : Int)) = true := decide_eq_true (by omega)
    have ec : decide (48 ≤ r) = true := decide_eq_true (by omega)
    have dd : decide ((r : Int) ≤ 57) = true := decide_eq_true (by omega)
    have ed : decide (r ≤ 57) = true := decide_eq_true (by omega)
    have df : decide ((945 : Int) ≤ (r : Int)) = false := decide_eq_false (by omega)
    have ef : decide (945 ≤ r) = false := decide_eq_false (by omega)
    have dg : decide ((r : Int) ≤ 969) = true := decide_eq_true (by omega)
    have eg : decide (r ≤ 969) = true := decide_eq_true (by omega)
    have de : ((r : Int) == 45) = false := beq_eq_false_iff_ne.2 (by omega)
    have ee : (r == 45) = false := beq_eq_false_iff_ne.2 (by omega)
    clear hc
    go_enter Tryz.func66, Tryz.ntmps66
    go_wp2_with fail
    go_ret
    exact ⟨rfl, rfl⟩
  · have hb : letB r = false := by
      unfold letB
      first
        | (simp only [Bool.or_eq_true, Bool.and_eq_true, decide_eq_true_eq]; omega)
        | (simp only [Bool.or_eq_false_iff, Bool.and_eq_false_iff, decide_eq_false_iff_not]; omega)
    rw [hb]
    clear hb
    have da : decide ((97 : Int) ≤ (r : Int)) = false := decide_eq_false (by omega)
    have ea : decide (97 ≤ r) = false := decide_eq_false (by omega)
    have db : decide ((r : Int) ≤ 122) = true := decide_eq_true (by omega)
    have eb : decide (r ≤ 122) = true := decide_eq_true (by omega)
    have dc : decide ((48 : Int) ≤ (r : Int)) = true := decide_eq_true (by omega)
    have ec : decide (48 ≤ r) = true := decide_eq_true (by omega)
    have dd : decide ((r : Int) ≤ 57) = false := decide_eq_false (by omega)
    have ed : decide (r ≤ 57) = false := decide_eq_false (by omega)
    have df : decide ((945 : Int) ≤ (r : Int)) = false := decide_eq_false (by omega)
    have ef : decide (945 ≤ r) = false := decide_eq_false (by omega)
    have dg : decide ((r : Int) ≤ 969) = true := decide_eq_true (by omega)
    have eg : decide (r ≤ 969) = true := decide_eq_true (by omega)
    have de : ((r : Int) == 45) = false := beq_eq_false_iff_ne.2 (by omega)
    have ee : (r == 45) = false := beq_eq_false_iff_ne.2 (by omega)
    clear hc
    go_enter Tryz.func66, Tryz.ntmps66
    go_wp2_with fail
    go_ret
    exact ⟨rfl, rfl⟩
  · have hb : letB r = true := by
      unfold letB
      first
        | (simp only [Bool.or_eq_true, Bool.and_eq_true, decide_eq_true_eq]; omega)
        | (simp only [Bool.or_eq_false_iff, Bool.and_eq_false_iff, decide_eq_false_iff_not]; omega)
    rw [hb]
    clear hb
    have da : decide ((97 : Int) ≤ (r : Int)) = true := decide_eq_true (by omega)
    have ea : decide (97 ≤ r) = true := decide_eq_true (by omega)
    have db : decide ((r : Int) ≤ 122) = true := decide_eq_true (by omega)
    have eb : decide (r ≤ 122) = true := decide_eq_true (by omega)
    have dc : decide ((48 : Int) ≤ (r : Int)) = true := decide_eq_true (by omega)
    have ec : decide (48 ≤ r) = true := decide_eq_true (by omega)
    have dd : decide ((r : Int) ≤ 57) = false := decide_eq_false (by omega)
    have ed : decide (r ≤ 57) = false := decide_eq_false (by omega)
    have df : decide ((945 : Int) ≤ (r : Int)) = false := decide_eq_false (by omega)
    have ef : decide (945 ≤ r) = false := decide_eq_false (by omega)
    have dg : decide ((r : Int) ≤ 969) = true := decide_eq_true (by omega)
    have eg : decide (r ≤ 969) = true := decide_eq_true (by omega)
    have de : ((r : Int) == 45) = false := beq_eq_false_iff_ne.2 (by omega)
    have ee : (r == 45) = false := beq_eq_false_iff_ne.2 (by omega)
    clear hc
    go_enter Tryz.func66, Tryz.ntmps66
    go_wp2_with fail
    go_ret
    exact ⟨rfl, rfl⟩
  · have hb : letB r = false := by
      unfold letB
      first
        | (simp only [Bool.or_eq_true, Bool.and_eq_true, decide_eq_true_eq]; omega)
        | (simp only [Bool.or_eq_false_iff, Bool.and_eq_false_iff, decide_eq_false_iff_not]; omega)
    rw [hb]
    clear hb
    have da : decide ((97 : Int) ≤ (r : Int)) = true := decide_eq_true (by omega)
    have ea : decide (97 ≤ r) = true := decide_eq_true (by omega)
    have db : decide ((r : Int) ≤ 122) = false := decide_eq_false (by omega)
    have eb : decide (r ≤ 122) = false := decide_eq_false (by omega)
    have dc : decide ((48 : Int) ≤ (r : Int)) = true := decide_eq_true (by omega)
    have ec : decide (48 ≤ r) = true := decide_eq_true (by omega)
    have dd : decide ((r : Int) ≤ 57) = false := decide_eq_false (by omega)
    have ed : decide (r ≤ 57) = false := decide_eq_false (by omega)
    have df : decide ((945 : Int) ≤ (r : Int)) = false := decide_eq_false (by omega)
    have ef : decide (945 ≤ r) = false := decide_eq_false (by omega)
    have dg : decide ((r : Int) ≤ 969) = true := decide_eq_true (by omega)
    have eg : decide (r ≤ 969) = true := decide_eq_true (by omega)
    have de : ((r : Int) == 45) = false := beq_eq_false_iff_ne.2 (by omega)
    have ee : (r == 45) = false := beq_eq_false_iff_ne.2 (by omega)
    clear hc
    go_enter Tryz.func66, Tryz.ntmps66
    go_wp2_with fail
    go_ret
    exact ⟨rfl, rfl⟩
  · have hb : letB r = true := by
      unfold letB
      first
        | (simp only [Bool.or_eq_true, Bool.and_eq_true, decide_eq_true_eq]; omega)
        | (simp only [Bool.or_eq_false_iff, Bool.and_eq_false_iff, decide_eq_false_iff_not]; omega)
    rw [hb]
    clear hb
    have da : decide ((97 : Int) ≤ (r : Int)) = true := decide_eq_true (by omega)
    have ea : decide (97 ≤ r) = true := decide_eq_true (by omega)
    have db : decide ((r : Int) ≤ 122) = false := decide_eq_false (by omega)
    have eb : decide (r ≤ 122) = false := decide_eq_false (by omega)
    have dc : decide ((48 : Int) ≤ (r : Int)) = true := decide_eq_true (by omega)
    have ec : decide (48 ≤ r) = true := decide_eq_true (by omega)
    have dd : decide ((r : Int) ≤ 57) = false := decide_eq_false (by omega)
    have ed : decide (r ≤ 57) = false := decide_eq_false (by omega)
    have df : decide ((945 : Int) ≤ (r : Int)) = true := decide_eq_true (by omega)
    have ef : decide (945 ≤ r) = true := decide_eq_true (by omega)
    have dg : decide ((r : Int) ≤ 969) = true := decide_eq_true (by omega)
    have eg : decide (r ≤ 969) = true := decide_eq_true (by omega)
    have de : ((r : Int) == 45) = false := beq_eq_false_iff_ne.2 (by omega)
    have ee : (r == 45) = false := beq_eq_false_iff_ne.2 (by omega)
    clear hc
    go_enter Tryz.func66, Tryz.ntmps66
    go_wp2_with fail
    go_ret
    exact ⟨rfl, rfl⟩
  · have hb : letB r = false := by
      unfold letB
      first
        | (simp only [Bool.or_eq_true, Bool.and_eq_true, decide_eq_true_eq]; omega)
        | (simp only [Bool.or_eq_false_iff, Bool.and_eq_false_iff, decide_eq_false_iff_not]; omega)
    rw [hb]
    clear hb
    have da : decide ((97 : Int) ≤ (r : Int)) = true := decide_eq_true (by omega)
    have ea : decide (97 ≤ r) = true := decide_eq_true (by omega)
    have db : decide ((r : Int) ≤ 122) = false := decide_eq_false (by omega)
    have eb : decide (r ≤ 122) = false := decide_eq_false (by omega)
    have dc : decide ((48 : Int) ≤ (r : Int)) = true := decide_eq_true (by omega)
    have ec : decide (48 ≤ r) = true := decide_eq_true (by omega)
    have dd : decide ((r : Int) ≤ 57) = false := decide_eq_false (by omega)
    have ed : decide (r ≤ 57) = false := decide_eq_false (by omega)
    have df : decide ((945 : Int) ≤ (r : Int)) = true := decide_eq_true (by omega)
    have ef : decide (945 ≤ r) = true := decide_eq_true (by omega)
    have dg : decide ((r : Int) ≤ 969) = false := decide_eq_false (by omega)
    have eg : decide (r ≤ 969) = false := decide_eq_false (by omega)
    have de : ((r : Int) == 45) = false := beq_eq_false_iff_ne.2 (by omega)
    have ee : (r == 45) = false := beq_eq_false_iff_ne.2 (by omega)
    clear hc
    go_enter Tryz.func66, Tryz.ntmps66
    go_wp2_with fail
    go_ret
    exact ⟨rfl, rfl⟩
theorem Fr.iterAt {F : Nat → Prop} {a b : World} (h : Fr F a b) {k : Nat} (hk : F k ∨ a.heap.size ≤ k) (s : ByteArray) (p : Nat) : Fr F a (b.iterAt k s p) :=
  ⟨h.os, h.tape, h.output, by rw [Lib.iterAt_size]; exact h.size, fun i hi hF => (Lib.iterAt_other b k i s p (fun e => by subst e; rcases hk with hk | hk; exact hF hk; omega)).trans (h.block i hi hF)⟩
theorem runes_zero {l : List UInt8} {pos n : Nat} (hinv : (runesW (decide (pos = 0)) (l.drop pos)).map (· + n) = runesW true l) (h : runesW (decide (pos = 0)) (l.drop pos) = none) : runesL l = 0 := by
  rw [h] at hinv
  have : runesW true l = none := hinv.symm
  unfold runesL runesN
  rw [this]; rfl
theorem runes_next {l : List UInt8} {pos n d : Nat} (hd : 1 ≤ d) (hinv : (runesW (decide (pos = 0)) (l.drop pos)).map (· + n) = runesW true l) (h : runesW (decide (pos = 0)) (l.drop pos) = (runesW false (l.drop (pos + d))).map (· + 1)) :
    (runesW (decide (pos + d = 0)) (l.drop (pos + d))).map (· + (n + 1)) = runesW true l := by
  rw [← hinv, h, show decide (pos + d = 0) = false from decide_eq_false (by omega)]
  cases runesW false (l.drop (pos + d)) with
  | none => rfl
  | some m => simp only [Option.map_some]; congr 1; omega
theorem runes_end {l : List UInt8} {pos n : Nat} (hp : ¬ pos < l.length) (hinv : (runesW (decide (pos = 0)) (l.drop pos)).map (· + n) = runesW true l) : runesN l = n := by
  rw [List.drop_eq_nil_of_le (by omega)] at hinv
  unfold runesN
  rw [← hinv]
  simp [runesW]
set_option maxRecDepth 20000 in
set_option maxHeartbeats 4000000 in
theorem runes_calls (l : List UInt8) (hl : l.length ≤ 9223372036854775807) (w : World) : Calls Tryz.prog 42 #[.string (str l)] w fun e w' => e = .returned (.int .i64 (runesL l : Nat)) ∧ Fr (fun _ => False) w w' := by
  obtain ⟨S, hS⟩ : ∃ s, s = str l := ⟨_, rfl⟩
  obtain ⟨K, hK⟩ : ∃ k, k = w.heap.size := ⟨_, rfl⟩
  obtain ⟨res, hres⟩ : ∃ n, n = runesL l := ⟨_, rfl⟩
  have hsz : S.size = l.length := by rw [hS, str_size]
  have HS := Lib.hid hS
  have HK := Lib.hid hK
  have HR := Lib.hid hres
  have HZ := Lib.hid hsz
  rw [← hS, ← hres]
  clear hS hK hres hsz
  go_enter Tryz.func42, Tryz.ntmps42
  go_wp2_with fail
  rw [← HK.out]
  go_loopw [3] (fun n wr => ∃ pos k : Nat, n = .int .i64 (k : Int) ∧ wr.heap[K]? = some (.stringIter S pos) ∧ Fr (fun _ => False) w wr ∧ k ≤ pos ∧ pos ≤ l.length ∧ (runesW (decide (pos = 0)) (l.drop pos)).map (· + k) = runesW true l) (fun _ wr => l.length - wr.iterPos K)
  case atStart =>
    refine ⟨0, 0, rfl, ?_, ?_, Nat.le_refl _, Nat.zero_le _, ?_⟩
    · rw [HK.out]; exact World.iter_heap w S 0
    · exact Fr.of_below ((Below.refl _ _).alloc (Nat.le_refl _) _)
    · rw [decide_eq_true rfl, List.drop_zero]; simp
  case round =>
    obtain ⟨pos, k, rfl, hit, hfr, hkp, hpl, hinv⟩ := hrel
    have HF := Lib.hid hfr
    by_cases hp : pos < l.length
    · have hpS : pos < S.size := by rw [HZ.out]; exact hp
      have hgo := runes_go l pos hp
      have hst := runes_stop l pos hp
      rw [← HS.out] at hgo hst
      have hnx : ∀ ty, (Instr.next (.pointer (some ⟨K, 0, none⟩)) true ty).run Tryz.prog wr = _ := fun ty => Lib.run_next_any_at wr K S pos ty hit hpS
      obtain ⟨r, hr⟩ : ∃ r, r = (Utf8.decode S pos).1 := ⟨_, rfl⟩
      obtain ⟨d, hd⟩ : ∃ r, r = (Utf8.decode S pos).2 := ⟨_, rfl⟩
      rw [← hr, ← hd] at hgo
      rw [← hr] at hst
      simp only [← hr, ← hd] at hnx
      have HI := Lib.hid (Lib.iterAt_heap wr K S pos (pos + d) hit)
      have HF2 := Lib.hid (HF.out.iterAt (.inr (Nat.le_of_eq HK.out.symm)) S (pos + d))
      have HINV := Lib.hid hinv
      have HGO := Lib.hid hgo
      have HST := Lib.hid hst
      have HIT := Lib.hid hit
      clear hr hd hgo hst hinv hit hfr
      cases hL : letB r with
      | false =>
        have HL := Lib.hid hL
        clear hL
        go_wp2_with fail
        refine (letter_calls r _).mono ?_
        rintro e w2 ⟨rfl, hww⟩
        rw [hww, HL.out]
        clear hww w2
        go_wp2_with fail
        go_ret
        exact ⟨by rw [HR.out, runes_zero HINV.out (HST.out (.inl HL.out))]; rfl, HF2.out⟩
      | true =>
        have HL := Lib.hid hL
        clear hL
        by_cases h0 : pos = 0
        · by_cases h45 : r = 45
          · have HB := Lib.hid (runes_zero HINV.out (HST.out (.inr ⟨h0, h45⟩)))
            have t1 : ((pos : Int) == 0) = true := by rw [h0]; rfl
            have t2 : ((r : Int) == 45) = true := by rw [h45]; rfl
            clear h0 h45
            go_wp2_with fail
            refine (letter_calls r _).mono ?_
            rintro e w2 ⟨rfl, hww⟩
            rw [hww, HL.out]
            clear hww w2
            go_wp2_with fail
            go_ret
            exact ⟨by rw [HR.out, HB.out]; rfl, HF2.out⟩
          · have HG := Lib.hid (HGO.out HL.out (fun h => h45 h.2))
            have t1 : ((pos : Int) == 0) = true := by rw [h0]; rfl
            have t2 : ((r : Int) == 45) = false := beq_eq_false_iff_ne.2 (by omega)
            clear h0 h45
            go_wp2_with fail
            refine (letter_calls r _).mono ?_
            rintro e w2 ⟨rfl, hww⟩
            rw [hww, HL.out]
            clear hww w2
            go_wp2_with fail
            go_roundw
            case rel => exact ⟨pos + d, k + 1, by go_num, HI.out, HF2.out, by have := HG.out; omega, HG.out.2.1, runes_next HG.out.2.2.1 HINV.out HG.out.1⟩
            case measure => simp only [World.iterPos, HI.out, HIT.out]; have := HG.out; omega
        · have HG := Lib.hid (HGO.out HL.out (fun h => h0 h.1))
          have t1 : ((pos : Int) == 0) = false := beq_eq_false_iff_ne.2 (by omega)
          have t1' : (pos == 0) = false := beq_eq_false_iff_ne.2 h0
          clear h0
          go_wp2_with fail
          refine (letter_calls r _).mono ?_
          rintro e w2 ⟨rfl, hww⟩
          rw [hww, HL.out]
          clear hww w2
          go_wp2_with fail
          go_roundw
          case rel => exact ⟨pos + d, k + 1, by go_num, HI.out, HF2.out, by have := HG.out; omega, HG.out.2.1, runes_next HG.out.2.2.1 HINV.out HG.out.1⟩
          case measure => simp only [World.iterPos, HI.out, HIT.out]; have := HG.out; omega
    · have hpS : ¬ pos < S.size := by rw [HZ.out]; exact hp
      have hnx : ∀ ty, (Instr.next (.pointer (some ⟨K, 0, none⟩)) true ty).run Tryz.prog wr = _ := fun ty => Lib.run_next_end_at wr K S pos ty hit hpS
      have hN := runes_end hp hinv
      clear hit hinv hfr hpS hp
      by_cases h32 : 32 < k
      · have t1 : decide ((32 : Int) < (k : Int)) = true := decide_eq_true (by omega)
        have t2 : decide (32 < k) = true := decide_eq_true h32
        have HE := Lib.hid (show res = 0 by rw [HR.out]; unfold runesL; rw [hN, if_pos h32])
        clear hN h32
        go_wp2_with fail
        go_ret
        exact ⟨by rw [HE.out]; rfl, HF.out⟩
      · have t1 : decide ((32 : Int) < (k : Int)) = false := decide_eq_false (by omega)
        have t2 : decide (32 < k) = false := decide_eq_false h32
        have HE := Lib.hid (show res = k by rw [HR.out]; unfold runesL; rw [hN, if_neg h32])
        clear hN h32
        go_wp2_with fail
        go_ret
        exact ⟨by rw [HE.out]; rfl, HF.out⟩
set_option maxRecDepth 20000 in
set_option maxHeartbeats 1000000 in
theorem right_name (l : List UInt8) (hl : l.length ≤ 9223372036854775807) (w : World) : Calls Tryz.prog 23 #[.string (str l)] w fun e w' => e = .returned (.bool (decide (0 < runesL l))) ∧ Fr (fun _ => False) w w' := by
  obtain ⟨S, hS⟩ : ∃ s, s = str l := ⟨_, rfl⟩
  obtain ⟨n, hn⟩ : ∃ n, n = runesL l := ⟨_, rfl⟩
  have HC := Lib.hid (show ∀ w, Calls Tryz.prog 42 #[.string S] w fun e w' => e = .returned (.int .i64 (n : Int)) ∧ Fr (fun _ => False) w w' from fun w => by rw [hS, hn]; exact runes_calls l hl w)
  rw [← hS, ← hn]
  clear hS hn hl
  by_cases h0 : 0 < n
  · rw [decide_eq_true h0]
    have t1 : decide ((0 : Int) < (n : Int)) = true := decide_eq_true (by omega)
    have t2 : decide (0 < n) = true := decide_eq_true h0
    clear h0
    go_enter Tryz.func23, Tryz.ntmps23
    go_wp2_with fail
    refine (HC.out w).mono ?_
    rintro e w1 ⟨rfl, f1⟩
    have G1 := Lib.hid f1
    clear f1
    go_wp2_with fail
    go_ret
    exact ⟨rfl, G1.out⟩
  · rw [decide_eq_false h0]
    have t1 : decide ((0 : Int) < (n : Int)) = false := decide_eq_false (by omega)
    have t2 : decide (0 < n) = false := decide_eq_false h0
    clear h0
    go_enter Tryz.func23, Tryz.ntmps23
    go_wp2_with fail
    refine (HC.out w).mono ?_
    rintro e w1 ⟨rfl, f1⟩
    have G1 := Lib.hid f1
    clear f1
    go_wp2_with fail
    go_ret
    exact ⟨rfl, G1.out⟩
end Go.Proofs.YtcchhfkmhbjdmaaGreat
