/- The digest: Of, Equal. -/
import Derived.Test.YtcchhfkmhbjdmaaJb
set_option linter.unusedVariables false
set_option linter.unusedSimpArgs false
set_option pp.deepTerms true
set_option pp.maxSteps 100000
namespace Go.Proofs.Ytcchhfkmhbjdmaa
open Go.RowKit
theorem dig_sum (l : List UInt8) : dig l = (Tal.new.add l).sum := rfl
set_option maxRecDepth 20000 in
set_option maxHeartbeats 4000000 in
theorem sha_of (B cap : Nat) (parts : List (List UInt8)) (w : World) (hc : ∀ j s, parts[j]? = some s → w.cell? ⟨B, j, none⟩ = some (.string (str s))) (hbig : parts.flatten.length ≤ 549755813888) (hpl : parts.length ≤ 1000000000) (hB : B < w.heap.size) :
    Calls Try.prog 33 #[.slice (some ⟨B, 0, none⟩) parts.length cap] w fun e w' => e = .returned (.string (str (dig parts.flatten))) ∧ Fr (fun _ => False) w w' := by
  have HC := Lib.hid hc
  have HBG := Lib.hid hbig
  obtain ⟨n, hn⟩ : ∃ n, n = parts.length := ⟨_, rfl⟩
  have HN := Lib.hid hn
  have hn1 : n ≤ 1000000000 := by omega
  rw [← hn]
  clear hc hbig hn hpl
  go_enter Try.func33, Try.ntmps33
  go_wp2_with fail
  refine (sha_new w).mono ?_
  rintro e w1 ⟨T, K, rfl, h1, hT, hK, hf1⟩
  have H1 := Lib.hid h1
  have HF1 := Lib.hid hf1
  have HT := Lib.hid hT
  have HKK := Lib.hid hK
  clear h1 hf1 hT hK
  go_wp2_with fail
  go_loopw [9] (fun v wr => ∃ i : Nat, i ≤ n ∧ v = .int .i64 i ∧ TRep wr T K (Tal.new.add (parts.take i).flatten) ∧ Fr (fun _ => False) w wr) (fun v _ => n - (intOf v).toNat)
  case atStart => exact ⟨0, Nat.zero_le _, rfl, by
    have := H1.out
    rw [show (parts.take 0).flatten = [] from rfl, Tal.add_nil _ (by decide)]
    exact this, HF1.out⟩
  case round =>
    obtain ⟨i, hi, rfl, ht, hf⟩ := hrel
    have HTr := Lib.hid ht
    have HF := Lib.hid hf
    clear ht hf H1 HF1
    by_cases hlt : i < n
    · have hx : (i : Int) < (n : Int) := by omega
      obtain ⟨s, hs⟩ : ∃ s, parts[i]? = some s := ⟨parts[i]'(by rw [← HN.out]; exact hlt), List.getElem?_eq_getElem (by rw [← HN.out]; exact hlt)⟩
      have c1 : wr.cell? ⟨B, i, none⟩ = some (.string (str s)) := HF.out.cell (HC.out i s hs) id
      have HX := Lib.hid (show (parts.take (i + 1)).flatten = (parts.take i).flatten ++ s by
        rw [List.take_add_one, hs, Option.toList_some, List.flatten_append]; simp)
      have HLE := Lib.hid (show (Tal.new.add (parts.take i).flatten).n + s.length ≤ 1099511627776 by
        have h1 : (parts.take (i + 1)).flatten.length ≤ parts.flatten.length := by
          conv => rhs; rw [← List.take_append_drop (i + 1) parts, List.flatten_append, List.length_append]
          omega
        rw [HX.out, List.length_append] at h1
        have := HBG.out
        show 0 + (parts.take i).flatten.length + s.length ≤ _
        omega)
      clear hs
      go_wp2_with fail
      refine (sha_add T K _ s HLE.out wr HTr.out).mono ?_
      rintro e w2 ⟨rfl, h2, hf2⟩
      have H2 := Lib.hid (show TRep w2 T K (Tal.new.add (parts.take (i + 1)).flatten) by rw [HX.out, Tal.add_append]; exact h2)
      have HF2 := Lib.hid (HF.out.trans hf2 (fun i hi => .inr (by rw [hi]; exact HT.out)))
      clear h2 hf2
      go_wp2_with fail
      go_roundw
      case rel => exact ⟨i + 1, by omega, by go_num, H2.out, HF2.out⟩
      case measure => simp [intOf]; omega
    · have hie : i = n := by omega
      have HTe := Lib.hid (show TRep wr T K (Tal.new.add parts.flatten) by
        have := HTr.out
        rwa [hie, HN.out, List.take_length] at this)
      clear hie
      go_wp2_with fail
      refine (sha_sum T K _ (by show 0 + parts.flatten.length ≤ _; have := HBG.out; omega) wr HTe.out).mono ?_
      rintro e w2 ⟨rfl, hf2⟩
      have HF2 := Lib.hid (HF.out.trans hf2 (fun i hi => hi.elim))
      clear hf2
      go_wp2_with fail
      go_ret
      exact ⟨rfl, HF2.out⟩
theorem or_zero (v x y : UInt8) : (v ||| (x ^^^ y)) = 0 ↔ v = 0 ∧ x = y := by
  constructor
  · intro h
    have h1 : v = 0 := by
      apply UInt8.toNat_inj.mp
      have := congrArg UInt8.toNat h
      rw [UInt8.toNat_or] at this
      have h2 : v.toNat ≤ v.toNat ||| (x ^^^ y).toNat := Nat.left_le_or
      have h3 : (0 : UInt8).toNat = 0 := rfl
      omega
    refine ⟨h1, ?_⟩
    rw [h1, UInt8.zero_or] at h
    exact UInt8.xor_eq_zero_iff.mp h
  · rintro ⟨rfl, rfl⟩
    simp
set_option maxRecDepth 20000 in
set_option maxHeartbeats 4000000 in
theorem sha_equal (a b : List UInt8) (hal : a.length ≤ 4294967296) (w : World) : Calls Try.prog 77 #[.string (str a), .string (str b)] w fun e w' => e = .returned (.bool (decide (a = b))) ∧ Fr (fun _ => False) w w' := by
  have ha : (str a).size = a.length := str_size a
  have hb : (str b).size = b.length := str_size b
  by_cases hl : a.length = b.length
  · have q1 : ((a.length : Int) != (b.length : Int)) = false := by simp [hl]
    have HL := Lib.hid hl
    obtain ⟨n, hn⟩ : ∃ n, n = a.length := ⟨_, rfl⟩
    have hbn : b.length = n := by omega
    have HN := Lib.hid hn
    rw [← hn] at ha q1
    rw [hbn] at hb q1
    have HBN := Lib.hid hbn
    have hnb : n ≤ 4294967296 := by omega
    clear hl hn hbn hal
    go_enter Try.func77, Try.ntmps77
    go_wp2
    go_loopw [5, 14] (fun v5 v wr => ∃ (i : Nat) (x : UInt8), i ≤ n ∧ v = .int .i64 i ∧ v5 = .int .u8 (x.toNat : Int) ∧ (x = 0 ↔ a.take i = b.take i) ∧ Fr (fun _ => False) w wr) (fun _ v _ => n - (intOf v).toNat)
    case atStart => exact ⟨0, 0, Nat.zero_le _, rfl, rfl, by simp, Fr.refl _ _⟩
    case round =>
      obtain ⟨i, x, hi, rfl, rfl, hx, hf⟩ := hrel
      have HX := Lib.hid hx
      have HF := Lib.hid hf
      clear hx hf
      by_cases hlt : i < n
      · have hin : (i : Int) < (n : Int) := by omega
        obtain ⟨y, hy⟩ : ∃ y, y = a.getD i 0 := ⟨_, rfl⟩
        obtain ⟨z, hz⟩ : ∃ y, y = b.getD i 0 := ⟨_, rfl⟩
        have hya : ∀ h, (str a)[i]'h = y := fun h => by rw [str_at32, hy]
        have hzb : ∀ h, (str b)[i]'h = z := fun h => by rw [str_at32, hz]
        obtain ⟨p, hp⟩ : ∃ p, p = y ^^^ z := ⟨_, rfl⟩
        have e1 := xor_u8 y z
        rw [← hp] at e1
        have e2 := or_u8 x p
        obtain ⟨q, hq⟩ : ∃ q, q = x ||| p := ⟨_, rfl⟩
        rw [← hq] at e2
        have HQ := Lib.hid (show q = 0 ↔ a.take (i + 1) = b.take (i + 1) by
          have hga : a[i]? = some y := by rw [hy, List.getD_eq_getElem?_getD, List.getElem?_eq_getElem (by rw [← HN.out]; exact hlt)]; rfl
          have hgb : b[i]? = some z := by rw [hz, List.getD_eq_getElem?_getD, List.getElem?_eq_getElem (by rw [HBN.out]; exact hlt)]; rfl
          rw [hq, hp, or_zero, HX.out, List.take_add_one, List.take_add_one, hga, hgb]
          constructor
          · rintro ⟨h1, rfl⟩; rw [h1]
          · intro h
            have h2 := List.append_inj h (by rw [List.length_take, List.length_take, ← HN.out, HBN.out])
            exact ⟨h2.1, by simpa using h2.2⟩)
        have bx := x.toNat_lt
        have by1 := y.toNat_lt
        have bz := z.toNat_lt
        have bp := p.toNat_lt
        have bq := q.toNat_lt
        clear hy hz hp hq
        go_wp2
        refine wp_region_still_tail 9 (by kernel_rfl) (by kernel_rfl) ?_
        simp only [List.take_succ_cons, List.take_zero, List.drop_succ_cons, List.drop_zero]
        change wpStill _ _ wr.drew (fun a' => wpList _ _ _ _ a' wr.drew) _ _
        repeat still_step
        refine wpStill_nil ?_
        go_wp2
        go_roundw
        case rel => exact ⟨i + 1, q, by omega, by go_num, rfl, HQ.out, HF.out.drew⟩
        case measure => simp [intOf]; omega
      · have hie : i = n := by omega
        have HE := Lib.hid (show x = 0 ↔ a = b by
          have := HX.out
          rwa [hie, List.take_of_length_le (by rw [← HN.out]; omega), List.take_of_length_le (by rw [HBN.out]; omega)] at this)
        have hzz : ((x.toNat : Int) == 0) = decide (a = b) := by
          rw [Bool.eq_iff_iff, beq_iff_eq, decide_eq_true_iff, ← HE.out]
          constructor
          · intro h; exact UInt8.toNat_inj.mp (by have h2 : (0 : UInt8).toNat = 0 := rfl; omega)
          · intro h; rw [h]; rfl
        clear hie
        go_wp2
        go_ret
        exact ⟨rfl, HF.out⟩
  · have q1 : ((a.length : Int) != (b.length : Int)) = true := by simp; omega
    have hd : decide (a = b) = false := decide_eq_false (fun h => hl (by rw [h]))
    rw [hd]
    go_enter Try.func77, Try.ntmps77
    go_wp2
    go_ret
    exact ⟨rfl, Fr.refl _ _⟩
end Go.Proofs.Ytcchhfkmhbjdmaa
