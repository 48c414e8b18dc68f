/- Labels: Text, walked. -/
import Derived.Test.YtcchhfkmhbjdmaaGreatLj
set_option linter.unusedVariables false
set_option linter.unusedSimpArgs false
set_option pp.deepTerms true
set_option pp.maxSteps 100000
namespace Go.Proofs.YtcchhfkmhbjdmaaGreat
open Go.RowKit Go.Shelf
theorem textL_append (l m : List Pr) : textP (l ++ m) = textP l ++ textP m := by simp [textP]
theorem textL_take (l : List Pr) (k : Nat) (hk : k < l.length) : textP (l.take (k + 1)) = (textP (l.take k) ++ encS l[k].1) ++ encS l[k].2 := by
  rw [List.take_succ_eq_append_getElem hk, textL_append, List.append_assoc]
  simp [textP, encB]
theorem encS_length (s : List UInt8) : (encS s).length = s.length + 1 := by simp [encS]
theorem textL_length (l : List Pr) (h : ∀ p ∈ l, p.1.length ≤ 32 ∧ p.2.length ≤ 64) : (textP l).length ≤ 98 * l.length := by
  induction l with
  | nil => simp [textP]
  | cons p l ih =>
    have h1 := h p (by simp)
    have h2 := ih (fun q hq => h q (by simp [hq]))
    have e : textP (p :: l) = encS p.1 ++ (encS p.2 ++ textP l) := by simp [textP, encB]
    rw [e, List.length_append, List.length_append, encS_length, encS_length, List.length_cons]
    omega
theorem prOk_le {p : Pr} (h : prOk p = true) : p.1.length ≤ 32 ∧ p.2.length ≤ 64 := by
  simp only [prOk, Bool.and_eq_true, decide_eq_true_eq] at h
  omega
set_option maxRecDepth 20000 in
set_option maxHeartbeats 1000000 in
theorem text_no (a : Option Addr) (cap : Nat) (l : List Pr) (hl : l.length ≤ 100000) (hsm : ∀ p ∈ l, p.1.length ≤ 100000 ∧ p.2.length ≤ 100000) (w : World) (hb : PSl w a l) (hlc : l.length ≤ cap) (hcap : cap ≤ 9223372036854775807) (hr : rightB l = false) :
    Calls Tryz.prog 14 #[.slice a l.length cap] w fun e w' => e = .returned (.tuple #[.string ⟨#[]⟩, .int .i64 2]) ∧ Fr (fun _ => False) w w' := by
  have HR := right_calls a cap l hl hsm w hb hlc hcap
  rw [hr] at HR
  have HRR := Lib.hid HR
  clear HR hl hsm hb hlc hcap hr
  go_enter Tryz.func14, Tryz.ntmps14
  go_wp2_with fail
  refine HRR.out.mono ?_
  rintro e w1 ⟨rfl, f1⟩
  have G1 := Lib.hid f1
  clear f1
  go_wp2_with fail
  go_ret2
  exact ⟨rfl, G1.out⟩
set_option maxRecDepth 20000 in
set_option maxHeartbeats 4000000 in
theorem text_yes (a : Option Addr) (cap : Nat) (l : List Pr) (w : World) (hb : PSl w a l) (hlc : l.length ≤ cap) (hcap : cap ≤ 9223372036854775807) (hr : rightB l = true) :
    Calls Tryz.prog 14 #[.slice a l.length cap] w fun e w' => e = .returned (.tuple #[.string (str (textOf l)), .int .i64 0]) ∧ Fr (fun _ => False) w w' := by
  have hri := (rightB_iff l).1 hr
  have hsm : ∀ p ∈ l, p.1.length ≤ 32 ∧ p.2.length ≤ 64 := fun p hp => prOk_le (hri.1 p hp)
  have h8 := hri.2.2
  have HR := right_calls a cap l (by omega) (fun p hp => by have := hsm p hp; omega) w hb hlc hcap
  rw [hr] at HR
  have HRR := Lib.hid HR
  obtain ⟨m, hm⟩ : ∃ m, m = sortR l := ⟨_, rfl⟩
  have HSo := Lib.hid (show ∀ w', Fr (fun _ => False) w w' → Calls Tryz.prog 28 #[.slice a l.length cap] w' fun e w2 => ∃ v, e = .returned v ∧ PV w2 v m ∧ Fr (fun _ => False) w' w2 from fun w' hf => by rw [hm]; exact sorted_calls a cap l (by omega) hri.2.1 w' (hb.frF hf) hlc hcap)
  have hml : m.length = l.length := by rw [hm, sortR_length]
  have hmsm : ∀ p ∈ m, p.1.length ≤ 32 ∧ p.2.length ≤ 64 := fun p hp => hsm p ((sortR_perm l).mem_iff.1 (hm ▸ hp))
  have HMS := Lib.hid hmsm
  have HML := Lib.hid (And.intro hml h8)
  obtain ⟨res, hres⟩ : ∃ s, s = str (textOf l) := ⟨_, rfl⟩
  have HRes := Lib.hid (show res = str (textP m) by rw [hres, hm]; rfl)
  rw [← hres]
  clear HR hb hlc hcap hr hri hsm h8 hm hml hmsm hres
  go_enter Tryz.func14, Tryz.ntmps14
  go_wp2_with fail
  refine HRR.out.mono ?_
  rintro e w1 ⟨rfl, f1⟩
  have G1 := Lib.hid f1
  clear f1
  go_wp2_with fail
  have hnb := heap_alloc_new w1 (.cells #[.pointer none, .slice none 0 0] 57)
  refine (HSo.out _ (G1.out.alloc _)).mono ?_
  rintro e w2 ⟨v, rfl, ⟨a2, cap2, rfl, hps, hlc2, hcap2⟩, f2⟩
  obtain ⟨b, hbd⟩ : ∃ b, b = w1.heap.size := ⟨_, rfl⟩
  rw [← hbd] at hnb ⊢
  have hb2 := f2.heap hnb id
  have HBsz := Lib.hid (show b < w2.heap.size from lt_of_heap hb2)
  have G2 := Lib.hid ((G1.out.alloc (.cells #[.pointer none, .slice none 0 0] 57)).trans f2 (fun i hi => hi.elim))
  have hBD : BD w2 b w2.heap.size [] := ⟨_, _, .inl rfl, hb2, rfl, .inl ⟨rfl, rfl⟩⟩
  have HBD := Lib.hid hBD
  have HPS := Lib.hid hps
  have Hbw := Lib.hid (show w.heap.size ≤ b by rw [hbd]; exact G1.out.size)
  obtain ⟨n, hn⟩ : ∃ n, n = m.length := ⟨_, rfl⟩
  have HN := Lib.hid hn
  rw [← hn] at hlc2 ⊢
  clear hnb hbd hb2 hBD hps f2 hn
  go_wp2_with fail
  obtain ⟨B, hBB⟩ : ∃ B, B = w2.heap.size := ⟨_, rfl⟩
  have HB := Lib.hid hBB
  clear hBB
  go_loopw [15] (fun i wr => ∃ k : Nat, k ≤ n ∧ i = .int .i64 (k : Int) ∧ BD wr b B (textP (m.take k)) ∧ Fr (FU b B w2) w2 wr) (fun i _ => n - (intOf i).toNat)
  case atStart =>
    refine ⟨0, Nat.zero_le _, rfl, ?_, Fr.refl _ _⟩
    rw [HB.out]; exact HBD.out
  case round =>
    obtain ⟨k, hk, rfl, hbd, hfr⟩ := hrel
    have HD := Lib.hid hbd
    have HF := Lib.hid hfr
    by_cases hlt : k < n
    · have hkm : k < m.length := by rw [← HN.out]; exact hlt
      rcases HPS.out with h0 | ⟨b', off, rfl, hpb, hb'⟩
      · exact absurd hkm (by rw [h0]; simp)
      · have hne : b' ≠ b ∧ b' < B ∨ b' = b := by have := HB.out; omega
        rcases hne with ⟨hnb, hltB⟩ | hnb
        rotate_left
        · exfalso
          obtain ⟨p, v, hp, hh, _⟩ := HBD.out
          have hc := hpb k _ (List.getElem?_eq_getElem hkm) 0 _ rfl
          have hc1 := hpb k _ (List.getElem?_eq_getElem hkm) 1 _ rfl
          subst hnb
          have h0 : ∀ j, w2.cell? ⟨b', j, none⟩ = #[p, v][j]? := fun j => cell_of_row w2 b' j _ _ _ hh
          rw [h0] at hc hc1
          have h1 : ∀ j (s : ByteArray), #[p, v][j]? = some (Value.string s) → j = 1 := fun j s hj => by
            match j with
            | 0 => simp at hj; rcases hp with rfl | rfl <;> cases hj
            | 1 => rfl
            | n + 2 => simp at hj
          have e0 := h1 _ _ hc
          have e1 := h1 _ _ hc1
          omega
        · have hpb' := hpb.fr HF.out (by intro h; rcases h with h | ⟨h, _⟩; exact hnb h; omega)
          obtain ⟨c0, c1⟩ := hpb'.cells k hkm
          have hsz := HMS.out _ (List.getElem_mem hkm)
          have htk := textL_take m k hkm
          have htl := textL_length (m.take k) (fun p hp => HMS.out p (List.mem_of_mem_take hp))
          have htl' : (textP (m.take k)).length ≤ 800 := by
            have h1 := HML.out; rw [List.length_take] at htl; omega
          obtain ⟨kk, hkk⟩ : ∃ x, x = m[k].1 := ⟨_, rfl⟩
          obtain ⟨vv, hvv⟩ : ∃ x, x = m[k].2 := ⟨_, rfl⟩
          rw [← hkk] at c0 htk hsz
          rw [← hvv] at c1 htk hsz
          obtain ⟨K, hK⟩ : ∃ s, s = str kk := ⟨_, rfl⟩
          obtain ⟨V, hV⟩ : ∃ s, s = str vv := ⟨_, rfl⟩
          rw [← hK] at c0
          rw [← hV] at c1
          obtain ⟨D, hD⟩ : ∃ D, D = wr.heap.size := ⟨_, rfl⟩
          have hszr : B ≤ wr.heap.size := by rw [HB.out]; exact HF.out.size
          have HP1 := Lib.hid (show ∀ w', Fr (fun _ => False) wr w' → Calls Tryz.prog 25 #[.string K, .pointer (some ⟨b, 0, none⟩)] w' fun e w3 => e = .returned (.tuple #[]) ∧ BD w3 b B (textP (m.take k) ++ encS kk) ∧ Fr (FU b B w') w' w3 from fun w' hf => by
            rw [hK]
            exact put_calls B b _ kk w' (HD.out.fr hf id (fun _ _ => id)) (by have := HB.out; have := HBsz.out; omega) (Nat.le_trans hszr hf.size) (by omega))
          have HP2 := Lib.hid (show ∀ w', BD w' b B (textP (m.take k) ++ encS kk) → wr.heap.size ≤ w'.heap.size → Calls Tryz.prog 25 #[.string V, .pointer (some ⟨b, 0, none⟩)] w' fun e w3 => e = .returned (.tuple #[]) ∧ BD w3 b B (textP (m.take (k + 1))) ∧ Fr (FU b B w') w' w3 from fun w' h hs => by
            rw [hV, htk]
            exact put_calls B b _ vv w' h (by have := HB.out; have := HBsz.out; omega) (Nat.le_trans hszr hs) (by rw [List.length_append, encS_length]; omega))
          have hi0 : (k : Int) < (n : Int) := by omega
          have HZ := Lib.hid (show B ≤ wr.heap.size from hszr)
          clear hkk hvv hK hV htk htl htl' hsz hpb' hpb hnb hltB hb' hbd hfr hD hszr
          go_wp2_with fail
          refine (HP1.out _ ((Fr.refl _ _).alloc _)).mono ?_
          rintro e w3 ⟨rfl, h3, f3⟩
          have hblk := heap_alloc_new wr (.cells #[.string K, .string V] 42)
          have hnp : ¬ FU b B (wr.alloc (.cells #[.string K, .string V] 42)) wr.heap.size := by
            rintro (h | ⟨_, cs, fz, h⟩)
            · have := HZ.out; have := HB.out; have := HBsz.out; omega
            · rw [hblk] at h; cases h
          have hb3 := f3.heap hblk hnp
          have c3 : w3.cell? ⟨wr.heap.size, 1, none⟩ = some (.string V) := (cell_of_row w3 _ 1 _ _ _ hb3).trans rfl
          have HD3 := Lib.hid h3
          have HS3 := Lib.hid (show wr.heap.size ≤ w3.heap.size by have := f3.size; simp at this; omega)
          have HF3 := Lib.hid (show Fr (FU b B w2) w2 w3 from FU.trans (HF.out.alloc (.cells #[.string K, .string V] 42)) f3)
          clear h3 f3 hblk hnp hb3
          go_wp2_with fail
          refine (HP2.out _ HD3.out HS3.out).mono ?_
          rintro e w4 ⟨rfl, h4, f4⟩
          have HD4 := Lib.hid h4
          have HF4 := Lib.hid (FU.trans HF3.out f4)
          clear h4 f4
          go_wp2_with fail
          go_roundw
          case rel => exact ⟨k + 1, by omega, by go_num, HD4.out, HF4.out⟩
          case measure => simp [intOf]; omega
    · obtain rfl : k = n := by omega
      have hge : ¬ (k : Int) < (k : Int) := by omega
      rw [show m.take k = m by rw [HN.out]; exact List.take_of_length_le (Nat.le_refl _)] at hbd
      have HStr := Lib.hid (lb_string B b (textP m) wr hbd (by have := HB.out; have := HBsz.out; omega) (by have := HF.out.size; have := HBsz.out; omega))
      clear hbd hfr HD
      go_wp2_with fail
      refine HStr.out.mono ?_
      rintro e w5 ⟨rfl, hbl⟩
      have HF5 := Lib.hid (show Fr (fun _ => False) w w5 from (G2.out.trans HF.out (fun i hi => .inr (by rcases hi with h | ⟨h, _⟩; rw [h]; exact Hbw.out; have := HB.out; have := G2.out.size; omega))).trans (G := fun j => b ≤ j) ⟨hbl.os, hbl.tape, hbl.output, hbl.size, fun i hi hn => hbl.block i (by omega)⟩ (fun i hi => .inr (by have := Hbw.out; omega)))
      clear hbl
      go_wp2_with fail
      go_ret2
      exact ⟨by rw [HRes.out]; rfl, HF5.out⟩
theorem ptext_calls (a : Option Addr) (cap : Nat) (l : List Pr) (hl : l.length ≤ 100000) (hsm : ∀ p ∈ l, p.1.length ≤ 100000 ∧ p.2.length ≤ 100000) (w : World) (hb : PSl w a l) (hlc : l.length ≤ cap) (hcap : cap ≤ 9223372036854775807) :
    Calls Tryz.prog 14 #[.slice a l.length cap] w fun e w' => e = .returned (.tuple #[.string (str (if rightB l then textOf l else [])), .int .i64 (if rightB l then 0 else 2)]) ∧ Fr (fun _ => False) w w' := by
  cases hr : rightB l with
  | false => exact text_no a cap l hl hsm w hb hlc hcap hr
  | true => exact text_yes a cap l w hb hlc hcap hr
end Go.Proofs.YtcchhfkmhbjdmaaGreat
