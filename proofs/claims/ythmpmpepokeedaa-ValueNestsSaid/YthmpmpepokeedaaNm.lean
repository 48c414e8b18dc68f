/- Values: within, told, Int, Text, Bool, List, MustText, Same walked. -/
import Derived.Test.YthmpmpepokeedaaNl
set_option linter.unusedVariables false
set_option linter.unusedSimpArgs false
set_option pp.deepTerms true
set_option pp.maxSteps 100000
namespace Go.Proofs.Ythmpmpepokeedaa
open Go.RowKit
attribute [local go_sem] ta_ii ta_is ta_ib ta_il ta_si ta_ss ta_sb ta_sl ta_bi ta_bs ta_bb ta_bl ta_li ta_ls ta_lb ta_ll ta_ni ta_fi ta_ns ta_fs ta_nb ta_fb ta_nl ta_fl
/-- What is come to, and the error. -/
def withinA : AV → List Int → AV × Nat
  | a, [] => (a, 0)
  | .row l, i :: r => if i < 0 ∨ (l.length : Int) ≤ i then (.non, 4) else withinA (l.getD i.toNat .non) r
  | _, _ :: _ => (.non, 9)
/-- Whole numbers at A. -/
def IntsAt (w : World) (A : Option Addr) (l : List Int) : Prop := ∀ (i : Nat) (x : Int), l[i]? = some x → ∃ b off, A = some ⟨b, off, none⟩ ∧ w.cell? ⟨b, off + i, none⟩ = some (.int .i64 x)
theorem IntsAt.frF {w w' : World} {A : Option Addr} {l : List Int} (h : IntsAt w A l) (hf : Fr (fun _ => False) w w') : IntsAt w' A l := fun i x hx => by
  obtain ⟨b, off, e, hc⟩ := h i x hx
  exact ⟨b, off, e, hf.cell hc id⟩
theorem within_leaf (a : AV) (ha : ∀ l, a ≠ .row l) (i : Int) (r : List Int) : withinA a (i :: r) = (.non, 9) := by
  cases a <;> first | rfl | exact absurd rfl (ha _)
set_option maxRecDepth 20000 in
set_option maxHeartbeats 8000000 in
theorem within_calls (a : AV) (D : Nat → Prop) (v : Value) (A : Option Addr) (cap : Nat) (l : List Int) (w : World) (hr : AR w D a v) (hl : IntsAt w A l) (hlc : l.length ≤ cap) (hcap : cap ≤ 9223372036854775807) :
    Calls Try.prog 57 #[v, .slice A l.length cap] w fun e w' => ∃ v', e = .returned (.tuple #[v', .int .i64 ((withinA a l).2 : Int)]) ∧ AR w' D (withinA a l).1 v' ∧ Fr (fun _ => False) w w' := by
  obtain ⟨n, hn⟩ : ∃ n, n = l.length := ⟨_, rfl⟩
  obtain ⟨R, hR⟩ : ∃ R, R = withinA a l := ⟨_, rfl⟩
  rw [← hn] at hlc ⊢
  rw [← hR]
  have HN := Lib.hid hn
  have HR := Lib.hid hR
  have HL := Lib.hid hl
  have HA := Lib.hid hr
  clear hn hR hl hr
  go_enter Try.func57, Try.ntmps57
  go_wp2_with fail
  go_loopw [0, 12] (fun v i wr => ∃ (u : Nat) (x : AV), u ≤ n ∧ i = .int .i64 (u : Int) ∧ AR w D x v ∧ Aside (R = withinA x (l.drop u)) ∧ Fr (fun _ => False) w wr) (fun _ i _ => n - (intOf i).toNat)
  case atStart => exact ⟨0, a, Nat.zero_le _, rfl, HA.out, by rw [HR.out]; rfl, Fr.refl _ _⟩
  case round =>
    obtain ⟨u, x, hu, rfl, hx, hrr, hfr⟩ := hrel
    have HF := Lib.hid hfr
    have HX := Lib.hid hx
    have HRR := Lib.hid (show R = withinA x (l.drop u) from hrr)
    clear hrr
    by_cases hlt : u < n
    · have hul : u < l.length := by rw [← HN.out]; exact hlt
      have hi0 : (u : Int) < (n : Int) := by omega
      obtain ⟨i, hi⟩ : ∃ i, i = l[u] := ⟨_, rfl⟩
      obtain ⟨b, off, rfl, hcell⟩ := HL.out u i (by rw [hi]; exact List.getElem?_eq_getElem hul)
      have ci : wr.cell? ⟨b, off + u, none⟩ = some (.int .i64 i) := hfr.cell hcell id
      have hdrop : l.drop u = i :: l.drop (u + 1) := by rw [hi]; exact List.drop_eq_getElem_cons hul
      rw [hdrop] at HRR
      by_cases hrow : ∃ m, x = .row m
      · obtain ⟨m, rfl⟩ := hrow
        cases hx with
        | row m g cp vs hmc hmcap hD hb hc hh =>
          obtain ⟨q, hq⟩ : ∃ q, q = m.length := ⟨_, rfl⟩
          have hw : withinA (.row m) (i :: l.drop (u + 1)) = if i < 0 ∨ (m.length : Int) ≤ i then (.non, 4) else withinA (m.getD i.toNat .non) (l.drop (u + 1)) := rfl
          rw [hw] at HRR
          rw [← hq] at HRR hmc ⊢
          have HQ := Lib.hid hq
          have HC := Lib.hid hc
          have HH := Lib.hid hh
          have hq63 : q ≤ 9223372036854775807 := by omega
          clear hi hdrop hcell hw hq hc hh hul hfr
          by_cases hneg : i < 0
          · have t1 : decide (i < 0) = true := decide_eq_true hneg
            have HE := Lib.hid (show R = (.non, 4) by rw [HRR.out, if_pos (.inl hneg)])
            clear hneg
            go_wp2_with fail
            go_ret2
            exact ⟨_, by rw [HE.out]; rfl, by rw [HE.out]; exact .non, HF.out⟩
          have t1 : decide (i < 0) = false := decide_eq_false hneg
          obtain ⟨k, hk⟩ : ∃ k : Nat, i = (k : Int) := ⟨i.toNat, by omega⟩
          subst hk
          by_cases hbig : q ≤ k
          · have t2 : decide ((q : Int) ≤ (k : Int)) = true := decide_eq_true (by omega)
            have t2' : decide (q ≤ k) = true := decide_eq_true hbig
            have HE := Lib.hid (show R = (.non, 4) by rw [HRR.out, if_pos (.inr (by omega))])
            clear hneg hbig
            go_wp2_with fail
            go_ret2
            exact ⟨_, by rw [HE.out]; rfl, by rw [HE.out]; exact .non, HF.out⟩
          · have t2 : decide ((q : Int) ≤ (k : Int)) = false := decide_eq_false (by omega)
            have t2' : decide (q ≤ k) = false := decide_eq_false hbig
            have hkm : k < m.length := by rw [← HQ.out]; omega
            obtain ⟨y, hy⟩ : ∃ y, m[k]? = some y := ⟨_, List.getElem?_eq_getElem hkm⟩
            have cy : wr.cell? ⟨g, k, none⟩ = some (vs k) := HF.out.cell (HC.out k y hy) id
            have har := HH.out k y hy
            have HAR := Lib.hid har
            have HE := Lib.hid (show R = withinA y (l.drop (u + 1)) by rw [HRR.out, if_neg (by omega), Int.toNat_natCast, List.getD_eq_getElem?_getD, hy]; rfl)
            obtain ⟨V, hV⟩ : ∃ x, x = vs k := ⟨_, rfl⟩
            have hone := har.one
            rw [← hV] at cy hone
            have HV := Lib.hid hV
            have hkq : (k : Int) < (q : Int) := by omega
            have hkq' : k < q := by omega
            clear hneg hbig hkm hy har hV
            go_wp2_with fail
            go_roundw
            case rel => exact ⟨u + 1, y, by omega, by go_num, by rw [HV.out]; exact HAR.out, HE.out, HF.out⟩
            case measure => simp [intOf]; omega
      · have HE := Lib.hid (show R = (.non, 9) by rw [HRR.out]; exact within_leaf x (fun m e => hrow ⟨m, e⟩) i _)
        clear hi hdrop hcell hul hfr HX
        cases hx with
        | row m g cp vs hmc hmcap hD hb hc hh => exact absurd ⟨m, rfl⟩ hrow
        | non =>
          clear hrow
          go_wp2_with fail
          go_ret2
          exact ⟨_, by rw [HE.out]; rfl, by rw [HE.out]; exact .non, HF.out⟩
        | int z =>
          clear hrow
          go_wp2_with fail
          go_ret2
          exact ⟨_, by rw [HE.out]; rfl, by rw [HE.out]; exact .non, HF.out⟩
        | text s hs =>
          clear hrow
          generalize str s = S
          go_wp2_with fail
          go_ret2
          exact ⟨_, by rw [HE.out]; rfl, by rw [HE.out]; exact .non, HF.out⟩
        | yes z =>
          clear hrow
          go_wp2_with fail
          go_ret2
          exact ⟨_, by rw [HE.out]; rfl, by rw [HE.out]; exact .non, HF.out⟩
    · obtain rfl : u = n := by omega
      have hge : ¬ (u : Int) < (u : Int) := by omega
      have HE := Lib.hid (show R = (x, 0) by
        have h := HRR.out
        rw [List.drop_eq_nil_of_le (by rw [HN.out]; exact Nat.le_refl _)] at h
        rw [h]; cases x <;> rfl)
      clear hlt hfr hx
      go_wp2_with fail
      go_ret2
      exact ⟨_, by rw [HE.out]; rfl, by rw [HE.out]; exact HX.out.frF HF.out, HF.out⟩
def toldC (ok : Bool) (c : Nat) : Nat := if c = 0 ∧ ok = false then 9 else c
set_option maxRecDepth 20000 in
theorem vtold_calls (ok : Bool) (c : Nat) (w : World) : Calls Try.prog 58 #[.bool ok, .int .i64 (c : Int)] w fun e w' => e = .returned (.int .i64 (toldC ok c : Int)) ∧ w' = w := by
  by_cases h : c = 0
  · subst h
    cases ok with
    | false =>
      go_enter Try.func58, Try.ntmps58
      go_wp2_with fail
      go_ret
      exact ⟨rfl, rfl⟩
    | true =>
      go_enter Try.func58, Try.ntmps58
      go_wp2_with fail
      go_ret
      exact ⟨rfl, rfl⟩
  · have t1 : ((c : Int) == 0) = false := beq_eq_false_iff_ne.2 (by omega)
    have t2 : (c == 0) = false := beq_eq_false_iff_ne.2 h
    have HE := Lib.hid (show toldC ok c = c by unfold toldC; rw [if_neg (fun hh => h hh.1)])
    clear h
    go_enter Try.func58, Try.ntmps58
    go_wp2_with fail
    go_ret
    exact ⟨by rw [HE.out]; rfl, rfl⟩
def okI : AV → Bool
  | .int _ => true
  | _ => false
def okS : AV → Bool
  | .text _ => true
  | _ => false
def okB : AV → Bool
  | .yes _ => true
  | _ => false
def okL : AV → Bool
  | .row _ => true
  | _ => false
def theI : AV → Int
  | .int n => n
  | _ => 0
def theS : AV → List UInt8
  | .text s => s
  | _ => []
def theB : AV → Bool
  | .yes b => b
  | _ => false
set_option maxRecDepth 20000 in
set_option maxHeartbeats 4000000 in
theorem int_calls (a : AV) (D : Nat → Prop) (v : Value) (A : Option Addr) (cap : Nat) (l : List Int) (w : World) (hr : AR w D a v) (hl : IntsAt w A l) (hlc : l.length ≤ cap) (hcap : cap ≤ 9223372036854775807) :
    Calls Try.prog 26 #[v, .slice A l.length cap] w fun e w' => e = .returned (.tuple #[.int .i64 (theI (withinA a l).1), .int .i64 (toldC (okI (withinA a l).1) (withinA a l).2 : Int)]) ∧ Fr (fun _ => False) w w' := by
  have HW := Lib.hid (within_calls a D v A cap l w hr hl hlc hcap)
  generalize l.length = n at HW ⊢
  obtain ⟨R, hR⟩ : ∃ R, R = withinA a l := ⟨_, rfl⟩
  rw [← hR] at HW ⊢
  obtain ⟨r1, c2⟩ := R
  dsimp only at HW ⊢
  clear hr hl hlc hcap hR
  go_enter Try.func26, Try.ntmps26
  go_wp2_with fail
  refine HW.out.mono ?_
  rintro e w2 ⟨v2, rfl, har, f2⟩
  have HF2 := Lib.hid f2
  clear f2 HW
  cases har with
  | non =>
    have HT := Lib.hid (fun w' => vtold_calls false c2 w')
    obtain ⟨tc, htc⟩ : ∃ t, t = toldC false c2 := ⟨_, rfl⟩
    rw [← htc] at HT
    have HTC := Lib.hid htc
    clear htc

    go_wp2_with fail
    refine (HT.out _).mono ?_
    rintro e w3 ⟨rfl, rfl⟩
    go_wp2_with fail
    go_ret2
    exact ⟨by rw [HTC.out]; rfl, HF2.out⟩
  | int z =>
    have HT := Lib.hid (fun w' => vtold_calls true c2 w')
    obtain ⟨tc, htc⟩ : ∃ t, t = toldC true c2 := ⟨_, rfl⟩
    rw [← htc] at HT
    have HTC := Lib.hid htc
    clear htc

    go_wp2_with fail
    refine (HT.out _).mono ?_
    rintro e w3 ⟨rfl, rfl⟩
    go_wp2_with fail
    go_ret2
    exact ⟨by rw [HTC.out]; rfl, HF2.out⟩
  | text s hs =>
    have HT := Lib.hid (fun w' => vtold_calls false c2 w')
    obtain ⟨tc, htc⟩ : ∃ t, t = toldC false c2 := ⟨_, rfl⟩
    rw [← htc] at HT
    have HTC := Lib.hid htc
    clear htc
    obtain ⟨S, hS⟩ : ∃ x, x = str s := ⟨_, rfl⟩
    rw [← hS]
    have HS := Lib.hid hS
    clear hS
    go_wp2_with fail
    refine (HT.out _).mono ?_
    rintro e w3 ⟨rfl, rfl⟩
    go_wp2_with fail
    go_ret2
    exact ⟨by rw [HTC.out]; rfl, HF2.out⟩
  | yes z =>
    have HT := Lib.hid (fun w' => vtold_calls false c2 w')
    obtain ⟨tc, htc⟩ : ∃ t, t = toldC false c2 := ⟨_, rfl⟩
    rw [← htc] at HT
    have HTC := Lib.hid htc
    clear htc

    go_wp2_with fail
    refine (HT.out _).mono ?_
    rintro e w3 ⟨rfl, rfl⟩
    go_wp2_with fail
    go_ret2
    exact ⟨by rw [HTC.out]; rfl, HF2.out⟩
  | row m g cp vs hmc hmcap hD hb hc hh =>
    have HT := Lib.hid (fun w' => vtold_calls false c2 w')
    obtain ⟨tc, htc⟩ : ∃ t, t = toldC false c2 := ⟨_, rfl⟩
    rw [← htc] at HT
    have HTC := Lib.hid htc
    clear htc
    generalize m.length = q
    go_wp2_with fail
    refine (HT.out _).mono ?_
    rintro e w3 ⟨rfl, rfl⟩
    go_wp2_with fail
    go_ret2
    exact ⟨by rw [HTC.out]; rfl, HF2.out⟩
set_option maxRecDepth 20000 in
set_option maxHeartbeats 4000000 in
theorem text_calls (a : AV) (D : Nat → Prop) (v : Value) (A : Option Addr) (cap : Nat) (l : List Int) (w : World) (hr : AR w D a v) (hl : IntsAt w A l) (hlc : l.length ≤ cap) (hcap : cap ≤ 9223372036854775807) :
    Calls Try.prog 27 #[v, .slice A l.length cap] w fun e w' => e = .returned (.tuple #[.string (str (theS (withinA a l).1)), .int .i64 (toldC (okS (withinA a l).1) (withinA a l).2 : Int)]) ∧ Fr (fun _ => False) w w' := by
  have HW := Lib.hid (within_calls a D v A cap l w hr hl hlc hcap)
  generalize l.length = n at HW ⊢
  obtain ⟨R, hR⟩ : ∃ R, R = withinA a l := ⟨_, rfl⟩
  rw [← hR] at HW ⊢
  obtain ⟨r1, c2⟩ := R
  dsimp only at HW ⊢
  clear hr hl hlc hcap hR
  go_enter Try.func27, Try.ntmps27
  go_wp2_with fail
  refine HW.out.mono ?_
  rintro e w2 ⟨v2, rfl, har, f2⟩
  have HF2 := Lib.hid f2
  clear f2 HW
  cases har with
  | non =>
    have HT := Lib.hid (fun w' => vtold_calls false c2 w')
    obtain ⟨tc, htc⟩ : ∃ t, t = toldC false c2 := ⟨_, rfl⟩
    rw [← htc] at HT
    have HTC := Lib.hid htc
    clear htc

    go_wp2_with fail
    refine (HT.out _).mono ?_
    rintro e w3 ⟨rfl, rfl⟩
    go_wp2_with fail
    go_ret2
    exact ⟨by rw [HTC.out]; rfl, HF2.out⟩
  | int z =>
    have HT := Lib.hid (fun w' => vtold_calls false c2 w')
    obtain ⟨tc, htc⟩ : ∃ t, t = toldC false c2 := ⟨_, rfl⟩
    rw [← htc] at HT
    have HTC := Lib.hid htc
    clear htc

    go_wp2_with fail
    refine (HT.out _).mono ?_
    rintro e w3 ⟨rfl, rfl⟩
    go_wp2_with fail
    go_ret2
    exact ⟨by rw [HTC.out]; rfl, HF2.out⟩
  | text s hs =>
    have HT := Lib.hid (fun w' => vtold_calls true c2 w')
    obtain ⟨tc, htc⟩ : ∃ t, t = toldC true c2 := ⟨_, rfl⟩
    rw [← htc] at HT
    have HTC := Lib.hid htc
    clear htc
    obtain ⟨S, hS⟩ : ∃ x, x = str s := ⟨_, rfl⟩
    rw [← hS]
    have HS := Lib.hid hS
    clear hS
    go_wp2_with fail
    refine (HT.out _).mono ?_
    rintro e w3 ⟨rfl, rfl⟩
    go_wp2_with fail
    go_ret2
    exact ⟨by rw [HTC.out]; rw [HS.out]; rfl, HF2.out⟩
  | yes z =>
    have HT := Lib.hid (fun w' => vtold_calls false c2 w')
    obtain ⟨tc, htc⟩ : ∃ t, t = toldC false c2 := ⟨_, rfl⟩
    rw [← htc] at HT
    have HTC := Lib.hid htc
    clear htc

    go_wp2_with fail
    refine (HT.out _).mono ?_
    rintro e w3 ⟨rfl, rfl⟩
    go_wp2_with fail
    go_ret2
    exact ⟨by rw [HTC.out]; rfl, HF2.out⟩
  | row m g cp vs hmc hmcap hD hb hc hh =>
    have HT := Lib.hid (fun w' => vtold_calls false c2 w')
    obtain ⟨tc, htc⟩ : ∃ t, t = toldC false c2 := ⟨_, rfl⟩
    rw [← htc] at HT
    have HTC := Lib.hid htc
    clear htc
    generalize m.length = q
    go_wp2_with fail
    refine (HT.out _).mono ?_
    rintro e w3 ⟨rfl, rfl⟩
    go_wp2_with fail
    go_ret2
    exact ⟨by rw [HTC.out]; rfl, HF2.out⟩
set_option maxRecDepth 20000 in
set_option maxHeartbeats 4000000 in
theorem bool_calls (a : AV) (D : Nat → Prop) (v : Value) (A : Option Addr) (cap : Nat) (l : List Int) (w : World) (hr : AR w D a v) (hl : IntsAt w A l) (hlc : l.length ≤ cap) (hcap : cap ≤ 9223372036854775807) :
    Calls Try.prog 28 #[v, .slice A l.length cap] w fun e w' => e = .returned (.tuple #[.bool (theB (withinA a l).1), .int .i64 (toldC (okB (withinA a l).1) (withinA a l).2 : Int)]) ∧ Fr (fun _ => False) w w' := by
  have HW := Lib.hid (within_calls a D v A cap l w hr hl hlc hcap)
  generalize l.length = n at HW ⊢
  obtain ⟨R, hR⟩ : ∃ R, R = withinA a l := ⟨_, rfl⟩
  rw [← hR] at HW ⊢
  obtain ⟨r1, c2⟩ := R
  dsimp only at HW ⊢
  clear hr hl hlc hcap hR
  go_enter Try.func28, Try.ntmps28
  go_wp2_with fail
  refine HW.out.mono ?_
  rintro e w2 ⟨v2, rfl, har, f2⟩
  have HF2 := Lib.hid f2
  clear f2 HW
  cases har with
  | non =>
    have HT := Lib.hid (fun w' => vtold_calls false c2 w')
    obtain ⟨tc, htc⟩ : ∃ t, t = toldC false c2 := ⟨_, rfl⟩
    rw [← htc] at HT
    have HTC := Lib.hid htc
    clear htc

    go_wp2_with fail
    refine (HT.out _).mono ?_
    rintro e w3 ⟨rfl, rfl⟩
    go_wp2_with fail
    go_ret2
    exact ⟨by rw [HTC.out]; rfl, HF2.out⟩
  | int z =>
    have HT := Lib.hid (fun w' => vtold_calls false c2 w')
    obtain ⟨tc, htc⟩ : ∃ t, t = toldC false c2 := ⟨_, rfl⟩
    rw [← htc] at HT
    have HTC := Lib.hid htc
    clear htc

    go_wp2_with fail
    refine (HT.out _).mono ?_
    rintro e w3 ⟨rfl, rfl⟩
    go_wp2_with fail
    go_ret2
    exact ⟨by rw [HTC.out]; rfl, HF2.out⟩
  | text s hs =>
    have HT := Lib.hid (fun w' => vtold_calls false c2 w')
    obtain ⟨tc, htc⟩ : ∃ t, t = toldC false c2 := ⟨_, rfl⟩
    rw [← htc] at HT
    have HTC := Lib.hid htc
    clear htc
    obtain ⟨S, hS⟩ : ∃ x, x = str s := ⟨_, rfl⟩
    rw [← hS]
    have HS := Lib.hid hS
    clear hS
    go_wp2_with fail
    refine (HT.out _).mono ?_
    rintro e w3 ⟨rfl, rfl⟩
    go_wp2_with fail
    go_ret2
    exact ⟨by rw [HTC.out]; rfl, HF2.out⟩
  | yes z =>
    have HT := Lib.hid (fun w' => vtold_calls true c2 w')
    obtain ⟨tc, htc⟩ : ∃ t, t = toldC true c2 := ⟨_, rfl⟩
    rw [← htc] at HT
    have HTC := Lib.hid htc
    clear htc

    go_wp2_with fail
    refine (HT.out _).mono ?_
    rintro e w3 ⟨rfl, rfl⟩
    go_wp2_with fail
    go_ret2
    exact ⟨by rw [HTC.out]; rfl, HF2.out⟩
  | row m g cp vs hmc hmcap hD hb hc hh =>
    have HT := Lib.hid (fun w' => vtold_calls false c2 w')
    obtain ⟨tc, htc⟩ : ∃ t, t = toldC false c2 := ⟨_, rfl⟩
    rw [← htc] at HT
    have HTC := Lib.hid htc
    clear htc
    generalize m.length = q
    go_wp2_with fail
    refine (HT.out _).mono ?_
    rintro e w3 ⟨rfl, rfl⟩
    go_wp2_with fail
    go_ret2
    exact ⟨by rw [HTC.out]; rfl, HF2.out⟩
theorem must_ta (v : Value) (W : World) : (Instr.typeAssert (.iface 9 v) 20 9 false).run Try.prog W = .ok v W := by kernel_rfl
set_option maxRecDepth 20000 in
set_option maxHeartbeats 4000000 in
theorem must_calls (s : ByteArray) (w : World) : Calls Try.prog 51 #[.iface 9 (.string s)] w fun e w' => e = .returned (.string s) ∧ w' = w := by
  have h := must_ta (.string s)
  go_enter Try.func51, Try.ntmps51
  go_wp2_with fail
  go_ret
  exact ⟨rfl, rfl⟩
def sameB (a b : AV) : Bool := decide ((encA 8 a).2 = 0) && decide ((encA 8 b).2 = 0) && decide ((encA 8 a).1 = (encA 8 b).1)
set_option maxRecDepth 20000 in
set_option maxHeartbeats 4000000 in
theorem vsame_calls (a b : AV) (D D2 : Nat → Prop) (v v2 : Value) (w : World) (hr : AR w D a v) (hr2 : AR w D2 b v2) (hlen : lenK 8 a ≤ 140737488355328) (hlen2 : lenK 8 b ≤ 140737488355328) :
    Calls Try.prog 31 #[v, v2] w fun e w' => e = .returned (.bool (sameB a b)) ∧ Fr (fun _ => False) w w' := by
  have HP1 := Lib.hid (print_calls a D v w hr hlen)
  have HP2 := Lib.hid (fun (w' : World) (hf : Fr (fun _ => False) w w') => print_calls b D2 v2 w' (hr2.frF hf) hlen2)
  obtain ⟨rb, hrb⟩ : ∃ x, x = sameB a b := ⟨_, rfl⟩
  rw [← hrb]
  have hrb2 : rb = (decide ((encA 8 a).2 = 0) && decide ((encA 8 b).2 = 0) && decide ((encA 8 a).1 = (encA 8 b).1)) := hrb
  obtain ⟨P, hP⟩ : ∃ P, P = encA 8 a := ⟨_, rfl⟩
  obtain ⟨Q, hQ⟩ : ∃ P, P = encA 8 b := ⟨_, rfl⟩
  rw [← hP] at HP1 hrb2
  rw [← hQ] at HP2 hrb2
  obtain ⟨p1, p2⟩ := P
  obtain ⟨q1, q2⟩ := Q
  dsimp only at HP1 HP2 hrb2
  obtain ⟨S, hS⟩ : ∃ x, x = str p1 := ⟨_, rfl⟩
  obtain ⟨T, hT⟩ : ∃ x, x = str q1 := ⟨_, rfl⟩
  rw [← hS] at HP1
  rw [← hT] at HP2
  have tst : (S.toList == T.toList) = decide (p1 = q1) := by rw [hS, hT, str_toList, str_toList, Bool.eq_iff_iff]; simp
  obtain ⟨y, hy⟩ : ∃ y, y = decide (p1 = q1) := ⟨_, rfl⟩
  rw [← hy] at hrb2 tst
  have HRB := Lib.hid hrb2
  clear hr hr2 hlen hlen2 hrb hrb2 hP hQ hS hT hy
  by_cases h1 : p2 = 0
  · by_cases h2 : q2 = 0
    · subst h1 h2
      have HE := Lib.hid (show rb = y by rw [HRB.out]; simp)
      go_enter Try.func31, Try.ntmps31
      go_wp2_with fail
      refine HP1.out.mono ?_
      rintro e w2 ⟨rfl, f2⟩
      have HF2 := Lib.hid f2
      clear f2
      go_wp2_with fail
      refine (HP2.out w2 HF2.out).mono ?_
      rintro e w3 ⟨rfl, f3⟩
      have HF3 := Lib.hid (HF2.out.trans f3 (fun i hi => hi.elim))
      clear f3
      go_wp2_with fail
      go_ret
      exact ⟨by rw [HE.out]; rfl, HF3.out⟩
    · subst h1
      have HE := Lib.hid (show rb = false by rw [HRB.out, decide_eq_false h2]; simp)
      have t1 : ((q2 : Int) == 0) = false := beq_eq_false_iff_ne.2 (by omega)
      have t2 : (q2 == 0) = false := beq_eq_false_iff_ne.2 h2
      clear h2
      go_enter Try.func31, Try.ntmps31
      go_wp2_with fail
      refine HP1.out.mono ?_
      rintro e w2 ⟨rfl, f2⟩
      have HF2 := Lib.hid f2
      clear f2
      go_wp2_with fail
      refine (HP2.out w2 HF2.out).mono ?_
      rintro e w3 ⟨rfl, f3⟩
      have HF3 := Lib.hid (HF2.out.trans f3 (fun i hi => hi.elim))
      clear f3
      go_wp2_with fail
      go_ret
      exact ⟨by rw [HE.out]; rfl, HF3.out⟩
  · have HE := Lib.hid (show rb = false by rw [HRB.out, decide_eq_false h1]; simp)
    have t1 : ((p2 : Int) == 0) = false := beq_eq_false_iff_ne.2 (by omega)
    have t2 : (p2 == 0) = false := beq_eq_false_iff_ne.2 h1
    clear h1
    go_enter Try.func31, Try.ntmps31
    go_wp2_with fail
    refine HP1.out.mono ?_
    rintro e w2 ⟨rfl, f2⟩
    have HF2 := Lib.hid f2
    clear f2
    go_wp2_with fail
    refine (HP2.out w2 HF2.out).mono ?_
    rintro e w3 ⟨rfl, f3⟩
    have HF3 := Lib.hid (HF2.out.trans f3 (fun i hi => hi.elim))
    clear f3
    go_wp2_with fail
    go_ret
    exact ⟨by rw [HE.out]; rfl, HF3.out⟩
end Go.Proofs.Ythmpmpepokeedaa
