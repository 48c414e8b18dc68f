/- Labels: Parse, walked. -/
import Derived.Test.YthmpmpepokeedaaLl
set_option linter.unusedVariables false
set_option linter.unusedSimpArgs false
set_option pp.deepTerms true
set_option pp.maxSteps 100000
namespace Go.Proofs.Ythmpmpepokeedaa
open Go.RowKit
theorem pv_of_own {w : World} {B : Nat} {v : Value} {l : List Pr} (h : w.ownsRow B 77 2 v l.length (l.flatMap encP)) : PV w v l := by
  rcases h.2 with ⟨hv, h0⟩ | ⟨g, cap, cur, rfl, hb, hg, hlc, hcm, hcs, ht⟩
  · have hl : l = [] := List.eq_nil_of_length_eq_zero h0
    subst hl
    exact ⟨none, 0, hv, .inl rfl, Nat.le_refl _, by decide⟩
  · exact ⟨some ⟨g, 0, none⟩, cap, rfl, .inr ⟨g, 0, rfl, by
      have := pb_of_holds (holds_of_cells hg ht)
      simpa using this, lt_of_heap hg⟩, hlc, by unfold maxLen at hcm; omega⟩
def strAt (w : World) (R : Nat) : Nat := match w.cell? ⟨R, 0, none⟩ with
  | some (.string s) => s.size
  | _ => 0
theorem strAt_of {w : World} {R : Nat} {s : ByteArray} (h : w.heap[R]? = some (.cells #[.string s] 9 (0, 0))) : strAt w R = s.size := by
  unfold strAt
  rw [show w.cell? ⟨R, 0, none⟩ = some (.string s) from (cell_of_row w R 0 _ _ _ h).trans rfl]
/-- Between two rounds of Parse. -/
structure PaI (s : List UInt8) (w0 : World) (R O : Nat) (v : Value) (wr : World) (dn : List Pr) (rest : List UInt8) (ok : Bool) (nf : Nat) : Prop where
  r : wr.heap[R]? = some (.cells #[.string (str rest)] 9 (0, 0))
  o : wr.heap[O]? = some (.cells #[.bool ok] 4 (0, 0))
  own : wr.ownsRow w0.heap.size 77 2 v dn.length (dn.flatMap encP)
  fr : Fr (fun k => k = R ∨ k = O) w0 wr
  len : rest.length ≤ nf
  cnt : dn.length + nf = s.length
  raw : dn ++ (rawF nf rest).1 = (rawF s.length s).1
  okr : (ok && (rawF nf rest).2) = (rawF s.length s).2
  small : ∀ p ∈ dn, p.1.length < 256 ∧ p.2.length < 256
theorem rawF_cons (n : Nat) (c : UInt8) (s : List UInt8) : rawF (n + 1) (c :: s) = match tk (c :: s) with
    | none => ([([], [])], false)
    | some (k, r) => match tk r with
      | none => ([(k, [])], false)
      | some (v, r2) => ((k, v) :: (rawF n r2).1, (rawF n r2).2) := rfl
theorem rawF_nil (n : Nat) : rawF n [] = ([], true) := by cases n <;> rfl
/-- One pair more: what becomes of it. -/
theorem PaI.next {s : List UInt8} {w0 : World} {R O : Nat} {v v' : Value} {wr w' : World} {dn : List Pr} {c : UInt8} {t : List UInt8} {ok ok' : Bool} {nf : Nat} {k vv rest' : List UInt8} (h : PaI s w0 R O v wr dn (c :: t) ok nf)
    (hc : (tk (c :: t) = none ∧ k = [] ∧ vv = [] ∧ rest' = [] ∧ ok' = false) ∨ (∃ r1, tk (c :: t) = some (k, r1) ∧ ((tk r1 = none ∧ vv = [] ∧ rest' = [] ∧ ok' = false) ∨ (tk r1 = some (vv, rest') ∧ ok' = ok))))
    (h1 : w'.heap[R]? = some (.cells #[.string (str rest')] 9 (0, 0))) (h2 : w'.heap[O]? = some (.cells #[.bool ok'] 4 (0, 0))) (h3 : w'.ownsRow w0.heap.size 77 2 v' (dn.length + 1) (dn.flatMap encP ++ encP (k, vv))) (h4 : Fr (fun k => k = R ∨ k = O) w0 w') :
    ∃ nf', PaI s w0 R O v' w' (dn ++ [(k, vv)]) rest' ok' nf' ∧ (str rest').size < (str (c :: t)).size := by
  have hl := h.len
  obtain ⟨m, rfl⟩ : ∃ m, nf = m + 1 := ⟨nf - 1, by simp at hl; omega⟩
  have hraw := h.raw
  have hokr := h.okr
  rw [rawF_cons] at hraw hokr
  have hown : w'.ownsRow w0.heap.size 77 2 v' (dn ++ [(k, vv)]).length ((dn ++ [(k, vv)]).flatMap encP) := by
    rw [List.length_append, List.flatMap_append, List.flatMap_singleton]; exact h3
  have hcnt : (dn ++ [(k, vv)]).length + m = s.length := by have := h.cnt; rw [List.length_append]; simp; omega
  have hsm : ∀ p ∈ dn ++ [(k, vv)], p.1.length < 256 ∧ p.2.length < 256 := fun p hp => by
    rcases List.mem_append.1 hp with hp | hp
    · exact h.small p hp
    · simp only [List.mem_singleton] at hp
      subst hp
      rcases hc with ⟨_, rfl, rfl, _⟩ | ⟨r1, e1, ⟨_, rfl, _⟩ | ⟨e2, _⟩⟩
      · exact ⟨by simp, by simp⟩
      · exact ⟨(tk_len e1).2.1, by simp⟩
      · exact ⟨(tk_len e1).2.1, (tk_len e2).2.1⟩
  rw [str_size, str_size]
  rcases hc with ⟨e, rfl, rfl, rfl, rfl⟩ | ⟨r1, e1, ⟨e2, rfl, rfl, rfl⟩ | ⟨e2, rfl⟩⟩
  · rw [e] at hraw hokr
    exact ⟨m, ⟨h1, h2, hown, h4, Nat.zero_le _, hcnt, by rw [rawF_nil, List.append_nil]; exact hraw, by rw [← hokr]; simp, hsm⟩, by simp⟩
  · rw [e1] at hraw hokr
    dsimp only at hraw hokr
    rw [e2] at hraw hokr
    exact ⟨m, ⟨h1, h2, hown, h4, Nat.zero_le _, hcnt, by rw [rawF_nil, List.append_nil]; exact hraw, by rw [← hokr]; simp, hsm⟩, by simp⟩
  · rw [e1] at hraw hokr
    dsimp only at hraw hokr
    rw [e2] at hraw hokr
    dsimp only at hraw hokr
    have l1 := (tk_len e1).2.2
    have l2 := (tk_len e2).2.2
    exact ⟨m, ⟨h1, h2, hown, h4, by simp at l1 hl; omega, hcnt, by rw [List.append_assoc]; exact hraw, hokr, hsm⟩, by omega⟩
/-- What the two takes do. -/
theorem take_calls (R O : Nat) (hne : R ≠ O) (rest : List UInt8) (ok : Bool) (hlen : rest.length ≤ 100000) (w : World) (hR : w.heap[R]? = some (.cells #[.string (str rest)] 9 (0, 0))) (hO : w.heap[O]? = some (.cells #[.bool ok] 4 (0, 0))) :
    Calls Try.prog 68 #[.pointer (some ⟨R, 0, none⟩), .pointer (some ⟨O, 0, none⟩)] w fun e w' => ∃ k r ok', e = .returned (.string (str k)) ∧ ((tk rest = none ∧ k = [] ∧ r = [] ∧ ok' = false) ∨ (tk rest = some (k, r) ∧ ok' = ok)) ∧ w'.heap[R]? = some (.cells #[.string (str r)] 9 (0, 0)) ∧ w'.heap[O]? = some (.cells #[.bool ok'] 4 (0, 0)) ∧ Fr (fun k => k = R ∨ k = O) w w' := by
  cases h : tk rest with
  | none =>
    refine (take_none R O rest ok hlen h w hR hO hne).mono ?_
    rintro e w' ⟨rfl, h1, h2, h3⟩
    exact ⟨[], [], false, rfl, .inl ⟨rfl, rfl, rfl, rfl⟩, h1, h2, h3⟩
  | some x =>
    obtain ⟨k, r⟩ := x
    refine (take_some R O rest k r hlen h w hR).mono ?_
    rintro e w' ⟨rfl, h1, h2⟩
    exact ⟨k, r, ok, rfl, .inr ⟨rfl, rfl⟩, h1, h2.heap hO (fun e => hne e.symm), h2.mono (fun i hi => .inl (.inl hi))⟩
def ParseP (s : List UInt8) (w : World) (e : Ending) (w' : World) : Prop := ∃ v c, e = .returned (.tuple #[v, .int .i64 c]) ∧ c = (if (parseO s).isSome then 0 else 2) ∧ PV w' v ((parseO s).getD []) ∧ Fr (fun _ => False) w w'
set_option maxRecDepth 20000 in
set_option maxHeartbeats 4000000 in
theorem parse_calls (s : List UInt8) (hs : s.length ≤ 50000) (w : World) : Calls Try.prog 36 #[.string (str s)] w (ParseP s w) := by
  obtain ⟨S, hS⟩ : ∃ x, x = str s := ⟨_, rfl⟩
  obtain ⟨R, hR⟩ : ∃ x, x = w.heap.size := ⟨_, rfl⟩
  obtain ⟨w0, hw0⟩ : ∃ w0, w0 = (w.alloc (.cells #[.string S] 9)).alloc (.cells #[.bool true] 4) := ⟨_, rfl⟩
  have hsz : w0.heap.size = R + 1 + 1 := by rw [hw0, hR]; simp
  have hR0 : w0.heap[R]? = some (.cells #[.string S] 9 (0, 0)) := by
    rw [hw0, hR]; exact ((Fr.refl (fun _ => False) _).alloc _).heap (heap_alloc_new w _) id
  have hO0 : w0.heap[R + 1]? = some (.cells #[.bool true] 4 (0, 0)) := by
    have h := heap_alloc_new (w.alloc (.cells #[.string S] 9)) (.cells #[.bool true] 4)
    rw [World.size_alloc] at h
    rw [hw0, hR]; exact h
  have hF0 : Fr (fun _ => False) w w0 := by rw [hw0]; exact ((Fr.refl _ _).alloc _).alloc _
  obtain ⟨i0, hi, hz0, hz1, hz2⟩ := info_parts infoP
  have HI := Lib.hid (And.intro hi (And.intro hz0 (And.intro hz1 hz2)))
  have HS := Lib.hid hS
  have HR := Lib.hid hR
  have HSz := Lib.hid hsz
  have HR0 := Lib.hid hR0
  have HO0 := Lib.hid hO0
  have HF0 := Lib.hid hF0
  have HW0 := Lib.hid hw0
  rw [← hS]
  clear hS hR hsz hR0 hO0 hF0 hw0 hi hz0 hz1 hz2
  go_enter Try.func36, Try.ntmps36
  go_wp2_with fail
  rw [← HR.out, ← HW0.out]
  go_loopw [4] (fun v wr => ∃ dn rest ok nf, PaI s w0 R (R + 1) v wr dn rest ok nf) (fun _ wr => strAt wr R)
  case atStart =>
    refine ⟨[], s, true, s.length, ?_, HO0.out, ⟨rfl, .inl ⟨rfl, rfl⟩⟩, Fr.refl _ _, Nat.le_refl _, by simp, rfl, by simp, fun p hp => by cases hp⟩
    rw [← HS.out]; exact HR0.out
  case round =>
    obtain ⟨dn, rest, ok, nf, hp⟩ := hrel
    have HP := Lib.hid hp
    have hlen : rest.length ≤ 50000 := by have h1 := hp.len; have h2 := hp.cnt; omega
    obtain ⟨Q, hQ⟩ : ∃ q, q = str rest := ⟨_, rfl⟩
    have hr := hp.r
    rw [← hQ] at hr
    have cR : wr.cell? ⟨R, 0, none⟩ = some (.string Q) := (cell_of_row wr R 0 _ _ _ hr).trans rfl
    have HQ := Lib.hid hQ
    clear hp hr
    cases rest with
    | cons c t =>
      have t1 : Q.toList.isEmpty = false := by rw [hQ, str_toList]; rfl
      have t2 : (Q.toList == []) = false := by rw [hQ, str_toList]; rfl
      have t3 : (Q.toList != []) = true := by rw [hQ, str_toList]; rfl
      have HT := Lib.hid (take_calls R (R + 1) (by omega) (c :: t) ok (by omega) wr HP.out.r HP.out.o)
      have HL := Lib.hid hlen
      clear hQ hlen
      go_wp2_with fail
      refine HT.out.mono ?_
      rintro e w1 ⟨k, r1, ok1, rfl, hc1, h1R, h1O, f1⟩
      have hl1 : r1.length ≤ 50000 := by
        rcases hc1 with ⟨_, _, rfl, _⟩ | ⟨e1, _⟩
        · simp
        · have := (tk_len e1).2.2; have := HL.out; omega
      have HT2 := Lib.hid (take_calls R (R + 1) (by omega) r1 ok1 (by omega) w1 h1R h1O)
      have HC1 := Lib.hid hc1
      have F1 := Lib.hid f1
      clear hc1 h1R h1O f1 hl1
      go_wp2_with fail
      refine HT2.out.mono ?_
      rintro e w2 ⟨vv, r2, ok2, rfl, hc2, h2R, h2O, f2⟩
      have hcc : (tk (c :: t) = none ∧ k = [] ∧ vv = [] ∧ r2 = [] ∧ ok2 = false) ∨ (∃ r1, tk (c :: t) = some (k, r1) ∧ ((tk r1 = none ∧ vv = [] ∧ r2 = [] ∧ ok2 = false) ∨ (tk r1 = some (vv, r2) ∧ ok2 = ok))) := by
        rcases HC1.out with ⟨e1, rfl, rfl, rfl⟩ | ⟨e1, rfl⟩
        · rcases hc2 with ⟨_, rfl, rfl, rfl⟩ | ⟨e2, _⟩
          · exact .inl ⟨e1, rfl, rfl, rfl, rfl⟩
          · cases e2
        · rcases hc2 with ⟨e2, rfl, rfl, rfl⟩ | ⟨e2, rfl⟩
          · exact .inr ⟨r1, e1, .inl ⟨e2, rfl, rfl, rfl⟩⟩
          · exact .inr ⟨r1, e1, .inr ⟨e2, rfl⟩⟩
      have HCC := Lib.hid hcc
      have H2R := Lib.hid h2R
      have H2O := Lib.hid h2O
      have F12 := Lib.hid (F1.out.trans f2 (fun i hi => .inl hi))
      obtain ⟨K, hK⟩ : ∃ q, q = str k := ⟨_, rfl⟩
      obtain ⟨V, hV⟩ : ∃ q, q = str vv := ⟨_, rfl⟩
      rw [← hK, ← hV]
      have HKV := Lib.hid (show encP (k, vv) = [.string K, .string V] by rw [hK, hV]; rfl)
      have HOW := Lib.hid (rowp_keep (HP.out.own) (F12.out.trans ((Fr.refl (fun k => k = R ∨ k = R + 1) w2).alloc (.cells #[.string K, .string V] 77)) (fun i hi => .inl hi)) (fun j hj => by have h1 := (rowp_cells HP.out.own j hj).1; have := HSz.out; omega))
      have hbs := buildP K V w2
      have HN := Lib.hid (show dn.length ≤ 50000 by have := HP.out.cnt; omega)
      have HB2 := Lib.hid (show w0.heap.size ≤ w2.heap.size from Nat.le_trans HP.out.fr.size F12.out.size)
      clear hc2 h2R h2O f2 hcc hK hV
      go_wp2_with (with_reducible refine wpList_append_own (o := ⟨some 21, _, _, _, _, _⟩) _ rfl _ _ 64 rfl w0.heap.size 77 i0 (.agg #[.string ⟨#[]⟩, .string ⟨#[]⟩]) 2 32 Try.underlying64 HI.out.1 HI.out.2.1 HI.out.2.2.1 HI.out.2.2.2 rfl (by decide) u4 _ _ rfl HOW.out ⟨w2.heap.size, 0, none⟩ 1 1 [.string K, .string V] rfl rfl ?c1 ?c2 ?c3 ?c4 ?c5 ?_)
      case c1 =>
        intro j u hj
        rw [Addr.add_lit, Nat.zero_add, cell_of_row _ w2.heap.size j _ _ _ (heap_alloc_new w2 _)]
        simpa using hj
      case c2 => intro u hu; simp only [List.mem_cons, List.not_mem_nil, or_false] at hu; rcases hu with rfl | rfl <;> rfl
      case c3 => have := HN.out; unfold maxLen; omega
      case c4 => have := HN.out; omega
      case c5 => have := HB2.out; simp; omega
      intro v' w3 hown' hgrow _
      have hoc : ∀ j, u4.ownBlock = some j → w0.heap.size ≤ j := fun j hj => (rowp_cells HP.out.own j hj).1
      have hfg : Fr (fun j => w0.heap.size ≤ j) w2 w3 := ((Fr.refl (fun j => w0.heap.size ≤ j) w2).alloc (.cells #[.string K, .string V] 77)).grown hgrow (fun j hj => .inl (hoc j hj))
      have hnx := PaI.next (v' := v') (w' := w3) HP.out HCC.out (hfg.heap H2R.out (by have := HSz.out; omega)) (hfg.heap H2O.out (by have := HSz.out; omega)) (by rw [HKV.out]; exact hown') ((HP.out.fr.trans F12.out (fun i hi => .inl hi)).trans hfg (fun i hi => .inr hi))
      obtain ⟨nf', hp', hlt⟩ := hnx
      have HP' := Lib.hid hp'
      have HLT := Lib.hid hlt
      have hvs' : ∃ aa nn cc, v' = .slice aa nn cc := by
        rcases hown'.2 with ⟨h, _⟩ | ⟨g, cap', cur, h, _⟩
        · exact ⟨_, _, _, h⟩
        · exact ⟨_, _, _, h⟩
      obtain ⟨aa', nn', cc', rfl⟩ := hvs'
      clear hown' hgrow hoc hfg hp' hlt
      go_wp2_with fail
      go_roundw
      case rel => exact ⟨_, _, _, nf', HP'.out⟩
      case measure =>
        rw [strAt_of HP'.out.r, strAt_of HP.out.r]
        exact HLT.out
    | nil =>
      have t1 : Q.toList.isEmpty = true := by rw [hQ, str_toList]; rfl
      have t2 : (Q.toList == []) = true := by rw [hQ, str_toList]; rfl
      have t3 : (Q.toList != []) = false := by rw [hQ, str_toList]; rfl
      have t4 : Q.toList = [] := by rw [hQ, str_toList]
      have hdn : dn = (rawF s.length s).1 := by have h := HP.out.raw; rw [rawF_nil, List.append_nil] at h; exact h
      have hokk : ok = (rawF s.length s).2 := by have h := HP.out.okr; rw [rawF_nil, Bool.and_true] at h; exact h
      obtain ⟨a2, cap2, rfl, hps, hlc, hcp⟩ := pv_of_own HP.out.own
      have cO : wr.cell? ⟨R + 1, 0, none⟩ = some (.bool ok) := (cell_of_row wr _ 0 _ _ _ HP.out.o).trans rfl
      have HTx := Lib.hid (text_calls a2 cap2 dn (by have := HP.out.cnt; omega) (fun p hp => by have := HP.out.small p hp; omega) wr hps hlc hcp)
      have HFw := Lib.hid (show Fr (fun _ => False) w wr from HF0.out.trans HP.out.fr (fun i hi => .inr (by have := HR.out; rcases hi with rfl | rfl <;> omega)))
      have HPV := Lib.hid (show PV wr (.slice a2 dn.length cap2) dn from ⟨a2, cap2, rfl, hps, hlc, hcp⟩)
      have HDN := Lib.hid hdn
      have HOK := Lib.hid hokk
      have HOc := Lib.hid (HP.out.o)
      clear hdn hokk hps hlc hcp hQ hlen
      go_wp2_with fail
      refine HTx.out.mono ?_
      rintro e w5 ⟨rfl, f5⟩
      have HF5 := Lib.hid (HFw.out.trans f5 (fun i hi => hi.elim))
      have HPV5 := Lib.hid (HPV.out.frF f5)
      have cO5 : w5.cell? ⟨R + 1, 0, none⟩ = some (.bool ok) := (cell_of_row w5 _ 0 _ _ _ (f5.heap HOc.out id)).trans rfl
      clear f5
      have hnone : parseO s = none → ParseP s w (.returned (.tuple #[.slice none 0 0, .int .i64 2])) w5 := fun h => ⟨_, _, rfl, by rw [h]; rfl, by rw [h]; exact ⟨none, 0, rfl, .inl rfl, Nat.le_refl _, by decide⟩, HF5.out⟩
      have HNone := Lib.hid hnone
      cases ok with
      | false =>
        have HX := Lib.hid (HNone.out (by unfold parseO; rw [if_neg (by rw [← HOK.out]; simp)]))
        clear hnone
        cases hrb : rightB dn <;> (go_wp2_with fail; go_ret2; exact HX.out)
      | true =>
        cases hrb : rightB dn with
        | false =>
          have HX := Lib.hid (HNone.out (by unfold parseO; rw [if_neg (by rw [← HDN.out, hrb]; simp)]))
          clear hnone hrb
          go_wp2_with fail
          go_ret2
          exact HX.out
        | true =>
          obtain ⟨T, hT⟩ : ∃ q, q = str (textOf dn) := ⟨_, rfl⟩
          rw [if_pos rfl, if_pos rfl, ← hT]
          by_cases heq : textOf dn = s
          · have u1 : (T.toList == S.toList) = true := by rw [hT, HS.out, str_toList, str_toList, heq]; simp
            have u2 : (T.toList != S.toList) = false := by rw [bne, u1]; rfl
            have u3 : T.toList = S.toList := by rw [hT, HS.out, heq]
            have HX := Lib.hid (show ParseP s w (.returned (.tuple #[.slice a2 dn.length cap2, .int .i64 0])) w5 from by
              have hpo : parseO s = some dn := by unfold parseO; rw [if_pos ⟨HOK.out.symm, by rw [← HDN.out]; exact hrb, by rw [← HDN.out]; exact heq⟩, ← HDN.out]
              exact ⟨_, _, rfl, by rw [hpo]; rfl, by rw [hpo]; exact HPV5.out, HF5.out⟩)
            clear hnone hrb heq hT
            go_wp2_with fail
            go_ret2
            exact HX.out
          · have u1 : (T.toList == S.toList) = false := by rw [hT, HS.out, str_toList, str_toList]; exact beq_eq_false_iff_ne.2 heq
            have u2 : (T.toList != S.toList) = true := by rw [bne, u1]; rfl
            have u3 : ¬ T.toList = S.toList := by rw [hT, HS.out, str_toList, str_toList]; exact heq
            have HX := Lib.hid (HNone.out (by unfold parseO; rw [if_neg (by rw [← HDN.out]; exact fun h => heq h.2.2)]))
            clear hnone hrb heq hT
            go_wp2_with fail
            go_ret2
            exact HX.out
end Go.Proofs.Ythmpmpepokeedaa
