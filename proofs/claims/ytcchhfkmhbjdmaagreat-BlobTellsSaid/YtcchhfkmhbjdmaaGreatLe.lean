/- Labels: what is right, walked (a set of the keys seen). -/
import Derived.Test.YtcchhfkmhbjdmaaGreatLd
import Derived.Maps.OwnSet
import Derived.Maps.OwnOps
import Derived.Maps.Views
import Derived.StringKeys
set_option linter.unusedVariables false
set_option linter.unusedSimpArgs false
set_option pp.deepTerms true
set_option pp.maxSteps 100000
namespace Go.Proofs.YtcchhfkmhbjdmaaGreat
open Go.RowKit Go.Maps
def encP (p : Pr) : List Value := [.string (str p.1), .string (str p.2)]
theorem encP_len (p : Pr) : (encP p).length = 2 := rfl
theorem encP_one (p : Pr) : ∀ v ∈ encP p, v.oneCell' = true := by
  intro v hv
  simp only [encP, List.mem_cons, List.not_mem_nil, or_false] at hv
  rcases hv with rfl | rfl <;> rfl
/-- Pairs lie in a block, from a place on. -/
def PB (w : World) (b off : Nat) (l : List Pr) : Prop := ∀ i x, l[i]? = some x → w.rangeAt b (off + i * 2) (encP x)
/-- .. as a slice's. -/
def PSl (w : World) (a : Option Addr) (l : List Pr) : Prop := l = [] ∨ ∃ b off, a = some ⟨b, off, none⟩ ∧ PB w b off l ∧ b < w.heap.size
theorem PB.fr {w w' : World} {b off : Nat} {l : List Pr} {F : Nat → Prop} (h : PB w b off l) (hf : Fr F w w') (hF : ¬ F b) : PB w' b off l := fun i x hx j v hj => hf.cell (h i x hx j v hj) hF
theorem PSl.fr {w w' : World} {a : Option Addr} {l : List Pr} {F : Nat → Prop} (h : PSl w a l) (hf : Fr F w w') (hF : ∀ b off, a = some ⟨b, off, none⟩ → ¬ F b) : PSl w' a l := by
  rcases h with h | ⟨b, off, ha, h, hb⟩
  · exact .inl h
  · exact .inr ⟨b, off, ha, h.fr hf (hF b off ha), Nat.lt_of_lt_of_le hb hf.size⟩
theorem PSl.frF {w w' : World} {a : Option Addr} {l : List Pr} (h : PSl w a l) (hf : Fr (fun _ => False) w w') : PSl w' a l := h.fr hf (fun _ _ _ => id)
theorem PB.cells {w : World} {b off : Nat} {l : List Pr} (h : PB w b off l) (i : Nat) (hi : i < l.length) : w.cell? ⟨b, off + i * 2, none⟩ = some (.string (str l[i].1)) ∧ w.cell? ⟨b, off + i * 2 + 1, none⟩ = some (.string (str l[i].2)) := by
  have hr := h i _ (List.getElem?_eq_getElem hi)
  exact ⟨hr 0 _ rfl, hr 1 _ rfl⟩
theorem PSl.of_sl {w : World} {a : Option Addr} {l : List Pr} (h : SlR w a 2 encP l) : PSl w a l := by
  cases hl : l with
  | nil => exact .inl rfl
  | cons x r =>
    obtain ⟨b, off, rfl, hr⟩ := h 0 x (by rw [hl]; rfl)
    refine .inr ⟨b, off, rfl, fun i y hy => ?_, World.block_lt_of_cell? w ⟨b, off + 0 * 2 + 0, none⟩ (hr 0 _ rfl)⟩
    obtain ⟨b', off', e, hr'⟩ := h i y (by rw [hl]; exact hy)
    cases e
    exact hr'
/-- The set of the keys seen. -/
def keysD (ks : List (List UInt8)) : DataW Unit := setOf (.lit (.bool true)) (ks.map Lit.string)
theorem keysD_isMap (ks : List (List UInt8)) : IsMap (keysD ks) := by
  unfold keysD setOf
  have : ∀ (l : List Lit) (D : DataW Unit), IsMap D → IsMap (l.foldl (fun m x => m.put x (.lit (.bool true))) D) := by
    intro l
    induction l with
    | nil => exact fun D h => h
    | cons x l ih => exact fun D h => ih _ (h.put x _)
  exact this _ _ isMap_empty
theorem keysD_snoc (ks : List (List UInt8)) (k : List UInt8) : keysD (ks ++ [k]) = (keysD ks).put (.string k) (.lit (.bool true)) := by
  unfold keysD
  rw [List.map_append]
  exact setOf_snoc _ _ _
theorem keysD_at (k : List UInt8) : ∀ n (ks : List (List UInt8)), ks.length = n → (keysD ks).atKey (.string k) (.lit (.bool false)) = .lit (.bool (ks.contains k))
  | 0, ks, h => by
    obtain rfl : ks = [] := List.eq_nil_of_length_eq_zero h
    rfl
  | n + 1, ks, h => by
    have hne : ks ≠ [] := by intro e; rw [e] at h; cases h
    obtain ⟨ks', x, rfl⟩ : ∃ ks' x, ks = ks' ++ [x] := ⟨ks.dropLast, ks.getLast hne, (List.dropLast_concat_getLast hne).symm⟩
    rw [keysD_snoc]
    by_cases e : k = x
    · subst e
      rw [atKey_put_same (keysD_isMap ks') (by constructor)]
      simp
    · rw [atKey_put_other (by intro h; injection h with h; exact e h), keysD_at k n ks' (by simpa using h)]
      simp [e]
theorem plainElem_bool_inv {H : Type} {P : Program} {e : TypeId} (he : P.underlying e = some .bool) {v : Value} {z : DataW H × List MemPlace} (h : plainElem P e v = some z) : ∃ b, v = .bool b ∧ z = (.lit (.bool b), []) := by
  cases v <;> simp [plainElem, he] at h
  subst h
  exact ⟨_, rfl, rfl⟩
theorem lit_bool_inj {H : Type} {a b : Bool} (h : (DataW.lit (.bool a) : DataW H) = .lit (.bool b)) : a = b := by cases h; rfl
theorem zeroB (w : World) : (zeroValue 4).run Tryz.prog w = .ok (.bool false) w := by kernel_rfl
theorem seen_look {w : World} {M n : Nat} {ks : List (List UInt8)} (h : w.ownsMap Tryz.prog 9 (plainElem Tryz.prog 4) M n (keysD ks)) (k : List UInt8) (hk : k.length ≤ maxLen) :
    (Instr.lookup 81 (.map (some M)) (.string (str k)) false).run Tryz.prog w = .ok (.bool (ks.contains k)) w := by
  obtain ⟨v, ps, hrun, hv⟩ := h.lookup (Maps.string_keyed Tryz.underlying9) Tryz.underlying81 (zeroB w) (plainElem_bool Tryz.underlying4 false) (Go.WideMaps.keyOf_string_mk (P := Tryz.prog) Tryz.underlying9 (s := str k) (by rw [str_size]; exact hk))
  obtain ⟨c, rfl, hc⟩ := plainElem_bool_inv Tryz.underlying4 hv
  have e := congrArg Prod.fst hc
  dsimp only at e
  rw [show (str k).data.toList = k from str_list k, keysD_at k _ ks rfl] at e
  rw [hrun, lit_bool_inj e]
theorem ownsMap_fr {w w' : World} {M n : Nat} {D : DataW Unit} {F : Nat → Prop} {R : Value → Option (DataW Unit × List MemPlace)} (h : w.ownsMap Tryz.prog 9 R M n D) (hf : Fr F w w') (hF : ¬ F M) : w'.ownsMap Tryz.prog 9 R M n D := by
  obtain ⟨es, clock, hb, Ft, hs, hD⟩ := h
  exact ⟨es, clock, hf.heap hb hF, Ft, hs, hD⟩
theorem right_no {l : List Pr} {k : Nat} (hk : k < l.length) (h : okAt l k = false) : rightB l = false := by
  unfold rightB
  rw [Bool.and_eq_false_iff]
  left
  rw [List.all_eq_false]
  exact ⟨k, List.mem_range.2 hk, by rw [h]; simp⟩
theorem right_all {l : List Pr} (h : ∀ j, j < l.length → okAt l j = true) : rightB l = decide (l.length ≤ 8) := by
  unfold rightB
  rw [show (List.range l.length).all (okAt l) = true from List.all_eq_true.2 (fun j hj => h j (List.mem_range.1 hj)), Bool.true_and]
theorem take_keys (l : List Pr) (k : Nat) (hk : k < l.length) : (l.take (k + 1)).map (·.1) = (l.take k).map (·.1) ++ [l[k].1] := by
  rw [List.take_succ_eq_append_getElem hk, List.map_append]; rfl
set_option maxRecDepth 20000 in
set_option maxHeartbeats 4000000 in
theorem right_some (b off cap : Nat) (l : List Pr) (hl : l.length ≤ 100000) (hsm : ∀ p ∈ l, p.1.length ≤ 100000 ∧ p.2.length ≤ 100000) (w : World) (hb : PB w b off l) (hlc : l.length ≤ cap) (hcap : cap ≤ 9223372036854775807) :
    Calls Tryz.prog 24 #[.slice (some ⟨b, off, none⟩) l.length cap] w fun e w' => e = .returned (.bool (rightB l)) ∧ Fr (fun _ => False) w w' := by
  obtain ⟨rb, hrb⟩ : ∃ x, x = rightB l := ⟨_, rfl⟩
  obtain ⟨M, hM⟩ : ∃ k, k = w.heap.size := ⟨_, rfl⟩
  obtain ⟨n, hn⟩ : ∃ n, n = l.length := ⟨_, rfl⟩
  have HRB := Lib.hid hrb
  have HM := Lib.hid hM
  have HN := Lib.hid hn
  have HB := Lib.hid hb
  have HSM := Lib.hid hsm
  rw [← hrb, ← hn]
  rw [← hn] at hlc hl
  have hmm := @run_makeMap Tryz.prog
  clear hrb hM hn hb hsm
  go_enter Tryz.func24, Tryz.ntmps24
  go_wp2_with fail
  rw [← HM.out]
  go_loopw [9] (fun i wr => ∃ k : Nat, k ≤ n ∧ i = .int .i64 (k : Int) ∧ Fr (fun _ => False) w wr ∧ wr.ownsMap Tryz.prog 9 (plainElem Tryz.prog 4) M k (keysD ((l.take k).map (·.1))) ∧ Aside (∀ j, j < k → okAt l j = true)) (fun i _ => n - (intOf i).toNat)
  case atStart =>
    refine ⟨0, Nat.zero_le _, rfl, (Fr.refl _ _).alloc _, ?_, fun j hj => absurd hj (Nat.not_lt_zero _)⟩
    rw [HM.out, List.take_zero]
    exact World.ownsMap_made _ _ _ _
  case round =>
    obtain ⟨k, hk, rfl, hfr, hown, hall⟩ := hrel
    have HF := Lib.hid hfr
    have HO := Lib.hid hown
    have HA := Lib.hid hall
    clear hfr hown hall
    by_cases hlt : k < n
    · have hkl : k < l.length := by rw [← HN.out]; exact hlt
      obtain ⟨c0, c1⟩ := (HB.out.fr HF.out id).cells k hkl
      have hp := HSM.out _ (List.getElem_mem hkl)
      have hat : okAt l k = (prOk l[k] && !((l.take k).map (·.1)).contains l[k].1) := by unfold okAt; rw [List.getElem?_eq_getElem hkl]
      have hlook := seen_look ((ownsMap_fr HO.out ((Fr.refl (fun _ => False) wr).alloc (.cells #[.string (str l[k].1), .string (str l[k].2)] 42)) id)) l[k].1 (by unfold maxLen; omega)
      have hts := take_keys l k hkl
      obtain ⟨kk, hkk⟩ : ∃ x, x = l[k].1 := ⟨_, rfl⟩
      obtain ⟨vv, hvv⟩ : ∃ x, x = l[k].2 := ⟨_, rfl⟩
      have hprk : prOk l[k] = (decide (0 < kk.length) && decide (kk.length ≤ 32) && decide (vv.length ≤ 64)) := by rw [hkk, hvv]; rfl
      rw [hprk] at hat
      rw [← hkk] at hat hlook c0 hts hp
      rw [← hvv] at hlook c1 hp
      obtain ⟨K, hK⟩ : ∃ s, s = str kk := ⟨_, rfl⟩
      obtain ⟨V, hV⟩ : ∃ s, s = str vv := ⟨_, rfl⟩
      have hKs : K.size = kk.length := by rw [hK, str_size]
      have hVs : V.size = vv.length := by rw [hV, str_size]
      have hKL : K.toList = kk := by rw [hK, str_toList]
      rw [← hK] at hlook c0
      rw [← hV] at hlook c1
      obtain ⟨cn, hcn⟩ : ∃ x, x = ((l.take k).map (·.1)).contains kk := ⟨_, rfl⟩
      rw [← hcn] at hat hlook
      have hkey : keyOf Tryz.prog 9 (.string K) = some (.string kk) := by
        have := Go.WideMaps.keyOf_string_mk (P := Tryz.prog) Tryz.underlying9 (s := K) (by unfold maxLen; omega)
        rw [this, hK]
        show some (Lit.string (str kk).data.toList) = _
        rw [str_list]
      have HK := Lib.hid hkey
      have HT := Lib.hid hts
      have hi0 : (k : Int) < (n : Int) := by omega
      have hno : okAt l k = false → rb = false := fun h => by rw [HRB.out]; exact right_no hkl h
      have HNO := Lib.hid hno
      have HSZ := Lib.hid (And.intro hKs (And.intro hVs hp))
      clear hkk hvv hprk hK hV hcn hkey hts hno
      by_cases e1 : kk = []
      · have t1 : K.toList.isEmpty = true := by rw [hKL, e1]; rfl
        have t2 : (K.toList == []) = true := by rw [hKL, e1]; rfl
        have t3 : K.toList = [] := by rw [hKL, e1]
        have HR := Lib.hid (HNO.out (by rw [hat, e1]; rfl))
        clear hat hKL hKs hVs e1 hp
        go_wp2_with fail
        go_ret
        exact ⟨by rw [HR.out]; rfl, HF.out.alloc _⟩
      · have hpos : 0 < kk.length := List.length_pos_iff.2 e1
        have t1 : K.toList.isEmpty = false := by rw [hKL]; simpa using e1
        have t2 : (K.toList == []) = false := by rw [hKL]; simpa using e1
        by_cases e2 : 32 < kk.length
        · have t3 : decide ((32 : Int) < (K.size : Int)) = true := decide_eq_true (by omega)
          have HR := Lib.hid (HNO.out (by rw [hat, decide_eq_false (show ¬ kk.length ≤ 32 by omega)]; simp))
          clear hat hKL hKs hVs e1 e2 hpos hp
          go_wp2_with fail
          go_ret
          exact ⟨by rw [HR.out]; rfl, HF.out.alloc _⟩
        · have t3 : decide ((32 : Int) < (K.size : Int)) = false := decide_eq_false (by omega)
          by_cases e3 : 64 < vv.length
          · have t4 : decide ((64 : Int) < (V.size : Int)) = true := decide_eq_true (by omega)
            have HR := Lib.hid (HNO.out (by rw [hat, decide_eq_false (show ¬ vv.length ≤ 64 by omega)]; simp))
            clear hat hKL hKs hVs e1 e2 e3 hpos hp
            go_wp2_with fail
            go_ret
            exact ⟨by rw [HR.out]; rfl, HF.out.alloc _⟩
          · have t4 : decide ((64 : Int) < (V.size : Int)) = false := decide_eq_false (by omega)
            cases cn with
            | true =>
              have HR := Lib.hid (HNO.out (by rw [hat]; simp))
              clear hat hKL hKs hVs e1 e2 e3 hpos hp
              go_wp2_with fail
              go_ret
              exact ⟨by rw [HR.out]; rfl, HF.out.alloc _⟩
            | false =>
              have HOK := Lib.hid (show okAt l k = true by rw [hat, decide_eq_true hpos, decide_eq_true (show kk.length ≤ 32 by omega), decide_eq_true (show vv.length ≤ 64 by omega)]; rfl)
              clear hat hKL hKs hVs e1 e2 e3 hpos hp
              obtain ⟨w1, hrun, hown1, hgrow1⟩ := (ownsMap_fr HO.out ((Fr.refl (fun _ => False) wr).alloc (.cells #[.string K, .string V] 42)) id).update (Maps.string_keyed Tryz.underlying9) Tryz.underlying81 (by unfold maxLen; omega) HK.out (plainElem_bool Tryz.underlying4 true)
              have HO1 := Lib.hid hown1
              have HF1 := Lib.hid ((HF.out.alloc (.cells #[.string K, .string V] 42)).grown hgrow1 (fun j hj => by injection hj with hj; subst hj; exact .inr (Nat.le_of_eq HM.out.symm)))
              clear hown1 hgrow1
              go_wp2_with fail
              go_roundw
              case rel =>
                refine ⟨k + 1, by omega, by go_num, HF1.out, ?_, fun j hj => ?_⟩
                · rw [HT.out, keysD_snoc]; exact HO1.out
                · by_cases e : j = k
                  · rw [e]; exact HOK.out
                  · exact HA.out j (by omega)
              case measure => simp [intOf]; omega
    · obtain rfl : k = n := by omega
      have hr : rb = decide (k ≤ 8) := by rw [HRB.out, right_all (fun j hj => HA.out j (by rw [HN.out]; exact hj)), ← HN.out]
      have hge : ¬ (k : Int) < (k : Int) := by omega
      by_cases h8 : k ≤ 8
      · have t1 : decide ((k : Int) ≤ 8) = true := decide_eq_true (by omega)
        have t2 : decide (k ≤ 8) = true := decide_eq_true h8
        have HR := Lib.hid (hr.trans t2)
        clear hr h8
        go_wp2_with fail
        go_ret
        exact ⟨by rw [HR.out]; rfl, HF.out⟩
      · have t1 : decide ((k : Int) ≤ 8) = false := decide_eq_false (by omega)
        have t2 : decide (k ≤ 8) = false := decide_eq_false h8
        have HR := Lib.hid (hr.trans t2)
        clear hr h8
        go_wp2_with fail
        go_ret
        exact ⟨by rw [HR.out]; rfl, HF.out⟩
end Go.Proofs.YtcchhfkmhbjdmaaGreat
