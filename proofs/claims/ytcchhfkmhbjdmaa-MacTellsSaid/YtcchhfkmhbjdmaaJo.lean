/- ShaTells: the law's walk. -/
import Derived.Test.YtcchhfkmhbjdmaaJn
set_option linter.unusedVariables false
set_option linter.unusedSimpArgs false
set_option pp.deepTerms true
set_option pp.maxSteps 100000
namespace Go.Proofs.Ytcchhfkmhbjdmaa
open Go.RowKit
section
variable {ops : Array Oper} {rest : List Oper} {op : Oper} {a : Act} {w : World} {Q : Exit → Act → World → Prop}
set_option maxRecDepth 20000 in
theorem wpList_append_strs0 (hgd : Region.wanted op (yielded ops a.tmps) = true) (s y : Operand) (ho : op.op = .call { callee := .builtin .append, args := #[s, y], argTypes := #[42, 42] })
    (g : Nat) (hg : w.heap[g]? = some (.cells #[] 9 (0, 0))) (hs : a.eval s = .slice (some ⟨g, 0, none⟩) 0 0) (P o m c : Nat) (hy : a.eval y = .slice (some ⟨P, o, none⟩) m c)
    (parts : List (List UInt8)) (hm : m = parts.length) (ha : ∀ j s, parts[j]? = some s → w.cell? ⟨P, o + j, none⟩ = some (.string (str s))) (hbig : m ≤ 1000000)
    (hk : ∀ g' cap' w', (∀ j s, parts[j]? = some s → w'.cell? ⟨g', j, none⟩ = some (.string (str s))) → g' < w'.heap.size → w.grownBy w' (some g) → wpList Try.prog ops Q rest (a.put op.dst (.slice (some ⟨g', 0, none⟩) m cap')) w') : wpList Try.prog ops Q (op :: rest) a w := by
  refine wpList_step fun K hK => ?_
  rw [if_pos hgd]
  obtain ⟨i0, hi0⟩ : ∃ i0, Try.prog.info? 9 = some i0 := ⟨_, rfl⟩
  have hz0 : (Try.prog.info? 9).map (fun i => (i.zero, i.size, i.bytes)) = some (some (.string ⟨#[]⟩), 1, 16) := by kernel_rfl
  rw [hi0] at hz0
  simp only [Option.map_some, Option.some.injEq, Prod.mk.injEq] at hz0
  have hown : w.ownsRow g 9 1 (.slice (some ⟨g, 0, none⟩) 0 0) 0 [] := ⟨rfl, .inr ⟨g, 0, #[], rfl, Nat.le_refl _, hg, Nat.le_refl _, by decide, rfl, rfl⟩⟩
  have hlt := lt_of_heap hg
  obtain ⟨v', w', hr, h1, h2, h3⟩ := run_append_own (P := Try.prog) (w := w) g 42 op.type 9 i0 (.string ⟨#[]⟩) 1 16 Try.underlying42 hi0 hz0.1 hz0.2.1 hz0.2.2 rfl (by omega) _ 0 _ hown ⟨P, o, none⟩ m c (parts.map fun s => .string (str s))
    (by simp [hm]) (fun j u hj => by
      rw [Addr.add_mid]
      rw [List.getElem?_map] at hj
      cases hp : parts[j]? with
      | none => rw [hp] at hj; cases hj
      | some s => rw [hp] at hj; cases hj; exact ha j s hp) (by intro u hu; simp only [List.mem_map] at hu; obtain ⟨s, _, rfl⟩ := hu; rfl) (by unfold maxLen; omega) (by omega) (by omega)
  rw [Nat.zero_add, List.nil_append] at h1
  have hv' : ∃ g' cap', v' = .slice (some ⟨g', 0, none⟩) m cap' ∧ (∀ j s, parts[j]? = some s → w'.cell? ⟨g', j, none⟩ = some (.string (str s))) ∧ g' < w'.heap.size := by
    obtain ⟨hl, ⟨h, h0⟩ | ⟨g', cap', cur, hv, hb, hh, hnc, hcm, hcs, ht⟩⟩ := h1
    · exfalso
      have := h3.mp h
      cases this.1
    · refine ⟨g', cap', hv, fun j s hj => ?_, lt_of_heap hh⟩
      rw [cell_of_row w' g' j _ _ _ hh]
      have hget : (parts.map fun s => Value.string (str s))[j]? = some (.string (str s)) := by simp [hj]
      rw [← ht, List.getElem?_take] at hget
      split at hget
      · simpa using hget
      · cases hget
  obtain ⟨g', cap', rfl, hc', hg'⟩ := hv'
  unfold Oper.wp execOp
  simp only [ho, resolve, invoke, builtin, Sem.run_bind, Sem.run_pure, Result.andThen_ok, List.map_toArray, List.map_cons, List.map_nil, hs, hy, hr]
  exact hK _ _ (hk g' cap' w' hc' hg' h2)
end
set_option maxRecDepth 20000 in
set_option maxHeartbeats 1000000 in
theorem tells_some (B o cap : Nat) (parts : List (List UInt8)) (w : World) (hc : ∀ j s, parts[j]? = some s → w.cell? ⟨B, o + j, none⟩ = some (.string (str s))) (hs : ∀ s ∈ parts, s.length ≤ 140737488355328) (hlb : parts.length ≤ 9223372036854775807) (hB : B < w.heap.size) :
    Calls Try.prog 7 #[.slice (some ⟨B, o, none⟩) parts.length cap] w fun e w' => e = .returned (.bool true) ∧ Fr (fun _ => False) w w' := by
  have HC := Lib.hid hc
  have HFew := Lib.hid (fun w (h : ∀ j s, parts[j]? = some s → w.cell? ⟨B, o + j, none⟩ = some (.string (str s))) => few_some B o cap parts w h hs hlb)
  obtain ⟨n, hn⟩ : ∃ n, n = parts.length := ⟨_, rfl⟩
  have HN := Lib.hid hn
  have HBl := Lib.hid hB
  rw [← hn] at HFew ⊢
  have hnb : n ≤ 9223372036854775807 := by omega
  clear hc hs hn hlb hB
  go_enter Try.func7, Try.ntmps7
  go_wp2_with fail
  refine (sha_awake _).mono ?_
  rintro e w1 ⟨rfl, h1⟩
  have HF1 := Lib.hid h1
  have HC1 := Lib.hid (show ∀ j s, parts[j]? = some s → w1.cell? ⟨B, o + j, none⟩ = some (.string (str s)) from fun j s hj => h1.cell (HC.out j s hj) id)
  clear h1
  go_wp2_with fail
  refine (HFew.out w1 HC1.out).mono ?_
  rintro e w2 ⟨⟨r, rfl, hr⟩, rfl⟩
  cases r with
  | false =>
    clear hr
    go_wp2_with fail
    go_ret
    exact ⟨rfl, HF1.out⟩
  | true =>
    have HR := Lib.hid (hr rfl)
    have hn100 : n ≤ 100 := HR.out.1
    clear hr HFew
    go_wp2_with fail
    refine (sha_new _).mono ?_
    rintro e w3 ⟨T, K, rfl, h3, hT, hK, hf3⟩
    have H3 := Lib.hid h3
    have HF3 := Lib.hid (HF1.out.trans hf3 (fun i hi => hi.elim))
    have HTw := Lib.hid (show w.heap.size ≤ T from Nat.le_trans HF1.out.size hT)
    clear h3 hf3 hT hK
    go_wp2_with fail
    go_loopw [4, 5] (fun v4 v5 wr => ∃ i : Nat, i ≤ n ∧ v5 = .int .i64 i ∧ v4 = .string (str (parts.take i).flatten) ∧ TRep wr T K (Tal.new.add (parts.take i).flatten) ∧ Fr (fun _ => False) w wr) (fun _ v _ => n - (intOf v).toNat)
    case atStart => exact ⟨0, Nat.zero_le _, rfl, rfl, by
      have := H3.out
      rw [show (parts.take 0).flatten = [] from rfl, Tal.add_nil _ (by decide)]
      exact this, HF3.out⟩
    case round =>
      obtain ⟨i, hi, rfl, rfl, ht, hf⟩ := hrel
      have H4 := Lib.hid ht
      have HF4 := Lib.hid hf
      clear ht hf H3 HF3
      have HTot := Lib.hid (show ∀ j, (parts.take j).flatten.length ≤ 4000 from fun j => Nat.le_trans (total_take parts j) HR.out.2)
      obtain ⟨P, hP⟩ : ∃ P, P = (parts.take i).flatten := ⟨_, rfl⟩
      obtain ⟨PS, hPS⟩ : ∃ P, P = str (parts.take i).flatten := ⟨_, rfl⟩
      rw [← hP] at H4
      rw [← hPS]
      have HP := Lib.hid hP
      have HPS := Lib.hid (show PS = str P by rw [hPS, hP])
      have HPl := Lib.hid (show P.length ≤ 4000 by rw [hP]; exact HTot.out i)
      clear hP hPS
      by_cases hlt : i < n
      · have hx : (i : Int) < (n : Int) := by omega
        obtain ⟨s, hs⟩ : ∃ s, parts[i]? = some s := ⟨parts[i]'(by rw [← HN.out]; exact hlt), List.getElem?_eq_getElem (by rw [← HN.out]; exact hlt)⟩
        obtain ⟨S, hS⟩ : ∃ S, S = str s := ⟨_, rfl⟩
        have c1 : wr.cell? ⟨B, o + i, none⟩ = some (.string S) := by rw [hS]; exact HF4.out.cell (HC.out i s hs) id
        obtain ⟨N, hN⟩ : ∃ N, N = (parts.take (i + 1)).flatten := ⟨_, rfl⟩
        obtain ⟨NS, hNS⟩ : ∃ N', N' = str N := ⟨_, rfl⟩
        have hNP : N = P ++ s := by rw [hN, take_next _ _ _ hs, HP.out]
        have hap : PS ++ S = NS := by rw [HPS.out, hS, jstr_append, hNS, hNP]
        have hNl : N.length ≤ 4000 := by rw [hN]; exact HTot.out (i + 1)
        have hsl : s.length ≤ 4000 := by rw [hNP, List.length_append] at hNl; omega
        have hps : PS.size ≤ 4000 := by rw [HPS.out, str_size]; exact HPl.out
        have hss : S.size ≤ 4000 := by rw [hS, str_size]; exact hsl
        have hsb : ¬ 9223372036854775807 < PS.size + S.size := by omega
        have hsb2 : PS.size + S.size ≤ 9223372036854775807 := by omega
        have hNs : NS.size = N.length := by rw [hNS, str_size]
        obtain ⟨nl, hnl⟩ : ∃ k, k = N.length := ⟨_, rfl⟩
        rw [← hnl] at hNs
        obtain ⟨t2, ht2⟩ : ∃ t, t = Tal.new.add N := ⟨_, rfl⟩
        have HT2 := Lib.hid (show t2 = (Tal.new.add P).add s by rw [ht2, hNP, Tal.add_append])
        have HTn := Lib.hid (show (t2.n : Int) = (nl : Int) by rw [ht2, hnl]; show ((0 + N.length : Nat) : Int) = _; omega)
        obtain ⟨DS, hDS⟩ : ∃ D, D = str (dig N) := ⟨_, rfl⟩
        have HAdd := Lib.hid (show ∀ w, TRep w T K (Tal.new.add P) → Calls Try.prog 29 #[.pointer (some ⟨T, 0, none⟩), .string S] w fun e w' => e = .returned (.pointer (some ⟨T, 0, none⟩)) ∧ TRep w' T K t2 ∧ Fr (fun i => i = T) w w' from fun w h => by
          rw [HT2.out, hS]; exact sha_add T K _ s (by have := HPl.out; show 0 + P.length + _ ≤ _; omega) w h)
        have HSum := Lib.hid (show ∀ w, TRep w T K t2 → Calls Try.prog 30 #[.pointer (some ⟨T, 0, none⟩)] w fun e w' => e = .returned (.string DS) ∧ Fr (fun _ => False) w w' from fun w h => by
          rw [hDS, dig_sum, ← ht2]; exact sha_sum T K t2 (by rw [ht2]; show 0 + N.length ≤ _; omega) w h)
        have HRef := Lib.hid (show ∀ w, Calls Try.prog 31 #[.string NS] w fun e w' => e = .returned (.string DS) ∧ Fr (fun _ => False) w w' from fun w => by
          rw [hNS, hDS]; exact ref_sum N (by omega) w)
        obtain ⟨q, hq⟩ : ∃ q, q = i % 5 := ⟨_, rfl⟩
        have hq1 : (i : Int).tmod 5 = (q : Int) := by rw [Int.tmod_eq_emod_of_nonneg (by omega)]; omega
        have hq2 : (i : Int) % 5 = (q : Int) := by omega
        have hq3 : IntKind.i64.wrap (q : Int) = (q : Int) := IntWalk.i64_in _ (by omega)
        have HNd := Lib.hid hN
        have HNSd := Lib.hid hNS
        have HT2d := Lib.hid ht2
        have HCS := Lib.hid (show ∀ w', Fr (fun i => i = T) wr w' → w'.cell? ⟨B, o + i, none⟩ = some (.string S) from fun w' h => h.cell c1 (by have := HBl.out; have := HTw.out; simp; omega))
        clear hs hS hN hNS hNP hNl hsl hps hss hnl ht2 hDS hq
        go_wp2_with fail
        refine (HAdd.out wr H4.out).mono ?_
        rintro e w5 ⟨rfl, h5, hf5⟩
        have H5 := Lib.hid h5
        have HF5 := Lib.hid (HF4.out.trans hf5 (fun i hi => .inr (by rw [hi]; exact HTw.out)))
        have c5 : w5.cell? ⟨B, o + i, none⟩ = some (.string S) := HCS.out w5 hf5
        clear h5 hf5 c1 HCS
        by_cases h0 : q = 0
        · have d0 : ((q : Int) == 0) = true := by simp [h0]
          clear h0
          go_wp2_with fail
          refine (HSum.out w5 H5.out).mono ?_
          rintro e w6 ⟨rfl, hf6⟩
          have H6 := Lib.hid (H5.out.fr hf6 id id)
          have HF6 := Lib.hid (HF5.out.trans hf6 (fun i hi => hi.elim))
          clear hf6
          go_wp2_with fail
          refine (HRef.out w6).mono ?_
          rintro e w7 ⟨rfl, hf7⟩
          have H7 := Lib.hid (H6.out.fr hf7 id id)
          have HF7 := Lib.hid (HF6.out.trans hf7 (fun i hi => hi.elim))
          clear hf7
          go_wp2_with fail
          refine (sha_len T K t2 w7 H7.out).mono ?_
          rintro e w8 ⟨rfl, rfl⟩
          rw [HTn.out]
          go_wp2_with fail
          go_roundw
          case rel => exact ⟨i + 1, by omega, by go_num, by rw [HNSd.out, HNd.out], by rw [← HNd.out, ← HT2d.out]; exact H7.out, HF7.out⟩
          case measure => simp [intOf]; omega
        · have d0 : ((q : Int) == 0) = false := by simp; omega
          clear h0
          go_wp2_with fail
          refine (sha_len T K t2 w5 H5.out).mono ?_
          rintro e w8 ⟨rfl, rfl⟩
          rw [HTn.out]
          go_wp2_with fail
          go_roundw
          case rel => exact ⟨i + 1, by omega, by go_num, by rw [HNSd.out, HNd.out], by rw [← HNd.out, ← HT2d.out]; exact H5.out, HF5.out⟩
          case measure => simp [intOf]; omega
      · have hin : i = n := by omega
        have HPA := Lib.hid (show P = parts.flatten by rw [HP.out, hin, HN.out, List.take_length])
        obtain ⟨DS, hDS⟩ : ∃ D, D = str (dig P) := ⟨_, rfl⟩
        have HSum := Lib.hid (show ∀ w, TRep w T K (Tal.new.add P) → Calls Try.prog 30 #[.pointer (some ⟨T, 0, none⟩)] w fun e w' => e = .returned (.string DS) ∧ Fr (fun _ => False) w w' from fun w h => by
          rw [hDS, dig_sum]; exact sha_sum T K _ (by have := HPl.out; show 0 + P.length ≤ _; omega) w h)
        have HRef := Lib.hid (show ∀ w, Calls Try.prog 31 #[.string PS] w fun e w' => e = .returned (.string DS) ∧ Fr (fun _ => False) w w' from fun w => by
          rw [HPS.out, hDS]; exact ref_sum P (by have := HPl.out; omega) w)
        have HOf := Lib.hid (show ∀ g' cap' w, (∀ j s, parts[j]? = some s → w.cell? ⟨g', j, none⟩ = some (.string (str s))) → g' < w.heap.size → Calls Try.prog 33 #[.slice (some ⟨g', 0, none⟩) n cap'] w fun e w' => e = .returned (.string DS) ∧ Fr (fun _ => False) w w' from fun g' cap' w h hg => by
          rw [hDS, HPA.out, HN.out]; exact sha_of g' cap' parts w h (by have := HR.out.2; omega) (by rw [← HN.out]; omega) hg)
        clear hDS hin
        go_wp2_with fail
        refine (HSum.out wr H4.out).mono ?_
        rintro e w6 ⟨rfl, hf6⟩
        have HF6 := Lib.hid (HF4.out.trans hf6 (fun i hi => hi.elim))
        clear hf6
        go_wp2_with fail
        refine (HRef.out w6).mono ?_
        rintro e w7 ⟨rfl, hf7⟩
        have HF7 := Lib.hid (HF6.out.trans hf7 (fun i hi => hi.elim))
        clear hf7
        have hg7 := heap_alloc_new w7 (.cells #[] 9)
        have HG7 := Lib.hid hg7
        have HF8 := Lib.hid (HF7.out.alloc (.cells #[] 9))
        have HC8 := Lib.hid (show ∀ j s, parts[j]? = some s → (w7.alloc (.cells #[] 9)).cell? ⟨B, o + j, none⟩ = some (.string (str s)) from fun j s hj => HF8.out.cell (HC.out j s hj) id)
        have HW7 := Lib.hid (show w.heap.size ≤ w7.heap.size from HF7.out.size)
        clear hg7
        go_wp2_with (with_reducible refine wpList_append_strs0 (op := ⟨some 55, _, _, _, _, _⟩) (by kernel_rfl) _ _ rfl w7.heap.size HG7.out rfl B o n cap rfl parts HN.out HC8.out (by omega) ?_)
        intro g' cap' w9 hc9 hl9 hgr
        have HF9 := Lib.hid (HF8.out.grown hgr (fun k hk => .inr (by cases hk; exact HW7.out)))
        have HOf9 := Lib.hid (HOf.out g' cap' w9 hc9 hl9)
        clear hc9 hgr
        go_wp2_with fail
        refine HOf9.out.mono ?_
        rintro e w10 ⟨rfl, hf10⟩
        have HF10 := Lib.hid (HF9.out.trans hf10 (fun i hi => hi.elim))
        clear hf10
        go_wp2_with fail
        refine (HRef.out w10).mono ?_
        rintro e w11 ⟨rfl, hf11⟩
        have HF11 := Lib.hid (HF10.out.trans hf11 (fun i hi => hi.elim))
        clear hf11
        go_wp2_with fail
        go_ret
        exact ⟨by simp, HF11.out⟩
end Go.Proofs.Ytcchhfkmhbjdmaa
