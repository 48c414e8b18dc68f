/- Labels: the library's AppendSeq and Collect at pairs. -/
import Derived.Test.YtcchhfkmhbjdmaaGreatLf
set_option linter.unusedVariables false
set_option linter.unusedSimpArgs false
set_option pp.deepTerms true
set_option pp.maxSteps 100000
namespace Go.Proofs.YtcchhfkmhbjdmaaGreat
open Go.RowKit Go.Shelf
attribute [local go_sem] Oper.semAt_some
theorem rowp_keep {w w' : World} {B : Nat} {v : Value} {n : Nat} {xs : List Value} {F : Nat → Prop} (h : w.ownsRow B 42 2 v n xs) (hf : Fr F w w') (hF : ∀ k, v.ownBlock = some k → ¬ F k) : w'.ownsRow B 42 2 v n xs := hf.own h hF
theorem rowp_cells {w : World} {B : Nat} {v : Value} {n : Nat} {xs : List Value} (h : w.ownsRow B 42 2 v n xs) (k : Nat) (hk : v.ownBlock = some k) : B ≤ k ∧ ∃ cs, w.heap[k]? = some (.cells cs 42 (0, 0)) := by
  rcases h.2 with ⟨hn, _⟩ | ⟨g, cap, cur, rfl, hb, hgg, rest⟩
  · rw [hn] at hk; cases hk
  · cases hk; exact ⟨hb, _, hgg⟩
theorem heap_grownP {w w' : World} {g : Nat} {cs : Array Value} {t : TypeId} {fz : Nat × Nat} {row : Option Nat} (h : w.heap[g]? = some (.cells cs t fz)) (hg : w.grownBy w' row) (hr : ∀ r, row = some r → ∃ o : Obj, w.heap[r]? = some o ∧ o.isCells = false) : w'.heap[g]? = some (.cells cs t fz) :=
  (hg.block g (lt_of_heap h) (fun e => by obtain ⟨o, ho, hc⟩ := hr g e.symm; rw [h] at ho; cases ho; cases hc)).trans h
theorem rowp_grown {w w' : World} {B : Nat} {v : Value} {n : Nat} {xs : List Value} {row : Option Nat} (h : w.ownsRow B 42 2 v n xs) (hg : w.grownBy w' row) (hr : ∀ r, row = some r → ∃ o : Obj, w.heap[r]? = some o ∧ o.isCells = false) : w'.ownsRow B 42 2 v n xs := by
  refine ⟨h.1, ?_⟩
  rcases h.2 with hn | ⟨g, cap, cur, rfl, hb, hgg, rest⟩
  · exact .inl hn
  · exact .inr ⟨g, cap, cur, rfl, hb, heap_grownP hgg hg hr, rest⟩
theorem keepsFrom_of_frP {F : Nat → Prop} {W W' : World} (D : Nat) (h : Fr F W W') (hF : ∀ k, D ≤ k → F k → ∃ cs t fz, W.heap[k]? = some (.cells cs t fz)) : KeepsFrom D W W' :=
  ⟨h.size, fun k o hk ho hc => (h.block k (lt_of_heap ho) (fun hf => by obtain ⟨cs, t, fz, he⟩ := hF k hk hf; rw [he] at ho; cases ho; cases hc)).trans ho⟩
/-- Between two rounds of AppendSeq. -/
def SeqI (l : List Pr) (w0 : World) (SB : Nat) (pre : List (Fin l.length)) (W : World) : Prop :=
  Fr (fun k => k = SB) w0 W ∧ ∃ v, W.heap[SB]? = some (.cells #[v] 24 (0, 0)) ∧ W.ownsRow w0.heap.size 42 2 v pre.length (pre.flatMap fun x => encP l[x.1]) ∧ (v = .slice none 0 0 ↔ pre = [])
theorem seqI_own (l : List Pr) (w0 : World) (SB : Nat) : OwnFrom w0.heap.size (SeqI l w0 SB) := by
  rintro s A B row ⟨h1, v, h2, h3, h4⟩ hg hr
  exact ⟨h1.grown hg (fun k hk => .inr (hr k hk).1), v, heap_grownP h2 hg (fun r e => (hr r e).2), rowp_grown h3 hg (fun r e => (hr r e).2), h4⟩
def SeqA (l : List Pr) (sv : Value) (SB : Nat) (x : Fin l.length) (a : Act) (W : World) : Prop :=
  ∃ blk, a = { tmps := #[.slice none 0 0, sv, .pointer (some ⟨SB, 0, none⟩), undef, .slice none 0 0, .pointer (some ⟨blk, 0, none⟩), sv, .agg #[.string (str l[x.1].1), .string (str l[x.1].2)], undef, undef, undef, undef, undef], defers := [] } ∧ W.heap[blk]? = some (.cells #[.string (str l[x.1].1), .string (str l[x.1].2)] 42 (0, 0))
theorem seqA_own (l : List Pr) (sv : Value) (SB B : Nat) (x : Fin l.length) (a : Act) : OwnFrom B (fun (_ : Unit) W => SeqA l sv SB x a W) := by
  rintro s A B' row ⟨blk, ha, hb⟩ hg hr
  exact ⟨blk, ha, heap_grownP hb hg (fun r e => (hr r e).2)⟩
theorem fins_flat (l : List Pr) : (finsP l.length l.length).flatMap (fun x => encP l[x.1]) = l.flatMap encP := by
  rw [fins_all, List.flatMap_def, List.flatMap_def]
  congr 1
  apply List.ext_getElem
  · simp
  · intro i h1 h2
    simp
set_option maxRecDepth 100000 in
set_option maxHeartbeats 4000000 in
theorem appendSeq_calls (VB b off cap : Nat) (a : Option Addr) (l : List Pr) (ha : l ≠ [] → a = some ⟨b, off, none⟩) (hlc : l.length ≤ cap) (hcap : cap ≤ 9223372036854775807) (hbig : l.length ≤ 1000000) (w : World) (h1 : VB < w.heap.size) (h2 : b < w.heap.size)
    (hVB : w.cell? ⟨VB, 0, none⟩ = some (.slice a l.length cap)) (hPB : PB w b off l) :
    Calls Tryz.prog 87 #[.slice none 0 0, .func (.func 70) #[] #[.pointer (some ⟨VB, 0, none⟩)]] w fun e w' => ∃ v, e = .returned v ∧ w'.ownsRow w.heap.size 42 2 v l.length (l.flatMap encP) ∧ (v = .slice none 0 0 ↔ l = []) ∧ Fr (fun _ => False) w w' := by
  refine (callsIn_wide (n := 3)).1 ?_
  refine callsIn_of_wp_marks Tryz.func87 rfl trivial ?_ rfl
  simp only [Tryz.ntmps87, List.size_toArray, List.length_cons, List.length_nil, Nat.reduceAdd, Nat.reduceSub, Array.replicate_succ, Array.replicate_zero, List.push_toArray, List.append_toArray, List.nil_append, List.cons_append]
  obtain ⟨SB, hSB⟩ : ∃ k, k = w.heap.size := ⟨_, rfl⟩
  have HSB := Lib.hid hSB
  have H1 := Lib.hid (And.intro h1 (And.intro h2 (And.intro hVB hPB)))
  have HA := Lib.hid ha
  have HL := Lib.hid (And.intro hlc (And.intro hcap hbig))
  clear hSB h1 h2 hVB hPB ha hlc hcap hbig
  gi_wp2_with fail
  rw [← HSB.out]
  obtain ⟨w0, hw0⟩ : ∃ w0, w0 = w.alloc (.cells #[.slice none 0 0] 24) := ⟨_, rfl⟩
  rw [← hw0]
  have hsz0 : w0.heap.size = SB + 1 := by rw [hw0, HSB.out]; simp
  have hS0 : w0.heap[SB]? = some (.cells #[.slice none 0 0] 24 (0, 0)) := by rw [hw0, HSB.out]; exact heap_alloc_new w _
  have hF0 : Fr (fun _ => False) w w0 := by rw [hw0]; exact (Fr.refl _ _).alloc _
  clear hw0
  have HSz := Lib.hid hsz0
  have HS0 := Lib.hid hS0
  have HF0 := Lib.hid hF0
  clear hsz0 hS0 hF0
  have h00 : SeqI l w0 SB [] w0 := ⟨Fr.refl _ _, _, HS0.out, ⟨rfl, .inl ⟨rfl, rfl⟩⟩, by simp⟩
  refine wpIn_rangeFunc_ownH (α := Fin l.length) rfl (by omega) (gf := 70) (lb := #[.pointer (some ⟨VB, 0, none⟩)]) rfl trivial (enters_of Tryz.func70 (by kernel_rfl) rfl)
    (values_stops _ VB b off cap a l HA.out HL.out.1 HL.out.2.1 HL.out.2.2 w0 (Nat.lt_of_lt_of_le H1.out.1 HF0.out.size) (Nat.lt_of_lt_of_le H1.out.2.1 HF0.out.size) (HF0.out.cell H1.out.2.2.1 id) (H1.out.2.2.2.fr HF0.out id))
    (fun h k => h.trans k) (fun W lp o o' hl ho _ _ => ⟨by simp, fun k hk => World.putObj_heap_other (by have := HSz.out; have := H1.out.1; have := H1.out.2.1; have := HSB.out; rcases hk with hk | hk <;> omega)⟩) (Below.refl _ _) (fun _ => rfl)
    (SeqI l w0 SB) (fun _ _ _ => False) (seqI_own _ _ _) (fun _ _ _ _ _ hs _ _ => hs) h00 (SeqA l (.func (.func 70) #[] #[.pointer (some ⟨VB, 0, none⟩)]) SB) (fun x a' => seqA_own _ _ _ _ _ _) ?assign ?body ?done ?stop
  case stop =>
    rintro D c pre W _ _ h _
    exact h.elim
  case assign =>
    rintro lp pre x W K hI hK
    unfold encV
    have hf : Fr (fun _ => False) W (W.alloc (.cells #[.string (str l[x.1].1), .string (str l[x.1].2)] 42)) := (Fr.refl _ _).alloc _
    have hs1 : w0.heap.size ≤ W.heap.size := hI.1.size
    have HKK := Lib.hid (hK { tmps := #[.slice none 0 0, .func (.func 70) #[] #[.pointer (some ⟨VB, 0, none⟩)], .pointer (some ⟨SB, 0, none⟩), undef, .slice none 0 0, .pointer (some ⟨W.heap.size, 0, none⟩), .func (.func 70) #[] #[.pointer (some ⟨VB, 0, none⟩)], .agg #[.string (str l[x.1].1), .string (str l[x.1].2)], undef, undef, undef, undef, undef], defers := [] } (W.alloc (.cells #[.string (str l[x.1].1), .string (str l[x.1].2)] 42))
      (keepsFrom_of_frP _ hf (fun k _ h => h.elim)) (Kp2.of_fr hf ⟨by have := HSz.out; have := H1.out.1; have := HSB.out; omega, id⟩ ⟨by have := HSz.out; have := H1.out.2.1; have := HSB.out; omega, id⟩) ((seqI_own l w0 SB).alloc _ hI) ⟨_, rfl, heap_alloc_new _ _⟩)
    clear hK hI hf hs1 h00
    generalize l[x.1].1 = kk at HKK ⊢
    generalize l[x.1].2 = vv at HKK ⊢
    generalize str kk = K0 at HKK ⊢
    generalize str vv = V0 at HKK ⊢
    gi_wp2
    exact HKK.out
  case done =>
    rintro D ys W hD rfl ⟨hf, v, hv, ho, hnil⟩ hK
    rw [fins_flat, finsP_length _ _ (Nat.le_refl _)] at ho
    have hnil' : v = .slice none 0 0 ↔ l = [] := by
      rw [hnil]
      constructor
      · intro h
        have := congrArg List.length h
        rw [finsP_length _ _ (Nat.le_refl _)] at this
        exact List.eq_nil_of_length_eq_zero this
      · intro h; subst h; rfl
    have c0 : W.cell? ⟨SB, 0, none⟩ = some v := (cell_of_row W SB 0 _ _ _ hv).trans rfl
    have HF := Lib.hid (show Fr (fun _ => False) w W from HF0.out.trans hf (fun i hi => .inr (by subst hi; exact Nat.le_of_eq HSB.out.symm)))
    have HO := Lib.hid ho
    have HN := Lib.hid hnil'
    have HK := Lib.hid hK
    have hvs : ∃ aa nn cc, v = .slice aa nn cc := by
      rcases ho.2 with ⟨h, _⟩ | ⟨g, cap', cur, h, _⟩
      · exact ⟨_, _, _, h⟩
      · exact ⟨_, _, _, h⟩
    obtain ⟨aa, nn, cc, rfl⟩ := hvs
    clear hf hv ho hnil hnil' hK h00
    gi_wp2
    refine ⟨by simp, .inl ⟨_, _, rfl, run_takeDeferred HK.out, ?_⟩⟩
    refine ⟨_, results_tmp rfl _ _ _, .slice aa nn cc, rfl, ?_, HN.out, HF.out.grown (grownBy_putObj' W D _) (fun k e => by cases e; exact .inr (by have := HSz.out; have := HSB.out; omega))⟩
    have hb : w0.heap.size ≤ W.heap.size := Nat.le_trans hD (Nat.le_of_lt (lt_of_heap HK.out))
    have hr := rowp_grown HO.out (grownBy_putObj' W D (.deferred none)) (fun r e => by cases e; exact ⟨_, HK.out, rfl⟩)
    refine ⟨hr.1, ?_⟩
    rcases hr.2 with h | ⟨g, cap', cur, e1, e2, rest⟩
    · exact .inl h
    · exact .inr ⟨g, cap', cur, e1, by have := HF0.out.size; omega, rest⟩
  case body =>
    rintro lp pre x a' W hlp _ ⟨hf, v, hv, ho, hnil⟩ ⟨blk, rfl, hblk⟩ hlen
    obtain ⟨i0, hi, hz0, hz1, hz2⟩ := info_parts infoP
    obtain ⟨K, hK⟩ : ∃ s, s = str l[x.1].1 := ⟨_, rfl⟩
    obtain ⟨V, hV⟩ : ∃ s, s = str l[x.1].2 := ⟨_, rfl⟩
    have henc : encP l[x.1] = [.string K, .string V] := by rw [hK, hV]; rfl
    rw [← hK, ← hV] at hblk ⊢
    have hsz := HSz.out
    have hwb : w0.heap.size ≤ W.heap.size := hf.size
    have hfa : Fr (fun _ => False) W (W.alloc (.cells #[.string K, .string V] 42)) := (Fr.refl _ _).alloc _
    have HOA := Lib.hid (rowp_keep ho hfa (fun _ _ => id))
    have hoc : ∀ k, v.ownBlock = some k → w0.heap.size ≤ k ∧ ∃ cs, W.heap[k]? = some (.cells cs 42 (0, 0)) := fun k hk => rowp_cells ho k hk
    have HI := Lib.hid (And.intro hi (And.intro hz0 (And.intro hz1 hz2)))
    have HFA := Lib.hid hfa
    have HOC := Lib.hid hoc
    have HF := Lib.hid hf
    have HE := Lib.hid henc
    have HNil := Lib.hid hnil
    have HV := Lib.hid hv
    have cv : W.cell? ⟨SB, 0, none⟩ = some v := (cell_of_row W SB 0 _ _ _ hv).trans rfl
    have cb0 : W.cell? ⟨blk, 0, none⟩ = some (.string K) := (cell_of_row W blk 0 _ _ _ hblk).trans rfl
    have cb1 : W.cell? ⟨blk, 1, none⟩ = some (.string V) := (cell_of_row W blk 1 _ _ _ hblk).trans rfl
    have hbs := buildP K V W
    have HLP := Lib.hid hlp
    have HWB := Lib.hid hwb
    have HLen := Lib.hid hlen
    clear hf hv ho hnil hblk hK hV henc hfa hoc hi hz0 hz1 hz2 h00 hlp hlen
    gi_wp2_with (with_reducible refine wpListIn_append_own (o := ⟨some 11, _, _, _, _, _⟩) _ rfl _ _ 24 rfl w0.heap.size 42 i0 (.agg #[.string ⟨#[]⟩, .string ⟨#[]⟩]) 2 32 Tryz.underlying24 HI.out.1 HI.out.2.1 HI.out.2.2.1 HI.out.2.2.2 rfl (by decide) v _ _ rfl HOA.out ⟨W.heap.size, 0, none⟩ 1 1 [.string K, .string V] rfl rfl ?c1 ?c2 ?c3 ?c4 ?c5 ?_)
    case c1 =>
      intro j u hj
      rw [Addr.add_lit, Nat.zero_add, cell_of_row _ W.heap.size j _ _ _ (heap_alloc_new W _)]
      simpa using hj
    case c2 => intro u hu; simp only [List.mem_cons, List.not_mem_nil, or_false] at hu; rcases hu with rfl | rfl <;> rfl
    case c3 => have := HL.out; have := HLen.out; unfold maxLen; omega
    case c4 => have := HL.out; have := HLen.out; omega
    case c5 => have := HFA.out.size; have := HWB.out; omega
    intro v' w3 hown' hgrow hnil'
    have hg2 : Fr (fun k => v.ownBlock = some k) W w3 := (HFA.out.mono (fun i hi => hi.elim)).trans ((Fr.refl (fun k => v.ownBlock = some k) _).grown hgrow (fun k hk => .inl hk)) (fun i hi => .inl hi)
    have hv3 : w3.heap[SB]? = some (.cells #[v] 24 (0, 0)) := hg2.heap HV.out (fun h => by have := (HOC.out SB h).1; omega)
    have f3 : w3.frozen? ⟨SB, 0, none⟩ = false := frozen_of_row w3 _ _ _ _ hv3
    have c3 : w3.cell? ⟨SB, 0, none⟩ = some v := (cell_of_row w3 SB 0 _ _ _ hv3).trans rfl
    have hvs' : ∃ aa nn cc, v' = .slice aa nn cc := by
      rcases hown'.2 with ⟨h, _⟩ | ⟨g, cap', cur, h, _⟩
      · exact ⟨_, _, _, h⟩
      · exact ⟨_, _, _, h⟩
    obtain ⟨aa', nn', cc', rfl⟩ := hvs'
    have HG4 := Lib.hid (show Fr (fun k => k = SB ∨ v.ownBlock = some k) W (w3.setCell ⟨SB, 0, none⟩ (.slice aa' nn' cc')) from (hg2.mono (fun i hi => .inl (.inr hi))).setCell _ _ (.inl (.inl rfl)))
    have HV4 := Lib.hid (show (w3.setCell ⟨SB, 0, none⟩ (.slice aa' nn' cc')).heap[SB]? = some (.cells #[.slice aa' nn' cc'] 24 (0, 0)) from heap_setCell_same w3 SB 0 _ _ _ hv3)
    have HO4 := Lib.hid (rowp_keep hown' ((Fr.refl (fun k => k = SB) w3).setCell ⟨SB, 0, none⟩ (.slice aa' nn' cc') (.inl rfl)) (fun k hk => by have := (rowp_cells hown' k hk).1; omega))
    have HN2 := Lib.hid hnil'
    clear hown' hgrow hnil' hg2 hv3
    gi_wp2
    have hsz := HSz.out
    have hno : ∀ i, i < w0.heap.size → i ≠ SB → ¬ (i = SB ∨ v.ownBlock = some i) := fun i hi hne h => by
      rcases h with h | h
      · exact hne h
      · have := (HOC.out i h).1; omega
    refine ⟨keepsFrom_of_frP _ HG4.out (fun i hi hF => ?_), Kp2.of_fr HG4.out ⟨by have := H1.out.1; have := HSB.out; have := HWB.out; omega, hno _ (by have := H1.out.1; have := HSB.out; omega) (by have := H1.out.1; have := HSB.out; omega)⟩ ⟨by have := H1.out.2.1; have := HSB.out; have := HWB.out; omega, hno _ (by have := H1.out.2.1; have := HSB.out; omega) (by have := H1.out.2.1; have := HSB.out; omega)⟩, ?_⟩
    · rcases hF with h | h
      · omega
      · obtain ⟨cs, he⟩ := (HOC.out i h).2
        exact ⟨cs, _, _, he⟩
    · refine ⟨HF.out.trans HG4.out (fun i hi => ?_), _, HV4.out, ?_, ?_⟩
      · rcases hi with h | h
        · exact .inl h
        · exact .inr (HOC.out i h).1
      · rw [List.length_append, List.flatMap_append, List.flatMap_singleton, HE.out, hsz]
        exact HO4.out
      · exact ⟨fun h => (HN2.out h).elim, fun h => by simp at h⟩
end Go.Proofs.YtcchhfkmhbjdmaaGreat
