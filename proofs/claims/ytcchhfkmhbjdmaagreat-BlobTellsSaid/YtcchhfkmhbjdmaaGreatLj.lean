/- Labels: the library's Builder (with all else kept), put, Text: walked. -/
import Derived.Test.YtcchhfkmhbjdmaaGreatLi
import Derived.Lib.FrozenHead2
set_option linter.unusedVariables false
set_option linter.unusedSimpArgs false
set_option pp.deepTerms true
set_option pp.maxSteps 100000
namespace Go.Proofs.YtcchhfkmhbjdmaaGreat
open Go.RowKit Go.Shelf
theorem lb_infoB : (Tryz.prog.info? 5).map (fun i => (i.zero, i.size, i.bytes)) = some (some (.int .u8 0), 1, 1) := by kernel_rfl
theorem lb_keep {w w' : World} {B : Nat} {v : Value} {n : Nat} {xs : List Value} {F : Nat → Prop} (h : w.ownsRowF B 5 1 v n xs) (hf : Fr F w w') (hF : ∀ k, v.ownBlock = some k → ¬ F k) : w'.ownsRowF B 5 1 v n xs := by
  refine ⟨h.1, ?_⟩
  rcases h.2 with hn | ⟨g, cap, cur, fz, rfl, hb, hgg, rest⟩
  · exact .inl hn
  · exact .inr ⟨g, cap, cur, fz, rfl, hb, hf.heap hgg (hF g rfl), rest⟩
theorem lb_ge {w : World} {B : Nat} {v : Value} {n : Nat} {xs : List Value} (h : w.ownsRowF B 5 1 v n xs) (k : Nat) (hk : v.ownBlock = some k) : B ≤ k := (h.lt k hk).1
theorem lb_base {w : World} {B B' : Nat} {v : Value} {n : Nat} {xs : List Value} (h : w.ownsRowF B 5 1 v n xs) (hB : B' ≤ B) : w.ownsRowF B' 5 1 v n xs := by
  refine ⟨h.1, ?_⟩
  rcases h.2 with hn | ⟨g, cap, cur, fz, rfl, hb, rest⟩
  · exact .inl hn
  · exact .inr ⟨g, cap, cur, fz, rfl, by omega, rest⟩
/-- A Builder in block b, its bytes from block B on. -/
def BD (w : World) (b B : Nat) (bs : List UInt8) : Prop := ∃ p v, (p = .pointer none ∨ p = .pointer (some ⟨b, 0, none⟩)) ∧ w.heap[b]? = some (.cells #[p, v] 57 (0, 0)) ∧ w.ownsRowF B 5 1 v bs.length (bcells bs)
theorem BD.fr {w w' : World} {b B : Nat} {bs : List UInt8} {F : Nat → Prop} (h : BD w b B bs) (hf : Fr F w w') (hb : ¬ F b) (hF : ∀ k, B ≤ k → ¬ F k) : BD w' b B bs := by
  obtain ⟨p, v, hp, h1, h2⟩ := h
  exact ⟨p, v, hp, hf.heap h1 hb, lb_keep h2 hf (fun k hk => hF k (lb_ge h2 k hk))⟩
/-- What a Builder's method may turn: its own block, and rows of bytes from block B on. -/
def FU (b B : Nat) (w : World) (k : Nat) : Prop := k = b ∨ (B ≤ k ∧ ∃ cs fz, w.heap[k]? = some (.cells cs 5 fz))
theorem FU.trans {b B : Nat} {x y z : World} (h : Fr (FU b B x) x y) (k : Fr (FU b B y) y z) : Fr (FU b B x) x z := h.trans k (fun i hi => by
  rcases hi with hi | ⟨hB, cs, fz, hc⟩
  · exact .inl (.inl hi)
  · rcases Nat.lt_or_ge i x.heap.size with hlt | hge
    · by_cases hF : FU b B x i
      · exact .inl hF
      · rw [h.block i hlt hF] at hc
        exact absurd (.inr ⟨hB, cs, fz, hc⟩) hF
    · exact .inr hge)
theorem lb_rows {w : World} {B : Nat} {v : Value} {n : Nat} {xs : List Value} (h : w.ownsRowF B 5 1 v n xs) (b : Nat) (k : Nat) (hk : v.ownBlock = some k) : FU b B w k := by
  rcases h.2 with ⟨hn, _⟩ | ⟨g, cap, cur, fz, rfl, hb, hgg, rest⟩
  · rw [hn] at hk; cases hk
  · cases hk; exact .inr ⟨hb, _, _, hgg⟩
theorem lb_check (B b : Nat) (p v : Value) (hp : p = .pointer none ∨ p = .pointer (some ⟨b, 0, none⟩)) (n : Nat) (xs : List Value) (w : World) (hb : w.heap[b]? = some (.cells #[p, v] 57 (0, 0))) (hown : w.ownsRowF B 5 1 v n xs) (hbB : b < B) :
    Calls Tryz.prog 43 #[.pointer (some ⟨b, 0, none⟩)] w fun e w' => e = .returned (.tuple #[]) ∧ w'.heap[b]? = some (.cells #[.pointer (some ⟨b, 0, none⟩), v] 57 (0, 0)) ∧ w'.ownsRowF B 5 1 v n xs ∧ Fr (fun k => k = b) w w' := by
  rcases hp with rfl | rfl
  · refine (show Calls Tryz.prog 43 #[.pointer (some ⟨b, 0, none⟩)] w fun e w' => e = .returned (.tuple #[]) ∧ w' = w.setCell ⟨b, 0, none⟩ (.pointer (some ⟨b, 0, none⟩)) from Any.Builder_copyCheck_fresh (P := Tryz.prog) (ρ := bld_ren) bld240 bldX.toX72 b w ((cell_of_row w b 0 _ _ _ hb).trans rfl) (by unfold World.shape?; rw [hb]; rfl) (frozen_of_row w _ _ _ _ hb)).mono ?_
    rintro e w' ⟨rfl, rfl⟩
    have hf : Fr (fun k => k = b) w (w.setCell ⟨b, 0, none⟩ (.pointer (some ⟨b, 0, none⟩))) := (Fr.refl _ _).setCell _ _ (.inl rfl)
    exact ⟨rfl, heap_setCell_same w b 0 _ _ _ hb, lb_keep hown hf (fun k hk => by have := lb_ge hown k hk; omega), hf⟩
  · refine (show Calls Tryz.prog 43 #[.pointer (some ⟨b, 0, none⟩)] w fun e w' => e = .returned (.tuple #[]) ∧ w' = w from Any.Builder_copyCheck_used (P := Tryz.prog) (ρ := bld_ren) bld240 bldX.toX72 b w ((cell_of_row w b 0 _ _ _ hb).trans rfl)).mono ?_
    rintro e w' ⟨rfl, rfl⟩
    exact ⟨rfl, hb, hown, Fr.refl _ _⟩
set_option maxRecDepth 20000 in
set_option maxHeartbeats 1000000 in
theorem lb_write (B b : Nat) (bs s : List UInt8) (w : World) (h : BD w b B bs) (hbB : b < B) (hBw : B ≤ w.heap.size) (hlen : bs.length + s.length ≤ 1000000) :
    Calls Tryz.prog 27 #[.pointer (some ⟨b, 0, none⟩), .string (str s)] w fun e w' => (∃ u, e = .returned u) ∧ BD w' b B (bs ++ s) ∧ Fr (FU b B w) w w' := by
  obtain ⟨p, v, hp, hb, hown⟩ := h
  have HRow := Lib.hid (lb_rows hown b)
  have HCh := Lib.hid (lb_check B b p v hp bs.length (bcells bs) w hb hown hbB)
  obtain ⟨S, hS⟩ : ∃ t, t = str s := ⟨_, rfl⟩
  have hsz : S.size = s.length := by rw [hS, str_size]
  have HS := Lib.hid hS
  rw [← hS]
  obtain ⟨i0, hi, hz0, hz1, hz2⟩ := info_parts lb_infoB
  have HI := Lib.hid (And.intro hi (And.intro hz0 (And.intro hz1 hz2)))
  have HL := Lib.hid (And.intro hlen (And.intro hbB (And.intro hBw hsz)))
  clear hp hb hown hbB hBw hlen hS hi hz0 hz1 hz2 hsz
  go_enter Tryz.func27, Tryz.ntmps27
  go_wp2_with fail
  refine HCh.out.mono ?_
  rintro e w1 ⟨rfl, hb1, hown1, hf1⟩
  have c0 : w1.cell? ⟨b, 0, none⟩ = some (.pointer (some ⟨b, 0, none⟩)) := (cell_of_row w1 b 0 _ _ _ hb1).trans rfl
  have c1 : w1.cell? ⟨b, 1, none⟩ = some v := (cell_of_row w1 b 1 _ _ _ hb1).trans rfl
  have Hb1 := Lib.hid hb1
  have Hown1 := Lib.hid hown1
  have Hf1 := Lib.hid hf1
  clear hb1 hown1 hf1 HCh
  go_wp2_with (with_reducible refine Lib.wpList_append_own_stringF (o := ⟨some 14, _, _, _, _, _⟩) _ rfl _ _ 53 9 rfl B 5 i0 Tryz.underlying53 Tryz.underlying9 HI.out.1 HI.out.2.1 HI.out.2.2.1 HI.out.2.2.2 v _ _ rfl Hown1.out S rfl ?c3 ?c4 ?c5 ?_)
  case c3 => have := HL.out; unfold maxLen; omega
  case c4 => have := HL.out; omega
  case c5 => have := HL.out; have := Hf1.out.size; omega
  intro v' w2 hown' hgrow _
  have hf2 : Fr (fun k => v.ownBlock = some k) w1 w2 := (Fr.refl _ _).grown hgrow (fun k hk => .inl hk)
  have hb2 : w2.heap[b]? = some (.cells #[.pointer (some ⟨b, 0, none⟩), v] 57 (0, 0)) := ((Fr.refl (fun k => B ≤ k) _).grown hgrow (fun k hk => .inl (lb_ge Hown1.out k hk))).heap Hb1.out (by have := HL.out; omega)
  have d0 : w2.cell? ⟨b, 0, none⟩ = some (.pointer (some ⟨b, 0, none⟩)) := (cell_of_row w2 b 0 _ _ _ hb2).trans rfl
  have d1 : w2.cell? ⟨b, 1, none⟩ = some v := (cell_of_row w2 b 1 _ _ _ hb2).trans rfl
  have f1 : w2.frozen? ⟨b, 1, none⟩ = false := frozen_of_row w2 _ _ _ _ hb2
  obtain ⟨ao, n', cap, rfl⟩ : ∃ ao n' cap, v' = .slice ao n' cap := by
    rcases hown'.2 with ⟨hv, _⟩ | ⟨g, cap, cur, fz, hv, _⟩
    · exact ⟨_, _, _, hv⟩
    · exact ⟨_, _, _, hv⟩
  have hf3 : Fr (fun k => k = b) w2 (w2.setCell ⟨b, 1, none⟩ (.slice ao n' cap)) := (Fr.refl _ _).setCell _ _ (.inl rfl)
  have Hfin := Lib.hid (show BD (w2.setCell ⟨b, 1, none⟩ (.slice ao n' cap)) b B (bs ++ s) ∧ Fr (FU b B w) w (w2.setCell ⟨b, 1, none⟩ (.slice ao n' cap)) from ⟨⟨_, _, .inr rfl, heap_setCell_same w2 b 1 _ _ _ hb2, lb_keep (by
    have h := hown'
    rw [HS.out, show Lib.strCells (str s) = bcells s from rfl, str_size] at h
    rw [List.length_append, bcells_append]; exact h) hf3 (fun k hk => by have := lb_ge hown' k hk; have := HL.out; omega)⟩, ((Hf1.out.mono (fun i hi => .inl (.inl hi))).trans hf2 (fun i hi => .inl (HRow.out i hi))).trans hf3 (fun i hi => .inl (.inl hi))⟩)
  clear hown' hgrow hf2 hb2 hf3
  go_wp2_with fail
  go_ret2
  exact ⟨⟨_, rfl⟩, Hfin.out⟩
set_option maxRecDepth 20000 in
set_option maxHeartbeats 1000000 in
theorem lb_byte (B b : Nat) (bs : List UInt8) (c : UInt8) (w : World) (h : BD w b B bs) (hbB : b < B) (hBw : B ≤ w.heap.size) (hlen : bs.length ≤ 1000000) :
    Calls Tryz.prog 26 #[.pointer (some ⟨b, 0, none⟩), .int .u8 (c.toNat : Int)] w fun e w' => e = .returned .nilIface ∧ BD w' b B (bs ++ [c]) ∧ Fr (FU b B w) w w' := by
  obtain ⟨p, v, hp, hb, hown⟩ := h
  have HRow := Lib.hid (lb_rows hown b)
  have HCh := Lib.hid (lb_check B b p v hp bs.length (bcells bs) w hb hown hbB)
  obtain ⟨i0, hi, hz0, hz1, hz2⟩ := info_parts lb_infoB
  have HI := Lib.hid (And.intro hi (And.intro hz0 (And.intro hz1 hz2)))
  have HL := Lib.hid (And.intro hlen (And.intro hbB hBw))
  clear hp hb hown hbB hBw hlen hi hz0 hz1 hz2
  go_enter Tryz.func26, Tryz.ntmps26
  go_wp2_with fail
  refine HCh.out.mono ?_
  rintro e w1 ⟨rfl, hb1, hown1, hf1⟩
  have c0 : w1.cell? ⟨b, 0, none⟩ = some (.pointer (some ⟨b, 0, none⟩)) := (cell_of_row w1 b 0 _ _ _ hb1).trans rfl
  have c1 : w1.cell? ⟨b, 1, none⟩ = some v := (cell_of_row w1 b 1 _ _ _ hb1).trans rfl
  have Hb1 := Lib.hid hb1
  have Hown1 := Lib.hid hown1
  have Hf1 := Lib.hid hf1
  clear hb1 hown1 hf1 HCh
  go_wp2_with (with_reducible refine wpList_append_ownF (o := ⟨some 14, _, _, _, _, _⟩) _ rfl _ _ 53 rfl B 5 i0 (.int .u8 0) 1 1 Tryz.underlying53 HI.out.1 HI.out.2.1 HI.out.2.2.1 HI.out.2.2.2 rfl (by decide) v _ _ rfl (lb_keep Hown1.out ((Fr.refl (fun _ => False) w1).alloc (.cells #[.int .u8 (c.toNat : Int)] 5)) (fun _ _ => id)) ⟨w1.heap.size, 0, none⟩ 1 1 [.int .u8 (c.toNat : Int)] rfl rfl ?c1 ?c2 ?c3 ?c4 ?c5 ?_)
  case c1 =>
    intro j u hj
    rw [Addr.add_lit, Nat.zero_add, cell_of_row _ w1.heap.size j _ _ _ (heap_alloc_new w1 _)]
    simpa using hj
  case c2 => intro u hu; simp only [List.mem_cons, List.not_mem_nil, or_false] at hu; subst hu; rfl
  case c3 => have := HL.out; unfold maxLen; omega
  case c4 => have := HL.out; omega
  case c5 => have := HL.out; have := Hf1.out.size; simp; omega
  intro v' w2 hown' hgrow _
  have hfa : Fr (fun k => v.ownBlock = some k) w1 (w1.alloc (.cells #[.int .u8 (c.toNat : Int)] 5)) := (Fr.refl _ _).alloc _
  have hf2 : Fr (fun k => v.ownBlock = some k) w1 w2 := hfa.grown hgrow (fun k hk => .inl hk)
  have hb2 : w2.heap[b]? = some (.cells #[.pointer (some ⟨b, 0, none⟩), v] 57 (0, 0)) := (((Fr.refl (fun k => B ≤ k) w1).alloc (.cells #[.int .u8 (c.toNat : Int)] 5)).grown hgrow (fun k hk => .inl (lb_ge Hown1.out k hk))).heap Hb1.out (by have := HL.out; omega)
  have d0 : w2.cell? ⟨b, 0, none⟩ = some (.pointer (some ⟨b, 0, none⟩)) := (cell_of_row w2 b 0 _ _ _ hb2).trans rfl
  have d1 : w2.cell? ⟨b, 1, none⟩ = some v := (cell_of_row w2 b 1 _ _ _ hb2).trans rfl
  have f1 : w2.frozen? ⟨b, 1, none⟩ = false := frozen_of_row w2 _ _ _ _ hb2
  obtain ⟨ao, n', cap, rfl⟩ : ∃ ao n' cap, v' = .slice ao n' cap := by
    rcases hown'.2 with ⟨hv, _⟩ | ⟨g, cap, cur, fz, hv, _⟩
    · exact ⟨_, _, _, hv⟩
    · exact ⟨_, _, _, hv⟩
  have hf3 : Fr (fun k => k = b) w2 (w2.setCell ⟨b, 1, none⟩ (.slice ao n' cap)) := (Fr.refl _ _).setCell _ _ (.inl rfl)
  have Hfin := Lib.hid (show BD (w2.setCell ⟨b, 1, none⟩ (.slice ao n' cap)) b B (bs ++ [c]) ∧ Fr (FU b B w) w (w2.setCell ⟨b, 1, none⟩ (.slice ao n' cap)) from ⟨⟨_, _, .inr rfl, heap_setCell_same w2 b 1 _ _ _ hb2, lb_keep (by
    have h := hown'
    rw [List.length_append, bcells_append]; exact h) hf3 (fun k hk => by have := lb_ge hown' k hk; have := HL.out; omega)⟩, ((Hf1.out.mono (fun i hi => .inl (.inl hi))).trans hf2 (fun i hi => .inl (HRow.out i hi))).trans hf3 (fun i hi => .inl (.inl hi))⟩)
  clear hown' hgrow hf2 hb2 hf3 hfa
  go_wp2_with fail
  go_ret
  exact ⟨rfl, Hfin.out⟩
theorem lb_string (B b : Nat) (bs : List UInt8) (w : World) (h : BD w b B bs) (hbB : b < B) (hBw : b ≤ w.heap.size) :
    Calls Tryz.prog 29 #[.pointer (some ⟨b, 0, none⟩)] w fun e w' => e = .returned (.string (str bs)) ∧ Below b w w' := by
  obtain ⟨p, v, hp, hb, hown⟩ := h
  have hown' : w.ownsRowF b 5 1 v (bcells bs).length (bcells bs) := by rw [bcells_length]; exact lb_base hown (by omega)
  have hne : v.ownBlock ≠ some b := fun h => by have := lb_ge hown b h; omega
  refine (show Calls Tryz.prog 29 #[.pointer (some ⟨b, 0, none⟩)] w fun e w' => e = .returned (.string (str bs)) ∧ (_ ∧ Below b w w' ∧ Lib.OthersKept 5 (some b) w w') from Any.Builder_String_any_k (P := Tryz.prog) (ρ := bld_ren) bld169 bldX b b bs w (by
    rcases hp with rfl | rfl
    · exact .inl ⟨Nat.le_refl _, v, hb, hown', hne⟩
    · exact .inr ⟨Nat.le_refl _, v, hb, hown', hne⟩) hBw).mono ?_
  rintro e w' ⟨rfl, _, h, ho⟩
  exact ⟨rfl, h⟩
set_option maxRecDepth 20000 in
set_option maxHeartbeats 1000000 in
theorem put_calls (B b : Nat) (bs s : List UInt8) (w : World) (h : BD w b B bs) (hbB : b < B) (hBw : B ≤ w.heap.size) (hlen : bs.length + s.length ≤ 900000) :
    Calls Tryz.prog 25 #[.string (str s), .pointer (some ⟨b, 0, none⟩)] w fun e w' => e = .returned (.tuple #[]) ∧ BD w' b B (bs ++ encS s) ∧ Fr (FU b B w) w w' := by
  obtain ⟨S, hS⟩ : ∃ t, t = str s := ⟨_, rfl⟩
  obtain ⟨c, hc⟩ : ∃ c, c = UInt8.ofNat s.length := ⟨_, rfl⟩
  have hsz : S.size = s.length := by rw [hS, str_size]
  have hw8 : IntKind.u8.wrap (S.size : Int) = (c.toNat : Int) := by rw [IntKind.wrap_u8', hsz, hc]; simp
  have hw9 : (S.size : Int) % 256 = (c.toNat : Int) := by rw [hsz, hc]; simp
  have HB := Lib.hid (lb_byte B b bs c w h hbB hBw (by omega))
  have HW := Lib.hid (show ∀ w1, BD w1 b B (bs ++ [c]) → Fr (FU b B w) w w1 → Calls Tryz.prog 27 #[.pointer (some ⟨b, 0, none⟩), .string S] w1 fun e w' => (∃ u, e = .returned u) ∧ BD w' b B (bs ++ encS s) ∧ Fr (FU b B w1) w1 w' from fun w1 h1 hf => by
    have h2 := lb_write B b (bs ++ [c]) s w1 h1 hbB (Nat.le_trans hBw hf.size) (by rw [List.length_append]; simp; omega)
    rw [List.append_assoc, hc] at h2
    rw [hS]; exact h2)
  have hs63 : S.size ≤ 9223372036854775807 := by omega
  rw [← hS]
  clear hS hc hsz h hbB hBw hlen
  go_enter Tryz.func25, Tryz.ntmps25
  go_wp2_with fail
  refine HB.out.mono ?_
  rintro e w1 ⟨rfl, h1, f1⟩
  have H1 := Lib.hid h1
  have F1 := Lib.hid f1
  clear h1 f1
  go_wp2_with fail
  refine (HW.out w1 H1.out F1.out).mono ?_
  rintro e w2 ⟨⟨u, rfl⟩, h2, f2⟩
  have H2 := Lib.hid h2
  have F2 := Lib.hid (FU.trans F1.out f2)
  clear h2 f2
  go_wp2_with fail
  go_end0
  exact ⟨rfl, H2.out, F2.out⟩
end Go.Proofs.YtcchhfkmhbjdmaaGreat
