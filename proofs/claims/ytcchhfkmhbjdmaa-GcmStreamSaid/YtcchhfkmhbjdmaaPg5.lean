/- The library's Builder at this program: WriteString with all else kept, String. -/
import Derived.Test.YtcchhfkmhbjdmaaPg4
import Derived.Test.YtcchhfkmhbjdmaaJa
import Derived.Shelf.Strings.BuilderK
set_option linter.unusedVariables false
set_option linter.unusedSimpArgs false
set_option pp.deepTerms true
set_option pp.maxSteps 100000
namespace Go.Proofs.Ytcchhfkmhbjdmaa
open Go.RowKit Go.Shelf
theorem infoB : (Try.prog.info? 5).map (fun i => (i.zero, i.size, i.bytes)) = some (some (.int .u8 0), 1, 1) := by kernel_rfl
theorem strCells_str (l : List UInt8) : Lib.strCells (str l) = bcells l := rfl
theorem own_keep {w w' : World} {B : Nat} {v : Value} {n : Nat} {xs : List Value} {F : Nat → Prop} (h : w.ownsRowF B 5 1 v n xs) (hf : Fr F w w') (hF : ∀ k, v.ownBlock = some k → ¬ F k) : w'.ownsRowF B 5 1 v n xs := by
  refine ⟨h.1, ?_⟩
  rcases h.2 with hn | ⟨g, cap, cur, fz, rfl, hb, hgg, rest⟩
  · exact .inl hn
  · exact .inr ⟨g, cap, cur, fz, rfl, hb, hf.heap hgg (hF g rfl), rest⟩
theorem own_ge {w : World} {B : Nat} {v : Value} {n : Nat} {xs : List Value} (h : w.ownsRowF B 5 1 v n xs) (k : Nat) (hk : v.ownBlock = some k) : B ≤ k := (h.lt k hk).1
theorem own_base {w : World} {B B' : Nat} {v : Value} {n : Nat} {xs : List Value} (h : w.ownsRowF B 5 1 v n xs) (hB : B' ≤ B) : w.ownsRowF B' 5 1 v n xs := by
  refine ⟨h.1, ?_⟩
  rcases h.2 with hn | ⟨g, cap, cur, fz, rfl, hb, rest⟩
  · exact .inl hn
  · exact .inr ⟨g, cap, cur, fz, rfl, by omega, rest⟩
theorem bcheck (B b : Nat) (p v : Value) (hp : p = .pointer none ∨ p = .pointer (some ⟨b, 0, none⟩)) (n : Nat) (xs : List Value) (w : World) (hb : w.heap[b]? = some (.cells #[p, v] 151 (0, 0))) (hown : w.ownsRowF B 5 1 v n xs) (hbB : b < B) :
    Calls Try.prog 133 #[.pointer (some ⟨b, 0, none⟩)] w fun e w' => e = .returned (.tuple #[]) ∧ w'.heap[b]? = some (.cells #[.pointer (some ⟨b, 0, none⟩), v] 151 (0, 0)) ∧ w'.ownsRowF B 5 1 v n xs ∧ Fr (fun k => k = b) w w' := by
  rcases hp with rfl | rfl
  · refine (show Calls Try.prog 133 #[.pointer (some ⟨b, 0, none⟩)] w fun e w' => e = .returned (.tuple #[]) ∧ w' = w.setCell ⟨b, 0, none⟩ (.pointer (some ⟨b, 0, none⟩)) from Any.Builder_copyCheck_fresh (P := Try.prog) (ρ := lays105_ren) { lays105 with } builder_extra105.toX72 b w ((cell_of_row w b 0 _ _ _ hb).trans rfl) (by unfold World.shape?; rw [hb]; rfl) (frozen_of_row w _ _ _ _ hb)).mono ?_
    rintro e w' ⟨rfl, rfl⟩
    have hf : Fr (fun k => k = b) w (w.setCell ⟨b, 0, none⟩ (.pointer (some ⟨b, 0, none⟩))) := (Fr.refl _ _).setCell _ _ (.inl rfl)
    exact ⟨rfl, heap_setCell_same w b 0 _ _ _ hb, own_keep hown hf (fun k hk => by have := own_ge hown k hk; omega), hf⟩
  · refine (show Calls Try.prog 133 #[.pointer (some ⟨b, 0, none⟩)] w fun e w' => e = .returned (.tuple #[]) ∧ w' = w from Any.Builder_copyCheck_used (P := Try.prog) (ρ := lays105_ren) { lays105 with } builder_extra105.toX72 b w ((cell_of_row w b 0 _ _ _ hb).trans rfl)).mono ?_
    rintro e w' ⟨rfl, rfl⟩
    exact ⟨rfl, hb, hown, Fr.refl _ _⟩
set_option maxRecDepth 20000 in
set_option maxHeartbeats 1000000 in
theorem builder_write (B b : Nat) (p v : Value) (hp : p = .pointer none ∨ p = .pointer (some ⟨b, 0, none⟩)) (bs s : List UInt8) (w : World) (hb : w.heap[b]? = some (.cells #[p, v] 151 (0, 0))) (hown : w.ownsRowF B 5 1 v bs.length (bcells bs)) (hbB : b < B) (hBw : B ≤ w.heap.size) (hlen : bs.length + s.length ≤ 1000000) :
    Calls Try.prog 112 #[.pointer (some ⟨b, 0, none⟩), .string (str s)] w fun e w' => (∃ u, e = .returned u) ∧ (∃ v', w'.heap[b]? = some (.cells #[.pointer (some ⟨b, 0, none⟩), v'] 151 (0, 0)) ∧ w'.ownsRowF B 5 1 v' (bs ++ s).length (bcells (bs ++ s))) ∧ Fr (fun k => k = b ∨ v.ownBlock = some k) w w' := by
  have HCh := Lib.hid (bcheck B b p v hp bs.length (bcells bs) w hb hown hbB)
  obtain ⟨S, hS⟩ : ∃ t, t = str s := ⟨_, rfl⟩
  have hsz : S.size = s.length := by rw [hS, str_size]
  have HS := Lib.hid hS
  rw [← hS]
  obtain ⟨i0, hi, hz0, hz1, hz2⟩ := info_parts infoB
  have HI := Lib.hid (And.intro hi (And.intro hz0 (And.intro hz1 hz2)))
  have HL := Lib.hid (And.intro hlen (And.intro hbB (And.intro hBw hsz)))
  clear hp hb hown hbB hBw hlen hS hi hz0 hz1 hz2 hsz
  go_enter Try.func112, Try.ntmps112
  go_wp2_with fail
  refine HCh.out.mono ?_
  rintro e w1 ⟨rfl, hb1, hown1, hf1⟩
  have c0 : w1.cell? ⟨b, 0, none⟩ = some (.pointer (some ⟨b, 0, none⟩)) := (cell_of_row w1 b 0 _ _ _ hb1).trans rfl
  have c1 : w1.cell? ⟨b, 1, none⟩ = some v := (cell_of_row w1 b 1 _ _ _ hb1).trans rfl
  have Hb1 := Lib.hid hb1
  have Hown1 := Lib.hid hown1
  have Hf1 := Lib.hid hf1
  clear hb1 hown1 hf1 HCh
  go_wp2_with (with_reducible refine Lib.wpList_append_own_stringF (o := ⟨some 14, _, _, _, _, _⟩) _ rfl _ _ 27 9 rfl B 5 i0 Try.underlying27 Try.underlying9 HI.out.1 HI.out.2.1 HI.out.2.2.1 HI.out.2.2.2 v _ _ rfl Hown1.out S rfl ?c3 ?c4 ?c5 ?_)
  case c3 => have := HL.out; unfold maxLen; omega
  case c4 => have := HL.out; omega
  case c5 => have := HL.out; have := Hf1.out.size; omega
  intro v' w2 hown' hgrow _
  have hf2 : Fr (fun k => k = b ∨ v.ownBlock = some k) w1 w2 := (Fr.refl _ _).grown hgrow (fun k hk => .inl (.inr hk))
  have hb2 : w2.heap[b]? = some (.cells #[.pointer (some ⟨b, 0, none⟩), v] 151 (0, 0)) := ((Fr.refl (fun k => B ≤ k) _).grown hgrow (fun k hk => .inl (own_ge Hown1.out k hk))).heap Hb1.out (by have := HL.out; omega)
  have d0 : w2.cell? ⟨b, 0, none⟩ = some (.pointer (some ⟨b, 0, none⟩)) := (cell_of_row w2 b 0 _ _ _ hb2).trans rfl
  have d1 : w2.cell? ⟨b, 1, none⟩ = some v := (cell_of_row w2 b 1 _ _ _ hb2).trans rfl
  have f1 : w2.frozen? ⟨b, 1, none⟩ = false := frozen_of_row w2 _ _ _ _ hb2
  obtain ⟨ao, n', cap, rfl⟩ : ∃ ao n' cap, v' = .slice ao n' cap := by
    rcases hown'.2 with ⟨hv, _⟩ | ⟨g, cap, cur, fz, hv, _⟩
    · exact ⟨_, _, _, hv⟩
    · exact ⟨_, _, _, hv⟩
  have hf3 : Fr (fun k => k = b) w2 (w2.setCell ⟨b, 1, none⟩ (.slice ao n' cap)) := (Fr.refl _ _).setCell _ _ (.inl rfl)
  have Hfin := Lib.hid (show (∃ v', (w2.setCell ⟨b, 1, none⟩ (.slice ao n' cap)).heap[b]? = some (.cells #[.pointer (some ⟨b, 0, none⟩), v'] 151 (0, 0)) ∧ (w2.setCell ⟨b, 1, none⟩ (.slice ao n' cap)).ownsRowF B 5 1 v' (bs ++ s).length (bcells (bs ++ s))) ∧ Fr (fun k => k = b ∨ v.ownBlock = some k) w (w2.setCell ⟨b, 1, none⟩ (.slice ao n' cap)) from ⟨⟨_, heap_setCell_same w2 b 1 _ _ _ hb2, own_keep (by
    have h := hown'
    rw [HS.out, strCells_str, str_size] at h
    rw [List.length_append, bcells_append]; exact h) hf3 (fun k hk => by have := own_ge hown' k hk; have := HL.out; omega)⟩, ((Hf1.out.mono (fun i hi => .inl (.inl hi))).trans hf2 (fun i hi => .inl hi)).trans hf3 (fun i hi => .inl (.inl hi))⟩)
  clear hown' hgrow hf2 hb2 hf3
  go_wp2_with fail
  go_ret2
  exact ⟨⟨_, rfl⟩, Hfin.out⟩
theorem builder_string (B b : Nat) (p v : Value) (hp : p = .pointer none ∨ p = .pointer (some ⟨b, 0, none⟩)) (bs : List UInt8) (w : World) (hb : w.heap[b]? = some (.cells #[p, v] 151 (0, 0))) (hown : w.ownsRowF B 5 1 v bs.length (bcells bs)) (hbB : b < B) (hBw : b ≤ w.heap.size) :
    Calls Try.prog 114 #[.pointer (some ⟨b, 0, none⟩)] w fun e w' => e = .returned (.string (str bs)) ∧ Below b w w' ∧ Lib.OthersKept 5 (some b) w w' := by
  have hown' : w.ownsRowF b 5 1 v (bcells bs).length (bcells bs) := by rw [bcells_length]; exact own_base hown (by omega)
  have hne : v.ownBlock ≠ some b := fun h => by have := own_ge hown b h; omega
  refine (show Calls Try.prog 114 #[.pointer (some ⟨b, 0, none⟩)] w fun e w' => e = .returned (.string (str bs)) ∧ (_ ∧ Below b w w' ∧ Lib.OthersKept 5 (some b) w w') from Any.Builder_String_any_k (P := Try.prog) (ρ := lays105_ren) { lays105 with } builder_extra105 b b bs w (by
    rcases hp with rfl | rfl
    · exact .inl ⟨Nat.le_refl _, v, hb, hown', hne⟩
    · exact .inr ⟨Nat.le_refl _, v, hb, hown', hne⟩) hBw).mono ?_
  rintro e w' ⟨rfl, _, h, ho⟩
  exact ⟨rfl, h, ho⟩
end Go.Proofs.Ytcchhfkmhbjdmaa
