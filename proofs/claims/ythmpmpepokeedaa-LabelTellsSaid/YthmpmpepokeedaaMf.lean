/- Labels: the document's Parse, walked. -/
import Derived.Test.YthmpmpepokeedaaMe
set_option linter.unusedVariables false
set_option linter.unusedSimpArgs false
set_option pp.deepTerms true
set_option pp.maxSteps 100000
namespace Go.Proofs.Ythmpmpepokeedaa
open Go.RowKit
def Rise (l : List Pr) : Prop := l.Pairwise (fun a b => Op.bytesLess a.1 b.1 = true)
theorem parse_flag {s : List UInt8} (h : (rawF s.length s).2 = false) : parseO s = none := by
  unfold parseO
  rw [if_neg (fun hh => by rw [h] at hh; cases hh.1)]
theorem parse_order {s : List UInt8} {dn tl : List Pr} {q p : Pr} (h : (rawF s.length s).1 = dn ++ p :: tl) (hq : q ∈ dn) (hl : Op.bytesLess q.1 p.1 = false) : parseO s = none := by
  unfold parseO
  rw [if_neg]
  rintro ⟨h1, h2, h3⟩
  obtain ⟨e1, e2⟩ := rawF_text s.length s _ (Nat.le_refl _) (Prod.ext rfl h1)
  have hs : sortR (rawF s.length s).1 = (rawF s.length s).1 := textL_inj (fun x hx => e2 x ((sortR_perm _).mem_iff.1 hx)) e2 (by rw [← e1]; exact h3)
  have hp := sortR_sorted (rawF s.length s).1
  rw [hs, h, List.pairwise_append] at hp
  have h5 := hp.2.2 q hq p (by simp)
  have hn := ((rightB_iff _).1 h2).2.1
  rw [h, List.map_append, List.nodup_append] at hn
  exact hn.2.2 q.1 (List.mem_map_of_mem hq) p.1 (by simp) (bl_total _ _ hl h5)
theorem parse_good {s : List UInt8} {out : List Pr} (h : rawF s.length s = (out, true)) (hr : Rise out) : parseO s = if rightB out then some out else none := by
  unfold parseO
  rw [h]
  cases hb : rightB out with
  | false => rw [if_neg (fun hh => by cases hh.2.1)]; rfl
  | true =>
    rw [if_pos, if_pos rfl]
    refine ⟨rfl, rfl, ?_⟩
    have hn := ((rightB_iff _).1 hb).2.1
    have : sortR out = out := sortR_same hn (hr.imp (fun {a b} hh => bl_asymm _ _ hh))
    unfold textOf
    rw [this]
    exact (rawF_text s.length s out (Nat.le_refl _) h).1.symm
theorem rise_snoc {dn : List Pr} {p : Pr} (h : Rise dn) (hl : ∀ q, dn.getLast? = some q → Op.bytesLess q.1 p.1 = true) : Rise (dn ++ [p]) := by
  unfold Rise at *
  rw [List.pairwise_append]
  refine ⟨h, List.pairwise_singleton _ _, fun a ha b hb => ?_⟩
  simp only [List.mem_singleton] at hb
  subst hb
  rcases List.eq_nil_or_concat dn with rfl | ⟨l, q, rfl⟩
  · cases ha
  · have h1 := hl q (by simp)
    rw [List.concat_eq_append] at ha h
    rcases List.mem_append.1 ha with ha | ha
    · rw [List.pairwise_append] at h
      exact bl_trans _ _ _ (h.2.2 a ha q (by simp)) h1
    · simp only [List.mem_singleton] at ha
      subst ha; exact h1
/-- Between two rounds of the document's Parse. -/
structure PdI (s : List UInt8) (w0 : World) (v : Value) (wr : World) (dn : List Pr) (rest : List UInt8) (nf : Nat) : Prop where
  own : wr.ownsRow w0.heap.size 77 2 v dn.length (dn.flatMap encP)
  fr : Fr (fun _ => False) w0 wr
  sfx : rest = s.drop (s.length - rest.length)
  le : rest.length ≤ s.length
  len : rest.length ≤ nf
  cnt : dn.length + nf = s.length
  raw : dn ++ (rawF nf rest).1 = (rawF s.length s).1
  flag : (rawF nf rest).2 = (rawF s.length s).2
  rise : Rise dn
theorem PdI.no1 {s : List UInt8} {w0 : World} {v : Value} {wr : World} {dn : List Pr} {c : UInt8} {t : List UInt8} {nf : Nat} (h : PdI s w0 v wr dn (c :: t) nf) (hc : tk (c :: t) = none) : parseO s = none := by
  have hl := h.len
  obtain ⟨m, rfl⟩ : ∃ m, nf = m + 1 := ⟨nf - 1, by simp at hl; omega⟩
  have hf := h.flag
  rw [rawF_cons, hc] at hf
  exact parse_flag hf.symm
theorem PdI.no2 {s : List UInt8} {w0 : World} {v : Value} {wr : World} {dn : List Pr} {c : UInt8} {t k r : List UInt8} {nf : Nat} (h : PdI s w0 v wr dn (c :: t) nf) (hc : tk (c :: t) = some (k, r)) (hc2 : tk r = none) : parseO s = none := by
  have hl := h.len
  obtain ⟨m, rfl⟩ : ∃ m, nf = m + 1 := ⟨nf - 1, by simp at hl; omega⟩
  have hf := h.flag
  rw [rawF_cons, hc] at hf
  dsimp only at hf
  rw [hc2] at hf
  exact parse_flag hf.symm
theorem PdI.two {s : List UInt8} {w0 : World} {v : Value} {wr : World} {dn : List Pr} {c : UInt8} {t k r vv r2 : List UInt8} {nf : Nat} (h : PdI s w0 v wr dn (c :: t) nf) (hc : tk (c :: t) = some (k, r)) (hc2 : tk r = some (vv, r2)) :
    ∃ m, nf = m + 1 ∧ dn ++ (k, vv) :: (rawF m r2).1 = (rawF s.length s).1 ∧ (rawF m r2).2 = (rawF s.length s).2 := by
  have hl := h.len
  obtain ⟨m, rfl⟩ : ∃ m, nf = m + 1 := ⟨nf - 1, by simp at hl; omega⟩
  have hf := h.flag
  have hr := h.raw
  rw [rawF_cons, hc] at hf hr
  dsimp only at hf hr
  rw [hc2] at hf hr
  exact ⟨m, rfl, hr, hf⟩
theorem PdI.order {s : List UInt8} {w0 : World} {v : Value} {wr : World} {dn : List Pr} {c : UInt8} {t k r vv r2 : List UInt8} {nf : Nat} (h : PdI s w0 v wr dn (c :: t) nf) (hc : tk (c :: t) = some (k, r)) (hc2 : tk r = some (vv, r2)) {q : Pr} (hq : q ∈ dn) (hl : Op.bytesLess q.1 k = false) : parseO s = none := by
  obtain ⟨m, _, h1, _⟩ := h.two hc hc2
  exact parse_order h1.symm hq hl
theorem drop_suffix {s p r : List UInt8} (h : s = p ++ r) : r = s.drop (s.length - r.length) := by
  subst h
  rw [List.length_append, Nat.add_sub_cancel, List.drop_left]
theorem PdI.next {s : List UInt8} {w0 : World} {v v' : Value} {wr w' : World} {dn : List Pr} {c : UInt8} {t k r vv r2 : List UInt8} {nf : Nat} (h : PdI s w0 v wr dn (c :: t) nf) (hc : tk (c :: t) = some (k, r)) (hc2 : tk r = some (vv, r2))
    (hl : ∀ q, dn.getLast? = some q → Op.bytesLess q.1 k = true) (h3 : w'.ownsRow w0.heap.size 77 2 v' (dn.length + 1) (dn.flatMap encP ++ encP (k, vv))) (h4 : Fr (fun _ => False) w0 w') :
    ∃ nf', PdI s w0 v' w' (dn ++ [(k, vv)]) r2 nf' := by
  obtain ⟨m, rfl, h1, h2⟩ := h.two hc hc2
  have l1 := tk_len hc
  have l2 := tk_len hc2
  have hlen := h.len
  have hs : s = s.take (s.length - (c :: t).length) ++ (encS k ++ encS vv) ++ r2 := by
    have e : c :: t = encS k ++ (encS vv ++ r2) := by rw [l1.1, ← l2.1]
    have := h.sfx
    generalize s.length - (c :: t).length = n at this ⊢
    conv => lhs; rw [← List.take_append_drop n s, ← this, e]
    simp only [List.append_assoc]
  refine ⟨m, ⟨?_, h4, drop_suffix hs, ?_, by have := l1.2.2; have := l2.2.2; omega, by have := h.cnt; rw [List.length_append]; simp; omega, by rw [List.append_assoc]; exact h1, h2, rise_snoc h.rise hl⟩⟩
  · rw [List.length_append, List.flatMap_append, List.flatMap_singleton]; exact h3
  · have := h.le; have := l1.2.2; have := l2.2.2; omega
theorem tk_at {s k r2 : List UInt8} {c : UInt8} {t : List UInt8} (hr : c :: t = s.drop (s.length - (c :: t).length)) (hle : (c :: t).length ≤ s.length) (h : tk (c :: t) = some (k, r2)) :
    c.toNat ≤ t.length ∧ (str s).extract (s.length - (c :: t).length + 1) (s.length - (c :: t).length + 1 + c.toNat) = str k ∧ r2.length = t.length - c.toNat ∧ r2 = s.drop (s.length - r2.length) ∧ k.length = c.toNat := by
  have h : (if t.length < c.toNat then none else some (t.take c.toNat, t.drop c.toNat)) = some (k, r2) := h
  by_cases hl : t.length < c.toNat
  · rw [if_pos hl] at h; cases h
  rw [if_neg hl] at h
  obtain ⟨rfl, rfl⟩ := Prod.mk.inj (Option.some.inj h)
  have ht : t = s.drop (s.length - (c :: t).length + 1) := by
    have := congrArg (List.drop 1) hr
    rw [List.drop_drop, List.drop_succ_cons, List.drop_zero] at this
    exact this
  refine ⟨by omega, ?_, by simp, ?_, by rw [List.length_take]; omega⟩
  · apply ByteArray.ext
    simp only [str, ByteArray.data_extract, List.extract_toArray, List.extract_eq_take_drop]
    rw [← ht]
    simp
  · refine drop_suffix (p := s.take (s.length - (c :: t).length + 1) ++ t.take c.toNat) ?_
    conv => lhs; rw [← List.take_append_drop (s.length - (c :: t).length + 1) s, ← ht]
    simp
theorem tk_no {c : UInt8} {t : List UInt8} (h : tk (c :: t) = none) : t.length < c.toNat := by
  have h : (if t.length < c.toNat then none else some (t.take c.toNat, t.drop c.toNat)) = none := h
  by_cases hl : t.length < c.toNat
  · exact hl
  · rw [if_neg hl] at h; cases h
theorem at_head {s : List UInt8} {c : UInt8} {t : List UInt8} (hr : c :: t = s.drop (s.length - (c :: t).length)) (hle : (c :: t).length ≤ s.length) (h : s.length - (c :: t).length < (str s).size) : (str s)[s.length - (c :: t).length]'h = c := by
  rw [sget s _ h]
  have h2 : s.length - (c :: t).length < s.length := by rw [str_size] at h; exact h
  have := List.drop_eq_getElem_cons h2
  rw [← hr] at this
  exact (List.cons.inj this).1.symm
end Go.Proofs.Ythmpmpepokeedaa
