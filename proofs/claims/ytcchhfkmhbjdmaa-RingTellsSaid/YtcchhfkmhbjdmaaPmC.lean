/- Tags over many parts: mac.Tag, mac.Check, mac.Derive walked. -/
import Derived.Lib.ConvBytes
import Derived.Test.YtcchhfkmhbjdmaaPm4
/-! Jd -/
set_option linter.unusedVariables false
set_option linter.unusedSimpArgs false
set_option pp.deepTerms true
set_option pp.maxSteps 100000
namespace Go.Proofs.Ytcchhfkmhbjdmaa
open Go.RowKit
/-- A row of strings, as cells. -/
theorem strs_cell (w : World) (l : List (List UInt8)) (t : TypeId) (j : Nat) (s : List UInt8) (hj : l[j]? = some s) :
    (w.alloc (.cells (l.map fun s => Value.string (str s)).toArray t)).cell? ⟨w.heap.size, j, none⟩ = some (.string (str s)) := by
  rw [cell_of_row _ w.heap.size j _ _ _ (heap_alloc_new w _)]
  simp [hj]
end Go.Proofs.Ytcchhfkmhbjdmaa
/-! Jf -/
set_option linter.unusedVariables false
set_option linter.unusedSimpArgs false
set_option pp.deepTerms true
set_option pp.maxSteps 100000
namespace Go.Proofs.Ytcchhfkmhbjdmaa
open Go.RowKit
/-! ### plain -/
def xorB (b : UInt8) (l : List UInt8) : List UInt8 := l.map fun x => x ^^^ b
def keyN (key : List UInt8) : List UInt8 := if 64 < key.length then dig key else key
def padK (k : List UInt8) : List UInt8 := k ++ List.replicate (64 - k.length) 0
def tagK (k64 txt : List UInt8) : List UInt8 := dig (xorB 92 k64 ++ dig (xorB 54 k64 ++ txt))
def tag (key txt : List UInt8) : List UInt8 := tagK (padK (keyN key)) txt
theorem dig_length (l : List UInt8) : (dig l).length = 32 := (Tal.new_ok.add l).sum_length
theorem keyN_length (key : List UInt8) : (keyN key).length ≤ 64 := by
  unfold keyN
  split
  · rw [dig_length]; omega
  · omega
theorem padK_length (k : List UInt8) (h : k.length ≤ 64) : (padK k).length = 64 := by
  unfold padK; rw [List.length_append, List.length_replicate]; omega
theorem xorB_length (b : UInt8) (l : List UInt8) : (xorB b l).length = l.length := by simp [xorB]
theorem tag_length (key txt : List UInt8) : (tag key txt).length = 32 := dig_length _
/-! ### rows of bytes off a conversion -/
def JRow (w : World) (g : Nat) (xs : List UInt8) : Prop :=
  ∃ (cur : List Value) (fr : Nat × Nat), w.heap[g]? = some (.cells (bcells xs ++ cur).toArray 5 fr) ∧ (fr = (0, 0) ∨ xs.length ≤ fr.1)
theorem JRow.cell {w : World} {g : Nat} {xs : List UInt8} (h : JRow w g xs) (k : Nat) (x : UInt8) (hx : xs[k]? = some x) : w.cell? ⟨g, k, none⟩ = some (.int .u8 (x.toNat : Int)) := by
  obtain ⟨cur, fr, hg, _⟩ := h
  have hk : k < xs.length := (List.getElem?_eq_some_iff.1 hx).1
  rw [cell_of_row w g k _ _ _ hg]
  simp only [List.getElem?_toArray]
  rw [List.getElem?_append_left (by rw [bcells_length]; exact hk)]
  simp [bcells, hx]
theorem JRow.range {w : World} {g : Nat} {xs : List UInt8} (h : JRow w g xs) : w.rangeAt g 0 (bcells xs) := fun j v hj => by
  rw [bcells_get] at hj
  rw [Nat.zero_add]
  cases hx : xs[j]? with
  | none => rw [hx] at hj; cases hj
  | some x => rw [hx] at hj; rw [h.cell j x hx]; exact hj
theorem JRow.lt {w : World} {g : Nat} {xs : List UInt8} (h : JRow w g xs) : g < w.heap.size := by
  obtain ⟨cur, fr, hg, _⟩ := h
  exact lt_of_heap hg
theorem JRow.fr {F : Nat → Prop} {w w' : World} {g : Nat} {xs : List UInt8} (h : JRow w g xs) (hf : Fr F w w') (hn : ¬ F g) : JRow w' g xs := by
  obtain ⟨cur, fr, hg, h2⟩ := h
  exact ⟨cur, fr, hf.heap hg hn, h2⟩
theorem JRow.free {w : World} {g : Nat} {xs : List UInt8} (h : JRow w g xs) (k : Nat) (hk : k < xs.length) : w.frozen? ⟨g, k, none⟩ = false := by
  obtain ⟨cur, fr, hg, h2⟩ := h
  simp only [World.frozen?, hg]
  rcases h2 with h2 | h2
  · rw [h2]; simp
  · simp; omega
theorem jsetCell_row (w : World) (g i : Nat) (cs : Array Value) (t : TypeId) (fr : Nat × Nat) (v : Value) (hg : w.heap[g]? = some (.cells cs t fr)) :
    (w.setCell ⟨g, i, none⟩ v).heap[g]? = some (.cells (cs.setIfInBounds i v) t fr) := by
  rw [setCell_eq_setRow w g i cs t fr v hg]
  show (w.heap.modify g _)[g]? = _
  simp [Array.getElem?_modify, hg]
theorem JRow.set {w : World} {g : Nat} {xs : List UInt8} (h : JRow w g xs) (k : Nat) (hk : k < xs.length) (x : UInt8) : JRow (w.setCell ⟨g, k, none⟩ (.int .u8 (x.toNat : Int))) g (xs.set k x) := by
  obtain ⟨cur, fr, hg, h2⟩ := h
  refine ⟨cur, fr, ?_, by rw [List.length_set]; exact h2⟩
  rw [jsetCell_row w g k _ _ _ _ hg]
  simp only [List.setIfInBounds_toArray]
  rw [List.set_append_left _ _ (by rw [bcells_length]; exact hk)]
  simp [bcells, List.map_set]
theorem jrow_conv (w : World) (l : List UInt8) : JRow (Lib.bytesWorld w 5 (str l)) w.heap.size l := by
  have h := Lib.bytesWorld_at_new w 5 (str l)
  have hle : (str l).size ≤ grownCap w (str l).size 0 5 := grownCap_ge w _ _ _
  have hc : Lib.bytesCells w 5 (str l) = (bcells l ++ List.replicate (grownCap w (str l).size 0 5 - (str l).size) (Value.int .u8 0)).toArray := by
    unfold Lib.bytesCells
    apply Array.ext'
    simp [bcells, str]
  refine ⟨List.replicate (grownCap w (str l).size 0 5 - (str l).size) (Value.int .u8 0), _, h.trans (by rw [← hc]), .inr ?_⟩
  rw [hc, List.size_toArray, List.length_append, bcells_length, List.length_replicate]; omega
theorem jbytesWorld_fr (w : World) (e : TypeId) (s : ByteArray) : Fr (fun _ => False) w (Lib.bytesWorld w e s) :=
  ⟨by simp [Lib.bytesWorld, World.freeze] <;> rfl, by simp [Lib.bytesWorld, World.freeze] <;> rfl, by simp [Lib.bytesWorld, World.freeze] <;> rfl, by rw [Lib.bytesWorld_size]; omega, fun i hi _ => Lib.bytesWorld_at_old w e s i hi⟩
/-! ### a key turned -/
def turnF (key : List UInt8) (b : UInt8) (j : Nat) : UInt8 := key.getD j 0 ^^^ b
theorem turnF_full (key : List UInt8) (b : UInt8) (n : Nat) (hk : key.length = n) : full (turnF key b) n = xorB b key := by
  subst hk
  apply List.ext_getElem (by simp [full, xorB])
  intro j h1 h2
  have hj : j < key.length := by simpa [full] using h1
  simp [full, xorB, turnF, List.getD_eq_getElem?_getD, List.getElem?_eq_getElem hj]
set_option maxRecDepth 20000 in
set_option maxHeartbeats 4000000 in
theorem turned_calls (V : Nat) (key : List UInt8) (hk : key.length = 64) (b : UInt8) (w : World) (hV : w.cell? ⟨V, 0, none⟩ = some (.string (str key))) :
    Calls Try.prog 83 #[.int .u8 (b.toNat : Int), .pointer (some ⟨V, 0, none⟩)] w fun e w' => e = .returned (.string (str (xorB b key))) ∧ Fr (fun _ => False) w w' := by
  have hsz : (str key).size = 64 := by rw [str_size]; exact hk
  have HK := Lib.hid hk
  have hcv := Lib.run_convert_string_bytes (P := Try.prog) w 9 27 5 (str key) Try.underlying9 Try.underlying27 Try.underlying5
  have hfB := jbytesWorld_fr w 5 (str key)
  have hrB := jrow_conv w key
  rw [hsz] at hcv
  generalize grownCap w 64 0 5 = cap0 at hcv
  generalize Lib.bytesWorld w 5 (str key) = wB at hcv hfB hrB
  obtain ⟨g, hg⟩ : ∃ g, g = w.heap.size := ⟨_, rfl⟩
  rw [← hg] at hcv hrB
  have HG := Lib.hid hg
  have HFB := Lib.hid hfB
  have HRB := Lib.hid hrB
  clear hfB hrB hg hk
  go_enter Try.func83, Try.ntmps83
  go_wp2
  go_loopw [10] (fun v wr => ∃ i : Nat, i ≤ 64 ∧ v = .int .i64 i ∧ JRow wr g (upd (turnF key b) key i) ∧ Fr (fun _ => False) w wr) (fun v _ => 64 - (intOf v).toNat)
  case atStart => exact ⟨0, Nat.zero_le _, rfl, by rw [upd_zero]; exact HRB.out, HFB.out⟩
  case round =>
    obtain ⟨i, hi, rfl, hB, hf⟩ := hrel
    have HB := Lib.hid hB
    have HF := Lib.hid hf
    clear hB hf HRB HFB hcv
    by_cases hlt : i < 64
    · have hi64 : (i : Int) < 64 := by omega
      obtain ⟨x, hx⟩ : ∃ x, x = key.getD i 0 := ⟨_, rfl⟩
      obtain ⟨z, hz⟩ : ∃ z, z = x ^^^ b := ⟨_, rfl⟩
      have e1 := xor_u8 x b
      rw [← hz] at e1
      have hul : (upd (turnF key b) key i).length = 64 := by rw [upd_length]; exact HK.out
      have c1 : wr.cell? ⟨g, i, none⟩ = some (.int .u8 (x.toNat : Int)) := HB.out.cell i x (by rw [upd_get _ _ _ _ (by rw [HK.out]; exact hlt), if_neg (by omega), hx])
      have hfz : wr.frozen? ⟨g, i, none⟩ = false := HB.out.free i (by omega)
      have HB1 := Lib.hid (show JRow (wr.setCell ⟨g, i, none⟩ (.int .u8 (z.toNat : Int))) g (upd (turnF key b) key (i + 1)) by
        rw [← upd_set _ _ _ (by rw [HK.out]; exact hlt), show turnF key b i = z by rw [hz, hx]; rfl]
        exact HB.out.set i (by omega) z)
      have HF1 := Lib.hid (HF.out.setCell ⟨g, i, none⟩ (.int .u8 (z.toNat : Int)) (.inr (by have := HG.out; simp; omega)))
      have bx := x.toNat_lt
      have bz := z.toNat_lt
      have bb := b.toNat_lt
      clear hx hz hul
      go_wp2
      go_roundw
      case rel => exact ⟨i + 1, by omega, by go_num, HB1.out, HF1.out⟩
      case measure => simp [intOf]; omega
    · have h64 : i = 64 := by omega
      subst h64
      have HBz := Lib.hid (show JRow wr g (xorB b key) by have := HB.out; rwa [upd_all _ _ 64 HK.out, turnF_full _ _ _ HK.out] at this)
      have hcv2 := run_convert_str (P := Try.prog) wr 27 5 Try.underlying27 Try.underlying5 g 0 64 cap0 (xorB b key) (by rw [xorB_length]; exact HK.out) HBz.out.range 9 Try.underlying9
      go_wp2
      go_ret
      exact ⟨rfl, HF.out⟩
end Go.Proofs.Ytcchhfkmhbjdmaa
/-! Jg -/
set_option linter.unusedVariables false
set_option linter.unusedSimpArgs false
set_option pp.deepTerms true
set_option pp.maxSteps 100000
namespace Go.Proofs.Ytcchhfkmhbjdmaa
open Go.RowKit
section
variable {ops : Array Oper} {rest : List Oper} {op : Oper} {a : Act} {w : World} {Q : Exit → Act → World → Prop}
set_option maxRecDepth 20000 in
theorem wpList_append_strs (hgd : op.guard = none) (s y : Operand) (ho : op.op = .call { callee := .builtin .append, args := #[s, y], argTypes := #[42, 42] })
    (g : Nat) (x : ByteArray) (hg : w.heap[g]? = some (.cells #[.string x] 9 (0, 0))) (hs : a.eval s = .slice (some ⟨g, 0, none⟩) 1 1) (P m c : Nat) (hy : a.eval y = .slice (some ⟨P, 0, none⟩) m c)
    (parts : List (List UInt8)) (hm : m = parts.length) (ha : ∀ j s, parts[j]? = some s → w.cell? ⟨P, j, none⟩ = some (.string (str s))) (hbig : m ≤ 1000000)
    (hk : ∀ g' cap' w', (w'.cell? ⟨g', 0, none⟩ = some (.string x) ∧ ∀ j s, parts[j]? = some s → w'.cell? ⟨g', j + 1, none⟩ = some (.string (str s))) → g' < w'.heap.size → w.grownBy w' (some g) → wpList Try.prog ops Q rest (a.put op.dst (.slice (some ⟨g', 0, none⟩) (m + 1) cap')) w') : wpList Try.prog ops Q (op :: rest) a w := by
  refine wpList_plain hgd fun K hK => ?_
  obtain ⟨i0, hi0⟩ : ∃ i0, Try.prog.info? 9 = some i0 := ⟨_, rfl⟩
  have hz0 : (Try.prog.info? 9).map (fun i => (i.zero, i.size, i.bytes)) = some (some (.string ⟨#[]⟩), 1, 16) := by kernel_rfl
  rw [hi0] at hz0
  simp only [Option.map_some, Option.some.injEq, Prod.mk.injEq] at hz0
  have hown : w.ownsRow g 9 1 (.slice (some ⟨g, 0, none⟩) 1 1) 1 [.string x] := ⟨rfl, .inr ⟨g, 1, #[.string x], rfl, Nat.le_refl _, hg, Nat.le_refl _, by decide, rfl, rfl⟩⟩
  have hlt := lt_of_heap hg
  obtain ⟨v', w', hr, h1, h2, h3⟩ := run_append_own (P := Try.prog) (w := w) g 42 op.type 9 i0 (.string ⟨#[]⟩) 1 16 Try.underlying42 hi0 hz0.1 hz0.2.1 hz0.2.2 rfl (by omega) _ 1 _ hown ⟨P, 0, none⟩ m c (parts.map fun s => .string (str s))
    (by simp [hm]) (fun j u hj => by
      rw [Addr.add_mid, Nat.zero_add]
      rw [List.getElem?_map] at hj
      cases hp : parts[j]? with
      | none => rw [hp] at hj; cases hj
      | some s => rw [hp] at hj; cases hj; exact ha j s hp) (by intro u hu; simp only [List.mem_map] at hu; obtain ⟨s, _, rfl⟩ := hu; rfl) (by unfold maxLen; omega) (by omega) (by omega)
  obtain ⟨hl, h | ⟨g', cap', cur, hv, hb, hh, hnc, hcm, hcs, ht⟩⟩ := h1
  · omega
  subst hv
  have hget : ∀ j u, ([Value.string x] ++ parts.map fun s => Value.string (str s))[j]? = some u → w'.cell? ⟨g', j, none⟩ = some u := fun j u hj => by
    rw [cell_of_row w' g' j _ _ _ hh]
    rw [← ht, List.getElem?_take] at hj
    split at hj
    · simpa using hj
    · cases hj
  unfold Oper.wp execOp
  simp only [ho, resolve, invoke, builtin, Sem.run_bind, Sem.run_pure, Result.andThen_ok, List.map_toArray, List.map_cons, List.map_nil, hs, hy, hr]
  rw [Nat.add_comm 1 m]
  exact hK _ _ (hk g' cap' w' ⟨hget 0 _ rfl, fun j s hj => hget (j + 1) _ (by simp [hj])⟩ (lt_of_heap hh) h2)
end
set_option maxRecDepth 100000 in
set_option maxHeartbeats 400000 in
theorem mac_tag (key : List UInt8) (P cap : Nat) (parts : List (List UInt8)) (w : World) (hP : ∀ j s, parts[j]? = some s → w.cell? ⟨P, j, none⟩ = some (.string (str s))) (hPl : P < w.heap.size)
    (hkey : key.length ≤ 1000000) (hbig : parts.flatten.length ≤ 1000000) (hn : parts.length ≤ 1000000) :
    Calls Try.prog 38 #[.string (str key), .slice (some ⟨P, 0, none⟩) parts.length cap] w fun e w' => e = .returned (.string (str (tag key parts.flatten))) ∧ Fr (fun _ => False) w w' := by
  obtain ⟨n, hnd⟩ : ∃ n, n = parts.length := ⟨_, rfl⟩
  obtain ⟨kb0, hkb0⟩ : ∃ s, s = str key := ⟨_, rfl⟩
  have HKB0 := Lib.hid hkb0
  have hk0 : kb0.size = key.length := by rw [hkb0, str_size]
  rw [← hnd, ← hkb0]
  have HN := Lib.hid hnd
  have hn1 : n ≤ 1000000 := by omega
  have HBG := Lib.hid hbig
  have HP0 := Lib.hid hP
  have hV0 := heap_alloc_new w (.cells #[.string kb0] 9)
  have hf0 : Fr (fun _ => False) w (w.alloc (.cells #[.string kb0] 9)) := (Fr.refl _ _).alloc _
  obtain ⟨V, hVd⟩ : ∃ V, V = w.heap.size := ⟨_, rfl⟩
  rw [← hVd] at hV0
  have HVw := Lib.hid (show w.heap.size ≤ V by omega)
  have cV0 : (w.alloc (.cells #[.string kb0] 9)).cell? ⟨V, 0, none⟩ = some (.string kb0) := (cell_of_row _ V 0 _ _ _ hV0).trans rfl
  clear hP hbig hkb0 hnd hn
  by_cases hl : 64 < key.length
  · have HKN := Lib.hid (show keyN key = dig key by unfold keyN; rw [if_pos hl])
    have hd : (64 : Int) < (kb0.size : Int) := by omega
    have HOf1 := Lib.hid (show ∀ (w : World) (X : Nat), X = w.heap.size → Calls Try.prog 33 #[.slice (some ⟨X, 0, none⟩) 1 1] (w.alloc (.cells #[.string kb0] 9)) fun e w' => e = .returned (.string (str (dig key))) ∧ Fr (fun _ => False) (w.alloc (.cells #[.string kb0] 9)) w' from fun w X hX => by
      subst hX
      have h := sha_of w.heap.size 1 [key] (w.alloc (.cells (([key] : List (List UInt8)).map fun s => Value.string (str s)).toArray 9)) (fun j s hj => strs_cell w _ 9 j s hj) (by simp; omega) (by simp) (by rw [World.size_alloc]; omega)
      rw [show ([key] : List (List UInt8)).flatten = key by simp] at h
      rw [HKB0.out]; exact h)
    clear hk0 hl hkey
    go_enter Try.func38, Try.ntmps38
    go_wp2_with fail
    rw [← hVd]
    have HV0 := Lib.hid hV0
    have HF0 := Lib.hid hf0
    have HS1 := Lib.hid (show V + 1 = (w.alloc (.cells #[.string kb0] 9)).heap.size by rw [World.size_alloc, hVd])
    generalize w.alloc (.cells #[.string kb0] 9) = w1 at HV0 HF0 HS1 cV0 ⊢
    clear hV0 hf0 hVd
    refine (HOf1.out w1 _ HS1.out).mono ?_
    rintro e w2 ⟨rfl, h2⟩
    have hfA : Fr (fun _ => False) w1 (w1.alloc (.cells #[.string kb0] 9)) := (Fr.refl _ _).alloc _
    have hV2 : w2.heap[V]? = some (.cells #[.string kb0] 9 (0, 0)) := h2.heap (hfA.heap HV0.out id) id
    have HF2 := Lib.hid ((HF0.out.alloc (.cells #[.string kb0] 9)).trans h2 (fun i hi => hi.elim))
    have cV2 : w2.cell? ⟨V, 0, none⟩ = some (.string kb0) := (cell_of_row w2 V 0 _ _ _ hV2).trans rfl
    have fV2 : w2.frozen? ⟨V, 0, none⟩ = false := frozen_of_row w2 _ _ _ _ hV2
    obtain ⟨k, hkd⟩ : ∃ k, k = dig key := ⟨_, rfl⟩
    rw [← hkd] at HKN ⊢
    have HKL := Lib.hid (show k.length ≤ 64 by rw [hkd, dig_length]; omega)
    have HV := Lib.hid (show (w2.setCell ⟨V, 0, none⟩ (.string (str k))).heap[V]? = some (.cells #[.string (str k)] 9 (0, 0)) from heap_setCell_same w2 V 0 _ _ _ hV2)
    have HF := Lib.hid (HF2.out.setCell ⟨V, 0, none⟩ (.string (str k)) (.inr (by have := HVw.out; simp; omega)))
    clear h2 hfA hV2 hkd cV0 HV0 HF0 HOf1 hd
    go_wp2_with fail
    clear cV2 fV2
    generalize w2.setCell ⟨V, 0, none⟩ (.string (str k)) = wx at HV HF ⊢
    have HP := HP0
    obtain ⟨kb, hkb⟩ : ∃ s, s = str k := ⟨_, rfl⟩
    obtain ⟨kl, hkl⟩ : ∃ n, n = k.length := ⟨_, rfl⟩
    obtain ⟨c, hc⟩ : ∃ n, n = 64 - k.length := ⟨_, rfl⟩
    obtain ⟨zs, hzs⟩ : ∃ s, s = str (List.replicate c 0) := ⟨_, rfl⟩
    obtain ⟨k64, hk64⟩ : ∃ l, l = padK k := ⟨_, rfl⟩
    obtain ⟨K64, hK64⟩ : ∃ s, s = str k64 := ⟨_, rfl⟩
    have hkl64 : kl ≤ 64 := by rw [hkl]; exact HKL.out
    have hs0 : kb.size = kl := by rw [hkb, hkl, str_size]
    have hw0 : IntKind.i64.wrap (64 - (kl : Int)) = (c : Int) := by rw [IntWalk.i64_in _ (by omega)]; omega
    have hap : kb ++ zs = K64 := by rw [hkb, hzs, hK64, hk64, jstr_append, hc]; rfl
    have hzl : zs.size = c := by rw [hzs, str_size, List.length_replicate]
    have hsz1 : ¬ 9223372036854775807 < kb.size + zs.size := by omega
    have hsz2 : kb.size + zs.size ≤ 9223372036854775807 := by omega
    have hsz3 : kl + zs.size ≤ 9223372036854775807 := by omega
    have HRep := Lib.hid (show ∀ w, Calls Try.prog 80 #[.string ⟨#[0]⟩, .int .i64 (c : Int)] w fun e w' => e = .returned (.string zs) ∧ Fr (fun _ => False) w w' from fun w => by rw [hzs]; exact repeat_zeros c (by omega) w)
    have HK64 := Lib.hid (show k64.length = 64 by rw [hk64]; exact padK_length k HKL.out)
    have HKD := Lib.hid hk64
    have HKS := Lib.hid hK64
    have HVb := Lib.hid (show wx.drew.heap[V]? = some (.cells #[.string kb] 9 (0, 0)) by rw [hkb]; exact HV.out)
    have HFa := Lib.hid HF.out.drew
    clear hkb hkl hc hzs hk64 hK64 hzl
    go_wp2_with fail
    refine wp_region_till (fun W => W.heap[V]? = some (.cells #[.string kb] 9 (0, 0))) 6 (by kernel_rfl) ?_
    have HS := HVb
    generalize wx.drew = wy at HS HVb HFa ⊢
    refine wpAnyT_take (i := 0) (n := 6) (v := .string kb) rfl (by kernel_rfl) (fun _ _ _ h => h) HS.out (yieldsIf_plain rfl (fun W hW => by have h1 := cell_of_row W V 0 _ _ _ hW; have h2 : W.cell? ⟨V, 0, none⟩ = some (.string kb) := h1.trans rfl; clear hW h1; go_simp)) ?_
    simp only [List.getElem_toArray, List.getElem_cons_succ, List.getElem_cons_zero, Act.put, List.setIfInBounds_toArray, List.set_cons_zero, List.set_cons_succ]
    refine wpAnyT_take (i := 1) (n := 6) (v := .string kb) rfl (by kernel_rfl) (fun _ _ _ h => h) HS.out (yieldsIf_plain rfl (fun W hW => by have h1 := cell_of_row W V 0 _ _ _ hW; have h2 : W.cell? ⟨V, 0, none⟩ = some (.string kb) := h1.trans rfl; clear hW h1; go_simp)) ?_
    simp only [List.getElem_toArray, List.getElem_cons_succ, List.getElem_cons_zero, Act.put, List.setIfInBounds_toArray, List.set_cons_zero, List.set_cons_succ]
    refine wpAnyT_take (i := 2) (n := 6) (v := .int .i64 (kl : Int)) rfl (by kernel_rfl) (fun _ _ _ h => h) HS.out (yieldsIf_plain rfl (fun W hW => by clear hW; go_simp)) ?_
    simp only [List.getElem_toArray, List.getElem_cons_succ, List.getElem_cons_zero, Act.put, List.setIfInBounds_toArray, List.set_cons_zero, List.set_cons_succ]
    refine wpAnyT_take (i := 3) (n := 6) (v := .int .i64 (c : Int)) rfl (by kernel_rfl) (fun _ _ _ h => h) HS.out (yieldsIf_plain rfl (fun W hW => by clear hW; go_simp)) ?_
    simp only [List.getElem_toArray, List.getElem_cons_succ, List.getElem_cons_zero, Act.put, List.setIfInBounds_toArray, List.set_cons_zero, List.set_cons_succ]
    refine wpAnyT_one (i := 4) rfl (by kernel_rfl) (wpOp_plain rfl rfl (fun K hK => ?_))
    simp only [List.getElem_toArray, List.getElem_cons_succ, List.getElem_cons_zero, Act.put, List.setIfInBounds_toArray, List.set_cons_zero, List.set_cons_succ]
    have HKK := Lib.hid hK
    clear hK
    go_wp2_with fail
    refine (HRep.out wy).mono ?_
    rintro e w4 ⟨rfl, h4⟩
    have HFb := Lib.hid (HFa.out.trans h4 (fun i hi => hi.elim))
    have HSb := Lib.hid (show w4.heap[V]? = some (.cells #[.string kb] 9 (0, 0)) from h4.heap HS.out id)
    clear h4
    go_wp2_with fail
    refine HKK.out _ _ ⟨fun _ => HSb.out, ?_⟩
    clear HKK K HRep
    try simp only [List.getElem_toArray, List.getElem_cons_succ, List.getElem_cons_zero, Act.put, List.setIfInBounds_toArray, List.set_cons_zero, List.set_cons_succ]
    refine wpAnyT_take (i := 5) (n := 6) (v := .string K64) rfl (by kernel_rfl) (fun _ _ _ h => h) HSb.out (yieldsIf_plain rfl (fun W hW => by clear hW; go_simp)) ?_
    simp only [List.getElem_toArray, List.getElem_cons_succ, List.getElem_cons_zero, Act.put, List.setIfInBounds_toArray, List.set_cons_zero, List.set_cons_succ]
    refine wpAnyT_of_any trivial [6] _ _ _ _ (by kernel_rfl) (by simp) (.inr rfl) ?_
    simp only [List.filterMap_cons, List.filterMap_nil, List.getElem?_toArray, List.getElem?_cons_zero, List.getElem?_cons_succ]
    have cV : w4.cell? ⟨V, 0, none⟩ = some (.string kb) := (cell_of_row w4 V 0 _ _ _ HSb.out).trans rfl
    have fV : w4.frozen? ⟨V, 0, none⟩ = false := frozen_of_row w4 _ _ _ _ HSb.out
    have HV5 := Lib.hid (show (w4.setCell ⟨V, 0, none⟩ (.string K64)).heap[V]? = some (.cells #[.string K64] 9 (0, 0)) from heap_setCell_same w4 V 0 _ _ _ HSb.out)
    have HF5 := Lib.hid (HFb.out.setCell ⟨V, 0, none⟩ (.string K64) (.inr (by have := HVw.out; simp; omega)))
    obtain ⟨A, hA⟩ : ∃ s, s = str (xorB 92 k64) := ⟨_, rfl⟩
    obtain ⟨C, hC⟩ : ∃ s, s = str (xorB 54 k64) := ⟨_, rfl⟩
    have HTn := Lib.hid (show ∀ w, w.heap[V]? = some (.cells #[.string K64] 9 (0, 0)) → Calls Try.prog 83 #[.int .u8 92, .pointer (some ⟨V, 0, none⟩)] w fun e w' => e = .returned (.string A) ∧ Fr (fun _ => False) w w' from fun w h => by
      rw [hA]; exact turned_calls V k64 HK64.out 92 w (by rw [← HKS.out]; exact (cell_of_row w V 0 _ _ _ h).trans rfl))
    have HTm := Lib.hid (show ∀ w, w.heap[V]? = some (.cells #[.string K64] 9 (0, 0)) → Calls Try.prog 83 #[.int .u8 54, .pointer (some ⟨V, 0, none⟩)] w fun e w' => e = .returned (.string C) ∧ Fr (fun _ => False) w w' from fun w h => by
      rw [hC]; exact turned_calls V k64 HK64.out 54 w (by rw [← HKS.out]; exact (cell_of_row w V 0 _ _ _ h).trans rfl))
    have HA := Lib.hid hA
    have HC := Lib.hid hC
    clear hA hC hap hsz1 hsz2 hsz3
    go_wp2_with fail
    clear cV fV
    generalize w4.setCell ⟨V, 0, none⟩ (.string K64) = w5 at HV5 HF5 ⊢
    refine (HTn.out _ HV5.out).mono ?_
    rintro e w6 ⟨rfl, h6⟩
    have HV6 := Lib.hid (h6.heap HV5.out id)
    have HF6 := Lib.hid (HF5.out.trans h6 (fun i hi => hi.elim))
    clear h6
    go_wp2_with fail
    refine (HTm.out _ HV6.out).mono ?_
    rintro e w7 ⟨rfl, h7⟩
    have HF7 := Lib.hid (HF6.out.trans h7 (fun i hi => hi.elim))
    clear h7
    have hg7 := heap_alloc_new w7 (.cells #[.string C] 9)
    have HG7 := Lib.hid hg7
    have HF8 := Lib.hid (HF7.out.alloc (.cells #[.string C] 9))
    have HP8 := Lib.hid (show ∀ j s, parts[j]? = some s → (w7.alloc (.cells #[.string C] 9)).cell? ⟨P, j, none⟩ = some (.string (str s)) from fun j s hj => HF8.out.cell (HP.out j s hj) id)
    have HW7 := Lib.hid (show w.heap.size ≤ w7.heap.size from HF7.out.size)
    clear hg7
    go_wp2_with (with_reducible refine wpList_append_strs (op := ⟨some 25, _, _, _, _, _⟩) rfl _ _ rfl w7.heap.size C HG7.out rfl P n cap rfl parts HN.out HP8.out (by omega) ?_)
    intro g' cap' w9 hc9a hc9b hl9 hgr
    have hc9 := And.intro hc9a hc9b
    have HC9 := Lib.hid hc9
    have HF9 := Lib.hid (HF8.out.grown hgr (fun k hk => .inr (by cases hk; exact HW7.out)))
    clear hc9 hc9a hc9b hgr
    obtain ⟨D, hD⟩ : ∃ s, s = str (dig (xorB 54 k64 ++ parts.flatten)) := ⟨_, rfl⟩
    have HD := Lib.hid hD
    have HOf := Lib.hid (show Calls Try.prog 33 #[.slice (some ⟨g', 0, none⟩) (n + 1) cap'] w9 fun e w' => e = .returned (.string D) ∧ Fr (fun _ => False) w9 w' by
      have h := sha_of g' cap' (xorB 54 k64 :: parts) w9 (fun j s hj => by
        cases j with
        | zero => simp at hj; subst hj; rw [← HC.out]; exact HC9.out.1
        | succ j => exact HC9.out.2 j s (by simpa using hj)) (by rw [List.flatten_cons, List.length_append, xorB_length, HK64.out]; have := HBG.out; omega) (by rw [List.length_cons, ← HN.out]; omega) hl9
      rw [List.length_cons, ← HN.out, List.flatten_cons, ← hD] at h
      exact h)
    clear hD
    go_wp2_with fail
    refine HOf.out.mono ?_
    rintro e w10 ⟨rfl, h10⟩
    have HF10 := Lib.hid (HF9.out.trans h10 (fun i hi => hi.elim))
    clear h10
    have HOf2 := Lib.hid (show Calls Try.prog 33 #[.slice (some ⟨w10.heap.size, 0, none⟩) 2 2] (w10.alloc (.cells #[.string A, .string D] 9)) fun e w' => e = .returned (.string (str (tagK k64 parts.flatten))) ∧ Fr (fun _ => False) (w10.alloc (.cells #[.string A, .string D] 9)) w' by
      have h := sha_of w10.heap.size 2 [xorB 92 k64, dig (xorB 54 k64 ++ parts.flatten)] (w10.alloc (.cells (([xorB 92 k64, dig (xorB 54 k64 ++ parts.flatten)] : List (List UInt8)).map fun s => Value.string (str s)).toArray 9)) (fun j s hj => strs_cell w10 _ 9 j s hj) (by simp [xorB_length, HK64.out, dig_length]) (by simp) (by rw [World.size_alloc]; omega)
      rw [show ([xorB 92 k64, dig (xorB 54 k64 ++ parts.flatten)] : List (List UInt8)).flatten = xorB 92 k64 ++ dig (xorB 54 k64 ++ parts.flatten) by simp] at h
      rw [HA.out, HD.out]; exact h)
    go_wp2_with fail
    refine HOf2.out.mono ?_
    rintro e w11 ⟨rfl, h11⟩
    have HF11 := Lib.hid ((HF10.out.alloc (.cells #[.string A, .string D] 9)).trans h11 (fun i hi => hi.elim))
    clear h11
    go_wp2_with fail
    go_ret
    have htag : tagK k64 parts.flatten = tag key parts.flatten := by unfold tag; rw [HKN.out, HKD.out]
    exact ⟨by rw [← htag]; rfl, HF11.out⟩
  · have HKN := Lib.hid (show keyN key = key by unfold keyN; rw [if_neg hl])
    have hd : ¬ (64 : Int) < (kb0.size : Int) := by omega
    have HKL := Lib.hid (show key.length ≤ 64 by omega)
    clear hk0 hl hkey
    go_enter Try.func38, Try.ntmps38
    go_wp2_with fail
    rw [← hVd]
    have HV := Lib.hid (show (w.alloc (.cells #[.string kb0] 9)).heap[V]? = some (.cells #[.string (str key)] 9 (0, 0)) by rw [← HKB0.out]; exact hV0)
    have HF := Lib.hid hf0
    generalize w.alloc (.cells #[.string kb0] 9) = wx at HV HF cV0 ⊢
    clear hV0 hf0 hVd cV0
    have HP := HP0
    obtain ⟨kb, hkb⟩ : ∃ s, s = str key := ⟨_, rfl⟩
    obtain ⟨kl, hkl⟩ : ∃ n, n = key.length := ⟨_, rfl⟩
    obtain ⟨c, hc⟩ : ∃ n, n = 64 - key.length := ⟨_, rfl⟩
    obtain ⟨zs, hzs⟩ : ∃ s, s = str (List.replicate c 0) := ⟨_, rfl⟩
    obtain ⟨k64, hk64⟩ : ∃ l, l = padK key := ⟨_, rfl⟩
    obtain ⟨K64, hK64⟩ : ∃ s, s = str k64 := ⟨_, rfl⟩
    have hkl64 : kl ≤ 64 := by rw [hkl]; exact HKL.out
    have hs0 : kb.size = kl := by rw [hkb, hkl, str_size]
    have hw0 : IntKind.i64.wrap (64 - (kl : Int)) = (c : Int) := by rw [IntWalk.i64_in _ (by omega)]; omega
    have hap : kb ++ zs = K64 := by rw [hkb, hzs, hK64, hk64, jstr_append, hc]; rfl
    have hzl : zs.size = c := by rw [hzs, str_size, List.length_replicate]
    have hsz1 : ¬ 9223372036854775807 < kb.size + zs.size := by omega
    have hsz2 : kb.size + zs.size ≤ 9223372036854775807 := by omega
    have hsz3 : kl + zs.size ≤ 9223372036854775807 := by omega
    have HRep := Lib.hid (show ∀ w, Calls Try.prog 80 #[.string ⟨#[0]⟩, .int .i64 (c : Int)] w fun e w' => e = .returned (.string zs) ∧ Fr (fun _ => False) w w' from fun w => by rw [hzs]; exact repeat_zeros c (by omega) w)
    have HK64 := Lib.hid (show k64.length = 64 by rw [hk64]; exact padK_length key HKL.out)
    have HKD := Lib.hid hk64
    have HKS := Lib.hid hK64
    have HVb := Lib.hid (show wx.drew.heap[V]? = some (.cells #[.string kb] 9 (0, 0)) by rw [hkb]; exact HV.out)
    have HFa := Lib.hid HF.out.drew
    clear hkb hkl hc hzs hk64 hK64 hzl
    go_wp2_with fail
    refine wp_region_till (fun W => W.heap[V]? = some (.cells #[.string kb] 9 (0, 0))) 6 (by kernel_rfl) ?_
    have HS := HVb
    generalize wx.drew = wy at HS HVb HFa ⊢
    refine wpAnyT_take (i := 0) (n := 6) (v := .string kb) rfl (by kernel_rfl) (fun _ _ _ h => h) HS.out (yieldsIf_plain rfl (fun W hW => by have h1 := cell_of_row W V 0 _ _ _ hW; have h2 : W.cell? ⟨V, 0, none⟩ = some (.string kb) := h1.trans rfl; clear hW h1; go_simp)) ?_
    simp only [List.getElem_toArray, List.getElem_cons_succ, List.getElem_cons_zero, Act.put, List.setIfInBounds_toArray, List.set_cons_zero, List.set_cons_succ]
    refine wpAnyT_take (i := 1) (n := 6) (v := .string kb) rfl (by kernel_rfl) (fun _ _ _ h => h) HS.out (yieldsIf_plain rfl (fun W hW => by have h1 := cell_of_row W V 0 _ _ _ hW; have h2 : W.cell? ⟨V, 0, none⟩ = some (.string kb) := h1.trans rfl; clear hW h1; go_simp)) ?_
    simp only [List.getElem_toArray, List.getElem_cons_succ, List.getElem_cons_zero, Act.put, List.setIfInBounds_toArray, List.set_cons_zero, List.set_cons_succ]
    refine wpAnyT_take (i := 2) (n := 6) (v := .int .i64 (kl : Int)) rfl (by kernel_rfl) (fun _ _ _ h => h) HS.out (yieldsIf_plain rfl (fun W hW => by clear hW; go_simp)) ?_
    simp only [List.getElem_toArray, List.getElem_cons_succ, List.getElem_cons_zero, Act.put, List.setIfInBounds_toArray, List.set_cons_zero, List.set_cons_succ]
    refine wpAnyT_take (i := 3) (n := 6) (v := .int .i64 (c : Int)) rfl (by kernel_rfl) (fun _ _ _ h => h) HS.out (yieldsIf_plain rfl (fun W hW => by clear hW; go_simp)) ?_
    simp only [List.getElem_toArray, List.getElem_cons_succ, List.getElem_cons_zero, Act.put, List.setIfInBounds_toArray, List.set_cons_zero, List.set_cons_succ]
    refine wpAnyT_one (i := 4) rfl (by kernel_rfl) (wpOp_plain rfl rfl (fun K hK => ?_))
    simp only [List.getElem_toArray, List.getElem_cons_succ, List.getElem_cons_zero, Act.put, List.setIfInBounds_toArray, List.set_cons_zero, List.set_cons_succ]
    have HKK := Lib.hid hK
    clear hK
    go_wp2_with fail
    refine (HRep.out wy).mono ?_
    rintro e w4 ⟨rfl, h4⟩
    have HFb := Lib.hid (HFa.out.trans h4 (fun i hi => hi.elim))
    have HSb := Lib.hid (show w4.heap[V]? = some (.cells #[.string kb] 9 (0, 0)) from h4.heap HS.out id)
    clear h4
    go_wp2_with fail
    refine HKK.out _ _ ⟨fun _ => HSb.out, ?_⟩
    clear HKK K HRep
    try simp only [List.getElem_toArray, List.getElem_cons_succ, List.getElem_cons_zero, Act.put, List.setIfInBounds_toArray, List.set_cons_zero, List.set_cons_succ]
    refine wpAnyT_take (i := 5) (n := 6) (v := .string K64) rfl (by kernel_rfl) (fun _ _ _ h => h) HSb.out (yieldsIf_plain rfl (fun W hW => by clear hW; go_simp)) ?_
    simp only [List.getElem_toArray, List.getElem_cons_succ, List.getElem_cons_zero, Act.put, List.setIfInBounds_toArray, List.set_cons_zero, List.set_cons_succ]
    refine wpAnyT_of_any trivial [6] _ _ _ _ (by kernel_rfl) (by simp) (.inr rfl) ?_
    simp only [List.filterMap_cons, List.filterMap_nil, List.getElem?_toArray, List.getElem?_cons_zero, List.getElem?_cons_succ]
    have cV : w4.cell? ⟨V, 0, none⟩ = some (.string kb) := (cell_of_row w4 V 0 _ _ _ HSb.out).trans rfl
    have fV : w4.frozen? ⟨V, 0, none⟩ = false := frozen_of_row w4 _ _ _ _ HSb.out
    have HV5 := Lib.hid (show (w4.setCell ⟨V, 0, none⟩ (.string K64)).heap[V]? = some (.cells #[.string K64] 9 (0, 0)) from heap_setCell_same w4 V 0 _ _ _ HSb.out)
    have HF5 := Lib.hid (HFb.out.setCell ⟨V, 0, none⟩ (.string K64) (.inr (by have := HVw.out; simp; omega)))
    obtain ⟨A, hA⟩ : ∃ s, s = str (xorB 92 k64) := ⟨_, rfl⟩
    obtain ⟨C, hC⟩ : ∃ s, s = str (xorB 54 k64) := ⟨_, rfl⟩
    have HTn := Lib.hid (show ∀ w, w.heap[V]? = some (.cells #[.string K64] 9 (0, 0)) → Calls Try.prog 83 #[.int .u8 92, .pointer (some ⟨V, 0, none⟩)] w fun e w' => e = .returned (.string A) ∧ Fr (fun _ => False) w w' from fun w h => by
      rw [hA]; exact turned_calls V k64 HK64.out 92 w (by rw [← HKS.out]; exact (cell_of_row w V 0 _ _ _ h).trans rfl))
    have HTm := Lib.hid (show ∀ w, w.heap[V]? = some (.cells #[.string K64] 9 (0, 0)) → Calls Try.prog 83 #[.int .u8 54, .pointer (some ⟨V, 0, none⟩)] w fun e w' => e = .returned (.string C) ∧ Fr (fun _ => False) w w' from fun w h => by
      rw [hC]; exact turned_calls V k64 HK64.out 54 w (by rw [← HKS.out]; exact (cell_of_row w V 0 _ _ _ h).trans rfl))
    have HA := Lib.hid hA
    have HC := Lib.hid hC
    clear hA hC hap hsz1 hsz2 hsz3
    go_wp2_with fail
    clear cV fV
    generalize w4.setCell ⟨V, 0, none⟩ (.string K64) = w5 at HV5 HF5 ⊢
    refine (HTn.out _ HV5.out).mono ?_
    rintro e w6 ⟨rfl, h6⟩
    have HV6 := Lib.hid (h6.heap HV5.out id)
    have HF6 := Lib.hid (HF5.out.trans h6 (fun i hi => hi.elim))
    clear h6
    go_wp2_with fail
    refine (HTm.out _ HV6.out).mono ?_
    rintro e w7 ⟨rfl, h7⟩
    have HF7 := Lib.hid (HF6.out.trans h7 (fun i hi => hi.elim))
    clear h7
    have hg7 := heap_alloc_new w7 (.cells #[.string C] 9)
    have HG7 := Lib.hid hg7
    have HF8 := Lib.hid (HF7.out.alloc (.cells #[.string C] 9))
    have HP8 := Lib.hid (show ∀ j s, parts[j]? = some s → (w7.alloc (.cells #[.string C] 9)).cell? ⟨P, j, none⟩ = some (.string (str s)) from fun j s hj => HF8.out.cell (HP.out j s hj) id)
    have HW7 := Lib.hid (show w.heap.size ≤ w7.heap.size from HF7.out.size)
    clear hg7
    go_wp2_with (with_reducible refine wpList_append_strs (op := ⟨some 25, _, _, _, _, _⟩) rfl _ _ rfl w7.heap.size C HG7.out rfl P n cap rfl parts HN.out HP8.out (by omega) ?_)
    intro g' cap' w9 hc9a hc9b hl9 hgr
    have hc9 := And.intro hc9a hc9b
    have HC9 := Lib.hid hc9
    have HF9 := Lib.hid (HF8.out.grown hgr (fun k hk => .inr (by cases hk; exact HW7.out)))
    clear hc9 hc9a hc9b hgr
    obtain ⟨D, hD⟩ : ∃ s, s = str (dig (xorB 54 k64 ++ parts.flatten)) := ⟨_, rfl⟩
    have HD := Lib.hid hD
    have HOf := Lib.hid (show Calls Try.prog 33 #[.slice (some ⟨g', 0, none⟩) (n + 1) cap'] w9 fun e w' => e = .returned (.string D) ∧ Fr (fun _ => False) w9 w' by
      have h := sha_of g' cap' (xorB 54 k64 :: parts) w9 (fun j s hj => by
        cases j with
        | zero => simp at hj; subst hj; rw [← HC.out]; exact HC9.out.1
        | succ j => exact HC9.out.2 j s (by simpa using hj)) (by rw [List.flatten_cons, List.length_append, xorB_length, HK64.out]; have := HBG.out; omega) (by rw [List.length_cons, ← HN.out]; omega) hl9
      rw [List.length_cons, ← HN.out, List.flatten_cons, ← hD] at h
      exact h)
    clear hD
    go_wp2_with fail
    refine HOf.out.mono ?_
    rintro e w10 ⟨rfl, h10⟩
    have HF10 := Lib.hid (HF9.out.trans h10 (fun i hi => hi.elim))
    clear h10
    have HOf2 := Lib.hid (show Calls Try.prog 33 #[.slice (some ⟨w10.heap.size, 0, none⟩) 2 2] (w10.alloc (.cells #[.string A, .string D] 9)) fun e w' => e = .returned (.string (str (tagK k64 parts.flatten))) ∧ Fr (fun _ => False) (w10.alloc (.cells #[.string A, .string D] 9)) w' by
      have h := sha_of w10.heap.size 2 [xorB 92 k64, dig (xorB 54 k64 ++ parts.flatten)] (w10.alloc (.cells (([xorB 92 k64, dig (xorB 54 k64 ++ parts.flatten)] : List (List UInt8)).map fun s => Value.string (str s)).toArray 9)) (fun j s hj => strs_cell w10 _ 9 j s hj) (by simp [xorB_length, HK64.out, dig_length]) (by simp) (by rw [World.size_alloc]; omega)
      rw [show ([xorB 92 k64, dig (xorB 54 k64 ++ parts.flatten)] : List (List UInt8)).flatten = xorB 92 k64 ++ dig (xorB 54 k64 ++ parts.flatten) by simp] at h
      rw [HA.out, HD.out]; exact h)
    go_wp2_with fail
    refine HOf2.out.mono ?_
    rintro e w11 ⟨rfl, h11⟩
    have HF11 := Lib.hid ((HF10.out.alloc (.cells #[.string A, .string D] 9)).trans h11 (fun i hi => hi.elim))
    clear h11
    go_wp2_with fail
    go_ret
    have htag : tagK k64 parts.flatten = tag key parts.flatten := by unfold tag; rw [HKN.out, HKD.out]
    exact ⟨by rw [← htag]; rfl, HF11.out⟩
set_option maxRecDepth 20000 in
set_option maxHeartbeats 4000000 in
theorem mac_check (key t : List UInt8) (P cap : Nat) (parts : List (List UInt8)) (w : World) (hP : ∀ j s, parts[j]? = some s → w.cell? ⟨P, j, none⟩ = some (.string (str s))) (hPl : P < w.heap.size)
    (hkey : key.length ≤ 1000000) (ht : t.length ≤ 1000000) (hbig : parts.flatten.length ≤ 1000000) (hn : parts.length ≤ 1000000) :
    Calls Try.prog 39 #[.string (str key), .string (str t), .slice (some ⟨P, 0, none⟩) parts.length cap] w fun e w' => e = .returned (.bool (decide (t = tag key parts.flatten))) ∧ Fr (fun _ => False) w w' := by
  have HT := Lib.hid (mac_tag key P cap parts w hP hPl hkey hbig hn)
  have HE := Lib.hid (fun w => sha_equal t (tag key parts.flatten) (by omega) w)
  clear hP
  go_enter Try.func39, Try.ntmps39
  go_wp2_with fail
  refine HT.out.mono ?_
  rintro e w2 ⟨rfl, h2⟩
  have H2 := Lib.hid h2
  clear h2
  go_wp2_with fail
  refine (HE.out w2).mono ?_
  rintro e w3 ⟨rfl, h3⟩
  have H3 := Lib.hid (H2.out.trans h3 (fun i hi => hi.elim))
  clear h3
  go_wp2_with fail
  go_ret
  exact ⟨rfl, H3.out⟩
end Go.Proofs.Ytcchhfkmhbjdmaa
/-! Jh -/
set_option linter.unusedVariables false
set_option linter.unusedSimpArgs false
set_option pp.deepTerms true
set_option pp.maxSteps 100000
namespace Go.Proofs.Ytcchhfkmhbjdmaa
open Go.RowKit
def drvB (p info : List UInt8) : Nat → List UInt8
  | 0 => []
  | k + 1 => tag p ([drvB p info k, info, [UInt8.ofNat (k + 1)]] : List (List UInt8)).flatten
def drvO (p info : List UInt8) : Nat → List UInt8
  | 0 => []
  | k + 1 => drvO p info k ++ drvB p info (k + 1)
theorem drvB_length (p info : List UInt8) : ∀ k, (drvB p info k).length ≤ 32
  | 0 => Nat.zero_le _
  | k + 1 => Nat.le_of_eq (tag_length _ _)
theorem drvO_length (p info : List UInt8) : ∀ k, (drvO p info k).length = 32 * k
  | 0 => rfl
  | k + 1 => by rw [drvO, List.length_append, drvO_length p info k, drvB, tag_length]; omega
def derive (salt secret info : List UInt8) (n : Nat) : List UInt8 := (drvO (tag salt secret) info ((n + 31) / 32)).take n
theorem derive_length (salt secret info : List UInt8) (n : Nat) : (derive salt secret info n).length = n := by
  unfold derive; rw [List.length_take, drvO_length]; omega
theorem u8_num (k : Nat) : ((k : Int) + 1) % 256 = ((UInt8.ofNat (k + 1)).toNat : Int) := by simp
set_option maxRecDepth 20000 in
set_option maxHeartbeats 400000 in
theorem mac_derive_no (a b c : ByteArray) (n : Int) (hn : n < 0 ∨ 8160 < n) (w : World) :
    Calls Try.prog 36 #[.string a, .string b, .string c, .int .i64 n] w fun e w' => e = .returned (.tuple #[.string ⟨#[]⟩, .int .i64 1]) ∧ w = w' := by
  have HN := Lib.hid hn
  clear hn
  by_cases h0 : n < 0
  · have d1 : decide (n < 0) = true := decide_eq_true h0
    clear h0
    go_enter Try.func36, Try.ntmps36
    go_wp2_with fail
    go_ret2
    exact ⟨rfl, rfl⟩
  · have d1 : decide (n < 0) = false := decide_eq_false h0
    have d2 : decide (8160 < n) = true := decide_eq_true (by have := HN.out; omega)
    clear h0
    go_enter Try.func36, Try.ntmps36
    go_wp2_with fail
    go_ret2
    exact ⟨rfl, rfl⟩
set_option maxRecDepth 20000 in
set_option maxHeartbeats 400000 in
theorem mac_derive (salt secret info : List UInt8) (n : Nat) (hn : n ≤ 8160) (h1 : salt.length ≤ 100000) (h2 : secret.length ≤ 100000) (h3 : info.length ≤ 100000) (w : World) :
    Calls Try.prog 36 #[.string (str salt), .string (str secret), .string (str info), .int .i64 (n : Int)] w fun e w' => e = .returned (.tuple #[.string (str (derive salt secret info n)), .int .i64 0]) ∧ Fr (fun _ => False) w w' := by
  obtain ⟨A, hA⟩ : ∃ s, s = str salt := ⟨_, rfl⟩
  obtain ⟨B, hB⟩ : ∃ s, s = str secret := ⟨_, rfl⟩
  obtain ⟨C, hC⟩ : ∃ s, s = str info := ⟨_, rfl⟩
  obtain ⟨p, hp⟩ : ∃ p, p = tag salt secret := ⟨_, rfl⟩
  obtain ⟨PS, hPS⟩ : ∃ s, s = str p := ⟨_, rfl⟩
  have HTag := Lib.hid (show ∀ w : World, Calls Try.prog 38 #[.string A, .slice (some ⟨w.heap.size, 0, none⟩) 1 1] (w.alloc (.cells #[.string B] 9)) fun e w' => e = .returned (.string PS) ∧ Fr (fun _ => False) (w.alloc (.cells #[.string B] 9)) w' from fun w => by
    have h := mac_tag salt w.heap.size 1 [secret] (w.alloc (.cells (([secret] : List (List UInt8)).map fun s => Value.string (str s)).toArray 9)) (fun j s hj => strs_cell w _ 9 j s hj) (by rw [World.size_alloc]; omega) (by omega) (by simp; omega) (by simp)
    rw [show ([secret] : List (List UInt8)).flatten = secret by simp, ← hp, ← hPS] at h
    rw [hA, hB]; exact h)
  have HTagK := Lib.hid (show ∀ (k : Nat) (L X : ByteArray) (w : World) (g : Nat), g = w.heap.size → L = str (drvB p info k) → X = str [UInt8.ofNat (k + 1)] → Calls Try.prog 38 #[.string PS, .slice (some ⟨g, 0, none⟩) 3 3] (w.alloc (.cells #[.string L, .string C, .string X] 9)) fun e w' => e = .returned (.string (str (drvB p info (k + 1)))) ∧ Fr (fun _ => False) (w.alloc (.cells #[.string L, .string C, .string X] 9)) w' from fun k L X w g hg hL hX => by
    subst hg
    have hb := drvB_length p info k
    have h := mac_tag p w.heap.size 3 [drvB p info k, info, [UInt8.ofNat (k + 1)]] (w.alloc (.cells (([drvB p info k, info, [UInt8.ofNat (k + 1)]] : List (List UInt8)).map fun s => Value.string (str s)).toArray 9)) (fun j s hj => strs_cell w _ 9 j s hj) (by rw [World.size_alloc]; omega) (by rw [hp, tag_length]; omega) (by simp; omega) (by simp)
    rw [hPS, hC, hL, hX]; exact h)
  have HP := Lib.hid hp
  have HN := Lib.hid hn
  have d1 : decide ((n : Int) < 0) = false := decide_eq_false (by omega)
  have d2 : decide ((8160 : Int) < (n : Int)) = false := decide_eq_false (by omega)
  rw [← hA, ← hB, ← hC]
  clear hA hB hC hp hPS h1 h2 h3
  go_enter Try.func36, Try.ntmps36
  go_wp2_with fail
  refine (HTag.out w).mono ?_
  rintro e w1 ⟨rfl, hf1⟩
  have HF1 := Lib.hid (((Fr.refl (fun _ => False) w).alloc (.cells #[.string B] 9)).trans hf1 (fun i hi => hi.elim))
  clear hf1 HTag
  go_wp2_with fail
  go_loopw [11, 12, 13] (fun v11 v12 v13 wr => ∃ k : Nat, k ≤ (n + 31) / 32 ∧ v11 = .string (str (drvO p info k)) ∧ v12 = .string (str (drvB p info k)) ∧ v13 = .int .i64 ((k : Int) + 1) ∧ Fr (fun _ => False) w wr) (fun _ _ v _ => (n + 31) / 32 + 1 - (intOf v).toNat)
  case atStart => exact ⟨0, Nat.zero_le _, rfl, rfl, rfl, HF1.out⟩
  case round =>
    obtain ⟨k, hk, rfl, rfl, rfl, hf⟩ := hrel
    have HF := Lib.hid hf
    clear hf HF1
    obtain ⟨L, hL⟩ : ∃ s, s = str (drvB p info k) := ⟨_, rfl⟩
    obtain ⟨O, hO⟩ : ∃ s, s = str (drvO p info k) := ⟨_, rfl⟩
    obtain ⟨m, hm⟩ : ∃ m, m = 32 * k := ⟨_, rfl⟩
    have hOs : O.size = m := by rw [hO, str_size, drvO_length, hm]
    rw [← hL, ← hO]
    have HL := Lib.hid hL
    have HO := Lib.hid hO
    have HM := Lib.hid hm
    clear hL hO
    have hn' := HN.out
    by_cases hlt : m < n
    · have hd : decide ((m : Int) < (n : Int)) = true := decide_eq_true (by omega)
      have hdm : (m : Int) < (n : Int) := by omega
      obtain ⟨x, hx⟩ : ∃ x, x = UInt8.ofNat (k + 1) := ⟨_, rfl⟩
      have e1 : ((k : Int) + 1) % 256 = (x.toNat : Int) := by rw [hx]; exact u8_num k
      have e2 : IntKind.u8.wrap ((k : Int) + 1) = (x.toNat : Int) := by rw [IntKind.wrap_u8', e1]
      obtain ⟨X, hX⟩ : ∃ s, s = str [x] := ⟨_, rfl⟩
      have hcv := run_convert_str (P := Try.prog) (wr.alloc (.cells #[.int .u8 (x.toNat : Int)] 5)) 27 5 Try.underlying27 Try.underlying5 wr.heap.size 0 1 1 [x] rfl (fun j v hj => by
        rw [Nat.zero_add, cell_of_row _ wr.heap.size j _ _ _ (heap_alloc_new wr _)]; simpa [bcells] using hj) 9 Try.underlying9
      rw [← hX] at hcv
      have HTk := Lib.hid (HTagK.out k L X (wr.alloc (.cells #[.int .u8 (x.toNat : Int)] 5)) (wr.heap.size + 1) (by rw [World.size_alloc]) HL.out (by rw [hX, hx]))
      obtain ⟨L2, hL2⟩ : ∃ s, s = str (drvB p info (k + 1)) := ⟨_, rfl⟩
      rw [← hL2] at HTk
      have hap : O ++ L2 = str (drvO p info (k + 1)) := by rw [HO.out, hL2, jstr_append]; rfl
      have hsz2 : L2.size = 32 := by rw [hL2, str_size, drvB, tag_length]
      have hsb : ¬ 9223372036854775807 < O.size + L2.size := by omega
      have hsb2 : m + L2.size ≤ 9223372036854775807 := by omega
      have HAP := Lib.hid hap
      have HL2 := Lib.hid hL2
      have bx := x.toNat_lt
      have hk8 : k + 1 ≤ (n + 31) / 32 := by omega
      have hwk : IntKind.i64.wrap ((k : Int) + 1 + 1) = (k : Int) + 1 + 1 := IntWalk.i64_in _ (by omega)
      clear hx hX hL2 hap hlt hm
      go_wp2_with fail
      refine HTk.out.mono ?_
      rintro e w2 ⟨rfl, hf2⟩
      have HF2 := Lib.hid (((HF.out.alloc (.cells #[.int .u8 (x.toNat : Int)] 5)).alloc (.cells #[.string L, .string C, .string X] 9)).trans hf2 (fun i hi => hi.elim))
      clear hf2
      go_wp2_with fail
      go_roundw
      case rel => exact ⟨k + 1, hk8, by rw [HAP.out], by rw [HL2.out], by go_num, HF2.out⟩
      case measure => simp [intOf]; omega
    · have hd : decide ((m : Int) < (n : Int)) = false := decide_eq_false (by omega)
      have hdm : ¬ (m : Int) < (n : Int) := by omega
      have hkk : k = (n + 31) / 32 := by omega
      have hx1 : O.extract 0 n = str (derive salt secret info n) := by
        rw [HO.out, jstr_take, hkk]; unfold derive; rw [← HP.out]
      have hnm : n ≤ m := by omega
      have hnm2 : (n : Int) ≤ (m : Int) := by omega
      clear hkk hlt hm
      go_wp2_with fail
      go_ret2
      exact ⟨rfl, HF.out⟩
end Go.Proofs.Ytcchhfkmhbjdmaa
