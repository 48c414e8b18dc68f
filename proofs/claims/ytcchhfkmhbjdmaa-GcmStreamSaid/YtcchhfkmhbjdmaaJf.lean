/- Tags: plain law; a key turned. -/
import Derived.Test.YtcchhfkmhbjdmaaJd
import Derived.Lib.ConvBytes
set_option linter.unusedVariables false
set_option linter.unusedSimpArgs false
set_option pp.deepTerms true
set_option pp.maxSteps 100000
namespace Go.Proofs.Ytcchhfkmhbjdmaa
open Go.RowKit
/-! ### plain -/
def xorB (b : UInt8) (l : List UInt8) : List UInt8 := l.map fun x => x ^^^ b
def keyN (key : List UInt8) : List UInt8 := if 64 < key.length then dig key else key
def padK (k : List UInt8) : List UInt8 := k ++ List.replicate (64 - k.length) 0
def tagK (k64 txt : List UInt8) : List UInt8 := dig (xorB 92 k64 ++ dig (xorB 54 k64 ++ txt))
def tag (key txt : List UInt8) : List UInt8 := tagK (padK (keyN key)) txt
theorem dig_length (l : List UInt8) : (dig l).length = 32 := (Tal.new_ok.add l).sum_length
theorem keyN_length (key : List UInt8) : (keyN key).length ≤ 64 := by
  unfold keyN
  split
  · rw [dig_length]; omega
  · omega
theorem padK_length (k : List UInt8) (h : k.length ≤ 64) : (padK k).length = 64 := by
  unfold padK; rw [List.length_append, List.length_replicate]; omega
theorem xorB_length (b : UInt8) (l : List UInt8) : (xorB b l).length = l.length := by simp [xorB]
theorem tag_length (key txt : List UInt8) : (tag key txt).length = 32 := dig_length _
/-! ### rows of bytes off a conversion -/
def JRow (w : World) (g : Nat) (xs : List UInt8) : Prop :=
  ∃ (cur : List Value) (fr : Nat × Nat), w.heap[g]? = some (.cells (bcells xs ++ cur).toArray 5 fr) ∧ (fr = (0, 0) ∨ xs.length ≤ fr.1)
theorem JRow.cell {w : World} {g : Nat} {xs : List UInt8} (h : JRow w g xs) (k : Nat) (x : UInt8) (hx : xs[k]? = some x) : w.cell? ⟨g, k, none⟩ = some (.int .u8 (x.toNat : Int)) := by
  obtain ⟨cur, fr, hg, _⟩ := h
  have hk : k < xs.length := (List.getElem?_eq_some_iff.1 hx).1
  rw [cell_of_row w g k _ _ _ hg]
  simp only [List.getElem?_toArray]
  rw [List.getElem?_append_left (by rw [bcells_length]; exact hk)]
  simp [bcells, hx]
theorem JRow.range {w : World} {g : Nat} {xs : List UInt8} (h : JRow w g xs) : w.rangeAt g 0 (bcells xs) := fun j v hj => by
  rw [bcells_get] at hj
  rw [Nat.zero_add]
  cases hx : xs[j]? with
  | none => rw [hx] at hj; cases hj
  | some x => rw [hx] at hj; rw [h.cell j x hx]; exact hj
theorem JRow.lt {w : World} {g : Nat} {xs : List UInt8} (h : JRow w g xs) : g < w.heap.size := by
  obtain ⟨cur, fr, hg, _⟩ := h
  exact lt_of_heap hg
theorem JRow.fr {F : Nat → Prop} {w w' : World} {g : Nat} {xs : List UInt8} (h : JRow w g xs) (hf : Fr F w w') (hn : ¬ F g) : JRow w' g xs := by
  obtain ⟨cur, fr, hg, h2⟩ := h
  exact ⟨cur, fr, hf.heap hg hn, h2⟩
theorem JRow.free {w : World} {g : Nat} {xs : List UInt8} (h : JRow w g xs) (k : Nat) (hk : k < xs.length) : w.frozen? ⟨g, k, none⟩ = false := by
  obtain ⟨cur, fr, hg, h2⟩ := h
  simp only [World.frozen?, hg]
  rcases h2 with h2 | h2
  · rw [h2]; simp
  · simp; omega
theorem jsetCell_row (w : World) (g i : Nat) (cs : Array Value) (t : TypeId) (fr : Nat × Nat) (v : Value) (hg : w.heap[g]? = some (.cells cs t fr)) :
    (w.setCell ⟨g, i, none⟩ v).heap[g]? = some (.cells (cs.setIfInBounds i v) t fr) := by
  rw [setCell_eq_setRow w g i cs t fr v hg]
  show (w.heap.modify g _)[g]? = _
  simp [Array.getElem?_modify, hg]
theorem JRow.set {w : World} {g : Nat} {xs : List UInt8} (h : JRow w g xs) (k : Nat) (hk : k < xs.length) (x : UInt8) : JRow (w.setCell ⟨g, k, none⟩ (.int .u8 (x.toNat : Int))) g (xs.set k x) := by
  obtain ⟨cur, fr, hg, h2⟩ := h
  refine ⟨cur, fr, ?_, by rw [List.length_set]; exact h2⟩
  rw [jsetCell_row w g k _ _ _ _ hg]
  simp only [List.setIfInBounds_toArray]
  rw [List.set_append_left _ _ (by rw [bcells_length]; exact hk)]
  simp [bcells, List.map_set]
theorem jrow_conv (w : World) (l : List UInt8) : JRow (Lib.bytesWorld w 5 (str l)) w.heap.size l := by
  have h := Lib.bytesWorld_at_new w 5 (str l)
  have hle : (str l).size ≤ grownCap w (str l).size 0 5 := grownCap_ge w _ _ _
  have hc : Lib.bytesCells w 5 (str l) = (bcells l ++ List.replicate (grownCap w (str l).size 0 5 - (str l).size) (Value.int .u8 0)).toArray := by
    unfold Lib.bytesCells
    apply Array.ext'
    simp [bcells, str]
  refine ⟨List.replicate (grownCap w (str l).size 0 5 - (str l).size) (Value.int .u8 0), _, h.trans (by rw [← hc]), .inr ?_⟩
  rw [hc, List.size_toArray, List.length_append, bcells_length, List.length_replicate]; omega
theorem jbytesWorld_fr (w : World) (e : TypeId) (s : ByteArray) : Fr (fun _ => False) w (Lib.bytesWorld w e s) :=
  ⟨by simp [Lib.bytesWorld, World.freeze] <;> rfl, by simp [Lib.bytesWorld, World.freeze] <;> rfl, by simp [Lib.bytesWorld, World.freeze] <;> rfl, by rw [Lib.bytesWorld_size]; omega, fun i hi _ => Lib.bytesWorld_at_old w e s i hi⟩
/-! ### a key turned -/
def turnF (key : List UInt8) (b : UInt8) (j : Nat) : UInt8 := key.getD j 0 ^^^ b
theorem turnF_full (key : List UInt8) (b : UInt8) (n : Nat) (hk : key.length = n) : full (turnF key b) n = xorB b key := by
  subst hk
  apply List.ext_getElem (by simp [full, xorB])
  intro j h1 h2
  have hj : j < key.length := by simpa [full] using h1
  simp [full, xorB, turnF, List.getD_eq_getElem?_getD, List.getElem?_eq_getElem hj]
set_option maxRecDepth 20000 in
set_option maxHeartbeats 4000000 in
theorem turned_calls (V : Nat) (key : List UInt8) (hk : key.length = 64) (b : UInt8) (w : World) (hV : w.cell? ⟨V, 0, none⟩ = some (.string (str key))) :
    Calls Try.prog 83 #[.int .u8 (b.toNat : Int), .pointer (some ⟨V, 0, none⟩)] w fun e w' => e = .returned (.string (str (xorB b key))) ∧ Fr (fun _ => False) w w' := by
  have hsz : (str key).size = 64 := by rw [str_size]; exact hk
  have HK := Lib.hid hk
  have hcv := Lib.run_convert_string_bytes (P := Try.prog) w 9 27 5 (str key) Try.underlying9 Try.underlying27 Try.underlying5
  have hfB := jbytesWorld_fr w 5 (str key)
  have hrB := jrow_conv w key
  rw [hsz] at hcv
  generalize grownCap w 64 0 5 = cap0 at hcv
  generalize Lib.bytesWorld w 5 (str key) = wB at hcv hfB hrB
  obtain ⟨g, hg⟩ : ∃ g, g = w.heap.size := ⟨_, rfl⟩
  rw [← hg] at hcv hrB
  have HG := Lib.hid hg
  have HFB := Lib.hid hfB
  have HRB := Lib.hid hrB
  clear hfB hrB hg hk
  go_enter Try.func83, Try.ntmps83
  go_wp2
  go_loopw [10] (fun v wr => ∃ i : Nat, i ≤ 64 ∧ v = .int .i64 i ∧ JRow wr g (upd (turnF key b) key i) ∧ Fr (fun _ => False) w wr) (fun v _ => 64 - (intOf v).toNat)
  case atStart => exact ⟨0, Nat.zero_le _, rfl, by rw [upd_zero]; exact HRB.out, HFB.out⟩
  case round =>
    obtain ⟨i, hi, rfl, hB, hf⟩ := hrel
    have HB := Lib.hid hB
    have HF := Lib.hid hf
    clear hB hf HRB HFB hcv
    by_cases hlt : i < 64
    · have hi64 : (i : Int) < 64 := by omega
      obtain ⟨x, hx⟩ : ∃ x, x = key.getD i 0 := ⟨_, rfl⟩
      obtain ⟨z, hz⟩ : ∃ z, z = x ^^^ b := ⟨_, rfl⟩
      have e1 := xor_u8 x b
      rw [← hz] at e1
      have hul : (upd (turnF key b) key i).length = 64 := by rw [upd_length]; exact HK.out
      have c1 : wr.cell? ⟨g, i, none⟩ = some (.int .u8 (x.toNat : Int)) := HB.out.cell i x (by rw [upd_get _ _ _ _ (by rw [HK.out]; exact hlt), if_neg (by omega), hx])
      have hfz : wr.frozen? ⟨g, i, none⟩ = false := HB.out.free i (by omega)
      have HB1 := Lib.hid (show JRow (wr.setCell ⟨g, i, none⟩ (.int .u8 (z.toNat : Int))) g (upd (turnF key b) key (i + 1)) by
        rw [← upd_set _ _ _ (by rw [HK.out]; exact hlt), show turnF key b i = z by rw [hz, hx]; rfl]
        exact HB.out.set i (by omega) z)
      have HF1 := Lib.hid (HF.out.setCell ⟨g, i, none⟩ (.int .u8 (z.toNat : Int)) (.inr (by have := HG.out; simp; omega)))
      have bx := x.toNat_lt
      have bz := z.toNat_lt
      have bb := b.toNat_lt
      clear hx hz hul
      go_wp2
      go_roundw
      case rel => exact ⟨i + 1, by omega, by go_num, HB1.out, HF1.out⟩
      case measure => simp [intOf]; omega
    · have h64 : i = 64 := by omega
      subst h64
      have HBz := Lib.hid (show JRow wr g (xorB b key) by have := HB.out; rwa [upd_all _ _ 64 HK.out, turnF_full _ _ _ HK.out] at this)
      have hcv2 := run_convert_str (P := Try.prog) wr 27 5 Try.underlying27 Try.underlying5 g 0 64 cap0 (xorB b key) (by rw [xorB_length]; exact HK.out) HBz.out.range 9 Try.underlying9
      go_wp2
      go_ret
      exact ⟨rfl, HF.out⟩
end Go.Proofs.Ytcchhfkmhbjdmaa
