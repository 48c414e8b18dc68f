/- The document's Press. -/
import Derived.Test.YtcchhfkmhbjdmaaGreatPm7
/-! Kz -/
set_option linter.unusedVariables false
set_option linter.unusedSimpArgs false
set_option pp.deepTerms true
set_option pp.maxSteps 100000
namespace Go.Proofs.YtcchhfkmhbjdmaaGreat
open Go.RowKit
/-- A block of four rows of four. -/
def Bl4 (w : World) (S : Nat) (s : List UInt8) : Prop := w.heap[S]? = some (.cells (bcells s).toArray 134 (0, 0))
theorem Bl4.fr {F : Nat → Prop} {w w' : World} {S : Nat} {s : List UInt8} (h : Bl4 w S s) (hf : Fr F w w') (hn : ¬ F S) : Bl4 w' S s := hf.heap h hn
theorem Bl4.set {w : World} {S : Nat} {s : List UInt8} (h : Bl4 w S s) (k : Nat) (x : UInt8) : Bl4 (w.setCell ⟨S, k, none⟩ (.int .u8 (x.toNat : Int))) S (s.set k x) := bcells_set h k x
theorem Bl4.cell {w : World} {S : Nat} {s : List UInt8} (h : Bl4 w S s) (k : Nat) (x : UInt8) (hx : s[k]? = some x) : w.cell? ⟨S, k, none⟩ = some (.int .u8 (x.toNat : Int)) := bcells_cell h k x hx
theorem Bl4.lt {w : World} {S : Nat} {s : List UInt8} (h : Bl4 w S s) : S < w.heap.size := lt_of_heap h
/-- The key and its rows. -/
structure Env (w : World) (K g cap X capb : Nat) (W : List UInt8) : Prop where
  key : w.heap[K]? = some (.cells #[.slice (some ⟨g, 0, none⟩) 240 cap, .slice (some ⟨X, 0, none⟩) 256 capb] 73 (0, 0))
  row : BRow w g cap W
  tab : Tab w X
  hX : X < w.heap.size
theorem Env.fr {F : Nat → Prop} {w w' : World} {K g cap X capb : Nat} {W : List UInt8} (h : Env w K g cap X capb W) (hf : Fr F w w') (hK : ¬ F K) (hg : ¬ F g) (hX : ¬ F X) : Env w' K g cap X capb W :=
  ⟨hf.heap h.key hK, h.row.fr hf hg, h.tab.fr hf hX, Nat.lt_of_lt_of_le h.hX hf.size⟩
theorem Env.cell0 {w : World} {K g cap X capb : Nat} {W : List UInt8} (h : Env w K g cap X capb W) : w.cell? ⟨K, 0, none⟩ = some (.slice (some ⟨g, 0, none⟩) 240 cap) := (cell_of_row w K 0 _ _ _ h.key).trans rfl
theorem Env.cell1 {w : World} {K g cap X capb : Nat} {W : List UInt8} (h : Env w K g cap X capb W) : w.cell? ⟨K, 1, none⟩ = some (.slice (some ⟨X, 0, none⟩) 256 capb) := (cell_of_row w K 1 _ _ _ h.key).trans rfl
theorem str_at (s : List UInt8) (i : Nat) (h : i < (str s).size) : (str s)[i]'h = s.getD i 0 := by
  have hl : i < s.length := by rwa [str_size] at h
  simp [str, List.getD_eq_getElem?_getD, List.getElem?_eq_getElem hl, ByteArray.getElem_eq_getElem_data]
theorem wcell {W : List UInt8} (h : W.length = 240) (k : Nat) (hk : k < 240) : W[k]? = some (W.getD k 0) := by
  rw [List.getD_eq_getElem?_getD, List.getElem?_eq_getElem (by omega)]; rfl
theorem getD_some {s : List UInt8} {n : Nat} (h : s.length = n) (k : Nat) (hk : k < n) : s[k]? = some (s.getD k 0) := by
  rw [List.getD_eq_getElem?_getD, List.getElem?_eq_getElem (by omega)]; rfl
theorem pi4_at (c r : Nat) (hc : c < 4) (hr : r < 4) : pi4 (4 * c + r) = r * 4 + c := by unfold pi4; omega
theorem pi4_ta (c r : Nat) (hc : c < 4) (hr : r < 4) : pi4 (r * 4 + c) = 4 * c + r := by unfold pi4; omega
theorem tr_at (s : List UInt8) (c k : Nat) (hc : c < 4) (hk : k < 4) : (tr s)[k * 4 + c]? = some (s.getD (4 * c + k) 0) := by
  rw [tr_get _ _ (by omega), pi4_ta c k hc hk]
theorem zero_at (k : Nat) (hk : k < 16) : (List.replicate 16 (0 : UInt8)).getD k 0 = 0 := by
  rw [List.getD_eq_getElem?_getD, List.getElem?_replicate, if_pos hk]; rfl
theorem tupd_zero_at (f : Nat → UInt8) (c r : Nat) (hc : c < 4) (hr : r < 4) : (tupd f (List.replicate 16 0) (4 * c + r))[r * 4 + c]? = some 0 := by
  rw [tupd_get _ _ _ _ (by simp; omega), pi4_ta c r hc hr, if_neg (by omega), zero_at _ (by omega)]
theorem tupd_step4 (f : Nat → UInt8) (c r : Nat) (hc : c < 4) (hr : r < 4) (x : UInt8) (hx : f (4 * c + r) = x) : (tupd f (List.replicate 16 0) (4 * c + r)).set (r * 4 + c) x = tupd f (List.replicate 16 0) (4 * c + (r + 1)) := by
  rw [← pi4_at c r hc hr, ← hx, tupd_set _ _ _ (by simp) (by omega)]; rfl
theorem idx1 (r : Nat) (hr : r < 4) (m : Nat) (hm : m = (r + 1) % 4) : IntKind.i64.wrap ((r : Int) + 1) = (r : Int) + 1 ∧ ((r : Int) + 1).tmod 4 = (m : Int) ∧ ((r : Int) + 1) % 4 = (m : Int) ∧ IntKind.i64.wrap (m : Int) = (m : Int) ∧ (m : Int) < 4 ∧ m < 4 :=
  ⟨IntWalk.i64_in _ (by omega), by rw [Int.tmod_eq_emod_of_nonneg (by omega)]; omega, by omega, IntWalk.i64_in _ (by omega), by omega, by omega⟩
theorem idx2 (r : Nat) (hr : r < 4) (m : Nat) (hm : m = (r + 2) % 4) : IntKind.i64.wrap ((r : Int) + 2) = (r : Int) + 2 ∧ ((r : Int) + 2).tmod 4 = (m : Int) ∧ ((r : Int) + 2) % 4 = (m : Int) ∧ IntKind.i64.wrap (m : Int) = (m : Int) ∧ (m : Int) < 4 ∧ m < 4 :=
  ⟨IntWalk.i64_in _ (by omega), by rw [Int.tmod_eq_emod_of_nonneg (by omega)]; omega, by omega, IntWalk.i64_in _ (by omega), by omega, by omega⟩
theorem idx3 (r : Nat) (hr : r < 4) (m : Nat) (hm : m = (r + 3) % 4) : IntKind.i64.wrap ((r : Int) + 3) = (r : Int) + 3 ∧ ((r : Int) + 3).tmod 4 = (m : Int) ∧ ((r : Int) + 3) % 4 = (m : Int) ∧ IntKind.i64.wrap (m : Int) = (m : Int) ∧ (m : Int) < 4 ∧ m < 4 :=
  ⟨IntWalk.i64_in _ (by omega), by rw [Int.tmod_eq_emod_of_nonneg (by omega)]; omega, by omega, IntWalk.i64_in _ (by omega), by omega, by omega⟩
theorem idxdm (i : Nat) (hi : i < 16) (m q : Nat) (hm : m = i % 4) (hq : q = i / 4) : (i : Int).tmod 4 = (m : Int) ∧ (i : Int) % 4 = (m : Int) ∧ (i : Int).tdiv 4 = (q : Int) ∧ (i : Int) / 4 = (q : Int) ∧ IntKind.i64.wrap (m : Int) = (m : Int) ∧ IntKind.i64.wrap (q : Int) = (q : Int) ∧ (m : Int) < 4 ∧ (q : Int) < 4 ∧ pi4 i = m * 4 + q ∧ m * 4 + q < 16 :=
  ⟨by rw [Int.tmod_eq_emod_of_nonneg (by omega)]; omega, by omega, by rw [Int.tdiv_eq_ediv_of_nonneg (by omega)]; omega, by omega, IntWalk.i64_in _ (by omega), IntWalk.i64_in _ (by omega), by omega, by omega, by unfold pi4; omega, by omega⟩
theorem str_append (a b : List UInt8) : str a ++ str b = str (a ++ b) := by
  apply ByteArray.ext
  simp [str]
theorem env_start (g cap X capb : Nat) (W : List UInt8) (w : World) (hB : BRow w g cap W) (hT : Tab w X) (hX : X < w.heap.size) (Z : Array Value) (hZ : Z = (bcells (List.replicate 16 0)).toArray) :
    let w2 := (w.alloc (.cells #[.slice (some ⟨g, 0, none⟩) 240 cap, .slice (some ⟨X, 0, none⟩) 256 capb] 73)).alloc (.cells Z 134)
    Env w2 w.heap.size g cap X capb W ∧ Bl4 w2 (w.heap.size + 1) (List.replicate 16 0) ∧ Fr (fun _ => False) w w2 := by
  intro w2
  have hf1 : Fr (fun _ => False) w (w.alloc (.cells #[.slice (some ⟨g, 0, none⟩) 240 cap, .slice (some ⟨X, 0, none⟩) 256 capb] 73)) := (Fr.refl _ _).alloc _
  have hf2 : Fr (fun _ => False) w w2 := hf1.alloc _
  have hk := ((Fr.refl (fun _ => False) (w.alloc (.cells #[.slice (some ⟨g, 0, none⟩) 240 cap, .slice (some ⟨X, 0, none⟩) 256 capb] 73))).alloc (.cells Z 134)).heap (heap_alloc_new w _) id
  have hb := heap_alloc_new (w.alloc (.cells #[.slice (some ⟨g, 0, none⟩) 240 cap, .slice (some ⟨X, 0, none⟩) 256 capb] 73)) (.cells Z 134)
  rw [World.size_alloc] at hb
  exact ⟨⟨hk, hB.fr hf2 id, hT.fr hf2 id, Nat.lt_of_lt_of_le hX hf2.size⟩, by subst hZ; exact hb, hf2⟩
set_option maxRecDepth 20000 in
set_option maxHeartbeats 16000000 in
theorem refpress_yes (g cap X capb : Nat) (W s : List UInt8) (hW : W.length = 240) (hs : s.length = 16) (hcb : 256 ≤ capb) (w : World) (hB : BRow w g cap W) (hT : Tab w X) (hX : X < w.heap.size) :
    Calls Tryz.prog 60 #[.agg #[.slice (some ⟨g, 0, none⟩) 240 cap, .slice (some ⟨X, 0, none⟩) 256 capb], .string (str s)] w fun e w' => e = .returned (.tuple #[.string (str (press W s)), .int .i64 0]) ∧ Fr (fun _ => False) w w' := by
  have hsz : (str s).size = 16 := by rw [str_size]; exact hs
  have HW := Lib.hid hW
  have HS := Lib.hid hs
  obtain ⟨hE0, hS0, hF0⟩ := env_start g cap X capb W w hB hT hX #[.int .u8 0, .int .u8 0, .int .u8 0, .int .u8 0, .int .u8 0, .int .u8 0, .int .u8 0, .int .u8 0, .int .u8 0, .int .u8 0, .int .u8 0, .int .u8 0, .int .u8 0, .int .u8 0, .int .u8 0, .int .u8 0] rfl
  have hgl := hB.lt
  have hgw : g < w.heap.size := hgl
  clear hB hT hgl hW hs
  go_enter Tryz.func60, Tryz.ntmps60
  go_wp2
  generalize (w.alloc (.cells #[.slice (some ⟨g, 0, none⟩) 240 cap, .slice (some ⟨X, 0, none⟩) 256 capb] 73)).alloc (.cells #[.int .u8 0, .int .u8 0, .int .u8 0, .int .u8 0, .int .u8 0, .int .u8 0, .int .u8 0, .int .u8 0, .int .u8 0, .int .u8 0, .int .u8 0, .int .u8 0, .int .u8 0, .int .u8 0, .int .u8 0, .int .u8 0] 134) = w1 at hE0 hS0 hF0 ⊢
  obtain ⟨K, hK⟩ : ∃ K, K = w.heap.size := ⟨_, rfl⟩
  obtain ⟨S, hSd⟩ : ∃ S, S = w.heap.size + 1 := ⟨_, rfl⟩
  rw [← hK] at hE0
  rw [← hSd] at hS0
  rw [← hSd, ← hK]
  have HE0 := Lib.hid hE0
  have HS0 := Lib.hid hS0
  have HF0 := Lib.hid hF0
  have HKS := Lib.hid (show K = w.heap.size ∧ S = w.heap.size + 1 ∧ g < w.heap.size ∧ X < w.heap.size from ⟨hK, hSd, hgw, hX⟩)
  have hSK : S ≠ K := by omega
  have hSg : S ≠ g := by omega
  have hSX : S ≠ X := by omega
  have hwS : w.heap.size ≤ S := by omega
  clear hE0 hS0 hF0 hK hSd hgw hX
  go_loopw [7] (fun v wr => ∃ i : Nat, i ≤ 16 ∧ v = .int .i64 i ∧ Env wr K g cap X capb W ∧ Bl4 wr S (tupd (addF W 0 s) (List.replicate 16 0) i) ∧ Fr (fun _ => False) w wr) (fun v _ => 16 - (intOf v).toNat)
  case atStart => exact ⟨0, Nat.zero_le _, rfl, HE0.out, by rw [tupd_zero]; exact HS0.out, HF0.out⟩
  case round =>
    obtain ⟨i, hi, rfl, hE, hBl, hf⟩ := hrel
    have HE := Lib.hid hE
    have HB := Lib.hid hBl
    have HF := Lib.hid hf
    clear hE hBl hf HE0 HS0 HF0
    by_cases hlt : i < 16
    · obtain ⟨m, hm⟩ : ∃ m, m = i % 4 := ⟨_, rfl⟩
      obtain ⟨q, hq⟩ : ∃ q, q = i / 4 := ⟨_, rfl⟩
      obtain ⟨x, hx⟩ : ∃ x, x = s.getD i 0 := ⟨_, rfl⟩
      obtain ⟨y, hy⟩ : ∃ y, y = W.getD i 0 := ⟨_, rfl⟩
      obtain ⟨z, hz⟩ : ∃ z, z = x ^^^ y := ⟨_, rfl⟩
      have e1 := xor_u8 x y
      rw [← hz] at e1
      have hxs : ∀ h, (str s)[i]'h = x := fun h => by rw [str_at, hx]
      have hfz : addF W 0 s i = z := by unfold addF; rw [hz, hx, hy, show 16 * 0 + i = i by omega]
      have c2 : wr.drew.cell? ⟨g, i, none⟩ = some (.int .u8 (y.toNat : Int)) := HE.out.row.cell i y (by rw [hy]; exact wcell HW.out i (by omega))
      have c0 : wr.drew.cell? ⟨K, 0, none⟩ = some (.slice (some ⟨g, 0, none⟩) 240 cap) := HE.out.cell0
      have hz' : wr.drew.frozen? ⟨S, m * 4 + q, none⟩ = false := frozen_of_row wr _ _ _ _ HB.out
      obtain ⟨ht1, ht2, ht3, ht4, hw1, hw2, hb1, hb2, hpi, hpl⟩ := idxdm i hlt m q hm hq
      have c9 : wr.drew.cell? ⟨S, m * 4 + q, none⟩ = some (.int .u8 ((0 : UInt8).toNat : Int)) := HB.out.cell _ _ (by
        rw [tupd_get _ _ _ _ (by simpa using hpl), ← hpi, pi4_pi4 hlt, if_neg (by omega)]
        rw [List.getD_eq_getElem?_getD, List.getElem?_replicate, if_pos (by omega)]; rfl)
      have HB1 := Lib.hid (show Bl4 (wr.drew.setCell ⟨S, m * 4 + q, none⟩ (.int .u8 (z.toNat : Int))) S (tupd (addF W 0 s) (List.replicate 16 0) (i + 1)) by
        have h := Bl4.set (w := wr.drew) (show Bl4 wr.drew S _ from HB.out) (m * 4 + q) z
        rw [← hpi, ← hfz, tupd_set _ _ _ (by simp) hlt, hfz] at h
        rw [← hpi]; exact h)
      have hfs : Fr (fun k => k = S) wr (wr.drew.setCell ⟨S, m * 4 + q, none⟩ (.int .u8 (z.toNat : Int))) := (Fr.refl _ _).drew.setCell _ _ (.inl rfl)
      have HE1 := Lib.hid (HE.out.fr hfs (Ne.symm hSK) (Ne.symm hSg) (Ne.symm hSX))
      have HF1 := Lib.hid (HF.out.drew.setCell ⟨S, m * 4 + q, none⟩ (.int .u8 (z.toNat : Int)) (.inr hwS))
      have hb3 : (i : Int) < 240 := by omega
      have bx := x.toNat_lt
      have by' := y.toNat_lt
      have bz := z.toNat_lt
      clear hx hy hz hfz hfs hm hq hpi hpl
      go_wp2
      refine wp_region_still_tail 15 (by kernel_rfl) (by kernel_rfl) ?_
      simp only [List.take_succ_cons, List.take_zero, List.drop_succ_cons, List.drop_zero]
      change wpStill _ _ wr.drew (fun a' => wpList _ _ _ _ a' wr.drew) _ _
      repeat still_step
      refine wpStill_nil ?_
      go_wp2
      go_roundw
      case rel => exact ⟨i + 1, by omega, by go_num, HE1.out, HB1.out, HF1.out⟩
      case measure => simp [intOf]; omega
    · have h16 : i = 16 := by omega
      rw [h16, tupd_all _ _ (by simp)] at HB
      have HB2 := Lib.hid (show Bl4 wr S (tr (stN W s 0)) from HB.out)
      clear h16 HB
      go_wp2
      go_loopw [8] (fun v wr => ∃ R : Nat, R ≤ 14 ∧ v = .int .i64 ((R : Int) + 1) ∧ Env wr K g cap X capb W ∧ Bl4 wr S (tr (stN W s R)) ∧ Fr (fun _ => False) w wr) (fun v _ => 15 - (intOf v).toNat)
      case atStart => exact ⟨0, Nat.zero_le _, rfl, HE.out, HB2.out, HF.out⟩
      case round =>
        obtain ⟨R0, hR, rfl, hE, hBl, hf⟩ := hrel
        have HEr := Lib.hid hE
        have HBr := Lib.hid hBl
        have HFr := Lib.hid hf
        clear hE hBl hf HE HB2 HF hi hlt hsz
        by_cases hltR : R0 < 14
        · have hd1 : decide ((R0 : Int) + 1 ≤ 14) = true := decide_eq_true (by omega)
          obtain ⟨st, hst⟩ : ∃ st, st = stN W s R0 := ⟨_, rfl⟩
          obtain ⟨R, hRd⟩ : ∃ R, R = R0 + 1 := ⟨_, rfl⟩
          have hRi : (R0 : Int) + 1 = (R : Int) := by omega
          rw [← hst] at HBr
          rw [hRi] at hd1 ⊢
          have hstl : st.length = 16 := by rw [hst]; exact stN_length _ _ _
          have HSTL := Lib.hid hstl
          have HST := Lib.hid (show st = stN W s R0 ∧ R = R0 + 1 ∧ R ≤ 14 from ⟨hst, hRd, by omega⟩)
          have hR14 : (R : Int) ≤ 14 := by omega
          have hR1 : (1 : Int) ≤ (R : Int) := by omega
          clear hst hRd hRi hstl hR hltR
          go_wp2
          have HT0 := Lib.hid (show Bl4 (wr.alloc (.cells #[.int .u8 0, .int .u8 0, .int .u8 0, .int .u8 0, .int .u8 0, .int .u8 0, .int .u8 0, .int .u8 0, .int .u8 0, .int .u8 0, .int .u8 0, .int .u8 0, .int .u8 0, .int .u8 0, .int .u8 0, .int .u8 0] 134)) wr.heap.size (List.replicate 16 0) from heap_alloc_new wr _)
          have hfa : Fr (fun _ => False) wr (wr.alloc (.cells #[.int .u8 0, .int .u8 0, .int .u8 0, .int .u8 0, .int .u8 0, .int .u8 0, .int .u8 0, .int .u8 0, .int .u8 0, .int .u8 0, .int .u8 0, .int .u8 0, .int .u8 0, .int .u8 0, .int .u8 0, .int .u8 0] 134)) := (Fr.refl _ _).alloc _
          have HEa := Lib.hid (HEr.out.fr hfa id id id)
          have HBa := Lib.hid (HBr.out.fr hfa id)
          have HFa := Lib.hid (HFr.out.alloc (.cells #[.int .u8 0, .int .u8 0, .int .u8 0, .int .u8 0, .int .u8 0, .int .u8 0, .int .u8 0, .int .u8 0, .int .u8 0, .int .u8 0, .int .u8 0, .int .u8 0, .int .u8 0, .int .u8 0, .int .u8 0, .int .u8 0] 134))
          have hSl : S < wr.heap.size := HBr.out.lt
          have hgl : g < wr.heap.size := HEr.out.row.lt
          have hXl : X < wr.heap.size := HEr.out.hX
          have hKl : K < wr.heap.size := lt_of_heap HEr.out.key
          have hwl : w.heap.size ≤ wr.heap.size := HFr.out.size
          generalize wr.alloc (.cells #[.int .u8 0, .int .u8 0, .int .u8 0, .int .u8 0, .int .u8 0, .int .u8 0, .int .u8 0, .int .u8 0, .int .u8 0, .int .u8 0, .int .u8 0, .int .u8 0, .int .u8 0, .int .u8 0, .int .u8 0, .int .u8 0] 134) = wa at HT0 HEa HBa HFa ⊢
          obtain ⟨T, hT⟩ : ∃ T, T = wr.heap.size := ⟨_, rfl⟩
          rw [← hT] at HT0 ⊢
          have hTS : T ≠ S := by omega
          have hTg : T ≠ g := by omega
          have hTX : T ≠ X := by omega
          have hTK : T ≠ K := by omega
          have hwT : w.heap.size ≤ T := by omega
          have HTw := Lib.hid hwT
          clear hfa hSl hgl hXl hKl hwl hT HEr HBr HFr
          go_loopw [10] (fun v wr => ∃ a : Nat, a ≤ 4 ∧ v = .int .i64 a ∧ Env wr K g cap X capb W ∧ Bl4 wr S (tr st) ∧ Bl4 wr T (upd (rshF (tr st)) (List.replicate 16 0) (4 * a)) ∧ Fr (fun _ => False) w wr) (fun v _ => 4 - (intOf v).toNat)
          case atStart => exact ⟨0, Nat.zero_le _, rfl, HEa.out, HBa.out, by rw [upd_zero]; exact HT0.out, HFa.out⟩
          case round =>
            obtain ⟨a, ha, rfl, hE, hBl, hTl, hf⟩ := hrel
            have HEb := Lib.hid hE
            have HBb := Lib.hid hBl
            have HTb := Lib.hid hTl
            have HFb := Lib.hid hf
            clear hE hBl hTl hf HEa HBa HT0 HFa
            by_cases hla : a < 4
            · have hda : decide ((a : Int) < 4) = true := decide_eq_true (by omega)
              have hba : (a : Int) < 4 := by omega
              go_wp2
              go_loopw [11] (fun v wr => ∃ c : Nat, c ≤ 4 ∧ v = .int .i64 c ∧ Env wr K g cap X capb W ∧ Bl4 wr S (tr st) ∧ Bl4 wr T (upd (rshF (tr st)) (List.replicate 16 0) (4 * a + c)) ∧ Fr (fun _ => False) w wr) (fun v _ => 4 - (intOf v).toNat)
              case atStart => exact ⟨0, Nat.zero_le _, rfl, HEb.out, HBb.out, HTb.out, HFb.out⟩
              case round =>
                obtain ⟨c, hc, rfl, hE, hBl, hTl, hf⟩ := hrel
                have HEc := Lib.hid hE
                have HBc := Lib.hid hBl
                have HTc := Lib.hid hTl
                have HFc := Lib.hid hf
                clear hE hBl hTl hf HEb HBb HTb HFb
                by_cases hlc : c < 4
                · obtain ⟨m, hm⟩ : ∃ m, m = (c + a) % 4 := ⟨_, rfl⟩
                  obtain ⟨x, hx⟩ : ∃ x, x = (tr st).getD (a * 4 + m) 0 := ⟨_, rfl⟩
                  obtain ⟨y, hy⟩ : ∃ y, y = box x := ⟨_, rfl⟩
                  have c1 : wr.drew.cell? ⟨S, a * 4 + m, none⟩ = some (.int .u8 (x.toNat : Int)) := HBc.out.cell _ _ (by rw [hx]; exact getD_some (tr_length _) _ (by omega))
                  have c2 : wr.drew.cell? ⟨X, x.toNat, none⟩ = some (.int .u8 (y.toNat : Int)) := by rw [hy]; exact HEc.out.tab x
                  have c0 : wr.drew.cell? ⟨K, 1, none⟩ = some (.slice (some ⟨X, 0, none⟩) 256 capb) := HEc.out.cell1
                  have hfy : rshF (tr st) (a * 4 + c) = y := by
                    unfold rshF; rw [hy, hx, show (a * 4 + c) / 4 = a by omega, show (a * 4 + c) % 4 = c by omega, ← hm, Nat.mul_comm 4 a]
                  have hz' : wr.drew.frozen? ⟨T, a * 4 + c, none⟩ = false := frozen_of_row wr _ _ _ _ HTc.out
                  have HT1 := Lib.hid (show Bl4 (wr.drew.setCell ⟨T, a * 4 + c, none⟩ (.int .u8 (y.toNat : Int))) T (upd (rshF (tr st)) (List.replicate 16 0) (4 * a + (c + 1))) by
                    have h := Bl4.set (w := wr.drew) (show Bl4 wr.drew T _ from HTc.out) (a * 4 + c) y
                    rw [← hfy, show 4 * a + c = a * 4 + c by omega, upd_set _ _ _ (by simp; omega), hfy] at h
                    rw [show 4 * a + (c + 1) = a * 4 + c + 1 by omega]; exact h)
                  have c9 : wr.drew.cell? ⟨T, a * 4 + c, none⟩ = some (.int .u8 ((0 : UInt8).toNat : Int)) := HTc.out.cell _ _ (by
                    rw [upd_get _ _ _ _ (by simp; omega), if_neg (by omega)]
                    rw [List.getD_eq_getElem?_getD, List.getElem?_replicate, if_pos (by omega)]; rfl)
                  have hfs : Fr (fun k => k = T) wr (wr.drew.setCell ⟨T, a * 4 + c, none⟩ (.int .u8 (y.toNat : Int))) := (Fr.refl _ _).drew.setCell _ _ (.inl rfl)
                  have HE1 := Lib.hid (HEc.out.fr hfs (Ne.symm hTK) (Ne.symm hTg) (Ne.symm hTX))
                  have HB1 := Lib.hid (HBc.out.fr hfs (Ne.symm hTS))
                  have HF1 := Lib.hid (HFc.out.drew.setCell ⟨T, a * 4 + c, none⟩ (.int .u8 (y.toNat : Int)) (.inr hwT))
                  have hw1 : IntKind.i64.wrap ((c : Int) + (a : Int)) = (c : Int) + (a : Int) := IntWalk.i64_in _ (by omega)
                  have ht1 : ((c : Int) + (a : Int)).tmod 4 = (m : Int) := by rw [Int.tmod_eq_emod_of_nonneg (by omega)]; omega
                  have ht2 : ((c : Int) + (a : Int)) % 4 = (m : Int) := by omega
                  have hw2 : IntKind.i64.wrap (m : Int) = (m : Int) := IntWalk.i64_in _ (by omega)
                  have hb1 : (m : Int) < 4 := by omega
                  have hb2 : (c : Int) < 4 := by omega
                  have bx := x.toNat_lt
                  have bx2 : (x.toNat : Int) < 256 := by omega
                  have by' := y.toNat_lt
                  clear hx hy hfy hfs hm
                  go_wp2
                  refine wp_region_still_tail 16 (by kernel_rfl) (by kernel_rfl) ?_
                  simp only [List.take_succ_cons, List.take_zero, List.drop_succ_cons, List.drop_zero]
                  change wpStill _ _ wr.drew (fun a' => wpList _ _ _ _ a' wr.drew) _ _
                  repeat still_step
                  refine wpStill_nil ?_
                  go_wp2
                  go_roundw
                  case rel => exact ⟨c + 1, by omega, by go_num, HE1.out, HB1.out, HT1.out, HF1.out⟩
                  case measure => simp [intOf]; omega
                · have hc4 : c = 4 := by omega
                  rw [hc4, show 4 * a + 4 = 4 * (a + 1) by omega] at HTc
                  clear hc4
                  go_wp2
                  go_roundw
                  case rel => exact ⟨a + 1, by omega, by go_num, HEc.out, HBc.out, HTc.out, HFc.out⟩
                  case measure => simp [intOf]; omega
            · have ha4 : a = 4 := by omega
              rw [ha4, show 4 * 4 = 16 by omega, upd_all _ _ _ (by simp), rsh_eq] at HTb
              clear ha4
              obtain ⟨sh, hsh⟩ : ∃ sh, sh = shiftL st := ⟨_, rfl⟩
              rw [← hsh] at HTb
              have HSH := Lib.hid hsh
              have HSHL := Lib.hid (show sh.length = 16 by rw [hsh]; exact full_length _ _)
              clear hsh
              by_cases h14 : R < 14
              · have hd14 : decide ((R : Int) < 14) = true := decide_eq_true (by omega)
                have HNX := Lib.hid (show stN W s (R0 + 1) = addL W R (mixL sh) by
                  obtain ⟨h1, h2, h3⟩ := HST.out
                  rw [stN_next W s R0 (by omega), HSH.out, h1, h2])
                clear h14
                go_wp2
                clear ha hla
                have HU0 := Lib.hid (show Bl4 (wr.alloc (.cells #[.int .u8 0, .int .u8 0, .int .u8 0, .int .u8 0, .int .u8 0, .int .u8 0, .int .u8 0, .int .u8 0, .int .u8 0, .int .u8 0, .int .u8 0, .int .u8 0, .int .u8 0, .int .u8 0, .int .u8 0, .int .u8 0] 134)) wr.heap.size (List.replicate 16 0) from heap_alloc_new wr _)
                have hfa : Fr (fun _ => False) wr (wr.alloc (.cells #[.int .u8 0, .int .u8 0, .int .u8 0, .int .u8 0, .int .u8 0, .int .u8 0, .int .u8 0, .int .u8 0, .int .u8 0, .int .u8 0, .int .u8 0, .int .u8 0, .int .u8 0, .int .u8 0, .int .u8 0, .int .u8 0] 134)) := (Fr.refl _ _).alloc _
                have HEu := Lib.hid (HEb.out.fr hfa id id id)
                have HBu := Lib.hid (HBb.out.fr hfa id)
                have HTu := Lib.hid (HTb.out.fr hfa id)
                have HFu := Lib.hid (HFb.out.alloc (.cells #[.int .u8 0, .int .u8 0, .int .u8 0, .int .u8 0, .int .u8 0, .int .u8 0, .int .u8 0, .int .u8 0, .int .u8 0, .int .u8 0, .int .u8 0, .int .u8 0, .int .u8 0, .int .u8 0, .int .u8 0, .int .u8 0] 134))
                have hSl : S < wr.heap.size := HBb.out.lt
                have hTl : T < wr.heap.size := HTb.out.lt
                have hgl : g < wr.heap.size := HEb.out.row.lt
                have hXl : X < wr.heap.size := HEb.out.hX
                have hKl : K < wr.heap.size := lt_of_heap HEb.out.key
                have hwl : w.heap.size ≤ wr.heap.size := HFb.out.size
                generalize wr.alloc (.cells #[.int .u8 0, .int .u8 0, .int .u8 0, .int .u8 0, .int .u8 0, .int .u8 0, .int .u8 0, .int .u8 0, .int .u8 0, .int .u8 0, .int .u8 0, .int .u8 0, .int .u8 0, .int .u8 0, .int .u8 0, .int .u8 0] 134) = wa at HU0 HEu HBu HTu HFu ⊢
                obtain ⟨U, hU⟩ : ∃ U, U = wr.heap.size := ⟨_, rfl⟩
                rw [← hU] at HU0 ⊢
                have hUS : U ≠ S := by omega
                have hUT : U ≠ T := by omega
                have hUg : U ≠ g := by omega
                have hUX : U ≠ X := by omega
                have hUK : U ≠ K := by omega
                have hwU : w.heap.size ≤ U := by omega
                clear hfa hSl hTl hgl hXl hKl hwl hU HEb HBb HTb HFb
                go_loopw [13] (fun v wr => ∃ c : Nat, c ≤ 4 ∧ v = .int .i64 c ∧ Env wr K g cap X capb W ∧ Bl4 wr S (tr st) ∧ Bl4 wr T (tr sh) ∧ Bl4 wr U (tupd (mixF sh) (List.replicate 16 0) (4 * c)) ∧ Fr (fun _ => False) w wr) (fun v _ => 4 - (intOf v).toNat)
                case atStart => exact ⟨0, Nat.zero_le _, rfl, HEu.out, HBu.out, HTu.out, by rw [tupd_zero]; exact HU0.out, HFu.out⟩
                case round =>
                  obtain ⟨c, hc, rfl, hE, hBl, hTl, hUl, hf⟩ := hrel
                  have HEb := Lib.hid hE
                  have HBb := Lib.hid hBl
                  have HTb := Lib.hid hTl
                  have HUb := Lib.hid hUl
                  have HFb := Lib.hid hf
                  clear hE hBl hTl hUl hf HEu HBu HTu HU0 HFu
                  by_cases hlc : c < 4
                  · have hdc : decide ((c : Int) < 4) = true := decide_eq_true (by omega)
                    have hbc : (c : Int) < 4 := by omega
                    go_wp2
                    go_loopw [14] (fun v wr => ∃ r : Nat, r ≤ 4 ∧ v = .int .i64 r ∧ Env wr K g cap X capb W ∧ Bl4 wr S (tr st) ∧ Bl4 wr T (tr sh) ∧ Bl4 wr U (tupd (mixF sh) (List.replicate 16 0) (4 * c + r)) ∧ Fr (fun _ => False) w wr) (fun v _ => 4 - (intOf v).toNat)
                    case atStart => exact ⟨0, Nat.zero_le _, rfl, HEb.out, HBb.out, HTb.out, HUb.out, HFb.out⟩
                    case round =>
                      obtain ⟨r, hr, rfl, hE, hBl, hTl, hUl, hf⟩ := hrel
                      have HEc := Lib.hid hE
                      have HBc := Lib.hid hBl
                      have HTc := Lib.hid hTl
                      have HUc := Lib.hid hUl
                      have HFc := Lib.hid hf
                      clear hE hBl hTl hUl hf HEb HBb HTb HUb HFb
                      by_cases hlr : r < 4
                      · obtain ⟨r1, hr1⟩ : ∃ m, m = (r + 1) % 4 := ⟨_, rfl⟩
                        obtain ⟨r2, hr2⟩ : ∃ m, m = (r + 2) % 4 := ⟨_, rfl⟩
                        obtain ⟨r3, hr3⟩ : ∃ m, m = (r + 3) % 4 := ⟨_, rfl⟩
                        obtain ⟨x0, hx0⟩ : ∃ x, x = sh.getD (4 * c + r) 0 := ⟨_, rfl⟩
                        obtain ⟨x1, hx1⟩ : ∃ x, x = sh.getD (4 * c + r1) 0 := ⟨_, rfl⟩
                        obtain ⟨x2, hx2⟩ : ∃ x, x = sh.getD (4 * c + r2) 0 := ⟨_, rfl⟩
                        obtain ⟨x3, hx3⟩ : ∃ x, x = sh.getD (4 * c + r3) 0 := ⟨_, rfl⟩
                        obtain ⟨p0, hp0⟩ : ∃ x, x = mul 2 x0 := ⟨_, rfl⟩
                        obtain ⟨p1, hp1⟩ : ∃ x, x = mul 3 x1 := ⟨_, rfl⟩
                        obtain ⟨y1, hy1⟩ : ∃ x, x = p0 ^^^ p1 := ⟨_, rfl⟩
                        obtain ⟨y2, hy2⟩ : ∃ x, x = y1 ^^^ x2 := ⟨_, rfl⟩
                        obtain ⟨y3, hy3⟩ : ∃ x, x = y2 ^^^ x3 := ⟨_, rfl⟩
                        have e1 := xor_u8 p0 p1
                        have e2 := xor_u8 y1 x2
                        have e3 := xor_u8 y2 x3
                        rw [← hy1] at e1
                        rw [← hy2] at e2
                        rw [← hy3] at e3
                        have hfz : mixF sh (4 * c + r) = y3 := by
                          rw [rmix_eq sh c r hlc hlr, hy3, hy2, hy1, hp0, hp1, mul_two, mul_three, hx0, hx1, hx2, hx3, hr1, hr2, hr3]
                        have hpi := pi4_at c r hlc hlr
                        obtain ⟨wA1, tA1, tB1, wB1, bA1, l1⟩ := idx1 r hlr r1 hr1
                        obtain ⟨wA2, tA2, tB2, wB2, bA2, l2⟩ := idx2 r hlr r2 hr2
                        obtain ⟨wA3, tA3, tB3, wB3, bA3, l3⟩ := idx3 r hlr r3 hr3
                        have hb2 : (r : Int) < 4 := Int.ofNat_lt.mpr hlr
                        have hM2 := Lib.hid (show mul 2 x0 = p0 from hp0.symm)
                        have hM3 := Lib.hid (show mul 3 x1 = p1 from hp1.symm)
                        have c1 : wr.drew.cell? ⟨T, r * 4 + c, none⟩ = some (.int .u8 (x0.toNat : Int)) := HTc.out.cell _ _ (by rw [hx0]; exact tr_at sh c r hlc hlr)
                        have c2 : wr.drew.cell? ⟨T, r1 * 4 + c, none⟩ = some (.int .u8 (x1.toNat : Int)) := HTc.out.cell _ _ (by rw [hx1]; exact tr_at sh c r1 hlc l1)
                        have c3 : wr.drew.cell? ⟨T, r2 * 4 + c, none⟩ = some (.int .u8 (x2.toNat : Int)) := HTc.out.cell _ _ (by rw [hx2]; exact tr_at sh c r2 hlc l2)
                        have c4 : wr.drew.cell? ⟨T, r3 * 4 + c, none⟩ = some (.int .u8 (x3.toNat : Int)) := HTc.out.cell _ _ (by rw [hx3]; exact tr_at sh c r3 hlc l3)
                        have hz' : wr.drew.frozen? ⟨U, r * 4 + c, none⟩ = false := frozen_of_row wr _ _ _ _ HUc.out
                        have c9 : wr.drew.cell? ⟨U, r * 4 + c, none⟩ = some (.int .u8 ((0 : UInt8).toNat : Int)) := HUc.out.cell _ _ (tupd_zero_at _ c r hlc hlr)
                        have HU1 := Lib.hid (show Bl4 (wr.drew.setCell ⟨U, r * 4 + c, none⟩ (.int .u8 (y3.toNat : Int))) U (tupd (mixF sh) (List.replicate 16 0) (4 * c + (r + 1))) by
                          have h := Bl4.set (w := wr.drew) (show Bl4 wr.drew U _ from HUc.out) (r * 4 + c) y3
                          rw [tupd_step4 _ c r hlc hlr y3 hfz] at h
                          exact h)
                        have hfs : Fr (fun k => k = U) wr (wr.drew.setCell ⟨U, r * 4 + c, none⟩ (.int .u8 (y3.toNat : Int))) := (Fr.refl _ _).drew.setCell _ _ (.inl rfl)
                        have HE1 := Lib.hid (HEc.out.fr hfs (Ne.symm hUK) (Ne.symm hUg) (Ne.symm hUX))
                        have HB1 := Lib.hid (HBc.out.fr hfs (Ne.symm hUS))
                        have HT1 := Lib.hid (HTc.out.fr hfs (Ne.symm hUT))
                        have HF1 := Lib.hid (HFc.out.drew.setCell ⟨U, r * 4 + c, none⟩ (.int .u8 (y3.toNat : Int)) (.inr hwU))
                        have bbx0 := x0.toNat_lt
                        have bbx1 := x1.toNat_lt
                        have bbx2 := x2.toNat_lt
                        have bbx3 := x3.toNat_lt
                        have bbp0 := p0.toNat_lt
                        have bbp1 := p1.toNat_lt
                        have bby1 := y1.toNat_lt
                        have bby2 := y2.toNat_lt
                        have bby3 := y3.toNat_lt
                        clear hx0 hx1 hx2 hx3 hp0 hp1 hy1 hy2 hy3 hfz hfs hr1 hr2 hr3 hpi l1 l2 l3
                        go_wp2
                        refine wp_region_still_tail 35 (by kernel_rfl) (by kernel_rfl) ?_
                        simp only [List.take_succ_cons, List.take_zero, List.drop_succ_cons, List.drop_zero]
                        change wpStill _ _ wr.drew (fun a' => wpList _ _ _ _ a' wr.drew) _ _
                        repeat still_step
                        still_call ((refmul_calls 2 x0 wr.drew).mono (fun e w' h => ⟨h.1, h.2.symm⟩))
                        rw [hM2.out]
                        repeat still_step
                        still_call ((refmul_calls 3 x1 wr.drew).mono (fun e w' h => ⟨h.1, h.2.symm⟩))
                        rw [hM3.out]
                        repeat still_step
                        refine wpStill_nil ?_
                        go_wp2
                        go_roundw
                        case rel => exact ⟨r + 1, by omega, by go_num, HE1.out, HB1.out, HT1.out, HU1.out, HF1.out⟩
                        case measure => simp [intOf]; omega
                      · have hr4 : r = 4 := by omega
                        rw [hr4, show 4 * c + 4 = 4 * (c + 1) by omega] at HUc
                        clear hr4
                        go_wp2
                        go_roundw
                        case rel => exact ⟨c + 1, by omega, by go_num, HEc.out, HBc.out, HTc.out, HUc.out, HFc.out⟩
                        case measure => simp [intOf]; omega
                  · have hc4 : c = 4 := by omega
                    rw [hc4, show 4 * 4 = 16 by omega, tupd_all _ _ (by simp)] at HUb
                    clear hc4
                    obtain ⟨mx, hmx⟩ : ∃ mx, mx = mixL sh := ⟨_, rfl⟩
                    rw [show full (mixF sh) 16 = mx from hmx.symm] at HUb
                    rw [← hmx] at HNX
                    have HML := Lib.hid (tr_length mx)
                    have HTL := Lib.hid (tr_length sh)
                    obtain ⟨tm, htm⟩ : ∃ t, t = tr mx := ⟨_, rfl⟩
                    obtain ⟨ts, hts⟩ : ∃ t, t = tr sh := ⟨_, rfl⟩
                    rw [← htm] at HML HUb
                    rw [← hts] at HTL HTb
                    have HUh := Lib.hid (show wr.heap[U]? = some (.cells (bcells tm).toArray 134 (0, 0)) from HUb.out)
                    have HTh := Lib.hid (show wr.heap[T]? = some (.cells (bcells ts).toArray 134 (0, 0)) from HTb.out)
                    have hfs : Fr (fun k => k = T) wr (wr.setRow T (bcells tm).toArray) := (Fr.refl _ _).setRow _ _ (.inl rfl)
                    have HE1 := Lib.hid (HEb.out.fr hfs (Ne.symm hTK) (Ne.symm hTg) (Ne.symm hTX))
                    have HB1 := Lib.hid (HBb.out.fr hfs (Ne.symm hTS))
                    have HT1 := Lib.hid (show Bl4 (wr.setRow T (bcells tm).toArray) T (tr mx) by rw [← htm]; exact setRow_heap HTh.out)
                    have HF1 := Lib.hid (HFb.out.setRow T (bcells tm).toArray (.inr hwT))
                    clear hfs htm hts hmx HEb HBb HTb HUb HFb HSHL
                    go_wp2_with (first
                      | (with_reducible refine wpList_load_bytes (op := ⟨some 113, _, _, _, _, _⟩) rfl 134 _ rfl U rfl 134 tm _ _ HUh.out Tryz.underlying134 rfl 16 (by kernel_rfl) HML.out ?_)
                      | (with_reducible refine wpList_store_bytes (op := ⟨none, .store 134 _ _, _, _, _, _⟩) rfl 134 _ _ rfl T rfl 134 ts tm rfl HTh.out 16 (by kernel_rfl) HTL.out HML.out ?_))
                    clear hc hlc
                    have HEb := HE1
                    have HBb := HB1
                    have HTb := HT1
                    have HFb := HF1
                    clear HE1 HB1 HT1 HF1 HUh HTh HML HTL
                    generalize wr.setRow T (bcells tm).toArray = wr at HEb HBb HTb HFb ⊢
                    go_loopw [15] (fun v wr => ∃ i : Nat, i ≤ 16 ∧ v = .int .i64 i ∧ Env wr K g cap X capb W ∧ Bl4 wr S (tr st) ∧ Bl4 wr T (tupd (addF W R mx) (tr mx) i) ∧ Fr (fun _ => False) w wr) (fun v _ => 16 - (intOf v).toNat)
                    case atStart => exact ⟨0, Nat.zero_le _, rfl, HEb.out, HBb.out, by rw [tupd_zero]; exact HTb.out, HFb.out⟩
                    case round =>
                      obtain ⟨i, hi, rfl, hE, hBl, hTl, hf⟩ := hrel
                      have HEc := Lib.hid hE
                      have HBc := Lib.hid hBl
                      have HTc := Lib.hid hTl
                      have HFc := Lib.hid hf
                      clear hE hBl hTl hf HEb HBb HTb HFb
                      by_cases hlt : i < 16
                      · obtain ⟨m, hm⟩ : ∃ m, m = i % 4 := ⟨_, rfl⟩
                        obtain ⟨q, hq⟩ : ∃ q, q = i / 4 := ⟨_, rfl⟩
                        obtain ⟨n, hn⟩ : ∃ n, n = 16 * R + i := ⟨_, rfl⟩
                        obtain ⟨x, hx⟩ : ∃ x, x = mx.getD i 0 := ⟨_, rfl⟩
                        obtain ⟨y, hy⟩ : ∃ y, y = W.getD n 0 := ⟨_, rfl⟩
                        obtain ⟨z, hz⟩ : ∃ z, z = x ^^^ y := ⟨_, rfl⟩
                        have e1 := xor_u8 x y
                        rw [← hz] at e1
                        have hfz : addF W R mx i = z := by unfold addF; rw [hz, hx, hy, hn]
                        obtain ⟨ht1, ht2, ht3, ht4, hw1, hw2, hb1, hb2, hpi, hpl⟩ := idxdm i hlt m q hm hq
                        have hnl : n < 240 := by have := HST.out.2.2; omega
                        have c1 : wr.drew.cell? ⟨T, m * 4 + q, none⟩ = some (.int .u8 (x.toNat : Int)) := HTc.out.cell _ _ (by
                          rw [tupd_get _ _ _ _ (by rw [tr_length]; exact hpl), ← hpi, pi4_pi4 hlt, if_neg (by omega), tr_getD _ _ (pi4_lt hlt), pi4_pi4 hlt, hx])
                        have c2 : wr.drew.cell? ⟨g, n, none⟩ = some (.int .u8 (y.toNat : Int)) := HEc.out.row.cell n y (by rw [hy]; exact wcell HW.out n hnl)
                        have c0 : wr.drew.cell? ⟨K, 0, none⟩ = some (.slice (some ⟨g, 0, none⟩) 240 cap) := HEc.out.cell0
                        have hz' : wr.drew.frozen? ⟨T, m * 4 + q, none⟩ = false := frozen_of_row wr _ _ _ _ HTc.out
                        have HT1 := Lib.hid (show Bl4 (wr.drew.setCell ⟨T, m * 4 + q, none⟩ (.int .u8 (z.toNat : Int))) T (tupd (addF W R mx) (tr mx) (i + 1)) by
                          have h := Bl4.set (w := wr.drew) (show Bl4 wr.drew T _ from HTc.out) (m * 4 + q) z
                          rw [← hpi, ← hfz, tupd_set _ _ _ (tr_length _) hlt, hfz] at h
                          rw [← hpi]; exact h)
                        have hfs : Fr (fun k => k = T) wr (wr.drew.setCell ⟨T, m * 4 + q, none⟩ (.int .u8 (z.toNat : Int))) := (Fr.refl _ _).drew.setCell _ _ (.inl rfl)
                        have HE1 := Lib.hid (HEc.out.fr hfs (Ne.symm hTK) (Ne.symm hTg) (Ne.symm hTX))
                        have HB1 := Lib.hid (HBc.out.fr hfs (Ne.symm hTS))
                        have HF1 := Lib.hid (HFc.out.drew.setCell ⟨T, m * 4 + q, none⟩ (.int .u8 (z.toNat : Int)) (.inr HTw.out))
                        have hw3 : IntKind.i64.wrap (16 * (R : Int)) = 16 * (R : Int) := IntWalk.i64_in _ (by omega)
                        have hw4 : IntKind.i64.wrap (16 * (R : Int) + (i : Int)) = (n : Int) := by rw [IntWalk.i64_in _ (by omega)]; omega
                        have hb3 : (n : Int) < 240 := by omega
                        have bx := x.toNat_lt
                        have by' := y.toNat_lt
                        have bz := z.toNat_lt
                        clear hx hy hz hfz hfs hm hq hpi hpl hn hnl
                        go_wp2
                        refine wp_region_still_tail 22 (by kernel_rfl) (by kernel_rfl) ?_
                        simp only [List.take_succ_cons, List.take_zero, List.drop_succ_cons, List.drop_zero]
                        change wpStill _ _ wr.drew (fun a' => wpList _ _ _ _ a' wr.drew) _ _
                        repeat still_step
                        refine wpStill_nil ?_
                        go_wp2
                        go_roundw
                        case rel => exact ⟨i + 1, by omega, by go_num, HE1.out, HB1.out, HT1.out, HF1.out⟩
                        case measure => simp [intOf]; omega
                      · have h16 : i = 16 := by omega
                        rw [h16, tupd_all _ _ (tr_length _)] at HTc
                        clear h16
                        obtain ⟨nw, hnw⟩ : ∃ nw, nw = tr (full (addF W R mx) 16) := ⟨_, rfl⟩
                        have HNW := Lib.hid (show nw = tr (stN W s (R0 + 1)) by rw [hnw, HNX.out]; rfl)
                        rw [← hnw] at HTc
                        have HNL := Lib.hid (show nw.length = 16 by rw [hnw]; exact tr_length _)
                        have HSL := Lib.hid (tr_length st)
                        have HTh := Lib.hid (show wr.heap[T]? = some (.cells (bcells nw).toArray 134 (0, 0)) from HTc.out)
                        have HSh := Lib.hid (show wr.heap[S]? = some (.cells (bcells (tr st)).toArray 134 (0, 0)) from HBc.out)
                        have hfs : Fr (fun k => k = S) wr (wr.setRow S (bcells nw).toArray) := (Fr.refl _ _).setRow _ _ (.inl rfl)
                        have HE1 := Lib.hid (HEc.out.fr hfs (Ne.symm hSK) (Ne.symm hSg) (Ne.symm hSX))
                        have HB1 := Lib.hid (show Bl4 (wr.setRow S (bcells nw).toArray) S nw from setRow_heap HSh.out)
                        have HF1 := Lib.hid (HFc.out.setRow S (bcells nw).toArray (.inr hwS))
                        clear hnw hfs
                        generalize tr st = ot at HSh HSL HBc ⊢
                        go_wp2_with (first
                          | (with_reducible refine wpList_load_bytes (op := ⟨some 140, _, _, _, _, _⟩) rfl 134 _ rfl T rfl 134 nw _ _ HTh.out Tryz.underlying134 rfl 16 (by kernel_rfl) HNL.out ?_)
                          | (with_reducible refine wpList_store_bytes (op := ⟨none, .store 134 _ _, _, _, _, _⟩) rfl 134 _ _ rfl S rfl 134 ot nw rfl HSh.out 16 (by kernel_rfl) HSL.out HNL.out ?_))
                        go_roundw
                        case rel => exact ⟨R0 + 1, by have := HST.out; omega, by have := HST.out.2.1; subst this; go_num, HE1.out, by rw [← HNW.out]; exact HB1.out, HF1.out⟩
                        case measure => have := HST.out; simp [intOf]; omega
              · have hd14 : decide ((R : Int) < 14) = false := decide_eq_false (by omega)
                have HNX := Lib.hid (show stN W s (R0 + 1) = addL W R sh by
                  obtain ⟨h1, h2, h3⟩ := HST.out
                  have h13 : R0 = 13 := by omega
                  rw [h13, stN_last, HSH.out, h1, h13, h2, h13])
                obtain ⟨mx, hmx⟩ : ∃ mx, mx = sh := ⟨_, rfl⟩
                rw [← hmx] at HTb HNX HSHL
                clear hmx h14
                go_wp2
                clear ha hla
                go_loopw [15] (fun v wr => ∃ i : Nat, i ≤ 16 ∧ v = .int .i64 i ∧ Env wr K g cap X capb W ∧ Bl4 wr S (tr st) ∧ Bl4 wr T (tupd (addF W R mx) (tr mx) i) ∧ Fr (fun _ => False) w wr) (fun v _ => 16 - (intOf v).toNat)
                case atStart => exact ⟨0, Nat.zero_le _, rfl, HEb.out, HBb.out, by rw [tupd_zero]; exact HTb.out, HFb.out⟩
                case round =>
                  obtain ⟨i, hi, rfl, hE, hBl, hTl, hf⟩ := hrel
                  have HEc := Lib.hid hE
                  have HBc := Lib.hid hBl
                  have HTc := Lib.hid hTl
                  have HFc := Lib.hid hf
                  clear hE hBl hTl hf HEb HBb HTb HFb
                  by_cases hlt : i < 16
                  · obtain ⟨m, hm⟩ : ∃ m, m = i % 4 := ⟨_, rfl⟩
                    obtain ⟨q, hq⟩ : ∃ q, q = i / 4 := ⟨_, rfl⟩
                    obtain ⟨n, hn⟩ : ∃ n, n = 16 * R + i := ⟨_, rfl⟩
                    obtain ⟨x, hx⟩ : ∃ x, x = mx.getD i 0 := ⟨_, rfl⟩
                    obtain ⟨y, hy⟩ : ∃ y, y = W.getD n 0 := ⟨_, rfl⟩
                    obtain ⟨z, hz⟩ : ∃ z, z = x ^^^ y := ⟨_, rfl⟩
                    have e1 := xor_u8 x y
                    rw [← hz] at e1
                    have hfz : addF W R mx i = z := by unfold addF; rw [hz, hx, hy, hn]
                    obtain ⟨ht1, ht2, ht3, ht4, hw1, hw2, hb1, hb2, hpi, hpl⟩ := idxdm i hlt m q hm hq
                    have hnl : n < 240 := by have := HST.out.2.2; omega
                    have c1 : wr.drew.cell? ⟨T, m * 4 + q, none⟩ = some (.int .u8 (x.toNat : Int)) := HTc.out.cell _ _ (by
                      rw [tupd_get _ _ _ _ (by rw [tr_length]; exact hpl), ← hpi, pi4_pi4 hlt, if_neg (by omega), tr_getD _ _ (pi4_lt hlt), pi4_pi4 hlt, hx])
                    have c2 : wr.drew.cell? ⟨g, n, none⟩ = some (.int .u8 (y.toNat : Int)) := HEc.out.row.cell n y (by rw [hy]; exact wcell HW.out n hnl)
                    have c0 : wr.drew.cell? ⟨K, 0, none⟩ = some (.slice (some ⟨g, 0, none⟩) 240 cap) := HEc.out.cell0
                    have hz' : wr.drew.frozen? ⟨T, m * 4 + q, none⟩ = false := frozen_of_row wr _ _ _ _ HTc.out
                    have HT1 := Lib.hid (show Bl4 (wr.drew.setCell ⟨T, m * 4 + q, none⟩ (.int .u8 (z.toNat : Int))) T (tupd (addF W R mx) (tr mx) (i + 1)) by
                      have h := Bl4.set (w := wr.drew) (show Bl4 wr.drew T _ from HTc.out) (m * 4 + q) z
                      rw [← hpi, ← hfz, tupd_set _ _ _ (tr_length _) hlt, hfz] at h
                      rw [← hpi]; exact h)
                    have hfs : Fr (fun k => k = T) wr (wr.drew.setCell ⟨T, m * 4 + q, none⟩ (.int .u8 (z.toNat : Int))) := (Fr.refl _ _).drew.setCell _ _ (.inl rfl)
                    have HE1 := Lib.hid (HEc.out.fr hfs (Ne.symm hTK) (Ne.symm hTg) (Ne.symm hTX))
                    have HB1 := Lib.hid (HBc.out.fr hfs (Ne.symm hTS))
                    have HF1 := Lib.hid (HFc.out.drew.setCell ⟨T, m * 4 + q, none⟩ (.int .u8 (z.toNat : Int)) (.inr HTw.out))
                    have hw3 : IntKind.i64.wrap (16 * (R : Int)) = 16 * (R : Int) := IntWalk.i64_in _ (by omega)
                    have hw4 : IntKind.i64.wrap (16 * (R : Int) + (i : Int)) = (n : Int) := by rw [IntWalk.i64_in _ (by omega)]; omega
                    have hb3 : (n : Int) < 240 := by omega
                    have bx := x.toNat_lt
                    have by' := y.toNat_lt
                    have bz := z.toNat_lt
                    clear hx hy hz hfz hfs hm hq hpi hpl hn hnl
                    go_wp2
                    refine wp_region_still_tail 22 (by kernel_rfl) (by kernel_rfl) ?_
                    simp only [List.take_succ_cons, List.take_zero, List.drop_succ_cons, List.drop_zero]
                    change wpStill _ _ wr.drew (fun a' => wpList _ _ _ _ a' wr.drew) _ _
                    repeat still_step
                    refine wpStill_nil ?_
                    go_wp2
                    go_roundw
                    case rel => exact ⟨i + 1, by omega, by go_num, HE1.out, HB1.out, HT1.out, HF1.out⟩
                    case measure => simp [intOf]; omega
                  · have h16 : i = 16 := by omega
                    rw [h16, tupd_all _ _ (tr_length _)] at HTc
                    clear h16
                    obtain ⟨nw, hnw⟩ : ∃ nw, nw = tr (full (addF W R mx) 16) := ⟨_, rfl⟩
                    have HNW := Lib.hid (show nw = tr (stN W s (R0 + 1)) by rw [hnw, HNX.out]; rfl)
                    rw [← hnw] at HTc
                    have HNL := Lib.hid (show nw.length = 16 by rw [hnw]; exact tr_length _)
                    have HSL := Lib.hid (tr_length st)
                    have HTh := Lib.hid (show wr.heap[T]? = some (.cells (bcells nw).toArray 134 (0, 0)) from HTc.out)
                    have HSh := Lib.hid (show wr.heap[S]? = some (.cells (bcells (tr st)).toArray 134 (0, 0)) from HBc.out)
                    have hfs : Fr (fun k => k = S) wr (wr.setRow S (bcells nw).toArray) := (Fr.refl _ _).setRow _ _ (.inl rfl)
                    have HE1 := Lib.hid (HEc.out.fr hfs (Ne.symm hSK) (Ne.symm hSg) (Ne.symm hSX))
                    have HB1 := Lib.hid (show Bl4 (wr.setRow S (bcells nw).toArray) S nw from setRow_heap HSh.out)
                    have HF1 := Lib.hid (HFc.out.setRow S (bcells nw).toArray (.inr hwS))
                    clear hnw hfs
                    generalize tr st = ot at HSh HSL HBc ⊢
                    go_wp2_with (first
                      | (with_reducible refine wpList_load_bytes (op := ⟨some 140, _, _, _, _, _⟩) rfl 134 _ rfl T rfl 134 nw _ _ HTh.out Tryz.underlying134 rfl 16 (by kernel_rfl) HNL.out ?_)
                      | (with_reducible refine wpList_store_bytes (op := ⟨none, .store 134 _ _, _, _, _, _⟩) rfl 134 _ _ rfl S rfl 134 ot nw rfl HSh.out 16 (by kernel_rfl) HSL.out HNL.out ?_))
                    go_roundw
                    case rel => exact ⟨R0 + 1, by have := HST.out; omega, by have := HST.out.2.1; subst this; go_num, HE1.out, by rw [← HNW.out]; exact HB1.out, HF1.out⟩
                    case measure => have := HST.out; simp [intOf]; omega
        · have hR14 : R0 = 14 := by omega
          rw [hR14] at HBr
          clear hR14
          obtain ⟨P, hP⟩ : ∃ P, P = press W s := ⟨_, rfl⟩
          have hPs : stN W s 14 = P := by rw [hP]; unfold stN; rw [if_neg (by omega)]
          have HP := Lib.hid hP
          have HPL := Lib.hid (show P.length = 16 by rw [hP]; exact press_length _ _)
          rw [hPs] at HBr
          clear hP hPs
          go_wp2
          go_loopw [16, 17] (fun v16 v17 wr => ∃ i : Nat, i ≤ 16 ∧ v16 = .string (str (P.take i)) ∧ v17 = .int .i64 i ∧ Bl4 wr S (tr P) ∧ Fr (fun _ => False) w wr) (fun _ v _ => 16 - (intOf v).toNat)
          case atStart => exact ⟨0, Nat.zero_le _, rfl, rfl, HBr.out, HFr.out⟩
          case round =>
            obtain ⟨i, hi, rfl, rfl, hBl, hf⟩ := hrel
            have HBc := Lib.hid hBl
            have HFc := Lib.hid hf
            clear hBl hf HBr HFr HEr
            by_cases hlt : i < 16
            · obtain ⟨m, hm⟩ : ∃ m, m = i % 4 := ⟨_, rfl⟩
              obtain ⟨q, hq⟩ : ∃ q, q = i / 4 := ⟨_, rfl⟩
              obtain ⟨x, hx⟩ : ∃ x, x = P.getD i 0 := ⟨_, rfl⟩
              obtain ⟨ht1, ht2, ht3, ht4, hw1, hw2, hb1, hb2, hpi, hpl⟩ := idxdm i hlt m q hm hq
              have c1 : wr.cell? ⟨S, m * 4 + q, none⟩ = some (.int .u8 (x.toNat : Int)) := HBc.out.cell _ _ (by
                rw [← hpi, tr_get _ _ (pi4_lt hlt), pi4_pi4 hlt, hx])
              have HTK := Lib.hid (show str (P.take i) ++ str [x] = str (P.take (i + 1)) by
                rw [str_append, List.take_add_one, getD_some HPL.out i hlt, hx]; rfl)
              have hfa : Fr (fun _ => False) wr (wr.alloc (.cells #[.int .u8 (x.toNat : Int)] 5)) := (Fr.refl _ _).alloc _
              have hcv := run_convert_str (P := Tryz.prog) (wr.alloc (.cells #[.int .u8 (x.toNat : Int)] 5)) 53 5 Tryz.underlying53 Tryz.underlying5 wr.heap.size 0 1 1 [x] rfl (fun j v hj => by
                rw [Nat.zero_add, cell_of_row _ wr.heap.size j _ _ _ (heap_alloc_new wr _)]; simpa [bcells] using hj) 9 Tryz.underlying9
              have HB1 := Lib.hid (HBc.out.fr hfa id)
              have HF1 := Lib.hid (HFc.out.alloc (.cells #[.int .u8 (x.toNat : Int)] 5))
              have bx := x.toNat_lt
              have hsb : ¬ 9223372036854775807 < (str (List.take i P)).size + (str [x]).size := by
                rw [str_size, str_size, List.length_take, HPL.out]; simp; omega
              clear hx hfa hm hq hpi hpl
              go_wp2
              go_roundw
              case rel => exact ⟨i + 1, by omega, by rw [← HTK.out], by go_num, HB1.out, HF1.out⟩
              case measure => simp [intOf]; omega
            · have h16 : i = 16 := by omega
              have HPT := Lib.hid (show P.take i = press W s by rw [← HP.out, h16, List.take_of_length_le (by rw [HPL.out]; omega)])
              clear h16
              go_wp2
              go_ret2
              exact ⟨by rw [HPT.out]; rfl, HFc.out⟩
end Go.Proofs.YtcchhfkmhbjdmaaGreat
