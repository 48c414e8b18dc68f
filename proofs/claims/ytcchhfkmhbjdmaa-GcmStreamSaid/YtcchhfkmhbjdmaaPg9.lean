/- A text turned by pressed blocks: the walk. -/
import Derived.Test.YtcchhfkmhbjdmaaPg8
import Derived.Test.YtcchhfkmhbjdmaaJr
set_option linter.unusedVariables false
set_option linter.unusedSimpArgs false
set_option pp.deepTerms true
set_option pp.maxSteps 100000
namespace Go.Proofs.Ytcchhfkmhbjdmaa
open Go.RowKit Go.Shelf
attribute [local go_sem] Oper.semAt_some
theorem own_cells {w : World} {B : Nat} {v : Value} {n : Nat} {xs : List Value} (h : w.ownsRowF B 5 1 v n xs) (k : Nat) (hk : v.ownBlock = some k) : ∃ cs fz, w.heap[k]? = some (.cells cs 5 fz) := by
  rcases h.2 with ⟨hn, _⟩ | ⟨g, cap, cur, fz, rfl, hb, hgg, rest⟩
  · rw [hn] at hk; cases hk
  · cases hk; exact ⟨_, _, hgg⟩
theorem own_grown {w w' : World} {B : Nat} {v : Value} {n : Nat} {xs : List Value} {row : Option Nat} (h : w.ownsRowF B 5 1 v n xs) (hg : w.grownBy w' row) (hr : ∀ r, row = some r → ∃ o : Obj, w.heap[r]? = some o ∧ o.isCells = false) : w'.ownsRowF B 5 1 v n xs := by
  refine ⟨h.1, ?_⟩
  rcases h.2 with hn | ⟨g, cap, cur, fz, rfl, hb, hgg, rest⟩
  · exact .inl hn
  · refine .inr ⟨g, cap, cur, fz, rfl, hb, (hg.block g (lt_of_heap hgg) (fun e => ?_)).trans hgg, rest⟩
    obtain ⟨o, ho, hc⟩ := hr g e.symm
    rw [hgg] at ho; cases ho; cases hc
theorem heap_grown {w w' : World} {g : Nat} {cs : Array Value} {t : TypeId} {fz : Nat × Nat} {row : Option Nat} (h : w.heap[g]? = some (.cells cs t fz)) (hg : w.grownBy w' row) (hr : ∀ r, row = some r → ∃ o : Obj, w.heap[r]? = some o ∧ o.isCells = false) : w'.heap[g]? = some (.cells cs t fz) :=
  (hg.block g (lt_of_heap h) (fun e => by obtain ⟨o, ho, hc⟩ := hr g e.symm; rw [h] at ho; cases ho; cases hc)).trans h
theorem keepsFrom_of_fr {F : Nat → Prop} {W W' : World} (D : Nat) (h : Fr F W W') (hF : ∀ k, D ≤ k → F k → ∃ cs t fz, W.heap[k]? = some (.cells cs t fz)) : KeepsFrom D W W' :=
  ⟨h.size, fun k o hk ho hc => (h.block k (lt_of_heap ho) (fun hf => by obtain ⟨cs, t, fz, he⟩ := hF k hk hf; rw [he] at ho; cases ho; cases hc)).trans ho⟩
/-- Between two rounds. -/
def BodyI (Wd nonce t : List UInt8) (m : Nat) (w0 : World) (Bd Jb : Nat) (pre : List (Fin m)) (W : World) : Prop :=
  Fr (fun k => k = Bd ∨ k = Jb) w0 W ∧ W.heap[Jb]? = some (.cells #[.int .i64 ((2 + pre.length : Nat) : Int)] 3 (0, 0)) ∧
  ∃ p v, (p = .pointer none ∨ p = .pointer (some ⟨Bd, 0, none⟩)) ∧ W.heap[Bd]? = some (.cells #[p, v] 151 (0, 0)) ∧
    W.ownsRowF w0.heap.size 5 1 v (bodyX Wd nonce t (pre.map Fin.val)).length (bcells (bodyX Wd nonce t (pre.map Fin.val)))
theorem bodyI_own (Wd nonce t : List UInt8) (m : Nat) (w0 : World) (Bd Jb : Nat) : OwnFrom w0.heap.size (BodyI Wd nonce t m w0 Bd Jb) := by
  rintro s A B row ⟨h1, h2, p, v, h3, h4, h5⟩ hg hr
  exact ⟨h1.grown hg (fun k hk => .inr (hr k hk).1), heap_grown h2 hg (fun r e => (hr r e).2), p, v, h3, heap_grown h4 hg (fun r e => (hr r e).2), own_grown h5 hg (fun r e => (hr r e).2)⟩
set_option maxRecDepth 100000 in
set_option maxHeartbeats 2000000 in
theorem body_calls (S : Nat) (key nonce t : List UInt8) (ht : t.length ≤ 100000) (hn : nonce.length = 12) (w : World) (hS : Sea w S key nonce) :
    Calls Try.prog 85 #[.pointer (some ⟨S, 0, none⟩), .string (str t)] w fun e w' => e = .returned (.string (str (bodyL (words key 52) nonce t))) ∧ Fr (fun _ => False) w w' := by
  obtain ⟨T, hT⟩ : ∃ T, T = str t := ⟨_, rfl⟩
  rw [← hT]
  refine (callsIn_wide (n := 3)).1 ?_
  refine callsIn_of_wp_marks Try.func85 rfl trivial ?_ rfl
  simp only [Try.ntmps85, List.size_toArray, List.length_cons, List.length_nil, Nat.reduceAdd, Nat.reduceSub, Array.replicate_succ, Array.replicate_zero, List.push_toArray, List.append_toArray, List.nil_append, List.cons_append]
  have hconv : ∀ w : World, (convert 9 27 (.string T)).run Try.prog w = .ok (.slice (some ⟨w.heap.size, 0, none⟩) T.size (grownCap w T.size 0 5)) (Lib.bytesWorld w 5 T) := fun w =>
    Lib.run_convert_string_bytes (P := Try.prog) w 9 27 5 T Try.underlying9 Try.underlying27 Try.underlying5
  have HT := Lib.hid hT
  have HS := Lib.hid hS
  clear hT hS
  gi_wp2_with fail
  obtain ⟨w3, hw3⟩ : ∃ w3, w3 = ((w.alloc (.cells #[.pointer (some ⟨S, 0, none⟩)] 120)).alloc (.cells #[.pointer none, .slice none 0 0] 151)).alloc (.cells #[.int .i64 2] 3) := ⟨_, rfl⟩
  rw [← hw3]
  have hsz3 : w3.heap.size = w.heap.size + 1 + 1 + 1 := by rw [hw3]; simp
  have hA3 : w3.heap[w.heap.size]? = some (.cells #[.pointer (some ⟨S, 0, none⟩)] 120 (0, 0)) := by
    rw [hw3]; exact (((Fr.refl (fun _ => False) _).alloc _).alloc _).heap (heap_alloc_new w _) id
  have hB3 : w3.heap[w.heap.size + 1]? = some (.cells #[.pointer none, .slice none 0 0] 151 (0, 0)) := by
    rw [hw3]
    have h := heap_alloc_new (w.alloc (.cells #[.pointer (some ⟨S, 0, none⟩)] 120)) (.cells #[.pointer none, .slice none 0 0] 151)
    rw [World.size_alloc] at h
    exact ((Fr.refl (fun _ => False) _).alloc _).heap h id
  have hJ3 : w3.heap[w.heap.size + 1 + 1]? = some (.cells #[.int .i64 2] 3 (0, 0)) := by
    rw [hw3]
    have h := heap_alloc_new ((w.alloc (.cells #[.pointer (some ⟨S, 0, none⟩)] 120)).alloc (.cells #[.pointer none, .slice none 0 0] 151)) (.cells #[.int .i64 2] 3)
    simp only [World.size_alloc] at h
    exact h
  have hF3 : Fr (fun _ => False) w w3 := by rw [hw3]; exact (((Fr.refl _ _).alloc _).alloc _).alloc _
  obtain ⟨cap, hcap⟩ : ∃ c, c = grownCap w3 T.size 0 5 := ⟨_, rfl⟩
  have hX4 : XRow (Lib.bytesWorld w3 5 T) (w.heap.size + 1 + 1 + 1) cap t := by
    have h := xrow_conv w3 t
    rw [← HT.out, hsz3, ← hcap] at h
    exact h
  have hF4 : Fr (fun _ => False) w3 (Lib.bytesWorld w3 5 T) := xbytesWorld_fr w3 5 T
  have hsz4 : (Lib.bytesWorld w3 5 T).heap.size = w.heap.size + 1 + 1 + 1 + 1 := by rw [Lib.bytesWorld_size, hsz3]
  rw [← hcap]
  have hcl : T.size ≤ cap := by rw [hcap]; exact grownCap_ge w3 _ _ _
  generalize Lib.bytesWorld w3 5 T = w4 at hX4 hF4 hsz4 ⊢
  have hTs : T.size = t.length := by rw [HT.out, str_size]
  refine ⟨trivial, CallsIn.mono (callsIn_wide.2 (chunk_calls _ _ _ _)) ?_⟩
  rintro e w' ⟨rfl, hw'⟩
  rw [hsz4]
  have hs6 : w'.heap[w.heap.size + 1 + 1 + 1 + 1]? = some (.cells #[.slice (some ⟨w.heap.size + 1 + 1 + 1, 0, none⟩) T.size cap] 27 (0, 0)) := by
    have h := heap_alloc_new w4 (.cells #[.slice (some ⟨w.heap.size + 1 + 1 + 1, 0, none⟩) T.size cap] 27)
    rw [hsz4] at h
    rw [hw']; exact ((Fr.refl (fun _ => False) _).alloc _).heap h id
  have hn6 : w'.heap[w.heap.size + 1 + 1 + 1 + 1 + 1]? = some (.cells #[.int .i64 16] 3 (0, 0)) := by
    have h := heap_alloc_new (w4.alloc (.cells #[.slice (some ⟨w.heap.size + 1 + 1 + 1, 0, none⟩) T.size cap] 27)) (.cells #[.int .i64 16] 3)
    rw [World.size_alloc, hsz4] at h
    rw [hw']; exact h
  have hF6 : Fr (fun _ => False) w4 w' := by rw [hw']; exact ((Fr.refl _ _).alloc _).alloc _
  have hsz6 : w'.heap.size = w.heap.size + 1 + 1 + 1 + 1 + 1 + 1 := by rw [hw']; simp [hsz4]
  clear hw' hw3
  have hFw : Fr (fun _ => False) w w' := (hF3.trans hF4 (fun i hi => hi.elim)).trans hF6 (fun i hi => hi.elim)
  have hF36 : Fr (fun _ => False) w3 w' := hF4.trans hF6 (fun i hi => hi.elim)
  have HA := Lib.hid (hF36.heap hA3 id)
  have HB := Lib.hid (hF36.heap hB3 id)
  have HJ := Lib.hid (hF36.heap hJ3 id)
  have HX := Lib.hid (hX4.fr hF6 id)
  have HSl := Lib.hid hs6
  have HN6 := Lib.hid hn6
  have HFw := Lib.hid hFw
  have HSz := Lib.hid hsz6
  have HTs := Lib.hid hTs
  have HCl := Lib.hid hcl
  have HSea := Lib.hid (HS.out.fr hFw)
  clear hA3 hB3 hJ3 hF3 hX4 hF4 hsz4 hs6 hn6 hF6 hFw hF36 hsz6 hTs hcap hcl hsz3 hconv
  gi_wp2
  obtain ⟨m, hm⟩ : ∃ m, m = (t.length + 15) / 16 := ⟨_, rfl⟩
  have HM := Lib.hid hm
  have h00 : BodyI (words key 52) nonce t m w' (w.heap.size + 1) (w.heap.size + 1 + 1) [] w' := ⟨Fr.refl _ _, HJ.out, _, _, .inl rfl, HB.out, rfl, .inl ⟨rfl, rfl⟩⟩
  refine wpIn_rangeFunc_ownG (α := Fin m) rfl (by omega) (gf := 135) (lb := #[.pointer (some ⟨w.heap.size + 1 + 1 + 1 + 1, 0, none⟩), .pointer (some ⟨w.heap.size + 1 + 1 + 1 + 1 + 1, 0, none⟩)]) rfl trivial (enters_of Try.func135 (by kernel_rfl) rfl)
    (chunk_stops _ (w.heap.size + 1 + 1 + 1 + 1) (w.heap.size + 1 + 1 + 1 + 1 + 1) (w.heap.size + 1 + 1 + 1) T.size cap m (by rw [HTs.out]; exact hm) HCl.out (by have := HTs.out; omega) w' (by have := HSz.out; omega) (by have := HSz.out; omega)
      ((cell_of_row _ _ 0 _ _ _ HSl.out).trans rfl) ((cell_of_row _ _ 0 _ _ _ HN6.out).trans rfl))
    (fun h k => h.trans k) (fun W l o o' hl ho _ _ => ⟨by simp, fun k hk => World.putObj_heap_other (by have := HSz.out; omega)⟩) (Below.refl _ _) (fun _ => rfl)
    (BodyI (words key 52) nonce t m w' (w.heap.size + 1) (w.heap.size + 1 + 1)) (fun _ _ _ => False) (bodyI_own _ _ _ _ _ _ _) (fun _ _ _ _ _ hs _ _ => hs) h00
    (fun x => { tmps := #[.pointer (some ⟨S, 0, none⟩), .string T, .pointer (some ⟨w.heap.size, 0, none⟩), undef, .string ⟨#[]⟩, .pointer (some ⟨w.heap.size + 1, 0, none⟩), .pointer (some ⟨w.heap.size + 1 + 1, 0, none⟩),
      .slice (some ⟨w.heap.size + 1 + 1 + 1, 16 * x.1, none⟩) (min 16 (T.size - 16 * x.1)) (min 16 (T.size - 16 * x.1)), .string T, .slice (some ⟨w.heap.size + 1 + 1 + 1, 0, none⟩) T.size cap,
      .func (.func 135) #[] #[.pointer (some ⟨w.heap.size + 1 + 1 + 1 + 1, 0, none⟩), .pointer (some ⟨w.heap.size + 1 + 1 + 1 + 1 + 1, 0, none⟩)],
      .slice (some ⟨w.heap.size + 1 + 1 + 1, 16 * x.1, none⟩) (min 16 (T.size - 16 * x.1)) (min 16 (T.size - 16 * x.1)), undef, undef, undef, undef, undef, undef, undef, undef, undef, undef, undef, undef, undef], defers := [] }) ?assign ?body ?done ?stop
  case assign =>
    intro l x W K hK
    unfold encC
    gi_wp2
    exact hK
  case stop =>
    rintro D c pre W _ _ h _
    exact h.elim
  case done =>
    rintro D ys W hD rfl ⟨hf, hj, p, v, hp, hb, ho⟩ hK
    rw [fins_val, bodyX_range, bodyN_all _ _ _ _ (by rw [hm]; omega)] at ho
    have hFW : Fr (fun _ => False) w W := HFw.out.trans hf (fun i hi => .inr (by rcases hi with rfl | rfl <;> omega))
    have HFW := Lib.hid hFW
    have HStr := Lib.hid (builder_string w'.heap.size (w.heap.size + 1) p v hp _ W hb ho (by have := HSz.out; omega) (by have := hf.size; have := HSz.out; omega))
    have HK := Lib.hid hK
    clear hf hj hp hb ho hFW hK h00
    gi_wp2
    refine ⟨trivial, CallsIn.mono (callsIn_wide.2 HStr.out) ?_⟩
    rintro e W2 ⟨rfl, hbl, hok⟩
    have hK2 : W2.heap[D]? = some (.deferred (some [])) := hok D _ HK.out (by intro h; have := Option.some.inj h; have := HSz.out; omega) (fun _ _ h => by cases h)
    have HF2 := Lib.hid (show Fr (fun _ => False) w W2 from HFW.out.trans (G := fun k => w.heap.size ≤ k) ⟨hbl.os, hbl.tape, hbl.output, hbl.size, fun i hi hn => hbl.block i (by omega)⟩ (fun i hi => .inr hi))
    clear hbl hok
    gi_wp2
    refine ⟨by simp, .inl ⟨_, _, rfl, run_takeDeferred hK2, ?_⟩⟩
    exact ⟨_, results_tmp rfl _ _ _, rfl, HF2.out.grown (grownBy_putObj' W2 D _) (fun k e => by cases e; exact .inr (by have := HSz.out; omega))⟩
  case body =>
    rintro l pre x W ⟨hf, hj, p, v, hp, hb, ho⟩ hlen
    have hFW : Fr (fun _ => False) w W.drew := (HFw.out.trans hf (fun i hi => .inr (by rcases hi with rfl | rfl <;> omega))).drew
    have hsz := HSz.out
    obtain ⟨P, N, C, hS1, hP1, hN1, hC1⟩ := HS.out.fr hFW
    have hX1 : XRow W.drew (w.heap.size + 1 + 1 + 1) cap t := (HX.out.fr hf (by rintro (h | h) <;> omega)).fr (Fr.refl (fun _ => False) W).drew id
    have hA1 : W.drew.heap[w.heap.size]? = some (.cells #[.pointer (some ⟨S, 0, none⟩)] 120 (0, 0)) := hf.heap HA.out (by rintro (h | h) <;> omega)
    have hJ1 : W.drew.heap[w.heap.size + 1 + 1]? = some (.cells #[.int .i64 ((2 + pre.length : Nat) : Int)] 3 (0, 0)) := hj
    have hlim : pre.length ≤ 10000 := by omega
    obtain ⟨k, hkm⟩ := x
    dsimp only
    have hk16 : 16 * k < t.length := by omega
    obtain ⟨q, hq⟩ : ∃ q, q = 16 * k := ⟨_, rfl⟩
    obtain ⟨c, hc⟩ : ∃ c, c = min 16 (T.size - q) := ⟨_, rfl⟩
    obtain ⟨j, hjd⟩ : ∃ j, j = 2 + pre.length := ⟨_, rfl⟩
    obtain ⟨CH, hCH⟩ : ∃ s, s = str (chunk t k) := ⟨_, rfl⟩
    obtain ⟨CT, hCT⟩ : ∃ s, s = str (ctr (words key 52) nonce j) := ⟨_, rfl⟩
    obtain ⟨TU, hTU⟩ : ∃ s, s = str (turnL (chunk t k) (ctr (words key 52) nonce j)) := ⟨_, rfl⟩
    have HConv := Lib.hid (show ∀ W', Fr (fun _ => False) W.drew W' → (convert 27 9 (.slice (some ⟨w.heap.size + 1 + 1 + 1, q, none⟩) c c)).run Try.prog W' = .ok (.string CH) W' from fun W' hW => by
      rw [hCH]
      refine run_convert_str (P := Try.prog) W' 27 5 Try.underlying27 Try.underlying5 (w.heap.size + 1 + 1 + 1) q c c (chunk t k) (by rw [chunk_length, hc, HTs.out, hq]) (fun i v hi => ?_) 9 Try.underlying9
      rw [bcells_get] at hi
      have hil : i < (chunk t k).length := by
        rcases Nat.lt_or_ge i (chunk t k).length with h | h
        · exact h
        · rw [List.getElem?_eq_none h] at hi; cases hi
      rw [List.getElem?_eq_getElem hil] at hi
      cases hi
      refine (hX1.fr hW id).cell (q + i) _ ?_
      have h16 : i < 16 := by rw [chunk_length] at hil; omega
      rw [hq]
      simp [chunk]
      )
    have HCount := Lib.hid (show ∀ W', Fr (fun _ => False) W.drew W' → Calls Try.prog 115 #[.int .i64 (j : Int), .pointer (some ⟨P, 0, none⟩), .pointer (some ⟨N, 0, none⟩)] W' fun e w' => e = .returned (.string CT) ∧ Fr (fun _ => False) W' w' from fun W' hW => by
      rw [hCT]; exact count_calls C P N (words key 52) nonce hn j (by omega) W' (hC1.fr hW id) (hW.heap hP1 id) (hW.heap hN1 id))
    have HTurn := Lib.hid (show ∀ W', Calls Try.prog 117 #[.string CH, .string CT] W' fun e w' => e = .returned (.string TU) ∧ Fr (fun _ => False) W' w' from fun W' => by
      rw [hCH, hCT, hTU]; exact gturn_calls _ _ (by rw [chunk_length]; omega) (by rw [ctr_length]; omega) W')
    have HXL := Lib.hid (bodyX_length (words key 52) nonce t (pre.map Fin.val))
    obtain ⟨D0, hD0⟩ : ∃ d, d = w'.heap.size := ⟨_, rfl⟩
    rw [← hD0] at ho
    have HWr := Lib.hid (show ∀ W', Fr (fun _ => False) W.drew W' → Calls Try.prog 112 #[.pointer (some ⟨w.heap.size + 1, 0, none⟩), .string TU] W' fun e w2 => (∃ u, e = .returned u) ∧ (∃ v', w2.heap[w.heap.size + 1]? = some (.cells #[.pointer (some ⟨w.heap.size + 1, 0, none⟩), v'] 151 (0, 0)) ∧ w2.ownsRowF D0 5 1 v' (bodyX (words key 52) nonce t ((pre ++ [(⟨k, hkm⟩ : Fin m)]).map Fin.val)).length (bcells (bodyX (words key 52) nonce t ((pre ++ [(⟨k, hkm⟩ : Fin m)]).map Fin.val)))) ∧ Fr (fun k => k = w.heap.size + 1 ∨ v.ownBlock = some k) W' w2 from fun W' hW => by
      have hW0 : Fr (fun _ => False) W W' := ((Fr.refl (fun _ => False) W).drew).trans hW (fun i hi => hi.elim)
      have h := builder_write D0 (w.heap.size + 1) p v hp (bodyX (words key 52) nonce t (pre.map Fin.val)) (turnL (chunk t k) (ctr (words key 52) nonce j)) W' (hW0.heap hb id) (own_keep ho hW0 (fun _ _ => id)) (by omega) (by have := hf.size; have := hW0.size; omega) (by have h1 := HXL.out; rw [List.length_map] at h1; rw [turnL_length, ctr_length]; omega)
      rw [← hTU] at h
      rw [List.map_append, List.map_cons, List.map_nil, bodyX_snoc, List.length_map, ← hjd]
      exact h)
    have HOC := Lib.hid (show ∀ k, v.ownBlock = some k → D0 ≤ k ∧ ∃ cs fz, W.heap[k]? = some (.cells cs 5 fz) from fun k hk => ⟨own_ge ho k hk, own_cells ho k hk⟩)
    have cA : ∀ W', Fr (fun _ => False) W.drew W' → W'.cell? ⟨w.heap.size, 0, none⟩ = some (.pointer (some ⟨S, 0, none⟩)) := fun W' hW => (cell_of_row W' _ 0 _ _ _ (hW.heap hA1 id)).trans rfl
    have cS : ∀ W', Fr (fun _ => False) W.drew W' → W'.cell? ⟨S, 2, none⟩ = some (.func (.func 115) #[] #[.pointer (some ⟨P, 0, none⟩), .pointer (some ⟨N, 0, none⟩)]) := fun W' hW => (cell_of_row W' _ 2 _ _ _ (hW.heap hS1 id)).trans rfl
    have cJ : ∀ W', Fr (fun _ => False) W.drew W' → W'.cell? ⟨w.heap.size + 1 + 1, 0, none⟩ = some (.int .i64 (j : Int)) := fun W' hW => (cell_of_row W' _ 0 _ _ _ (hW.heap hJ1 id)).trans (by rw [hjd]; rfl)
    have HcA := Lib.hid cA
    have HcS := Lib.hid cS
    have HcJ := Lib.hid cJ
    have HF := Lib.hid hf
    have HJJ := Lib.hid (show j = 2 + pre.length ∧ j ≤ 20000 by omega)
    have HFW := Lib.hid (show Fr (fun _ => False) W W.drew from (Fr.refl _ _).drew)
    have HSF := Lib.hid (show ∀ W', Fr (fun _ => False) W.drew W' → W'.heap[w.heap.size + 1 + 1]? = some (.cells #[.int .i64 (j : Int)] 3 (0, 0)) from fun W' hW => by rw [hjd]; exact hW.heap hJ1 id)
    have HKp := Lib.hid (show w'.heap.size ≤ W.heap.size from hf.size)
    have HD0 := Lib.hid hD0
    rw [← hq, ← hc]
    clear cA cS cJ hf hj hp hb ho hFW hS1 hP1 hN1 hC1 hX1 hA1 hJ1 hq hc hjd hCH hCT hTU hlim hlen hk16 hsz h00 hD0
    have HS0 := Lib.hid (Fr.refl (fun _ => False) W.drew)
    gi_wp2
    refine wpIn_region_till (fun W' => Fr (fun _ => False) W.drew W') 8 (by kernel_rfl) (by kernel_rfl) (fun _ _ h => h) ?_
    refine wpAnyT_take (i := 0) (n := 9) (v := .slice (some ⟨w.heap.size + 1 + 1 + 1, q, none⟩) c c) rfl (by kernel_rfl) (fun _ _ _ h => h) HS0.out (yieldsIf_plain rfl (fun W' hW => by clear hW; go_simp)) ?_
    simp only [List.getElem_toArray, List.getElem_cons_succ, List.getElem_cons_zero, Act.put, List.setIfInBounds_toArray, List.set_cons_zero, List.set_cons_succ]
    refine wpAnyT_take (i := 1) (n := 9) (v := .string CH) rfl (by kernel_rfl) (fun _ _ _ h => h) HS0.out (yieldsIf_plain rfl (fun W' hW => by have h1 := HConv.out W' hW; clear hW; go_simp)) ?_
    simp only [List.getElem_toArray, List.getElem_cons_succ, List.getElem_cons_zero, Act.put, List.setIfInBounds_toArray, List.set_cons_zero, List.set_cons_succ]
    refine wpAnyT_take (i := 2) (n := 9) (v := .pointer (some ⟨S, 0, none⟩)) rfl (by kernel_rfl) (fun _ _ _ h => h) HS0.out (yieldsIf_plain rfl (fun W' hW => by have h1 := HcA.out W' hW; clear hW; go_simp)) ?_
    simp only [List.getElem_toArray, List.getElem_cons_succ, List.getElem_cons_zero, Act.put, List.setIfInBounds_toArray, List.set_cons_zero, List.set_cons_succ]
    refine wpAnyT_take (i := 3) (n := 9) (v := .pointer (some ⟨S, 0, none⟩)) rfl (by kernel_rfl) (fun _ _ _ h => h) HS0.out (yieldsIf_plain rfl (fun W' hW => by clear hW; go_simp)) ?_
    simp only [List.getElem_toArray, List.getElem_cons_succ, List.getElem_cons_zero, Act.put, List.setIfInBounds_toArray, List.set_cons_zero, List.set_cons_succ]
    refine wpAnyT_take (i := 4) (n := 9) (v := .pointer (some ⟨S, 2, none⟩)) rfl (by kernel_rfl) (fun _ _ _ h => h) HS0.out (yieldsIf_plain rfl (fun W' hW => by clear hW; go_simp)) ?_
    simp only [List.getElem_toArray, List.getElem_cons_succ, List.getElem_cons_zero, Act.put, List.setIfInBounds_toArray, List.set_cons_zero, List.set_cons_succ]
    refine wpAnyT_take (i := 5) (n := 9) (v := .func (.func 115) #[] #[.pointer (some ⟨P, 0, none⟩), .pointer (some ⟨N, 0, none⟩)]) rfl (by kernel_rfl) (fun _ _ _ h => h) HS0.out (yieldsIf_plain rfl (fun W' hW => by have h1 := HcS.out W' hW; clear hW; go_simp)) ?_
    simp only [List.getElem_toArray, List.getElem_cons_succ, List.getElem_cons_zero, Act.put, List.setIfInBounds_toArray, List.set_cons_zero, List.set_cons_succ]
    refine wpAnyT_take (i := 6) (n := 9) (v := .int .i64 (j : Int)) rfl (by kernel_rfl) (fun _ _ _ h => h) HS0.out (yieldsIf_plain rfl (fun W' hW => by have h1 := HcJ.out W' hW; clear hW; go_simp)) ?_
    simp only [List.getElem_toArray, List.getElem_cons_succ, List.getElem_cons_zero, Act.put, List.setIfInBounds_toArray, List.set_cons_zero, List.set_cons_succ]
    refine wpAnyT_one (i := 7) rfl (by kernel_rfl) (wpOp_plain rfl rfl (fun K hK => ?_))
    simp only [List.getElem_toArray, List.getElem_cons_succ, List.getElem_cons_zero, Act.put, List.setIfInBounds_toArray, List.set_cons_zero, List.set_cons_succ]
    have HKK := Lib.hid hK
    clear hK
    go_wp2_with fail
    refine (HCount.out _ HS0.out).mono ?_
    rintro e W3 ⟨rfl, f3⟩
    have HS3 := Lib.hid f3
    clear f3
    go_wp2_with fail
    refine HKK.out _ _ ⟨fun _ => HS3.out, ?_⟩
    clear HKK K
    try simp only [List.getElem_toArray, List.getElem_cons_succ, List.getElem_cons_zero, Act.put, List.setIfInBounds_toArray, List.set_cons_zero, List.set_cons_succ]
    refine wpAnyT_of_any trivial [8, 9] _ _ _ _ (by kernel_rfl) (by simp) (.inr rfl) ?_
    simp only [List.filterMap_cons, List.filterMap_nil, List.getElem?_toArray, List.getElem?_cons_zero, List.getElem?_cons_succ]
    go_wp2_with fail
    refine (HTurn.out W3).mono ?_
    rintro e W4 ⟨rfl, f4⟩
    have HS4 := Lib.hid (HS3.out.trans f4 (fun i hi => hi.elim))
    clear f4
    go_wp2_with fail
    refine (HWr.out W4 HS4.out).mono ?_
    rintro e W5 ⟨⟨u, rfl⟩, ⟨v', hb5, ho5⟩, f5⟩
    have hj5 : W5.heap[w.heap.size + 1 + 1]? = some (.cells #[.int .i64 (j : Int)] 3 (0, 0)) := f5.heap (HSF.out W4 HS4.out) (by
      rintro (h | h)
      · omega
      · have := (HOC.out _ h).1; have := HD0.out; have := HSz.out; omega)
    have c5 : W5.cell? ⟨w.heap.size + 1 + 1, 0, none⟩ = some (.int .i64 (j : Int)) := (cell_of_row W5 _ 0 _ _ _ hj5).trans rfl
    have z5 : W5.frozen? ⟨w.heap.size + 1 + 1, 0, none⟩ = false := frozen_of_row W5 _ _ _ _ hj5
    obtain ⟨j1, hj1⟩ : ∃ x, x = j + 1 := ⟨_, rfl⟩
    have hw1 : IntKind.i64.wrap ((j : Int) + 1) = (j1 : Int) := by rw [IntWalk.i64_in _ (by have := HJJ.out; omega)]; omega
    have f6 : Fr (fun k => k = w.heap.size + 1 + 1) W5 (W5.setCell ⟨w.heap.size + 1 + 1, 0, none⟩ (.int .i64 (j1 : Int))) := (Fr.refl _ _).setCell _ _ (.inl rfl)
    have HJ6 := Lib.hid (show (W5.setCell ⟨w.heap.size + 1 + 1, 0, none⟩ (.int .i64 (j1 : Int))).heap[w.heap.size + 1 + 1]? = some (.cells #[.int .i64 (j1 : Int)] 3 (0, 0)) from heap_setCell_same W5 _ 0 _ _ _ hj5)
    have HB6 := Lib.hid (f6.heap hb5 (by omega))
    have HO6 := Lib.hid (own_keep ho5 f6 (fun k hk => by have := own_ge ho5 k hk; have := HD0.out; have := HSz.out; omega))
    have HW6 := Lib.hid (show Fr (fun k => k = w.heap.size + 1 ∨ k = w.heap.size + 1 + 1 ∨ v.ownBlock = some k) W (W5.setCell ⟨w.heap.size + 1 + 1, 0, none⟩ (.int .i64 (j1 : Int))) from
      (((HFW.out.trans HS4.out (fun i hi => hi.elim)).mono (fun i hi => hi.elim)).trans f5 (fun i hi => .inl (by rcases hi with h | h; exact .inl h; exact .inr (.inr h)))).trans f6 (fun i hi => .inl (.inr (.inl hi))))
    have HJ1 := Lib.hid hj1
    clear hb5 ho5 f5 hj5 f6 hj1
    go_wp2_with fail
    gi_wp2
    have hsz := HSz.out
    have hd0 := HD0.out
    have hkp := HKp.out
    have hno : ∀ i, i < w'.heap.size → i ≠ w.heap.size + 1 → i ≠ w.heap.size + 1 + 1 → ¬ (i = w.heap.size + 1 ∨ i = w.heap.size + 1 + 1 ∨ v.ownBlock = some i) := fun i hi h1 h2 h => by
      rcases h with h | h | h
      · exact h1 h
      · exact h2 h
      · have := (HOC.out i h).1; omega
    refine ⟨keepsFrom_of_fr _ HW6.out (fun i hi hF => ?_), Kp3.of_fr HW6.out ⟨by omega, hno _ (by omega) (by omega) (by omega)⟩ ⟨by omega, hno _ (by omega) (by omega) (by omega)⟩ ⟨by omega, hno _ (by omega) (by omega) (by omega)⟩, ?_⟩
    · rcases hF with h | h | h
      · omega
      · omega
      · obtain ⟨cs, fz, he⟩ := (HOC.out i h).2
        exact ⟨cs, 5, fz, he⟩
    · refine ⟨HF.out.trans HW6.out (fun i hi => ?_), ?_, _, v', .inr rfl, HB6.out, ?_⟩
      · rcases hi with h | h | h
        · exact .inl (.inl h)
        · exact .inl (.inr h)
        · exact .inr (by have := (HOC.out i h).1; omega)
      · have e : (j1 : Int) = ((2 + (pre ++ [(⟨k, hkm⟩ : Fin m)]).length : Nat) : Int) := by
          rw [List.length_append, List.length_cons, List.length_nil, HJ1.out, HJJ.out.1]; omega
        rw [← e]; exact HJ6.out
      · rw [← hd0]; exact HO6.out
end Go.Proofs.Ytcchhfkmhbjdmaa
