/- settle. -/
import Derived.Test.YthlngbdbmnnnaaaKb
set_option linter.unusedVariables false
set_option linter.unusedSimpArgs false
namespace Go.Proofs.Ythlngbdbmnnnaaa
open Go.RowKit

set_option maxRecDepth 20000 in
theorem settle_44 {w : World} {g gl gw c : Nat} {D : Dk} (f : Nat → Nat)
    (hg : w.heap[g]? = some (.cells #[.slice (some ⟨gl, 0, none⟩) (64 * D.n) (64 * D.n), .slice (some ⟨gw, 0, none⟩) D.wait.length c, .int .i64 D.cutAt, .int .u64 D.keep, .int .i64 D.torn, .int .i64 D.count, .bool D.down] 85 (0, 0)))
    (hl : w.heap[gl]? = some (.cells (bcells D.lasts).toArray 5 (0, 0))) (ho : w.ownsRow 0 89 65 (.slice (some ⟨gw, 0, none⟩) D.wait.length c) D.wait.length (D.wait.flatMap wcells))
    (hlen : D.lasts.length = 64 * D.n) (hmost : D.n ≤ 4096) (hwf : ∀ x ∈ D.wait, 0 ≤ x.place ∧ x.place < D.n ∧ x.data.length = 64) (hm : D.wait.length ≤ 1000000) (hf : ∀ i, f i ≤ 64)
    (hcl : ∀ (i : Nat) (W : World), i < D.wait.length → Fr (fun k => k = gl) w W → Calls Try.prog 44 #[.int .i64 i] W fun e W' => e = .returned (.int .i64 (f i)) ∧ W' = W) :
    Calls Try.prog 43 #[.pointer (some ⟨g, 0, none⟩), .func (.func 44) #[] #[]] w fun e w' => e = .returned (.tuple #[]) ∧
      w'.heap[g]? = some (.cells #[.slice (some ⟨gl, 0, none⟩) (64 * D.n) (64 * D.n), .slice none 0 0, .int .i64 D.cutAt, .int .u64 D.keep, .int .i64 D.torn, .int .i64 D.count, .bool D.down] 85 (0, 0)) ∧
      w'.heap[gl]? = some (.cells (bcells (settle f 0 D.wait D.lasts)).toArray 5 (0, 0)) ∧ Fr (fun k => k = g ∨ k = gl) w w' := by
  have hgl : gl ≠ g := fun e => by subst e; rw [hg] at hl; simp at hl
  have hgw : gw ≠ gl := fun e => by
    subst e
    rcases ho.2 with ⟨h, _⟩ | ⟨g', cap, cur, h, _, h2, _⟩
    · cases h
    · simp at h; obtain ⟨rfl, rfl⟩ := h; rw [hl] at h2; simp at h2
  have Hg := Lib.hid hg
  have Hl := Lib.hid hl
  have hD := dcells hg
  have h0 := hD.c0
  have h1 := hD.c1
  obtain ⟨m, hmm⟩ : ∃ m, m = D.wait.length := ⟨_, rfl⟩
  rw [← hmm] at h1 hm
  have hfl : (D.wait.flatMap wcells).length = D.wait.length * 65 := flat_length wcells 65 _ (fun x hx => by simp [wcells, bcells_length, (hwf x hx).2.2])
  have HO := Lib.hid ho
  have HD := Lib.hid hD
  have HM := Lib.hid hmm
  have HF := Lib.hid hf
  have HC := Lib.hid hcl
  have HW := Lib.hid hwf
  have HL := Lib.hid hlen
  clear hg hl ho hD hmm hfl hf hcl hwf hlen
  go_enter Try.func43, Try.ntmps43
  go_wp2
  go_loopw [4, 5, 11] (fun _ _ v wr => ∃ k : Nat, k ≤ m ∧ v = .int .i64 k ∧ wr.heap[gl]? = some (.cells (bcells (settle f 0 (D.wait.take k) D.lasts)).toArray 5 (0, 0)) ∧ Fr (fun i => i = gl) w wr) (fun _ _ v _ => m - (intOf v).toNat)
  case atStart => exact ⟨0, Nat.zero_le _, rfl, Hl.out, Fr.refl _ _⟩
  case round =>
    obtain ⟨k, hk, rfl, hrl, hfr⟩ := hrel
    have HRL := Lib.hid hrl
    have HFR := Lib.hid hfr
    have hr0 := hfr.cell h0 (Ne.symm hgl)
    have hr1 := hfr.cell h1 (Ne.symm hgl)
    have hfz : wr.frozen? ⟨g, 1, none⟩ = false := frozen_of_row wr g 1 _ _ (hfr.heap Hg.out (Ne.symm hgl))
    clear hrl hfr h0 h1
    by_cases hlt : k < m
    · have hkw : k < D.wait.length := by rw [← HM.out]; exact hlt
      obtain ⟨x, hx⟩ : ∃ x, D.wait[k]? = some x := ⟨_, List.getElem?_eq_getElem hkw⟩
      have hxm : x ∈ D.wait := List.mem_of_getElem? hx
      obtain ⟨hp0, hp1, hdl⟩ := HW.out x hxm
      have hcs65 : (wcells x).length = 65 := by simp [wcells, bcells_length, hdl]
      have hran : wr.rangeAt gw (k * 65) (wcells x) := fun j v hj => by
        have h1 := flat_take wcells 65 D.wait (fun y hy => by simp [wcells, bcells_length, (HW.out y hy).2.2]) k x hx j v hj
        have h2 := HO.out.cells (g := gw) rfl _ v h1
        rw [Addr.add_mid, Nat.zero_add] at h2
        exact HFR.out.cell h2 hgw
      have Hran := Lib.hid hran
      have hone : ∀ v ∈ (wcells x).toArray.toList, v.oneCell' = true := by
        intro v hv
        simp only [wcells, List.mem_cons] at hv
        rcases hv with rfl | hv
        · rfl
        · exact bcells_one _ v hv
      have Hone := Lib.hid hone
      obtain ⟨cs, hcs⟩ : ∃ cs, cs = (wcells x).toArray := ⟨_, rfl⟩
      have hsz : cs.size = 65 := by rw [hcs]; simpa using hcs65
      have Hcs := Lib.hid hcs
      have Hx := Lib.hid hx
      have Hdl := Lib.hid hdl
      have Hsz := Lib.hid hsz
      obtain ⟨q, hq⟩ : ∃ q : Nat, x.place = q := ⟨x.place.toNat, by omega⟩
      have hq1 : (q : Int) < D.n := by omega
      have hq2 : q * 64 < 64 * D.n := by omega
      have HQ := Lib.hid hq
      have Hi := Lib.hid (show (Try.prog.info? 89).map (·.size) = some (wcells x).length by rw [hcs65]; kernel_rfl)
      have Hi2 := Lib.hid (show (Try.prog.info? 89).map (·.size) = some (wcells x).toArray.size by simpa using Hi.out)
      have Hz := Lib.hid (show Try.zeroCells89.size = (wcells x).toArray.size by simpa using hcs65.symm)
      have g0 : (wr.alloc (.cells (wcells x).toArray 89)).drew.cell? ⟨g, 0, none⟩ = some (.slice (some ⟨gl, 0, none⟩) (64 * D.n) (64 * D.n)) := (HFR.out.alloc _).drew.cell HD.out.c0 (Ne.symm hgl)
      have n0 : (wr.alloc (.cells (wcells x).toArray 89)).drew.cell? ⟨wr.heap.size, 0, none⟩ = some (.int .i64 q) := by
        rw [← hq]
        show (wr.alloc (.cells (wcells x).toArray 89)).cell? ⟨wr.heap.size, 0, none⟩ = _
        rw [cell_of_row _ wr.heap.size 0 _ _ _ (heap_alloc_new wr _)]; rfl
      have Hn := Lib.hid (show (wr.alloc (.cells (wcells x).toArray 89)).drew.heap[wr.heap.size]? = some (.cells (wcells x).toArray 89) from heap_alloc_new wr _)
      have Hgl := Lib.hid (show (wr.alloc (.cells (wcells x).toArray 89)).drew.heap[gl]? = some (.cells (bcells (settle f 0 (D.wait.take k) D.lasts)).toArray 5 (0, 0)) from (Below.heap_alloc wr _ _ (lt_of_heap HRL.out)).trans HRL.out)
      have Hfr := Lib.hid (show Fr (fun i => i = gl) w (wr.alloc (.cells (wcells x).toArray 89)).drew from (HFR.out.alloc _).drew)
      clear hran hone hcs hx hdl hsz hcs65 hq hp0 hp1
      go_wp2_with (first
        | (with_reducible refine wpList_load_mid (op := ⟨some 15, _, _, _, _, _⟩) rfl 89 _ rfl gw (k * 65) rfl (wcells x) _ Hran.out Try.underlying89 rfl Hi.out ?_)
        | (with_reducible refine wpList_store_fresh (op := ⟨none, .store 89 _ _, _, _, _, _⟩) rfl 89 _ _ rfl wr Try.zeroCells89 (wcells x).toArray rfl rfl rfl Hz.out Hi2.out Hone.out ?_))
      refine wp_region_still_tail 13 (by kernel_rfl) (by kernel_rfl) ?_
      simp only [List.take_succ_cons, List.take_zero, List.drop_succ_cons, List.drop_zero]
      change wpStill _ _ (wr.alloc (.cells (wcells x).toArray 89)).drew (fun a' => wpList _ _ _ _ a' (wr.alloc (.cells (wcells x).toArray 89)).drew) _ _
      generalize (wr.alloc (.cells (wcells x).toArray 89)).drew = W1 at g0 n0 Hn Hgl Hfr ⊢
      have hw1 : IntKind.i64.wrap ((q : Int) * 64) = (q : Int) * 64 := IntWalk.i64_in _ (by omega)
      have hw2 : (0 : Int) ≤ (q : Int) * 64 := by omega
      have hw3 : (q : Int) * 64 ≤ 64 * (D.n : Int) := by omega
      have hw4 : ¬ 64 * D.n = q * 64 := by omega
      repeat still_step
      still_call (HC.out k W1 hkw Hfr.out)
      have hf64 := HF.out k
      have hf65 : ((f k : Nat) : Int) ≤ 64 := by omega
      have hf66 : (0 : Int) ≤ ((f k : Nat) : Int) := by omega
      repeat still_step
      refine wpStill_nil ?_
      have hn5 : ¬ 64 * D.n = ((q : Int) * 64).toNat := by omega
      have hn6 : ((q : Int) * 64).toNat = q * 64 := by omega
      rw [if_neg hn5, hn6]
      have hLk : (settle f 0 (D.wait.take k) D.lasts).length = 64 * D.n := settle_length f D.n _ 0 _ (fun y hy => HW.out y (List.mem_of_mem_take hy)) HL.out
      have hdk : (x.data.take (f k)).length = f k := by rw [List.length_take, Hdl.out]; omega
      have hcur : (bcells (settle f 0 (D.wait.take k) D.lasts)).toArray.size = 64 * D.n := by simp [bcells_length, hLk]
      have hcl : (bcells (x.data.take (f k))).length = f k := by rw [bcells_length, hdk]
      refine wpList_copy_own rfl (.tmp 23) (.tmp 28) 43 43 rfl 5 Try.underlying43 (by kernel_rfl) gl (q * 64) (64 * D.n - q * 64) (64 * D.n - q * 64) ⟨wr.heap.size, 1, none⟩ (f k) 64 rfl rfl (bcells (settle f 0 (D.wait.take k) D.lasts)).toArray 5 Hgl.out (bcells (x.data.take (f k))) ?_ ?_ ?_ (bcells_one _) ?_
      · rw [hcl]; show f k = min (f k) (64 * D.n - q * 64); omega
      · intro j v hj
        rw [Addr.add_mid, cell_of_row _ _ _ _ _ _ Hn.out]
        rw [bcells_take, List.getElem?_take] at hj
        split at hj
        · rw [Nat.add_comm]; simpa [wcells] using hj
        · cases hj
      · rw [hcl, hcur]; omega
      have hnew : (W1.setRow gl ((bcells (settle f 0 (D.wait.take k) D.lasts)).toArray.toList.take (q * 64) ++ (bcells (x.data.take (f k)) ++ (bcells (settle f 0 (D.wait.take k) D.lasts)).toArray.toList.drop (q * 64 + (bcells (x.data.take (f k))).length))).toArray).heap[gl]? = some (.cells (bcells (settle f 0 (D.wait.take (k + 1)) D.lasts)).toArray 5 (0, 0)) := by
        rw [setRow_heap W1 gl _ _ _ _ Hgl.out]
        rw [List.take_succ_eq_append_getElem hkw, show D.wait[k] = x from by have := Hx.out; rw [List.getElem?_eq_getElem hkw] at this; exact Option.some.inj this, settle_snoc]
        have e1 : (x.place.toNat) = q := by have := HQ.out; omega
        have e2 : (D.wait.take k).length = k := by rw [List.length_take]; omega
        rw [e1, e2, Nat.zero_add, splice_cells, Nat.mul_comm 64 q]
      have hfr2 : Fr (fun i => i = gl) w (W1.setRow gl ((bcells (settle f 0 (D.wait.take k) D.lasts)).toArray.toList.take (q * 64) ++ (bcells (x.data.take (f k)) ++ (bcells (settle f 0 (D.wait.take k) D.lasts)).toArray.toList.drop (q * 64 + (bcells (x.data.take (f k))).length))).toArray) := Hfr.out.setRow _ _ (Or.inl rfl)
      generalize W1.setRow gl _ = W2 at hnew hfr2 ⊢
      have HN := Lib.hid hnew
      have HR2 := Lib.hid hfr2
      clear hnew hfr2 hLk hdk hcur hcl hn5 hn6 g0 n0
      go_wp2
      go_roundw
      case rel => exact ⟨k + 1, by omega, by go_num, HN.out, HR2.out⟩
      case measure => simp [intOf]; omega
    · have hk' : k = D.wait.length := by have := HM.out; omega
      have e : D.wait.take k = D.wait := by rw [hk', List.take_length]
      have HR3 := Lib.hid (show wr.heap[gl]? = some (.cells (bcells (settle f 0 D.wait D.lasts)).toArray 5 (0, 0)) by rw [← e]; exact HRL.out)
      have HG3 := Lib.hid (HFR.out.heap Hg.out (Ne.symm hgl))
      clear hk' e
      go_wp2
      go_end0
      refine ⟨rfl, ?_, ?_, ?_⟩
      · rw [heap_setCell_same wr g 1 _ _ _ HG3.out]; rfl
      · rw [heap_setCell_other _ _ _ _ hgl]; exact HR3.out
      · exact (HFR.out.mono (fun i hi => .inl (.inr hi))).setCell _ _ (.inl (.inl rfl))

set_option maxRecDepth 20000 in
theorem settle_45 (c1 c2 c3 : Value) {w : World} {g gl gw c : Nat} {D : Dk} (f : Nat → Nat)
    (hg : w.heap[g]? = some (.cells #[.slice (some ⟨gl, 0, none⟩) (64 * D.n) (64 * D.n), .slice (some ⟨gw, 0, none⟩) D.wait.length c, .int .i64 D.cutAt, .int .u64 D.keep, .int .i64 D.torn, .int .i64 D.count, .bool D.down] 85 (0, 0)))
    (hl : w.heap[gl]? = some (.cells (bcells D.lasts).toArray 5 (0, 0))) (ho : w.ownsRow 0 89 65 (.slice (some ⟨gw, 0, none⟩) D.wait.length c) D.wait.length (D.wait.flatMap wcells))
    (hlen : D.lasts.length = 64 * D.n) (hmost : D.n ≤ 4096) (hwf : ∀ x ∈ D.wait, 0 ≤ x.place ∧ x.place < D.n ∧ x.data.length = 64) (hm : D.wait.length ≤ 1000000) (hf : ∀ i, f i ≤ 64)
    (hcl : ∀ (i : Nat) (W : World), i < D.wait.length → Fr (fun k => k = gl) w W → Calls Try.prog 45 #[.int .i64 i, c1, c2, c3] W fun e W' => e = .returned (.int .i64 (f i)) ∧ W' = W) :
    Calls Try.prog 43 #[.pointer (some ⟨g, 0, none⟩), .func (.func 45) #[] #[c1, c2, c3]] w fun e w' => e = .returned (.tuple #[]) ∧
      w'.heap[g]? = some (.cells #[.slice (some ⟨gl, 0, none⟩) (64 * D.n) (64 * D.n), .slice none 0 0, .int .i64 D.cutAt, .int .u64 D.keep, .int .i64 D.torn, .int .i64 D.count, .bool D.down] 85 (0, 0)) ∧
      w'.heap[gl]? = some (.cells (bcells (settle f 0 D.wait D.lasts)).toArray 5 (0, 0)) ∧ Fr (fun k => k = g ∨ k = gl) w w' := by
  have hgl : gl ≠ g := fun e => by subst e; rw [hg] at hl; simp at hl
  have hgw : gw ≠ gl := fun e => by
    subst e
    rcases ho.2 with ⟨h, _⟩ | ⟨g', cap, cur, h, _, h2, _⟩
    · cases h
    · simp at h; obtain ⟨rfl, rfl⟩ := h; rw [hl] at h2; simp at h2
  have Hg := Lib.hid hg
  have Hl := Lib.hid hl
  have hD := dcells hg
  have h0 := hD.c0
  have h1 := hD.c1
  obtain ⟨m, hmm⟩ : ∃ m, m = D.wait.length := ⟨_, rfl⟩
  rw [← hmm] at h1 hm
  have hfl : (D.wait.flatMap wcells).length = D.wait.length * 65 := flat_length wcells 65 _ (fun x hx => by simp [wcells, bcells_length, (hwf x hx).2.2])
  have HO := Lib.hid ho
  have HD := Lib.hid hD
  have HM := Lib.hid hmm
  have HF := Lib.hid hf
  have HC := Lib.hid hcl
  have HW := Lib.hid hwf
  have HL := Lib.hid hlen
  clear hg hl ho hD hmm hfl hf hcl hwf hlen
  go_enter Try.func43, Try.ntmps43
  go_wp2
  go_loopw [4, 5, 11] (fun _ _ v wr => ∃ k : Nat, k ≤ m ∧ v = .int .i64 k ∧ wr.heap[gl]? = some (.cells (bcells (settle f 0 (D.wait.take k) D.lasts)).toArray 5 (0, 0)) ∧ Fr (fun i => i = gl) w wr) (fun _ _ v _ => m - (intOf v).toNat)
  case atStart => exact ⟨0, Nat.zero_le _, rfl, Hl.out, Fr.refl _ _⟩
  case round =>
    obtain ⟨k, hk, rfl, hrl, hfr⟩ := hrel
    have HRL := Lib.hid hrl
    have HFR := Lib.hid hfr
    have hr0 := hfr.cell h0 (Ne.symm hgl)
    have hr1 := hfr.cell h1 (Ne.symm hgl)
    have hfz : wr.frozen? ⟨g, 1, none⟩ = false := frozen_of_row wr g 1 _ _ (hfr.heap Hg.out (Ne.symm hgl))
    clear hrl hfr h0 h1
    by_cases hlt : k < m
    · have hkw : k < D.wait.length := by rw [← HM.out]; exact hlt
      obtain ⟨x, hx⟩ : ∃ x, D.wait[k]? = some x := ⟨_, List.getElem?_eq_getElem hkw⟩
      have hxm : x ∈ D.wait := List.mem_of_getElem? hx
      obtain ⟨hp0, hp1, hdl⟩ := HW.out x hxm
      have hcs65 : (wcells x).length = 65 := by simp [wcells, bcells_length, hdl]
      have hran : wr.rangeAt gw (k * 65) (wcells x) := fun j v hj => by
        have h1 := flat_take wcells 65 D.wait (fun y hy => by simp [wcells, bcells_length, (HW.out y hy).2.2]) k x hx j v hj
        have h2 := HO.out.cells (g := gw) rfl _ v h1
        rw [Addr.add_mid, Nat.zero_add] at h2
        exact HFR.out.cell h2 hgw
      have Hran := Lib.hid hran
      have hone : ∀ v ∈ (wcells x).toArray.toList, v.oneCell' = true := by
        intro v hv
        simp only [wcells, List.mem_cons] at hv
        rcases hv with rfl | hv
        · rfl
        · exact bcells_one _ v hv
      have Hone := Lib.hid hone
      obtain ⟨cs, hcs⟩ : ∃ cs, cs = (wcells x).toArray := ⟨_, rfl⟩
      have hsz : cs.size = 65 := by rw [hcs]; simpa using hcs65
      have Hcs := Lib.hid hcs
      have Hx := Lib.hid hx
      have Hdl := Lib.hid hdl
      have Hsz := Lib.hid hsz
      obtain ⟨q, hq⟩ : ∃ q : Nat, x.place = q := ⟨x.place.toNat, by omega⟩
      have hq1 : (q : Int) < D.n := by omega
      have hq2 : q * 64 < 64 * D.n := by omega
      have HQ := Lib.hid hq
      have Hi := Lib.hid (show (Try.prog.info? 89).map (·.size) = some (wcells x).length by rw [hcs65]; kernel_rfl)
      have Hi2 := Lib.hid (show (Try.prog.info? 89).map (·.size) = some (wcells x).toArray.size by simpa using Hi.out)
      have Hz := Lib.hid (show Try.zeroCells89.size = (wcells x).toArray.size by simpa using hcs65.symm)
      have g0 : (wr.alloc (.cells (wcells x).toArray 89)).drew.cell? ⟨g, 0, none⟩ = some (.slice (some ⟨gl, 0, none⟩) (64 * D.n) (64 * D.n)) := (HFR.out.alloc _).drew.cell HD.out.c0 (Ne.symm hgl)
      have n0 : (wr.alloc (.cells (wcells x).toArray 89)).drew.cell? ⟨wr.heap.size, 0, none⟩ = some (.int .i64 q) := by
        rw [← hq]
        show (wr.alloc (.cells (wcells x).toArray 89)).cell? ⟨wr.heap.size, 0, none⟩ = _
        rw [cell_of_row _ wr.heap.size 0 _ _ _ (heap_alloc_new wr _)]; rfl
      have Hn := Lib.hid (show (wr.alloc (.cells (wcells x).toArray 89)).drew.heap[wr.heap.size]? = some (.cells (wcells x).toArray 89) from heap_alloc_new wr _)
      have Hgl := Lib.hid (show (wr.alloc (.cells (wcells x).toArray 89)).drew.heap[gl]? = some (.cells (bcells (settle f 0 (D.wait.take k) D.lasts)).toArray 5 (0, 0)) from (Below.heap_alloc wr _ _ (lt_of_heap HRL.out)).trans HRL.out)
      have Hfr := Lib.hid (show Fr (fun i => i = gl) w (wr.alloc (.cells (wcells x).toArray 89)).drew from (HFR.out.alloc _).drew)
      clear hran hone hcs hx hdl hsz hcs65 hq hp0 hp1
      go_wp2_with (first
        | (with_reducible refine wpList_load_mid (op := ⟨some 15, _, _, _, _, _⟩) rfl 89 _ rfl gw (k * 65) rfl (wcells x) _ Hran.out Try.underlying89 rfl Hi.out ?_)
        | (with_reducible refine wpList_store_fresh (op := ⟨none, .store 89 _ _, _, _, _, _⟩) rfl 89 _ _ rfl wr Try.zeroCells89 (wcells x).toArray rfl rfl rfl Hz.out Hi2.out Hone.out ?_))
      refine wp_region_still_tail 13 (by kernel_rfl) (by kernel_rfl) ?_
      simp only [List.take_succ_cons, List.take_zero, List.drop_succ_cons, List.drop_zero]
      change wpStill _ _ (wr.alloc (.cells (wcells x).toArray 89)).drew (fun a' => wpList _ _ _ _ a' (wr.alloc (.cells (wcells x).toArray 89)).drew) _ _
      generalize (wr.alloc (.cells (wcells x).toArray 89)).drew = W1 at g0 n0 Hn Hgl Hfr ⊢
      have hw1 : IntKind.i64.wrap ((q : Int) * 64) = (q : Int) * 64 := IntWalk.i64_in _ (by omega)
      have hw2 : (0 : Int) ≤ (q : Int) * 64 := by omega
      have hw3 : (q : Int) * 64 ≤ 64 * (D.n : Int) := by omega
      have hw4 : ¬ 64 * D.n = q * 64 := by omega
      repeat still_step
      still_call (HC.out k W1 hkw Hfr.out)
      have hf64 := HF.out k
      have hf65 : ((f k : Nat) : Int) ≤ 64 := by omega
      have hf66 : (0 : Int) ≤ ((f k : Nat) : Int) := by omega
      repeat still_step
      refine wpStill_nil ?_
      have hn5 : ¬ 64 * D.n = ((q : Int) * 64).toNat := by omega
      have hn6 : ((q : Int) * 64).toNat = q * 64 := by omega
      rw [if_neg hn5, hn6]
      have hLk : (settle f 0 (D.wait.take k) D.lasts).length = 64 * D.n := settle_length f D.n _ 0 _ (fun y hy => HW.out y (List.mem_of_mem_take hy)) HL.out
      have hdk : (x.data.take (f k)).length = f k := by rw [List.length_take, Hdl.out]; omega
      have hcur : (bcells (settle f 0 (D.wait.take k) D.lasts)).toArray.size = 64 * D.n := by simp [bcells_length, hLk]
      have hcl : (bcells (x.data.take (f k))).length = f k := by rw [bcells_length, hdk]
      refine wpList_copy_own rfl (.tmp 23) (.tmp 28) 43 43 rfl 5 Try.underlying43 (by kernel_rfl) gl (q * 64) (64 * D.n - q * 64) (64 * D.n - q * 64) ⟨wr.heap.size, 1, none⟩ (f k) 64 rfl rfl (bcells (settle f 0 (D.wait.take k) D.lasts)).toArray 5 Hgl.out (bcells (x.data.take (f k))) ?_ ?_ ?_ (bcells_one _) ?_
      · rw [hcl]; show f k = min (f k) (64 * D.n - q * 64); omega
      · intro j v hj
        rw [Addr.add_mid, cell_of_row _ _ _ _ _ _ Hn.out]
        rw [bcells_take, List.getElem?_take] at hj
        split at hj
        · rw [Nat.add_comm]; simpa [wcells] using hj
        · cases hj
      · rw [hcl, hcur]; omega
      have hnew : (W1.setRow gl ((bcells (settle f 0 (D.wait.take k) D.lasts)).toArray.toList.take (q * 64) ++ (bcells (x.data.take (f k)) ++ (bcells (settle f 0 (D.wait.take k) D.lasts)).toArray.toList.drop (q * 64 + (bcells (x.data.take (f k))).length))).toArray).heap[gl]? = some (.cells (bcells (settle f 0 (D.wait.take (k + 1)) D.lasts)).toArray 5 (0, 0)) := by
        rw [setRow_heap W1 gl _ _ _ _ Hgl.out]
        rw [List.take_succ_eq_append_getElem hkw, show D.wait[k] = x from by have := Hx.out; rw [List.getElem?_eq_getElem hkw] at this; exact Option.some.inj this, settle_snoc]
        have e1 : (x.place.toNat) = q := by have := HQ.out; omega
        have e2 : (D.wait.take k).length = k := by rw [List.length_take]; omega
        rw [e1, e2, Nat.zero_add, splice_cells, Nat.mul_comm 64 q]
      have hfr2 : Fr (fun i => i = gl) w (W1.setRow gl ((bcells (settle f 0 (D.wait.take k) D.lasts)).toArray.toList.take (q * 64) ++ (bcells (x.data.take (f k)) ++ (bcells (settle f 0 (D.wait.take k) D.lasts)).toArray.toList.drop (q * 64 + (bcells (x.data.take (f k))).length))).toArray) := Hfr.out.setRow _ _ (Or.inl rfl)
      generalize W1.setRow gl _ = W2 at hnew hfr2 ⊢
      have HN := Lib.hid hnew
      have HR2 := Lib.hid hfr2
      clear hnew hfr2 hLk hdk hcur hcl hn5 hn6 g0 n0
      go_wp2
      go_roundw
      case rel => exact ⟨k + 1, by omega, by go_num, HN.out, HR2.out⟩
      case measure => simp [intOf]; omega
    · have hk' : k = D.wait.length := by have := HM.out; omega
      have e : D.wait.take k = D.wait := by rw [hk', List.take_length]
      have HR3 := Lib.hid (show wr.heap[gl]? = some (.cells (bcells (settle f 0 D.wait D.lasts)).toArray 5 (0, 0)) by rw [← e]; exact HRL.out)
      have HG3 := Lib.hid (HFR.out.heap Hg.out (Ne.symm hgl))
      clear hk' e
      go_wp2
      go_end0
      refine ⟨rfl, ?_, ?_, ?_⟩
      · rw [heap_setCell_same wr g 1 _ _ _ HG3.out]; rfl
      · rw [heap_setCell_other _ _ _ _ hgl]; exact HR3.out
      · exact (HFR.out.mono (fun i hi => .inl (.inr hi))).setCell _ _ (.inl (.inl rfl))

theorem settle_nil_44 {w : World} {g gl : Nat} {D : Dk}
    (hg : w.heap[g]? = some (.cells #[.slice (some ⟨gl, 0, none⟩) (64 * D.n) (64 * D.n), .slice none 0 0, .int .i64 D.cutAt, .int .u64 D.keep, .int .i64 D.torn, .int .i64 D.count, .bool D.down] 85 (0, 0))) :
    Calls Try.prog 43 #[.pointer (some ⟨g, 0, none⟩), .func (.func 44) #[] #[]] w fun e w' => e = .returned (.tuple #[]) ∧
      w'.heap[g]? = some (.cells #[.slice (some ⟨gl, 0, none⟩) (64 * D.n) (64 * D.n), .slice none 0 0, .int .i64 D.cutAt, .int .u64 D.keep, .int .i64 D.torn, .int .i64 D.count, .bool D.down] 85 (0, 0)) ∧
      Fr (fun k => k = g) w w' := by
  have Hg := Lib.hid hg
  have h1 := (dcells hg).c1
  have hfz : w.frozen? ⟨g, 1, none⟩ = false := frozen_of_row w g 1 _ _ hg
  clear hg
  go_enter Try.func43, Try.ntmps43
  go_wp2
  refine wp_loop_rounds 1 ?_
  rw [rounds_succ]
  go_wp2
  go_end0
  refine ⟨rfl, ?_, (Fr.refl _ _).setCell _ _ (.inl rfl)⟩
  rw [heap_setCell_same w g 1 _ _ _ Hg.out]; rfl

theorem settle_nil_45 (c1 c2 c3 : Value) {w : World} {g gl : Nat} {D : Dk}
    (hg : w.heap[g]? = some (.cells #[.slice (some ⟨gl, 0, none⟩) (64 * D.n) (64 * D.n), .slice none 0 0, .int .i64 D.cutAt, .int .u64 D.keep, .int .i64 D.torn, .int .i64 D.count, .bool D.down] 85 (0, 0))) :
    Calls Try.prog 43 #[.pointer (some ⟨g, 0, none⟩), .func (.func 45) #[] #[c1, c2, c3]] w fun e w' => e = .returned (.tuple #[]) ∧
      w'.heap[g]? = some (.cells #[.slice (some ⟨gl, 0, none⟩) (64 * D.n) (64 * D.n), .slice none 0 0, .int .i64 D.cutAt, .int .u64 D.keep, .int .i64 D.torn, .int .i64 D.count, .bool D.down] 85 (0, 0)) ∧
      Fr (fun k => k = g) w w' := by
  have Hg := Lib.hid hg
  have h1 := (dcells hg).c1
  have hfz : w.frozen? ⟨g, 1, none⟩ = false := frozen_of_row w g 1 _ _ hg
  clear hg
  go_enter Try.func43, Try.ntmps43
  go_wp2
  refine wp_loop_rounds 1 ?_
  rw [rounds_succ]
  go_wp2
  go_end0
  refine ⟨rfl, ?_, (Fr.refl _ _).setCell _ _ (.inl rfl)⟩
  rw [heap_setCell_same w g 1 _ _ _ Hg.out]; rfl
end Go.Proofs.Ythlngbdbmnnnaaa
