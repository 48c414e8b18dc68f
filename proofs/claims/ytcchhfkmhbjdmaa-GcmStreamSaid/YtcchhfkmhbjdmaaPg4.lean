/- A key and a nonce: the closure. -/
import Derived.Test.YtcchhfkmhbjdmaaPg3
import Derived.Test.YtcchhfkmhbjdmaaKi
import Derived.Test.YtcchhfkmhbjdmaaKj
set_option linter.unusedVariables false
set_option linter.unusedSimpArgs false
set_option pp.deepTerms true
set_option pp.maxSteps 100000
namespace Go.Proofs.Ytcchhfkmhbjdmaa
open Go.RowKit
def be4 (j : Nat) : List UInt8 := [UInt8.ofNat (j / 16777216), UInt8.ofNat (j / 65536), UInt8.ofNat (j / 256), UInt8.ofNat j]
/-- The block that a number is pressed to. -/
def ctr (W nonce : List UInt8) (j : Nat) : List UInt8 := press W (nonce ++ be4 j)
theorem be4_b (j k : Nat) : ((j : Int) / (k : Int)) % 256 = ((UInt8.ofNat (j / k)).toNat : Int) := by simp
set_option maxRecDepth 20000 in
set_option maxHeartbeats 1000000 in
theorem count_calls (C P N : Nat) (W nonce : List UInt8) (hn : nonce.length = 12) (j : Nat) (hj : j ≤ 1000000) (w : World) (hC : Cip w C W) (hP : w.heap[P]? = some (.cells #[.pointer (some ⟨C, 0, none⟩)] 23 (0, 0))) (hN : w.heap[N]? = some (.cells #[.string (str nonce)] 9 (0, 0))) :
    Calls Try.prog 115 #[.int .i64 (j : Int), .pointer (some ⟨P, 0, none⟩), .pointer (some ⟨N, 0, none⟩)] w fun e w' => e = .returned (.string (str (ctr W nonce j))) ∧ Fr (fun _ => False) w w' := by
  obtain ⟨NS, hNS⟩ : ∃ s, s = str nonce := ⟨_, rfl⟩
  have cP : w.cell? ⟨P, 0, none⟩ = some (.pointer (some ⟨C, 0, none⟩)) := (cell_of_row w P 0 _ _ _ hP).trans rfl
  have cN : w.cell? ⟨N, 0, none⟩ = some (.string NS) := by rw [hNS]; exact (cell_of_row w N 0 _ _ _ hN).trans rfl
  obtain ⟨y0, hy0⟩ : ∃ z, z = UInt8.ofNat (j / 16777216) := ⟨_, rfl⟩
  obtain ⟨y1, hy1⟩ : ∃ z, z = UInt8.ofNat (j / 65536) := ⟨_, rfl⟩
  obtain ⟨y2, hy2⟩ : ∃ z, z = UInt8.ofNat (j / 256) := ⟨_, rfl⟩
  obtain ⟨y3, hy3⟩ : ∃ z, z = UInt8.ofNat j := ⟨_, rfl⟩
  have o0 : ((j : Int) / 16777216) % 256 = (y0.toNat : Int) := by rw [hy0]; exact be4_b j 16777216
  have o1 : ((j : Int) / 65536) % 256 = (y1.toNat : Int) := by rw [hy1]; exact be4_b j 65536
  have o2 : ((j : Int) / 256) % 256 = (y2.toNat : Int) := by rw [hy2]; exact be4_b j 256
  have o3 : (j : Int) % 256 = (y3.toNat : Int) := by rw [hy3]; simp
  have p0 : IntKind.u8.wrap ((j : Int) / 16777216) = (y0.toNat : Int) := by rw [IntKind.wrap_u8', o0]
  have p1 : IntKind.u8.wrap ((j : Int) / 65536) = (y1.toNat : Int) := by rw [IntKind.wrap_u8', o1]
  have p2 : IntKind.u8.wrap ((j : Int) / 256) = (y2.toNat : Int) := by rw [IntKind.wrap_u8', o2]
  have p3 : IntKind.u8.wrap (j : Int) = (y3.toNat : Int) := by rw [IntKind.wrap_u8', o3]
  have hcv := run_convert_str (P := Try.prog) (w.alloc (.cells #[.int .u8 (y0.toNat : Int), .int .u8 (y1.toNat : Int), .int .u8 (y2.toNat : Int), .int .u8 (y3.toNat : Int)] 5)) 27 5 Try.underlying27 Try.underlying5 w.heap.size 0 4 4 [y0, y1, y2, y3] rfl (fun j v hj => by
    rw [Nat.zero_add, cell_of_row _ w.heap.size j _ _ _ (heap_alloc_new w _)]; simpa [bcells] using hj) 9 Try.underlying9
  obtain ⟨Y, hY⟩ : ∃ s, s = str [y0, y1, y2, y3] := ⟨_, rfl⟩
  rw [← hY] at hcv
  obtain ⟨M, hM⟩ : ∃ s, s = str (nonce ++ be4 j) := ⟨_, rfl⟩
  have hap : NS ++ Y = M := by rw [hNS, hY, jstr_append, hM, hy0, hy1, hy2, hy3]; rfl
  have hs1 : NS.size = 12 := by rw [hNS, str_size, hn]
  have hs2 : Y.size = 4 := by rw [hY, str_size]; rfl
  have hb1 : ¬ 9223372036854775807 < NS.size + Y.size := by omega
  have hb2 : NS.size + Y.size ≤ 9223372036854775807 := by omega
  have hfa : Fr (fun _ => False) w (w.alloc (.cells #[.int .u8 (y0.toNat : Int), .int .u8 (y1.toNat : Int), .int .u8 (y2.toNat : Int), .int .u8 (y3.toNat : Int)] 5)) := (Fr.refl _ _).alloc _
  have HPr := Lib.hid (show Calls Try.prog 24 #[.pointer (some ⟨C, 0, none⟩), .string M] (w.alloc (.cells #[.int .u8 (y0.toNat : Int), .int .u8 (y1.toNat : Int), .int .u8 (y2.toNat : Int), .int .u8 (y3.toNat : Int)] 5)) fun e w' => e = .returned (.tuple #[.string (str (ctr W nonce j)), .int .i64 0]) ∧ Fr (fun _ => False) (w.alloc (.cells #[.int .u8 (y0.toNat : Int), .int .u8 (y1.toNat : Int), .int .u8 (y2.toNat : Int), .int .u8 (y3.toNat : Int)] 5)) w' by
    rw [hM]; exact press_yes C W _ (by simp [be4, hn]) _ (hC.fr hfa id))
  have HFa := Lib.hid hfa
  have bb0 := y0.toNat_lt
  have bb1 := y1.toNat_lt
  have bb2 := y2.toNat_lt
  have bb3 := y3.toNat_lt
  clear hNS hy0 hy1 hy2 hy3 hY hM hC hP hN hn hfa
  go_enter Try.func115, Try.ntmps115
  go_wp2_with fail
  refine HPr.out.mono ?_
  rintro e w2 ⟨rfl, f2⟩
  have F2 := Lib.hid (HFa.out.trans f2 (fun i hi => hi.elim))
  clear f2
  go_wp2_with fail
  go_ret
  exact ⟨rfl, F2.out⟩
/-- The block that the products are taken with. -/
def hkey (key : List UInt8) : W2 := loadL (press (words key 52) (List.replicate 16 0))
/-- A sealer lies at S. -/
def Sea (w : World) (S : Nat) (key nonce : List UInt8) : Prop := ∃ P N C, w.heap[S]? = some (.cells #[.int .u64 ((hkey key).a.toNat : Int), .int .u64 ((hkey key).b.toNat : Int), .func (.func 115) #[] #[.pointer (some ⟨P, 0, none⟩), .pointer (some ⟨N, 0, none⟩)]] 158 (0, 0)) ∧ w.heap[P]? = some (.cells #[.pointer (some ⟨C, 0, none⟩)] 23 (0, 0)) ∧ w.heap[N]? = some (.cells #[.string (str nonce)] 9 (0, 0)) ∧ Cip w C (words key 52)
theorem Sea.fr {w w' : World} {S : Nat} {key nonce : List UInt8} (h : Sea w S key nonce) (hf : Fr (fun _ => False) w w') : Sea w' S key nonce := by
  obtain ⟨P, N, C, h1, h2, h3, h4⟩ := h
  exact ⟨P, N, C, hf.heap h1 id, hf.heap h2 id, hf.heap h3 id, h4.fr hf id⟩
set_option maxRecDepth 20000 in
set_option maxHeartbeats 1000000 in
theorem ready_yes (key nonce : List UInt8) (hk : key.length = 32) (hn : nonce.length = 12) (w : World) :
    Calls Try.prog 84 #[.string (str key), .string (str nonce)] w fun e w' => ∃ S, e = .returned (.tuple #[.pointer (some ⟨S, 0, none⟩), .int .i64 0]) ∧ Sea w' S key nonce ∧ w.heap.size ≤ S ∧ Fr (fun _ => False) w w' := by
  obtain ⟨KS, hKS⟩ : ∃ s, s = str key := ⟨_, rfl⟩
  obtain ⟨NS, hNS⟩ : ∃ s, s = str nonce := ⟨_, rfl⟩
  have hs1 : NS.size = 12 := by rw [hNS, str_size, hn]
  have HNew := Lib.hid (show ∀ w, Calls Try.prog 18 #[.string KS] w fun e w' => ∃ C, e = .returned (.tuple #[.pointer (some ⟨C, 0, none⟩), .int .i64 0]) ∧ Cip w' C (words key 52) ∧ w.heap.size ≤ C ∧ Fr (fun _ => False) w w' from fun w => by rw [hKS]; exact new_yes key hk w)
  obtain ⟨ZS, hZS⟩ : ∃ s, s = str (List.replicate 16 (0 : UInt8)) := ⟨_, rfl⟩
  obtain ⟨HS0, hHS⟩ : ∃ s, s = str (press (words key 52) (List.replicate 16 0)) := ⟨_, rfl⟩
  have hh16 : (press (words key 52) (List.replicate 16 0)).length = 16 := press_length _ _
  have HRep := Lib.hid (show ∀ w, Calls Try.prog 80 #[.string ⟨#[0]⟩, .int .i64 16] w fun e w' => e = .returned (.string ZS) ∧ Fr (fun _ => False) w w' from fun w => by rw [hZS]; exact repeat_zeros 16 (by omega) w)
  have HPr := Lib.hid (show ∀ w C, Cip w C (words key 52) → Calls Try.prog 24 #[.pointer (some ⟨C, 0, none⟩), .string ZS] w fun e w' => e = .returned (.tuple #[.string HS0, .int .i64 0]) ∧ Fr (fun _ => False) w w' from fun w C hC => by rw [hZS, hHS]; exact press_yes C _ _ (by simp) w hC)
  have HLd := Lib.hid (show ∀ w, Calls Try.prog 89 #[.string HS0] w fun e w' => e = .returned (.agg (vals (loadL (press (words key 52) (List.replicate 16 0))))) ∧ Fr (fun _ => False) w w' from fun w => by rw [hHS]; exact load_calls _ hh16 w)
  clear hZS hHS hh16
  rw [← hKS, ← hNS]
  have hN0 := heap_alloc_new w (.cells #[.string NS] 9)
  have hf0 : Fr (fun _ => False) w (w.alloc (.cells #[.string NS] 9)) := (Fr.refl _ _).alloc _
  obtain ⟨N, hNd⟩ : ∃ N, N = w.heap.size := ⟨_, rfl⟩
  rw [← hNd] at hN0
  have HNS := Lib.hid hNS
  clear hKS hNS hk hn
  obtain ⟨H, hH⟩ : ∃ H, H = loadL (press (words key 52) (List.replicate 16 0)) := ⟨_, rfl⟩
  rw [← hH] at HLd
  have HLd := Lib.hid (show ∀ w, Calls Try.prog 89 #[.string HS0] w fun e w' => e = .returned (.agg #[.int .u64 (H.a.toNat : Int), .int .u64 (H.b.toNat : Int)]) ∧ Fr (fun _ => False) w w' from HLd.out)
  have HH := Lib.hid (show H = hkey key from hH)
  clear hH
  go_enter Try.func84, Try.ntmps84
  go_wp2_with fail
  rw [← hNd]
  generalize w.alloc (.cells #[.string NS] 9) = w1 at hN0 hf0 ⊢
  have HN0 := Lib.hid hN0
  have HF0 := Lib.hid hf0
  clear hN0 hf0 hNd
  refine (HNew.out w1).mono ?_
  rintro e w2 ⟨C, rfl, hC, hCl, f2⟩
  have HC2 := Lib.hid hC
  have HF2 := Lib.hid (HF0.out.trans f2 (fun i hi => hi.elim))
  have HN2 := Lib.hid (f2.heap HN0.out id)
  have HF3 := Lib.hid (show Fr (fun _ => False) w2 (w2.alloc (.cells #[.pointer (some ⟨C, 0, none⟩)] 23)) from (Fr.refl _ _).alloc _)
  have cN : (w2.alloc (.cells #[.pointer (some ⟨C, 0, none⟩)] 23)).cell? ⟨N, 0, none⟩ = some (.string NS) := (cell_of_row _ N 0 _ _ _ (HF3.out.heap HN2.out id)).trans rfl
  clear hC f2 hCl
  go_wp2_with fail
  clear cN
  have HP3 := Lib.hid (heap_alloc_new w2 (.cells #[.pointer (some ⟨C, 0, none⟩)] 23))
  have HN3 := Lib.hid (HF3.out.heap HN2.out id)
  have HC3 := Lib.hid (HC2.out.fr HF3.out id)
  have HF3b := Lib.hid (HF2.out.trans HF3.out (fun i hi => hi.elim))
  obtain ⟨P, hP⟩ : ∃ P, P = w2.heap.size := ⟨_, rfl⟩
  rw [← hP] at HP3 ⊢
  clear hP HF3
  generalize w2.alloc (.cells #[.pointer (some ⟨C, 0, none⟩)] 23) = w3 at HP3 HN3 HC3 HF3b ⊢
  refine wp_region_till (fun W => W.heap[P]? = some (.cells #[.pointer (some ⟨C, 0, none⟩)] 23 (0, 0))) 7 (by kernel_rfl) ?_
  have HS := Lib.hid (show w3.drew.heap[P]? = some (.cells #[.pointer (some ⟨C, 0, none⟩)] 23 (0, 0)) from HP3.out)
  have HN4 := Lib.hid (show w3.drew.heap[N]? = some (.cells #[.string NS] 9 (0, 0)) from HN3.out)
  have HC4 := Lib.hid (show Cip w3.drew C (words key 52) from HC3.out)
  have HF4 := Lib.hid HF3b.out.drew
  clear HP3 HN3 HC3 HF3b
  generalize w3.drew = w4 at HS HN4 HC4 HF4 ⊢
  refine wpAnyT_take (i := 0) (n := 2) (v := .pointer (some ⟨C, 0, none⟩)) rfl (by kernel_rfl) (fun _ _ _ h => h) HS.out (yieldsIf_plain rfl (fun W hW => by have h1 := cell_of_row W P 0 _ _ _ hW; have h2 : W.cell? ⟨P, 0, none⟩ = some (.pointer (some ⟨C, 0, none⟩)) := h1.trans rfl; clear hW h1; go_simp)) ?_
  simp only [List.getElem_toArray, List.getElem_cons_succ, List.getElem_cons_zero, Act.put, List.setIfInBounds_toArray, List.set_cons_zero, List.set_cons_succ]
  refine wpAnyT_one (i := 1) rfl (by kernel_rfl) (wpOp_plain rfl rfl (fun K hK => ?_))
  simp only [List.getElem_toArray, List.getElem_cons_succ, List.getElem_cons_zero, Act.put, List.setIfInBounds_toArray, List.set_cons_zero, List.set_cons_succ]
  have HKK := Lib.hid hK
  clear hK
  go_wp2_with fail
  refine (HRep.out w4).mono ?_
  rintro e w5 ⟨rfl, f5⟩
  have HS5 := Lib.hid (f5.heap HS.out id)
  have HN5 := Lib.hid (f5.heap HN4.out id)
  have HC5 := Lib.hid (HC4.out.fr f5 id)
  have HF5 := Lib.hid (HF4.out.trans f5 (fun i hi => hi.elim))
  clear f5
  go_wp2_with fail
  refine HKK.out _ _ ⟨fun _ => HS5.out, ?_⟩
  clear HKK K
  try simp only [List.getElem_toArray, List.getElem_cons_succ, List.getElem_cons_zero, Act.put, List.setIfInBounds_toArray, List.set_cons_zero, List.set_cons_succ]
  refine wpAnyT_one (i := 2) rfl (by kernel_rfl) (wpOp_plain rfl rfl (fun K hK => ?_))
  simp only [List.getElem_toArray, List.getElem_cons_succ, List.getElem_cons_zero, Act.put, List.setIfInBounds_toArray, List.set_cons_zero, List.set_cons_succ]
  have HKK := Lib.hid hK
  clear hK
  go_wp2_with fail
  refine (HPr.out w5 C HC5.out).mono ?_
  rintro e w6 ⟨rfl, f6⟩
  have HS6 := Lib.hid (f6.heap HS5.out id)
  have HN6 := Lib.hid (f6.heap HN5.out id)
  have HC6 := Lib.hid (HC5.out.fr f6 id)
  have HF6 := Lib.hid (HF5.out.trans f6 (fun i hi => hi.elim))
  clear f6
  go_wp2_with fail
  refine HKK.out _ _ ⟨fun _ => HS6.out, ?_⟩
  clear HKK K
  try simp only [List.getElem_toArray, List.getElem_cons_succ, List.getElem_cons_zero, Act.put, List.setIfInBounds_toArray, List.set_cons_zero, List.set_cons_succ]
  refine wpAnyT_take (i := 3) (n := 2) (v := .tuple #[.string HS0, .int .i64 0]) rfl (by kernel_rfl) (fun _ _ _ h => h) HS6.out (yieldsIf_plain rfl (fun W hW => by clear hW; go_simp)) ?_
  simp only [List.getElem_toArray, List.getElem_cons_succ, List.getElem_cons_zero, Act.put, List.setIfInBounds_toArray, List.set_cons_zero, List.set_cons_succ]
  refine wpAnyT_take (i := 4) (n := 2) (v := .string HS0) rfl (by kernel_rfl) (fun _ _ _ h => h) HS6.out (yieldsIf_plain rfl (fun W hW => by clear hW; go_simp)) ?_
  simp only [List.getElem_toArray, List.getElem_cons_succ, List.getElem_cons_zero, Act.put, List.setIfInBounds_toArray, List.set_cons_zero, List.set_cons_succ]
  refine wpAnyT_take (i := 5) (n := 2) (v := .int .i64 0) rfl (by kernel_rfl) (fun _ _ _ h => h) HS6.out (yieldsIf_plain rfl (fun W hW => by clear hW; go_simp)) ?_
  simp only [List.getElem_toArray, List.getElem_cons_succ, List.getElem_cons_zero, Act.put, List.setIfInBounds_toArray, List.set_cons_zero, List.set_cons_succ]
  refine wpAnyT_take (i := 6) (n := 2) (v := .string HS0) rfl (by kernel_rfl) (fun _ _ _ h => h) HS6.out (yieldsIf_plain rfl (fun W hW => by clear hW; go_simp)) ?_
  simp only [List.getElem_toArray, List.getElem_cons_succ, List.getElem_cons_zero, Act.put, List.setIfInBounds_toArray, List.set_cons_zero, List.set_cons_succ]
  refine wpAnyT_of_any trivial [7] _ _ _ _ (by kernel_rfl) (by simp) (.inr rfl) ?_
  simp only [List.filterMap_cons, List.filterMap_nil, List.getElem?_toArray, List.getElem?_cons_zero, List.getElem?_cons_succ]
  go_wp2_with fail
  refine (HLd.out w6).mono ?_
  rintro e w7 ⟨rfl, f7⟩
  have HS7 := Lib.hid (f7.heap HS6.out id)
  have HN7 := Lib.hid (f7.heap HN6.out id)
  have HC7 := Lib.hid (HC6.out.fr f7 id)
  have HF7 := Lib.hid (HF6.out.trans f7 (fun i hi => hi.elim))
  clear f7
  go_wp2_with fail
  go_ret2
  obtain ⟨Y, hY⟩ : ∃ Y, Y = w7.heap.size := ⟨_, rfl⟩
  have hnew := heap_alloc_new w7 (.cells #[.int .u64 (H.a.toNat : Int), .int .u64 (H.b.toNat : Int), .func (.func 115) #[] #[.pointer (some ⟨P, 0, none⟩), .pointer (some ⟨N, 0, none⟩)]] 158)
  rw [HH.out] at hnew
  have hN7 := HN7.out
  rw [HNS.out] at hN7
  rw [HH.out]
  exact ⟨w7.heap.size, rfl, ⟨P, N, C, hnew, ((Fr.refl (fun _ => False) w7).alloc _).heap HS7.out id, ((Fr.refl (fun _ => False) w7).alloc _).heap hN7 id, HC7.out.fr ((Fr.refl (fun _ => False) w7).alloc _) id⟩, HF7.out.size, HF7.out.alloc _⟩
set_option maxRecDepth 20000 in
set_option maxHeartbeats 1000000 in
theorem ready_no (KS NS : ByteArray) (hKm : KS.size ≤ 9223372036854775807) (h : KS.size ≠ 32 ∨ NS.size ≠ 12) (w : World) :
    Calls Try.prog 84 #[.string KS, .string NS] w fun e w' => e = .returned (.tuple #[.pointer none, .int .i64 2]) ∧ Fr (fun _ => False) w w' := by
  have hf0 : Fr (fun _ => False) w (w.alloc (.cells #[.string NS] 9)) := (Fr.refl _ _).alloc _
  have HF0 := Lib.hid hf0
  have HN0 := Lib.hid (heap_alloc_new w (.cells #[.string NS] 9))
  by_cases h0 : KS.size = 32
  · have h1 : ((NS.size : Int) != 12) = true := by simp; omega
    have HNew := Lib.hid (show ∀ w, Calls Try.prog 18 #[.string KS] w fun e w' => ∃ C, e = .returned (.tuple #[.pointer (some ⟨C, 0, none⟩), .int .i64 0]) ∧ Cip w' C (words KS.data.toList 52) ∧ w.heap.size ≤ C ∧ Fr (fun _ => False) w w' from fun w => by
      have h := new_yes KS.data.toList ((Array.length_toList).trans h0) w
      rwa [show str KS.data.toList = KS from rfl] at h)
    clear h h0 hKm hf0
    obtain ⟨N, hNd⟩ : ∃ N, N = w.heap.size := ⟨_, rfl⟩
    rw [← hNd] at HN0
    go_enter Try.func84, Try.ntmps84
    go_wp2_with fail
    rw [← hNd]
    generalize w.alloc (.cells #[.string NS] 9) = w1 at HN0 HF0 ⊢
    refine (HNew.out w1).mono ?_
    rintro e w2 ⟨C, rfl, hC, hCl, f2⟩
    have HF2 := Lib.hid (HF0.out.trans f2 (fun i hi => hi.elim))
    have HN2 := Lib.hid (f2.heap HN0.out id)
    have HF3 := Lib.hid (show Fr (fun _ => False) w2 (w2.alloc (.cells #[.pointer (some ⟨C, 0, none⟩)] 23)) from (Fr.refl _ _).alloc _)
    have cN : (w2.alloc (.cells #[.pointer (some ⟨C, 0, none⟩)] 23)).cell? ⟨N, 0, none⟩ = some (.string NS) := (cell_of_row _ N 0 _ _ _ (HF3.out.heap HN2.out id)).trans rfl
    clear hC f2 hCl hNd
    go_wp2_with fail
    go_ret2
    exact ⟨rfl, HF2.out.alloc _⟩
  · have HNew := Lib.hid (new_no KS h0 hKm (w.alloc (.cells #[.string NS] 9)))
    clear h h0 hKm hf0
    go_enter Try.func84, Try.ntmps84
    go_wp2_with fail
    refine HNew.out.mono ?_
    rintro e w1 ⟨rfl, h2⟩
    have HF2 := Lib.hid (show Fr (fun _ => False) w w1 by first | exact h2 ▸ HF0.out | exact HF0.out.trans h2 (fun i hi => hi.elim))
    clear h2
    go_wp2_with fail
    go_ret2
    exact ⟨rfl, HF2.out.alloc _⟩
end Go.Proofs.Ytcchhfkmhbjdmaa
