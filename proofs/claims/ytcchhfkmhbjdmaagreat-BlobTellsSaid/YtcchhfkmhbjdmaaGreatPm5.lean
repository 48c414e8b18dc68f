/- A key and a nonce made ready; the library's Builder and Chunk; a text turned. -/
import Derived.Shelf.Strings.BuilderK
import Derived.RangeFuncNested
import Derived.RangeFuncBound
import Derived.RangeFuncCalls
import Derived.RangeFuncLeaves
import Derived.Shelf.Abstract
import Derived.Shelf.RegionOpen
import Derived.OwnWalkIn
import Derived.TacticsInMore
import Derived.LoopNIn
import Derived.LoopIn
import Derived.Lib.ConvBytes
import Derived.Laws.IdiomCopy
import Derived.Laws.AppendOwn
import Derived.Test.YtcchhfkmhbjdmaaGreatPm4
import Derived.Test.YtcchhfkmhbjdmaaGreatPm2
import Derived.Test.YtcchhfkmhbjdmaaGreatPm1
/-! Pg4 -/
set_option linter.unusedVariables false
set_option linter.unusedSimpArgs false
set_option pp.deepTerms true
set_option pp.maxSteps 100000
namespace Go.Proofs.YtcchhfkmhbjdmaaGreat
open Go.RowKit
def be4 (j : Nat) : List UInt8 := [UInt8.ofNat (j / 16777216), UInt8.ofNat (j / 65536), UInt8.ofNat (j / 256), UInt8.ofNat j]
/-- The block that a number is pressed to. -/
def ctr (W nonce : List UInt8) (j : Nat) : List UInt8 := press W (nonce ++ be4 j)
theorem be4_b (j k : Nat) : ((j : Int) / (k : Int)) % 256 = ((UInt8.ofNat (j / k)).toNat : Int) := by simp
set_option maxRecDepth 20000 in
set_option maxHeartbeats 1000000 in
theorem count_calls (C P N : Nat) (W nonce : List UInt8) (hn : nonce.length = 12) (j : Nat) (hj : j ≤ 1000000) (w : World) (hC : Cip w C W) (hP : w.heap[P]? = some (.cells #[.pointer (some ⟨C, 0, none⟩)] 89 (0, 0))) (hN : w.heap[N]? = some (.cells #[.string (str nonce)] 9 (0, 0))) :
    Calls Tryz.prog 51 #[.int .i64 (j : Int), .pointer (some ⟨P, 0, none⟩), .pointer (some ⟨N, 0, none⟩)] w fun e w' => e = .returned (.string (str (ctr W nonce j))) ∧ Fr (fun _ => False) w w' := by
  obtain ⟨NS, hNS⟩ : ∃ s, s = str nonce := ⟨_, rfl⟩
  have cP : w.cell? ⟨P, 0, none⟩ = some (.pointer (some ⟨C, 0, none⟩)) := (cell_of_row w P 0 _ _ _ hP).trans rfl
  have cN : w.cell? ⟨N, 0, none⟩ = some (.string NS) := by rw [hNS]; exact (cell_of_row w N 0 _ _ _ hN).trans rfl
  obtain ⟨y0, hy0⟩ : ∃ z, z = UInt8.ofNat (j / 16777216) := ⟨_, rfl⟩
  obtain ⟨y1, hy1⟩ : ∃ z, z = UInt8.ofNat (j / 65536) := ⟨_, rfl⟩
  obtain ⟨y2, hy2⟩ : ∃ z, z = UInt8.ofNat (j / 256) := ⟨_, rfl⟩
  obtain ⟨y3, hy3⟩ : ∃ z, z = UInt8.ofNat j := ⟨_, rfl⟩
  have o0 : ((j : Int) / 16777216) % 256 = (y0.toNat : Int) := by rw [hy0]; exact be4_b j 16777216
  have o1 : ((j : Int) / 65536) % 256 = (y1.toNat : Int) := by rw [hy1]; exact be4_b j 65536
  have o2 : ((j : Int) / 256) % 256 = (y2.toNat : Int) := by rw [hy2]; exact be4_b j 256
  have o3 : (j : Int) % 256 = (y3.toNat : Int) := by rw [hy3]; simp
  have p0 : IntKind.u8.wrap ((j : Int) / 16777216) = (y0.toNat : Int) := by rw [IntKind.wrap_u8', o0]
  have p1 : IntKind.u8.wrap ((j : Int) / 65536) = (y1.toNat : Int) := by rw [IntKind.wrap_u8', o1]
  have p2 : IntKind.u8.wrap ((j : Int) / 256) = (y2.toNat : Int) := by rw [IntKind.wrap_u8', o2]
  have p3 : IntKind.u8.wrap (j : Int) = (y3.toNat : Int) := by rw [IntKind.wrap_u8', o3]
  have hcv := run_convert_str (P := Tryz.prog) (w.alloc (.cells #[.int .u8 (y0.toNat : Int), .int .u8 (y1.toNat : Int), .int .u8 (y2.toNat : Int), .int .u8 (y3.toNat : Int)] 5)) 53 5 Tryz.underlying53 Tryz.underlying5 w.heap.size 0 4 4 [y0, y1, y2, y3] rfl (fun j v hj => by
    rw [Nat.zero_add, cell_of_row _ w.heap.size j _ _ _ (heap_alloc_new w _)]; simpa [bcells] using hj) 9 Tryz.underlying9
  obtain ⟨Y, hY⟩ : ∃ s, s = str [y0, y1, y2, y3] := ⟨_, rfl⟩
  rw [← hY] at hcv
  obtain ⟨M, hM⟩ : ∃ s, s = str (nonce ++ be4 j) := ⟨_, rfl⟩
  have hap : NS ++ Y = M := by rw [hNS, hY, jstr_append, hM, hy0, hy1, hy2, hy3]; rfl
  have hs1 : NS.size = 12 := by rw [hNS, str_size, hn]
  have hs2 : Y.size = 4 := by rw [hY, str_size]; rfl
  have hb1 : ¬ 9223372036854775807 < NS.size + Y.size := by omega
  have hb2 : NS.size + Y.size ≤ 9223372036854775807 := by omega
  have hfa : Fr (fun _ => False) w (w.alloc (.cells #[.int .u8 (y0.toNat : Int), .int .u8 (y1.toNat : Int), .int .u8 (y2.toNat : Int), .int .u8 (y3.toNat : Int)] 5)) := (Fr.refl _ _).alloc _
  have HPr := Lib.hid (show Calls Tryz.prog 49 #[.pointer (some ⟨C, 0, none⟩), .string M] (w.alloc (.cells #[.int .u8 (y0.toNat : Int), .int .u8 (y1.toNat : Int), .int .u8 (y2.toNat : Int), .int .u8 (y3.toNat : Int)] 5)) fun e w' => e = .returned (.tuple #[.string (str (ctr W nonce j)), .int .i64 0]) ∧ Fr (fun _ => False) (w.alloc (.cells #[.int .u8 (y0.toNat : Int), .int .u8 (y1.toNat : Int), .int .u8 (y2.toNat : Int), .int .u8 (y3.toNat : Int)] 5)) w' by
    rw [hM]; exact press_yes C W _ (by simp [be4, hn]) _ (hC.fr hfa id))
  have HFa := Lib.hid hfa
  have bb0 := y0.toNat_lt
  have bb1 := y1.toNat_lt
  have bb2 := y2.toNat_lt
  have bb3 := y3.toNat_lt
  clear hNS hy0 hy1 hy2 hy3 hY hM hC hP hN hn hfa
  go_enter Tryz.func51, Tryz.ntmps51
  go_wp2_with fail
  refine HPr.out.mono ?_
  rintro e w2 ⟨rfl, f2⟩
  have F2 := Lib.hid (HFa.out.trans f2 (fun i hi => hi.elim))
  clear f2
  go_wp2_with fail
  go_ret
  exact ⟨rfl, F2.out⟩
/-- The block that the products are taken with. -/
def hkey (key : List UInt8) : W2 := loadL (press (words key 52) (List.replicate 16 0))
/-- A sealer lies at S. -/
def Sea (w : World) (S : Nat) (key nonce : List UInt8) : Prop := ∃ P N C, w.heap[S]? = some (.cells #[.int .u64 ((hkey key).a.toNat : Int), .int .u64 ((hkey key).b.toNat : Int), .func (.func 51) #[] #[.pointer (some ⟨P, 0, none⟩), .pointer (some ⟨N, 0, none⟩)]] 100 (0, 0)) ∧ w.heap[P]? = some (.cells #[.pointer (some ⟨C, 0, none⟩)] 89 (0, 0)) ∧ w.heap[N]? = some (.cells #[.string (str nonce)] 9 (0, 0)) ∧ Cip w C (words key 52)
theorem Sea.fr {w w' : World} {S : Nat} {key nonce : List UInt8} (h : Sea w S key nonce) (hf : Fr (fun _ => False) w w') : Sea w' S key nonce := by
  obtain ⟨P, N, C, h1, h2, h3, h4⟩ := h
  exact ⟨P, N, C, hf.heap h1 id, hf.heap h2 id, hf.heap h3 id, h4.fr hf id⟩
set_option maxRecDepth 20000 in
set_option maxHeartbeats 1000000 in
theorem ready_yes (key nonce : List UInt8) (hk : key.length = 32) (hn : nonce.length = 12) (w : World) :
    Calls Tryz.prog 30 #[.string (str key), .string (str nonce)] w fun e w' => ∃ S, e = .returned (.tuple #[.pointer (some ⟨S, 0, none⟩), .int .i64 0]) ∧ Sea w' S key nonce ∧ w.heap.size ≤ S ∧ Fr (fun _ => False) w w' := by
  obtain ⟨KS, hKS⟩ : ∃ s, s = str key := ⟨_, rfl⟩
  obtain ⟨NS, hNS⟩ : ∃ s, s = str nonce := ⟨_, rfl⟩
  have hs1 : NS.size = 12 := by rw [hNS, str_size, hn]
  have HNew := Lib.hid (show ∀ w, Calls Tryz.prog 48 #[.string KS] w fun e w' => ∃ C, e = .returned (.tuple #[.pointer (some ⟨C, 0, none⟩), .int .i64 0]) ∧ Cip w' C (words key 52) ∧ w.heap.size ≤ C ∧ Fr (fun _ => False) w w' from fun w => by rw [hKS]; exact new_yes key hk w)
  obtain ⟨ZS, hZS⟩ : ∃ s, s = str (List.replicate 16 (0 : UInt8)) := ⟨_, rfl⟩
  obtain ⟨HS0, hHS⟩ : ∃ s, s = str (press (words key 52) (List.replicate 16 0)) := ⟨_, rfl⟩
  have hh16 : (press (words key 52) (List.replicate 16 0)).length = 16 := press_length _ _
  have HRep := Lib.hid (show ∀ w, Calls Tryz.prog 50 #[.string ⟨#[0]⟩, .int .i64 16] w fun e w' => e = .returned (.string ZS) ∧ Fr (fun _ => False) w w' from fun w => by rw [hZS]; exact repeat_zeros 16 (by omega) w)
  have HPr := Lib.hid (show ∀ w C, Cip w C (words key 52) → Calls Tryz.prog 49 #[.pointer (some ⟨C, 0, none⟩), .string ZS] w fun e w' => e = .returned (.tuple #[.string HS0, .int .i64 0]) ∧ Fr (fun _ => False) w w' from fun w C hC => by rw [hZS, hHS]; exact press_yes C _ _ (by simp) w hC)
  have HLd := Lib.hid (show ∀ w, Calls Tryz.prog 52 #[.string HS0] w fun e w' => e = .returned (.agg (vals (loadL (press (words key 52) (List.replicate 16 0))))) ∧ Fr (fun _ => False) w w' from fun w => by rw [hHS]; exact load_calls _ hh16 w)
  clear hZS hHS hh16
  rw [← hKS, ← hNS]
  have hN0 := heap_alloc_new w (.cells #[.string NS] 9)
  have hf0 : Fr (fun _ => False) w (w.alloc (.cells #[.string NS] 9)) := (Fr.refl _ _).alloc _
  obtain ⟨N, hNd⟩ : ∃ N, N = w.heap.size := ⟨_, rfl⟩
  rw [← hNd] at hN0
  have HNS := Lib.hid hNS
  clear hKS hNS hk hn
  obtain ⟨H, hH⟩ : ∃ H, H = loadL (press (words key 52) (List.replicate 16 0)) := ⟨_, rfl⟩
  rw [← hH] at HLd
  have HLd := Lib.hid (show ∀ w, Calls Tryz.prog 52 #[.string HS0] w fun e w' => e = .returned (.agg #[.int .u64 (H.a.toNat : Int), .int .u64 (H.b.toNat : Int)]) ∧ Fr (fun _ => False) w w' from HLd.out)
  have HH := Lib.hid (show H = hkey key from hH)
  clear hH
  go_enter Tryz.func30, Tryz.ntmps30
  go_wp2_with fail
  rw [← hNd]
  generalize w.alloc (.cells #[.string NS] 9) = w1 at hN0 hf0 ⊢
  have HN0 := Lib.hid hN0
  have HF0 := Lib.hid hf0
  clear hN0 hf0 hNd
  refine (HNew.out w1).mono ?_
  rintro e w2 ⟨C, rfl, hC, hCl, f2⟩
  have HC2 := Lib.hid hC
  have HF2 := Lib.hid (HF0.out.trans f2 (fun i hi => hi.elim))
  have HN2 := Lib.hid (f2.heap HN0.out id)
  have HF3 := Lib.hid (show Fr (fun _ => False) w2 (w2.alloc (.cells #[.pointer (some ⟨C, 0, none⟩)] 89)) from (Fr.refl _ _).alloc _)
  have cN : (w2.alloc (.cells #[.pointer (some ⟨C, 0, none⟩)] 89)).cell? ⟨N, 0, none⟩ = some (.string NS) := (cell_of_row _ N 0 _ _ _ (HF3.out.heap HN2.out id)).trans rfl
  clear hC f2 hCl
  go_wp2_with fail
  clear cN
  have HP3 := Lib.hid (heap_alloc_new w2 (.cells #[.pointer (some ⟨C, 0, none⟩)] 89))
  have HN3 := Lib.hid (HF3.out.heap HN2.out id)
  have HC3 := Lib.hid (HC2.out.fr HF3.out id)
  have HF3b := Lib.hid (HF2.out.trans HF3.out (fun i hi => hi.elim))
  obtain ⟨P, hP⟩ : ∃ P, P = w2.heap.size := ⟨_, rfl⟩
  rw [← hP] at HP3 ⊢
  clear hP HF3
  generalize w2.alloc (.cells #[.pointer (some ⟨C, 0, none⟩)] 89) = w3 at HP3 HN3 HC3 HF3b ⊢
  refine wp_region_till (fun W => W.heap[P]? = some (.cells #[.pointer (some ⟨C, 0, none⟩)] 89 (0, 0))) 7 (by kernel_rfl) ?_
  have HS := Lib.hid (show w3.drew.heap[P]? = some (.cells #[.pointer (some ⟨C, 0, none⟩)] 89 (0, 0)) from HP3.out)
  have HN4 := Lib.hid (show w3.drew.heap[N]? = some (.cells #[.string NS] 9 (0, 0)) from HN3.out)
  have HC4 := Lib.hid (show Cip w3.drew C (words key 52) from HC3.out)
  have HF4 := Lib.hid HF3b.out.drew
  clear HP3 HN3 HC3 HF3b
  generalize w3.drew = w4 at HS HN4 HC4 HF4 ⊢
  refine wpAnyT_take (i := 0) (n := 2) (v := .pointer (some ⟨C, 0, none⟩)) rfl (by kernel_rfl) (fun _ _ _ h => h) HS.out (yieldsIf_plain rfl (fun W hW => by have h1 := cell_of_row W P 0 _ _ _ hW; have h2 : W.cell? ⟨P, 0, none⟩ = some (.pointer (some ⟨C, 0, none⟩)) := h1.trans rfl; clear hW h1; go_simp)) ?_
  simp only [List.getElem_toArray, List.getElem_cons_succ, List.getElem_cons_zero, Act.put, List.setIfInBounds_toArray, List.set_cons_zero, List.set_cons_succ]
  refine wpAnyT_one (i := 1) rfl (by kernel_rfl) (wpOp_plain rfl rfl (fun K hK => ?_))
  simp only [List.getElem_toArray, List.getElem_cons_succ, List.getElem_cons_zero, Act.put, List.setIfInBounds_toArray, List.set_cons_zero, List.set_cons_succ]
  have HKK := Lib.hid hK
  clear hK
  go_wp2_with fail
  refine (HRep.out w4).mono ?_
  rintro e w5 ⟨rfl, f5⟩
  have HS5 := Lib.hid (f5.heap HS.out id)
  have HN5 := Lib.hid (f5.heap HN4.out id)
  have HC5 := Lib.hid (HC4.out.fr f5 id)
  have HF5 := Lib.hid (HF4.out.trans f5 (fun i hi => hi.elim))
  clear f5
  go_wp2_with fail
  refine HKK.out _ _ ⟨fun _ => HS5.out, ?_⟩
  clear HKK K
  try simp only [List.getElem_toArray, List.getElem_cons_succ, List.getElem_cons_zero, Act.put, List.setIfInBounds_toArray, List.set_cons_zero, List.set_cons_succ]
  refine wpAnyT_one (i := 2) rfl (by kernel_rfl) (wpOp_plain rfl rfl (fun K hK => ?_))
  simp only [List.getElem_toArray, List.getElem_cons_succ, List.getElem_cons_zero, Act.put, List.setIfInBounds_toArray, List.set_cons_zero, List.set_cons_succ]
  have HKK := Lib.hid hK
  clear hK
  go_wp2_with fail
  refine (HPr.out w5 C HC5.out).mono ?_
  rintro e w6 ⟨rfl, f6⟩
  have HS6 := Lib.hid (f6.heap HS5.out id)
  have HN6 := Lib.hid (f6.heap HN5.out id)
  have HC6 := Lib.hid (HC5.out.fr f6 id)
  have HF6 := Lib.hid (HF5.out.trans f6 (fun i hi => hi.elim))
  clear f6
  go_wp2_with fail
  refine HKK.out _ _ ⟨fun _ => HS6.out, ?_⟩
  clear HKK K
  try simp only [List.getElem_toArray, List.getElem_cons_succ, List.getElem_cons_zero, Act.put, List.setIfInBounds_toArray, List.set_cons_zero, List.set_cons_succ]
  refine wpAnyT_take (i := 3) (n := 2) (v := .tuple #[.string HS0, .int .i64 0]) rfl (by kernel_rfl) (fun _ _ _ h => h) HS6.out (yieldsIf_plain rfl (fun W hW => by clear hW; go_simp)) ?_
  simp only [List.getElem_toArray, List.getElem_cons_succ, List.getElem_cons_zero, Act.put, List.setIfInBounds_toArray, List.set_cons_zero, List.set_cons_succ]
  refine wpAnyT_take (i := 4) (n := 2) (v := .string HS0) rfl (by kernel_rfl) (fun _ _ _ h => h) HS6.out (yieldsIf_plain rfl (fun W hW => by clear hW; go_simp)) ?_
  simp only [List.getElem_toArray, List.getElem_cons_succ, List.getElem_cons_zero, Act.put, List.setIfInBounds_toArray, List.set_cons_zero, List.set_cons_succ]
  refine wpAnyT_take (i := 5) (n := 2) (v := .int .i64 0) rfl (by kernel_rfl) (fun _ _ _ h => h) HS6.out (yieldsIf_plain rfl (fun W hW => by clear hW; go_simp)) ?_
  simp only [List.getElem_toArray, List.getElem_cons_succ, List.getElem_cons_zero, Act.put, List.setIfInBounds_toArray, List.set_cons_zero, List.set_cons_succ]
  refine wpAnyT_take (i := 6) (n := 2) (v := .string HS0) rfl (by kernel_rfl) (fun _ _ _ h => h) HS6.out (yieldsIf_plain rfl (fun W hW => by clear hW; go_simp)) ?_
  simp only [List.getElem_toArray, List.getElem_cons_succ, List.getElem_cons_zero, Act.put, List.setIfInBounds_toArray, List.set_cons_zero, List.set_cons_succ]
  refine wpAnyT_of_any trivial [7] _ _ _ _ (by kernel_rfl) (by simp) (.inr rfl) ?_
  simp only [List.filterMap_cons, List.filterMap_nil, List.getElem?_toArray, List.getElem?_cons_zero, List.getElem?_cons_succ]
  go_wp2_with fail
  refine (HLd.out w6).mono ?_
  rintro e w7 ⟨rfl, f7⟩
  have HS7 := Lib.hid (f7.heap HS6.out id)
  have HN7 := Lib.hid (f7.heap HN6.out id)
  have HC7 := Lib.hid (HC6.out.fr f7 id)
  have HF7 := Lib.hid (HF6.out.trans f7 (fun i hi => hi.elim))
  clear f7
  go_wp2_with fail
  go_ret2
  obtain ⟨Y, hY⟩ : ∃ Y, Y = w7.heap.size := ⟨_, rfl⟩
  have hnew := heap_alloc_new w7 (.cells #[.int .u64 (H.a.toNat : Int), .int .u64 (H.b.toNat : Int), .func (.func 51) #[] #[.pointer (some ⟨P, 0, none⟩), .pointer (some ⟨N, 0, none⟩)]] 100)
  rw [HH.out] at hnew
  have hN7 := HN7.out
  rw [HNS.out] at hN7
  rw [HH.out]
  exact ⟨w7.heap.size, rfl, ⟨P, N, C, hnew, ((Fr.refl (fun _ => False) w7).alloc _).heap HS7.out id, ((Fr.refl (fun _ => False) w7).alloc _).heap hN7 id, HC7.out.fr ((Fr.refl (fun _ => False) w7).alloc _) id⟩, HF7.out.size, HF7.out.alloc _⟩
set_option maxRecDepth 20000 in
set_option maxHeartbeats 1000000 in
theorem ready_no (KS NS : ByteArray) (hKm : KS.size ≤ 9223372036854775807) (h : KS.size ≠ 32 ∨ NS.size ≠ 12) (w : World) :
    Calls Tryz.prog 30 #[.string KS, .string NS] w fun e w' => e = .returned (.tuple #[.pointer none, .int .i64 2]) ∧ Fr (fun _ => False) w w' := by
  have hf0 : Fr (fun _ => False) w (w.alloc (.cells #[.string NS] 9)) := (Fr.refl _ _).alloc _
  have HF0 := Lib.hid hf0
  have HN0 := Lib.hid (heap_alloc_new w (.cells #[.string NS] 9))
  by_cases h0 : KS.size = 32
  · have h1 : ((NS.size : Int) != 12) = true := by simp; omega
    have HNew := Lib.hid (show ∀ w, Calls Tryz.prog 48 #[.string KS] w fun e w' => ∃ C, e = .returned (.tuple #[.pointer (some ⟨C, 0, none⟩), .int .i64 0]) ∧ Cip w' C (words KS.data.toList 52) ∧ w.heap.size ≤ C ∧ Fr (fun _ => False) w w' from fun w => by
      have h := new_yes KS.data.toList ((Array.length_toList).trans h0) w
      rwa [show str KS.data.toList = KS from rfl] at h)
    clear h h0 hKm hf0
    obtain ⟨N, hNd⟩ : ∃ N, N = w.heap.size := ⟨_, rfl⟩
    rw [← hNd] at HN0
    go_enter Tryz.func30, Tryz.ntmps30
    go_wp2_with fail
    rw [← hNd]
    generalize w.alloc (.cells #[.string NS] 9) = w1 at HN0 HF0 ⊢
    refine (HNew.out w1).mono ?_
    rintro e w2 ⟨C, rfl, hC, hCl, f2⟩
    have HF2 := Lib.hid (HF0.out.trans f2 (fun i hi => hi.elim))
    have HN2 := Lib.hid (f2.heap HN0.out id)
    have HF3 := Lib.hid (show Fr (fun _ => False) w2 (w2.alloc (.cells #[.pointer (some ⟨C, 0, none⟩)] 89)) from (Fr.refl _ _).alloc _)
    have cN : (w2.alloc (.cells #[.pointer (some ⟨C, 0, none⟩)] 89)).cell? ⟨N, 0, none⟩ = some (.string NS) := (cell_of_row _ N 0 _ _ _ (HF3.out.heap HN2.out id)).trans rfl
    clear hC f2 hCl hNd
    go_wp2_with fail
    go_ret2
    exact ⟨rfl, HF2.out.alloc _⟩
  · have HNew := Lib.hid (new_no KS h0 hKm (w.alloc (.cells #[.string NS] 9)))
    clear h h0 hKm hf0
    go_enter Tryz.func30, Tryz.ntmps30
    go_wp2_with fail
    refine HNew.out.mono ?_
    rintro e w1 ⟨rfl, h2⟩
    have HF2 := Lib.hid (show Fr (fun _ => False) w w1 by first | exact h2 ▸ HF0.out | exact HF0.out.trans h2 (fun i hi => hi.elim))
    clear h2
    go_wp2_with fail
    go_ret2
    exact ⟨rfl, HF2.out.alloc _⟩
end Go.Proofs.YtcchhfkmhbjdmaaGreat
/-! Pg5 -/
set_option linter.unusedVariables false
set_option linter.unusedSimpArgs false
set_option pp.deepTerms true
set_option pp.maxSteps 100000
namespace Go.Proofs.YtcchhfkmhbjdmaaGreat
open Go.RowKit Go.Shelf
theorem infoB : (Tryz.prog.info? 5).map (fun i => (i.zero, i.size, i.bytes)) = some (some (.int .u8 0), 1, 1) := by kernel_rfl
theorem strCells_str (l : List UInt8) : Lib.strCells (str l) = bcells l := rfl
theorem own_keep {w w' : World} {B : Nat} {v : Value} {n : Nat} {xs : List Value} {F : Nat → Prop} (h : w.ownsRowF B 5 1 v n xs) (hf : Fr F w w') (hF : ∀ k, v.ownBlock = some k → ¬ F k) : w'.ownsRowF B 5 1 v n xs := by
  refine ⟨h.1, ?_⟩
  rcases h.2 with hn | ⟨g, cap, cur, fz, rfl, hb, hgg, rest⟩
  · exact .inl hn
  · exact .inr ⟨g, cap, cur, fz, rfl, hb, hf.heap hgg (hF g rfl), rest⟩
theorem own_ge {w : World} {B : Nat} {v : Value} {n : Nat} {xs : List Value} (h : w.ownsRowF B 5 1 v n xs) (k : Nat) (hk : v.ownBlock = some k) : B ≤ k := (h.lt k hk).1
theorem own_base {w : World} {B B' : Nat} {v : Value} {n : Nat} {xs : List Value} (h : w.ownsRowF B 5 1 v n xs) (hB : B' ≤ B) : w.ownsRowF B' 5 1 v n xs := by
  refine ⟨h.1, ?_⟩
  rcases h.2 with hn | ⟨g, cap, cur, fz, rfl, hb, rest⟩
  · exact .inl hn
  · exact .inr ⟨g, cap, cur, fz, rfl, by omega, rest⟩
theorem bcheck (B b : Nat) (p v : Value) (hp : p = .pointer none ∨ p = .pointer (some ⟨b, 0, none⟩)) (n : Nat) (xs : List Value) (w : World) (hb : w.heap[b]? = some (.cells #[p, v] 57 (0, 0))) (hown : w.ownsRowF B 5 1 v n xs) (hbB : b < B) :
    Calls Tryz.prog 43 #[.pointer (some ⟨b, 0, none⟩)] w fun e w' => e = .returned (.tuple #[]) ∧ w'.heap[b]? = some (.cells #[.pointer (some ⟨b, 0, none⟩), v] 57 (0, 0)) ∧ w'.ownsRowF B 5 1 v n xs ∧ Fr (fun k => k = b) w w' := by
  rcases hp with rfl | rfl
  · refine (show Calls Tryz.prog 43 #[.pointer (some ⟨b, 0, none⟩)] w fun e w' => e = .returned (.tuple #[]) ∧ w' = w.setCell ⟨b, 0, none⟩ (.pointer (some ⟨b, 0, none⟩)) from Any.Builder_copyCheck_fresh (P := Tryz.prog) (ρ := lays105_ren) { lays105 with } builder_extra105.toX72 b w ((cell_of_row w b 0 _ _ _ hb).trans rfl) (by unfold World.shape?; rw [hb]; rfl) (frozen_of_row w _ _ _ _ hb)).mono ?_
    rintro e w' ⟨rfl, rfl⟩
    have hf : Fr (fun k => k = b) w (w.setCell ⟨b, 0, none⟩ (.pointer (some ⟨b, 0, none⟩))) := (Fr.refl _ _).setCell _ _ (.inl rfl)
    exact ⟨rfl, heap_setCell_same w b 0 _ _ _ hb, own_keep hown hf (fun k hk => by have := own_ge hown k hk; omega), hf⟩
  · refine (show Calls Tryz.prog 43 #[.pointer (some ⟨b, 0, none⟩)] w fun e w' => e = .returned (.tuple #[]) ∧ w' = w from Any.Builder_copyCheck_used (P := Tryz.prog) (ρ := lays105_ren) { lays105 with } builder_extra105.toX72 b w ((cell_of_row w b 0 _ _ _ hb).trans rfl)).mono ?_
    rintro e w' ⟨rfl, rfl⟩
    exact ⟨rfl, hb, hown, Fr.refl _ _⟩
set_option maxRecDepth 20000 in
set_option maxHeartbeats 1000000 in
theorem builder_write (B b : Nat) (p v : Value) (hp : p = .pointer none ∨ p = .pointer (some ⟨b, 0, none⟩)) (bs s : List UInt8) (w : World) (hb : w.heap[b]? = some (.cells #[p, v] 57 (0, 0))) (hown : w.ownsRowF B 5 1 v bs.length (bcells bs)) (hbB : b < B) (hBw : B ≤ w.heap.size) (hlen : bs.length + s.length ≤ 1000000) :
    Calls Tryz.prog 27 #[.pointer (some ⟨b, 0, none⟩), .string (str s)] w fun e w' => (∃ u, e = .returned u) ∧ (∃ v', w'.heap[b]? = some (.cells #[.pointer (some ⟨b, 0, none⟩), v'] 57 (0, 0)) ∧ w'.ownsRowF B 5 1 v' (bs ++ s).length (bcells (bs ++ s))) ∧ Fr (fun k => k = b ∨ v.ownBlock = some k) w w' := by
  have HCh := Lib.hid (bcheck B b p v hp bs.length (bcells bs) w hb hown hbB)
  obtain ⟨S, hS⟩ : ∃ t, t = str s := ⟨_, rfl⟩
  have hsz : S.size = s.length := by rw [hS, str_size]
  have HS := Lib.hid hS
  rw [← hS]
  obtain ⟨i0, hi, hz0, hz1, hz2⟩ := info_parts infoB
  have HI := Lib.hid (And.intro hi (And.intro hz0 (And.intro hz1 hz2)))
  have HL := Lib.hid (And.intro hlen (And.intro hbB (And.intro hBw hsz)))
  clear hp hb hown hbB hBw hlen hS hi hz0 hz1 hz2 hsz
  go_enter Tryz.func27, Tryz.ntmps27
  go_wp2_with fail
  refine HCh.out.mono ?_
  rintro e w1 ⟨rfl, hb1, hown1, hf1⟩
  have c0 : w1.cell? ⟨b, 0, none⟩ = some (.pointer (some ⟨b, 0, none⟩)) := (cell_of_row w1 b 0 _ _ _ hb1).trans rfl
  have c1 : w1.cell? ⟨b, 1, none⟩ = some v := (cell_of_row w1 b 1 _ _ _ hb1).trans rfl
  have Hb1 := Lib.hid hb1
  have Hown1 := Lib.hid hown1
  have Hf1 := Lib.hid hf1
  clear hb1 hown1 hf1 HCh
  go_wp2_with (with_reducible refine Lib.wpList_append_own_stringF (o := ⟨some 14, _, _, _, _, _⟩) _ rfl _ _ 53 9 rfl B 5 i0 Tryz.underlying53 Tryz.underlying9 HI.out.1 HI.out.2.1 HI.out.2.2.1 HI.out.2.2.2 v _ _ rfl Hown1.out S rfl ?c3 ?c4 ?c5 ?_)
  case c3 => have := HL.out; unfold maxLen; omega
  case c4 => have := HL.out; omega
  case c5 => have := HL.out; have := Hf1.out.size; omega
  intro v' w2 hown' hgrow _
  have hf2 : Fr (fun k => k = b ∨ v.ownBlock = some k) w1 w2 := (Fr.refl _ _).grown hgrow (fun k hk => .inl (.inr hk))
  have hb2 : w2.heap[b]? = some (.cells #[.pointer (some ⟨b, 0, none⟩), v] 57 (0, 0)) := ((Fr.refl (fun k => B ≤ k) _).grown hgrow (fun k hk => .inl (own_ge Hown1.out k hk))).heap Hb1.out (by have := HL.out; omega)
  have d0 : w2.cell? ⟨b, 0, none⟩ = some (.pointer (some ⟨b, 0, none⟩)) := (cell_of_row w2 b 0 _ _ _ hb2).trans rfl
  have d1 : w2.cell? ⟨b, 1, none⟩ = some v := (cell_of_row w2 b 1 _ _ _ hb2).trans rfl
  have f1 : w2.frozen? ⟨b, 1, none⟩ = false := frozen_of_row w2 _ _ _ _ hb2
  obtain ⟨ao, n', cap, rfl⟩ : ∃ ao n' cap, v' = .slice ao n' cap := by
    rcases hown'.2 with ⟨hv, _⟩ | ⟨g, cap, cur, fz, hv, _⟩
    · exact ⟨_, _, _, hv⟩
    · exact ⟨_, _, _, hv⟩
  have hf3 : Fr (fun k => k = b) w2 (w2.setCell ⟨b, 1, none⟩ (.slice ao n' cap)) := (Fr.refl _ _).setCell _ _ (.inl rfl)
  have Hfin := Lib.hid (show (∃ v', (w2.setCell ⟨b, 1, none⟩ (.slice ao n' cap)).heap[b]? = some (.cells #[.pointer (some ⟨b, 0, none⟩), v'] 57 (0, 0)) ∧ (w2.setCell ⟨b, 1, none⟩ (.slice ao n' cap)).ownsRowF B 5 1 v' (bs ++ s).length (bcells (bs ++ s))) ∧ Fr (fun k => k = b ∨ v.ownBlock = some k) w (w2.setCell ⟨b, 1, none⟩ (.slice ao n' cap)) from ⟨⟨_, heap_setCell_same w2 b 1 _ _ _ hb2, own_keep (by
    have h := hown'
    rw [HS.out, strCells_str, str_size] at h
    rw [List.length_append, bcells_append]; exact h) hf3 (fun k hk => by have := own_ge hown' k hk; have := HL.out; omega)⟩, ((Hf1.out.mono (fun i hi => .inl (.inl hi))).trans hf2 (fun i hi => .inl hi)).trans hf3 (fun i hi => .inl (.inl hi))⟩)
  clear hown' hgrow hf2 hb2 hf3
  go_wp2_with fail
  go_ret2
  exact ⟨⟨_, rfl⟩, Hfin.out⟩
theorem builder_string (B b : Nat) (p v : Value) (hp : p = .pointer none ∨ p = .pointer (some ⟨b, 0, none⟩)) (bs : List UInt8) (w : World) (hb : w.heap[b]? = some (.cells #[p, v] 57 (0, 0))) (hown : w.ownsRowF B 5 1 v bs.length (bcells bs)) (hbB : b < B) (hBw : b ≤ w.heap.size) :
    Calls Tryz.prog 29 #[.pointer (some ⟨b, 0, none⟩)] w fun e w' => e = .returned (.string (str bs)) ∧ Below b w w' ∧ Lib.OthersKept 5 (some b) w w' := by
  have hown' : w.ownsRowF b 5 1 v (bcells bs).length (bcells bs) := by rw [bcells_length]; exact own_base hown (by omega)
  have hne : v.ownBlock ≠ some b := fun h => by have := own_ge hown b h; omega
  refine (show Calls Tryz.prog 29 #[.pointer (some ⟨b, 0, none⟩)] w fun e w' => e = .returned (.string (str bs)) ∧ (_ ∧ Below b w w' ∧ Lib.OthersKept 5 (some b) w w') from Any.Builder_String_any_k (P := Tryz.prog) (ρ := lays105_ren) { lays105 with } builder_extra105 b b bs w (by
    rcases hp with rfl | rfl
    · exact .inl ⟨Nat.le_refl _, v, hb, hown', hne⟩
    · exact .inr ⟨Nat.le_refl _, v, hb, hown', hne⟩) hBw).mono ?_
  rintro e w' ⟨rfl, _, h, ho⟩
  exact ⟨rfl, h, ho⟩
end Go.Proofs.YtcchhfkmhbjdmaaGreat
/-! Pg6 -/
set_option linter.unusedVariables false
set_option linter.unusedSimpArgs false
namespace Go.Proofs.YtcchhfkmhbjdmaaGreat
/-- A block's bit. -/
def bitL (s : List UInt8) (i : Nat) : Bool := (s.getD (i / 8) 0).toBitVec.getLsbD (7 - i % 8)
theorem shl_or_bit (a : UInt64) (x : UInt8) (m : Nat) (hm : m < 64) : ((a <<< 8) ||| x.toUInt64).toBitVec.getLsbD m = if m < 8 then x.toBitVec.getLsbD m else a.toBitVec.getLsbD (m - 8) := by
  rw [UInt64.toBitVec_or, BitVec.getLsbD_or]
  have h1 : (a <<< 8).toBitVec.getLsbD m = (decide (8 ≤ m) && a.toBitVec.getLsbD (m - 8)) := by
    rw [UInt64.toBitVec_shiftLeft, show ((8 : UInt64).toBitVec % 64) = 8#64 from rfl]
    rw [BitVec.shiftLeft_eq', show (8#64).toNat = 8 from rfl, BitVec.getLsbD_shiftLeft, decide_eq_true hm, Bool.true_and]
    by_cases h : m < 8
    · simp [h, show ¬ 8 ≤ m by omega]
    · simp [h, show 8 ≤ m by omega]
  have h2 : x.toUInt64.toBitVec.getLsbD m = (decide (m < 8) && x.toBitVec.getLsbD m) := by
    rw [UInt8.toBitVec_toUInt64]
    by_cases h : m < 8
    · simp [h, hm]
    · simp [h, BitVec.getLsbD_of_ge _ _ (Nat.le_of_not_lt h)]
  rw [h1, h2]
  by_cases h : m < 8
  · simp [h, show ¬ 8 ≤ m by omega]
  · simp [h, show 8 ≤ m by omega]
theorem ld_lo (l : List UInt8) : ∀ n, n ≤ 8 → (ldF l n).b = 0 ∧ ∀ m, m < 64 → (ldF l n).a.toBitVec.getLsbD m = (decide (m < 8 * n) && (l.getD (n - 1 - m / 8) 0).toBitVec.getLsbD (m % 8))
  | 0, _ => ⟨rfl, fun m hm => by simp [ldF, W2.zero]⟩
  | n + 1, h => by
    obtain ⟨hb, ha⟩ := ld_lo l n (by omega)
    have hn : n < 8 := by omega
    refine ⟨by rw [ldF, if_pos hn]; exact hb, fun m hm => ?_⟩
    rw [ldF, if_pos hn]
    show (((_ : UInt64) <<< 8) ||| (_ : UInt64)).toBitVec.getLsbD m = _
    rw [shl_or_bit _ _ _ hm]
    by_cases h8 : m < 8
    · rw [if_pos h8, show n + 1 - 1 - m / 8 = n by omega, show m % 8 = m by omega, decide_eq_true (by omega), Bool.true_and]
    · rw [if_neg h8, ha (m - 8) (by omega), show n + 1 - 1 - m / 8 = n - 1 - (m - 8) / 8 by omega, show m % 8 = (m - 8) % 8 by omega]
      congr 1
      exact decide_eq_decide.2 (by omega)
theorem ld_hi (l : List UInt8) : ∀ n, n ≤ 8 → (ldF l (8 + n)).a = (ldF l 8).a ∧ ∀ m, m < 64 → (ldF l (8 + n)).b.toBitVec.getLsbD m = (decide (m < 8 * n) && (l.getD (8 + (n - 1 - m / 8)) 0).toBitVec.getLsbD (m % 8))
  | 0, _ => ⟨rfl, fun m hm => by rw [Nat.add_zero, (ld_lo l 8 (Nat.le_refl _)).1]; simp⟩
  | n + 1, h => by
    obtain ⟨ha, hb⟩ := ld_hi l n (by omega)
    rw [← Nat.add_assoc]
    refine ⟨by rw [ldF, if_neg (by omega)]; exact ha, fun m hm => ?_⟩
    rw [ldF, if_neg (by omega)]
    show (((_ : UInt64) <<< 8) ||| (_ : UInt64)).toBitVec.getLsbD m = _
    rw [shl_or_bit _ _ _ hm]
    by_cases h8 : m < 8
    · rw [if_pos h8, show n + 1 - 1 - m / 8 = n by omega, show m % 8 = m by omega, decide_eq_true (by omega), Bool.true_and]
    · rw [if_neg h8, hb (m - 8) (by omega), show n + 1 - 1 - m / 8 = n - 1 - (m - 8) / 8 by omega, show m % 8 = (m - 8) % 8 by omega]
      congr 1
      exact decide_eq_decide.2 (by omega)
theorem bit_load (l : List UInt8) (i : Nat) (hi : i < 128) : W2.bit (loadL l) i = bitL l i := by
  unfold W2.bit bitL loadL
  by_cases h : i < 64
  · rw [if_pos h, (ld_hi l 8 (Nat.le_refl _)).1, (ld_lo l 8 (Nat.le_refl _)).2 _ (by omega), decide_eq_true (by omega), Bool.true_and, show 8 - 1 - (63 - i) / 8 = i / 8 by omega, show (63 - i) % 8 = 7 - i % 8 by omega]
  · rw [if_neg h, (ld_hi l 8 (Nat.le_refl _)).2 _ (by omega), decide_eq_true (by omega), Bool.true_and, show 8 + (8 - 1 - (127 - i) / 8) = i / 8 by omega, show (127 - i) % 8 = 7 - i % 8 by omega]
theorem ofNat_bit (n k j : Nat) (hj : j < 8) : (UInt8.ofNat (n / 2 ^ k)).toBitVec.getLsbD j = n.testBit (k + j) := by
  rw [BitVec.getLsbD]
  show (n / 2 ^ k % 2 ^ 8).testBit j = _
  rw [Nat.testBit_mod_two_pow, decide_eq_true hj, Bool.true_and, Nat.testBit_div_two_pow, Nat.add_comm]
theorem bit_text (z : W2) (i : Nat) (hi : i < 128) : bitL (textL z) i = W2.bit z i := by
  unfold bitL textL
  rw [List.getD_eq_getElem?_getD, full_get _ _ _ (by omega)]
  show (txF z (i / 8)).toBitVec.getLsbD (7 - i % 8) = _
  unfold txF W2.bit
  rw [ofNat_bit _ _ _ (by omega)]
  by_cases h : i < 64
  · rw [if_pos (by omega), if_pos h, show 56 - 8 * (i / 8 % 8) + (7 - i % 8) = 63 - i by omega]; rfl
  · rw [if_neg (by omega), if_neg h, show 56 - 8 * (i / 8 % 8) + (7 - i % 8) = 127 - i by omega]; rfl
theorem text_length (z : W2) : (textL z).length = 16 := full_length _ _
theorem block_ext {a b : List UInt8} (ha : a.length = 16) (hb : b.length = 16) (h : ∀ i, i < 128 → bitL a i = bitL b i) : a = b := by
  apply List.ext_getElem (by rw [ha, hb])
  intro q h1 h2
  apply UInt8.toBitVec_inj.mp
  apply BitVec.eq_of_getLsbD_eq
  intro j hj
  have := h (8 * q + (7 - j)) (by omega)
  unfold bitL at this
  rw [show (8 * q + (7 - j)) / 8 = q by omega, show 7 - (8 * q + (7 - j)) % 8 = j by omega, List.getD_eq_getElem?_getD, List.getD_eq_getElem?_getD, List.getElem?_eq_getElem h1, List.getElem?_eq_getElem h2] at this
  exact this
theorem load_text (z : W2) : loadL (textL z) = z := W2.ext_bit fun i hi => by rw [bit_load _ _ hi, bit_text _ _ hi]
theorem text_load (l : List UInt8) (hl : l.length = 16) : textL (loadL l) = l := block_ext (text_length _) hl fun i hi => by rw [bit_text _ _ hi, bit_load _ _ hi]
/-- Bytes by others. -/
def xorG (a b : List UInt8) : List UInt8 := List.zipWith (· ^^^ ·) a b
theorem xorG_length (a b : List UInt8) : (xorG a b).length = min a.length b.length := by simp [xorG]
theorem bit_xorG (a b : List UInt8) (ha : a.length = 16) (hb : b.length = 16) (i : Nat) (hi : i < 128) : bitL (xorG a b) i = (bitL a i ^^ bitL b i) := by
  unfold bitL xorG
  simp only [List.getD_eq_getElem?_getD, List.getElem?_zipWith]
  have h1 : i / 8 < a.length := by omega
  have h2 : i / 8 < b.length := by omega
  rw [List.getElem?_eq_getElem h1, List.getElem?_eq_getElem h2]
  simp [UInt8.toBitVec_xor, BitVec.getLsbD_xor]
theorem load_xorG (a b : List UInt8) (ha : a.length = 16) (hb : b.length = 16) : loadL (xorG a b) = W2.xr (loadL a) (loadL b) := W2.ext_bit fun i hi => by
  rw [bit_load _ _ hi, bit_xorG _ _ ha hb _ hi, W2.bit_xr, bit_load _ _ hi, bit_load _ _ hi]
theorem text_xr (x y : W2) : textL (W2.xr x y) = xorG (textL x) (textL y) := block_ext (text_length _) (by rw [xorG_length, text_length, text_length]; rfl) fun i hi => by
  rw [bit_text _ _ hi, bit_xorG _ _ (text_length _) (text_length _) _ hi, W2.bit_xr, bit_text _ _ hi, bit_text _ _ hi]
/-- Coefficients of a polynomial, the first m. -/
def ev (m : Nat) (p : Nat → Bool) : W2 := W2.S m (fun k => W2.sel (p k) (W2.pw k W2.one))
theorem S_upd (n k : Nat) (f g : Nat → W2) (d : W2) (hk : k < n) (h : ∀ i, i ≠ k → g i = f i) (hd : g k = W2.xr (f k) d) : W2.S n g = W2.xr (W2.S n f) d := by
  induction n with
  | zero => omega
  | succ n ih =>
    rw [W2.S, W2.S]
    by_cases e : k = n
    · subst e
      rw [hd, W2.S_congr (f := g) (g := f) (fun i hi => h i (by omega)), W2.xr_assoc]
    · rw [ih (by omega), h n (by omega), W2.xr_assoc, W2.xr_assoc, W2.xr_comm d]
theorem ev_flip (m k : Nat) (p q : Nat → Bool) (c : Bool) (hk : k < m) (h : ∀ i, i ≠ k → q i = p i) (hd : q k = (p k ^^ c)) : ev m q = W2.xr (ev m p) (W2.sel c (W2.pw k W2.one)) :=
  S_upd m k _ _ _ hk (fun i hi => by rw [h i hi]) (by rw [hd, W2.xor_sel])
theorem bit_ev (p : Nat → Bool) (k : Nat) (hk : k < 128) : ∀ n, n ≤ 128 → W2.bit (ev n p) k = (decide (k < n) && p k)
  | 0, _ => by simp [ev, W2.S, W2.bit_zero]
  | n + 1, hn => by
    have ih := bit_ev p k hk n (by omega)
    unfold ev at ih ⊢
    rw [W2.S, W2.bit_xr, ih, W2.bit_sel, W2.bit_pw n k (by omega) hk]
    by_cases e : n = k
    · subst e; simp
    · by_cases h : k < n
      · simp [e, h, show k < n + 1 by omega]
      · simp [e, h, show ¬ k < n + 1 by omega]
theorem pw128 : W2.pw 128 W2.one = W2.xr (W2.xr (W2.xr W2.one (W2.pw 1 W2.one)) (W2.pw 2 W2.one)) (W2.pw 7 W2.one) := by decide +kernel
theorem pw_fold (i : Nat) (hi : 128 ≤ i) : W2.pw i W2.one = W2.xr (W2.xr (W2.xr (W2.pw (i - 128) W2.one) (W2.pw (i - 127) W2.one)) (W2.pw (i - 126) W2.one)) (W2.pw (i - 121) W2.one) := by
  obtain ⟨d, rfl⟩ : ∃ d, i = d + 128 := ⟨i - 128, by omega⟩
  rw [← W2.pw_add, pw128, W2.pw_xr, W2.pw_xr, W2.pw_xr, W2.pw_add, W2.pw_add, W2.pw_add]
  rw [show d + 128 - 128 = d by omega, show d + 128 - 127 = d + 1 by omega, show d + 128 - 126 = d + 2 by omega, show d + 128 - 121 = d + 7 by omega]
/-- One round of the folding. -/
theorem ev_fold (i : Nat) (hi : 128 ≤ i) (p q : Nat → Bool) (h : ∀ k, k < i → q k = (p k ^^ (p i && (decide (k = i - 128) || decide (k = i - 127) || decide (k = i - 126) || decide (k = i - 121))))) : ev i q = ev (i + 1) p := by
  obtain ⟨q1, h1⟩ : ∃ q : Nat → Bool, q = fun k => if k = i - 128 then (p k ^^ p i) else p k := ⟨_, rfl⟩
  obtain ⟨q2, h2⟩ : ∃ q : Nat → Bool, q = fun k => if k = i - 127 then (q1 k ^^ p i) else q1 k := ⟨_, rfl⟩
  obtain ⟨q3, h3⟩ : ∃ q : Nat → Bool, q = fun k => if k = i - 126 then (q2 k ^^ p i) else q2 k := ⟨_, rfl⟩
  obtain ⟨q4, h4⟩ : ∃ q : Nat → Bool, q = fun k => if k = i - 121 then (q3 k ^^ p i) else q3 k := ⟨_, rfl⟩
  have e1 := ev_flip i (i - 128) p q1 (p i) (by omega) (fun k hk => by rw [h1]; simp [hk]) (by rw [h1]; simp)
  have e2 := ev_flip i (i - 127) q1 q2 (p i) (by omega) (fun k hk => by rw [h2]; simp [hk]) (by rw [h2]; simp)
  have e3 := ev_flip i (i - 126) q2 q3 (p i) (by omega) (fun k hk => by rw [h3]; simp [hk]) (by rw [h3]; simp)
  have e4 := ev_flip i (i - 121) q3 q4 (p i) (by omega) (fun k hk => by rw [h4]; simp [hk]) (by rw [h4]; simp)
  have hq : ev i q = ev i q4 := by
    unfold ev
    refine W2.S_congr fun k hk => ?_
    rw [h k hk]
    congr 1
    rw [h4, h3, h2, h1]
    by_cases c1 : k = i - 128
    · have c2 : k ≠ i - 127 := by omega
      have c3 : k ≠ i - 126 := by omega
      have c4 : k ≠ i - 121 := by omega
      simp [c1, show i - 128 ≠ i - 127 by omega, show i - 128 ≠ i - 126 by omega, show i - 128 ≠ i - 121 by omega]
    · by_cases c2 : k = i - 127
      · simp [c2, show i - 127 ≠ i - 128 by omega, show i - 127 ≠ i - 126 by omega, show i - 127 ≠ i - 121 by omega]
      · by_cases c3 : k = i - 126
        · simp [c3, show i - 126 ≠ i - 128 by omega, show i - 126 ≠ i - 127 by omega, show i - 126 ≠ i - 121 by omega]
        · by_cases c4 : k = i - 121
          · simp [c4, show i - 121 ≠ i - 128 by omega, show i - 121 ≠ i - 127 by omega, show i - 121 ≠ i - 126 by omega]
          · simp [c1, c2, c3, c4]
  rw [hq, e4, e3, e2, e1]
  show _ = W2.xr (ev i p) (W2.sel (p i) (W2.pw i W2.one))
  rw [pw_fold i hi, W2.sel_xr, W2.sel_xr, W2.sel_xr]
  simp only [W2.xr_assoc]
/-- The bits gathered, one behind the other. -/
def outF (p : Nat → Bool) : Nat → List UInt8
  | 0 => List.replicate 16 0
  | i + 1 => (outF p i).set (i / 8) ((outF p i).getD (i / 8) 0 ||| (if p i then 1 else 0) <<< UInt8.ofNat (7 - i % 8))
theorem outF_length (p : Nat → Bool) : ∀ i, (outF p i).length = 16
  | 0 => by simp [outF]
  | i + 1 => by rw [outF, List.length_set, outF_length p i]
theorem one_shl : ∀ k j : Fin 8, ((1 : UInt8) <<< UInt8.ofNat k.1).toBitVec.getLsbD j.1 = decide (j = k) := by decide +kernel
theorem zero_shl : ∀ k j : Fin 8, ((0 : UInt8) <<< UInt8.ofNat k.1).toBitVec.getLsbD j.1 = false := by decide +kernel
theorem b_shl (c : Bool) (k j : Nat) (hk : k < 8) (hj : j < 8) : (((if c then 1 else 0) : UInt8) <<< UInt8.ofNat k).toBitVec.getLsbD j = (c && decide (j = k)) := by
  cases c
  · exact zero_shl ⟨k, hk⟩ ⟨j, hj⟩
  · have := one_shl ⟨k, hk⟩ ⟨j, hj⟩
    simpa using this
theorem bit_outF (p : Nat → Bool) (k : Nat) (hk : k < 128) : ∀ i, i ≤ 128 → bitL (outF p i) k = (decide (k < i) && p k)
  | 0, _ => by
    have : (List.replicate 16 (0 : UInt8)).getD (k / 8) 0 = 0 := by
      rw [List.getD_eq_getElem?_getD, List.getElem?_replicate]; split <;> rfl
    unfold bitL outF
    rw [this]; simp
  | i + 1, hi => by
    have ih := bit_outF p k hk i (by omega)
    unfold bitL at ih ⊢
    rw [outF, List.getD_eq_getElem?_getD, List.getElem?_set]
    by_cases e : i / 8 = k / 8
    · rw [if_pos e, if_pos (by rw [outF_length]; omega)]
      show (_ ||| _ : UInt8).toBitVec.getLsbD _ = _
      rw [UInt8.toBitVec_or, BitVec.getLsbD_or, e, ih, b_shl _ _ _ (by omega) (by omega)]
      by_cases e2 : i = k
      · subst e2; simp
      · have e3 : (decide (7 - k % 8 = 7 - i % 8)) = false := decide_eq_false (by omega)
        rw [e3, Bool.and_false, Bool.or_false]
        congr 1
        exact decide_eq_decide.2 (by omega)
    · rw [if_neg e]
      have : (outF p i).getD (k / 8) 0 = ((outF p i)[k / 8]?).getD 0 := List.getD_eq_getElem?_getD ..
      rw [← this, ih]
      congr 1
      exact decide_eq_decide.2 (by omega)
theorem outF_text (p : Nat → Bool) (z : W2) (h : ev 128 p = z) : outF p 128 = textL z := block_ext (outF_length _ _) (text_length _) fun i hi => by
  rw [bit_outF p i hi 128 (Nat.le_refl _), bit_text _ _ hi, ← h, bit_ev p i hi 128 (Nat.le_refl _)]
end Go.Proofs.YtcchhfkmhbjdmaaGreat
/-! Pg7 -/
set_option linter.unusedVariables false
set_option linter.unusedSimpArgs false
namespace Go.Proofs.YtcchhfkmhbjdmaaGreat
theorem full_add (f : Nat → UInt8) (a b : Nat) : full f (a + b) = full f a ++ full (fun i => f (a + i)) b := by
  simp [full, List.range_add, Function.comp_def]
theorem full_cg {f g : Nat → UInt8} {n : Nat} (h : ∀ i, i < n → f i = g i) : full f n = full g n := by
  unfold full
  exact List.map_congr_left fun i hi => h i (List.mem_range.1 hi)
theorem press_len (W s : List UInt8) : (press W s).length = 16 := by
  first | exact press_length W s | simp [press, full_length]
theorem ctr_length (W nonce : List UInt8) (j : Nat) : (ctr W nonce j).length = 16 := press_len _ _
theorem turnL_length (a b : List UInt8) : (turnL a b).length = min a.length b.length := full_length _ _
theorem turnL_xorG (a b : List UInt8) : turnL a b = xorG a b := by
  apply List.ext_getElem (by rw [turnL_length, xorG_length])
  intro i h1 h2
  rw [turnL_length] at h1
  have ha : i < a.length := by omega
  have hb : i < b.length := by omega
  simp [turnL, full, turnG, xorG, List.getD_eq_getElem?_getD, ha, hb]
def chunk (t : List UInt8) (k : Nat) : List UInt8 := (t.drop (16 * k)).take 16
theorem chunk_length (t : List UInt8) (k : Nat) : (chunk t k).length = min 16 (t.length - 16 * k) := by simp [chunk]
theorem chunk_get (t : List UInt8) (k i : Nat) (hi : i < 16) : (chunk t k).getD i 0 = t.getD (16 * k + i) 0 := by
  simp [chunk, List.getD_eq_getElem?_getD, List.getElem?_take, hi]
/-- The bytes that a text is turned by. -/
def ks (W nonce : List UInt8) (i : Nat) : UInt8 := (ctr W nonce (2 + i / 16)).getD (i % 16) 0
def bodyL (W nonce t : List UInt8) : List UInt8 := full (fun i => t.getD i 0 ^^^ ks W nonce i) t.length
theorem bodyL_length (W nonce t : List UInt8) : (bodyL W nonce t).length = t.length := full_length _ _
def bodyN (W nonce t : List UInt8) : Nat → List UInt8
  | 0 => []
  | k + 1 => bodyN W nonce t k ++ turnL (chunk t k) (ctr W nonce (2 + k))
theorem bodyN_eq (W nonce t : List UInt8) : ∀ n, bodyN W nonce t n = full (fun i => t.getD i 0 ^^^ ks W nonce i) (min (16 * n) t.length)
  | 0 => by simp [bodyN, full]
  | k + 1 => by
    rw [bodyN, bodyN_eq W nonce t k]
    have hc : (turnL (chunk t k) (ctr W nonce (2 + k))).length = min 16 (t.length - 16 * k) := by
      rw [turnL_length, chunk_length, ctr_length]; omega
    by_cases h : t.length ≤ 16 * k
    · have : turnL (chunk t k) (ctr W nonce (2 + k)) = [] := List.eq_nil_of_length_eq_zero (by rw [hc]; omega)
      rw [this, List.append_nil, show min (16 * k) t.length = t.length by omega, show min (16 * (k + 1)) t.length = t.length by omega]
    · rw [show min (16 * k) t.length = 16 * k by omega, show min (16 * (k + 1)) t.length = 16 * k + min 16 (t.length - 16 * k) by omega, full_add]
      congr 1
      unfold turnL
      rw [chunk_length, ctr_length, show min (min 16 (t.length - 16 * k)) 16 = min 16 (t.length - 16 * k) by omega]
      refine full_cg fun i hi => ?_
      show (chunk t k).getD i 0 ^^^ _ = _
      rw [chunk_get _ _ _ (by omega)]
      unfold ks
      rw [show (16 * k + i) / 16 = k by omega, show (16 * k + i) % 16 = i by omega]
theorem bodyN_all (W nonce t : List UInt8) (n : Nat) (h : t.length ≤ 16 * n) : bodyN W nonce t n = bodyL W nonce t := by
  rw [bodyN_eq, show min (16 * n) t.length = t.length by omega]; rfl
/-- What came of the chunks so far. -/
def bodyX (W nonce t : List UInt8) (pre : List Nat) : List UInt8 := pre.zipIdx.flatMap fun x => turnL (chunk t x.1) (ctr W nonce (2 + x.2))
theorem bodyX_snoc (W nonce t : List UInt8) (pre : List Nat) (k : Nat) : bodyX W nonce t (pre ++ [k]) = bodyX W nonce t pre ++ turnL (chunk t k) (ctr W nonce (2 + pre.length)) := by
  simp [bodyX, List.zipIdx_append]
theorem bodyX_range (W nonce t : List UInt8) : ∀ n, bodyX W nonce t (List.range n) = bodyN W nonce t n
  | 0 => rfl
  | n + 1 => by rw [List.range_succ, bodyX_snoc, bodyX_range W nonce t n, List.length_range]; rfl
theorem bodyX_len (W nonce t : List UInt8) : ∀ (pre : List Nat) (n : Nat), ((pre.zipIdx n).flatMap fun x => turnL (chunk t x.1) (ctr W nonce (2 + x.2))).length ≤ 16 * pre.length
  | [], n => by simp
  | k :: pre, n => by
    have ih := bodyX_len W nonce t pre (n + 1)
    rw [List.zipIdx_cons, List.flatMap_cons, List.length_append, turnL_length, ctr_length, List.length_cons]
    omega
theorem bodyX_length (W nonce t : List UInt8) (pre : List Nat) : (bodyX W nonce t pre).length ≤ 16 * pre.length := bodyX_len W nonce t pre 0
/-- The sum over blocks. -/
def ghF (h : W2) (all : List UInt8) : Nat → W2
  | 0 => W2.zero
  | k + 1 => W2.times (W2.xr (ghF h all k) (loadL (chunk all k))) h
def lensL (m n : Nat) : List UInt8 := textL ⟨UInt64.ofNat (8 * m), UInt64.ofNat (8 * n)⟩
def allL (beside body : List UInt8) : List UInt8 := fillL beside ++ fillL body ++ lensL beside.length body.length
def tagL (key nonce beside body : List UInt8) : List UInt8 := turnL (textL (ghF (hkey key) (allL beside body) ((allL beside body).length / 16))) (ctr (words key 52) nonce 1)
theorem tagL_length (key nonce beside body : List UInt8) : (tagL key nonce beside body).length = 16 := by
  unfold tagL; rw [turnL_length, text_length, ctr_length]; rfl
def sealL (key nonce beside t : List UInt8) : List UInt8 := bodyL (words key 52) nonce t ++ tagL key nonce beside (bodyL (words key 52) nonce t)
theorem fillL_length (s : List UInt8) : (fillL s).length % 16 = 0 ∧ (fillL s).length ≤ s.length + 15 := by
  unfold fillL; rw [List.length_append, List.length_replicate]; omega
theorem allL_length (beside body : List UInt8) : (allL beside body).length % 16 = 0 ∧ 16 ≤ (allL beside body).length ∧ (allL beside body).length ≤ beside.length + body.length + 46 := by
  have h1 := fillL_length beside
  have h2 := fillL_length body
  unfold allL lensL; rw [List.length_append, List.length_append, text_length]; omega
theorem lens_four (m n : Nat) (hm : m ≤ 100000000) (hn : n ≤ 100000000) : be4 0 ++ be4 (8 * m) ++ be4 0 ++ be4 (8 * n) = lensL m n := by
  have e1 : (UInt64.ofNat (8 * m)).toNat = 8 * m := by simp; omega
  have e2 : (UInt64.ofNat (8 * n)).toNat = 8 * n := by simp; omega
  unfold lensL textL full txF be4
  have hr : List.range 16 = [0, 1, 2, 3, 4, 5, 6, 7, 8, 9, 10, 11, 12, 13, 14, 15] := by decide
  rw [hr]
  simp only [List.map_cons, List.map_nil, List.cons_append, List.nil_append, e1, e2, Nat.reduceLT, if_true, if_false, Nat.reduceMod, Nat.reduceMul, Nat.reduceSub, Nat.reducePow, Nat.zero_div, Nat.div_one]
  rw [show 8 * m / 72057594037927936 = 0 by omega, show 8 * m / 281474976710656 = 0 by omega, show 8 * m / 1099511627776 = 0 by omega, show 8 * m / 4294967296 = 0 by omega, show 8 * n / 72057594037927936 = 0 by omega, show 8 * n / 281474976710656 = 0 by omega, show 8 * n / 1099511627776 = 0 by omega, show 8 * n / 4294967296 = 0 by omega]
end Go.Proofs.YtcchhfkmhbjdmaaGreat
/-! Pg8 -/
set_option linter.unusedVariables false
set_option linter.unusedSimpArgs false
set_option pp.deepTerms true
set_option pp.maxSteps 100000
namespace Go.Proofs.YtcchhfkmhbjdmaaGreat
open Go.RowKit Go.Shelf
attribute [local go_sem] Oper.semAt_some
section
variable {P : Program} {ops : Array Oper} {Q : Exit → Act → World → Prop} {md : Region.Mode} {l n : Nat}
theorem rows_round {row : String} {args : Array Value} {w : World} {R : Value → World → Prop} (h : Rows P row args w R) : RowsIn (Fence.wide.inRound l) n P row args w R := fun c cs _ =>
  let ⟨v, w', r, s⟩ := h c cs; ⟨v, w', r, stepsIn_wide.2 s⟩
theorem oper_round {o : Oper} {a : Act} {w : World} {K : Act → World → Prop} (hd : ∀ c, o.op ≠ .defer c) (h : o.wp P a w K Q) : o.wpIn (Fence.wide.inRound l) n P a w K Q := by
  refine ⟨fun _ _ => trivial, ?_⟩
  rw [show (Fence.wide.inRound l).round = some l from rfl, Oper.semAt_some l _ _ hd]
  unfold Oper.wp at h
  generalize (execOp a.eval o).run P w = r at *
  cases r with
  | ok x w' =>
    cases x <;> simp only [Oper.upon] at h <;> simp only [Oper.uponIn] <;>
      first
        | exact h
        | exact ⟨fun hh => (by cases hh), CallsIn.inRound l (callsIn_wide.2 h)⟩
        | exact ⟨fun hh => (by cases hh), rows_round h⟩
        | exact h.elim
  | halt x w' => cases x <;> simp only [Oper.upon] at h <;> simp only [Oper.uponIn] <;> first | exact h | exact h.elim
def noDefer (ops : Array Oper) : Bool := ops.all fun o => match o.op with
  | .defer _ => false
  | _ => true
theorem noDefer_at {i : Nat} {o : Oper} (h : noDefer ops = true) (ho : ops[i]? = some o) : ∀ c, o.op ≠ .defer c := by
  intro c hc
  unfold noDefer at h
  rw [Array.all_eq_true_iff_forall_mem] at h
  have := h o (Array.mem_of_getElem? ho)
  rw [hc] at this
  cases this
theorem any_round (hnd : noDefer ops = true) (hlo : ∀ a w, ¬ Q .outgrown a w) : ∀ (fuel : Nat) (listed : Array Bool) (a : Act) (w : World), wpAny P md ops Q fuel listed a w → wpAnyIn (Fence.wide.inRound l) n P md ops Q fuel listed a w
  | 0, _, _, _, h => h
  | fuel + 1, listed, a, w, h => ⟨h.1, fun i hi => by
    have h1 := h.2 i hi
    unfold wpOp at h1
    unfold wpOpIn
    cases ho : ops[i]? with
    | none => simp only [ho] at h1; exact any_round hnd hlo fuel _ _ _ h1
    | some o =>
      simp only [ho] at h1 ⊢
      split
      · rename_i hw
        simp only [hw, if_true] at h1
        rcases h1 with h1 | ⟨_, a', w', h1⟩
        · exact Oper.wpIn_mono (fun a' w' h' => any_round hnd hlo fuel _ a' w' h') (oper_round (noDefer_at hnd ho) h1)
        · exact absurd h1 (hlo a' w')
      · rename_i hw
        simp only [hw] at h1
        exact ⟨fun _ _ => trivial, any_round hnd hlo fuel _ _ _ h1⟩⟩
/-- A region that draws its order, in a round. -/
theorem wpIn_region_till {id : Nat} {a : Act} {w : World} (S : World → Prop) (e : Nat) (hm : P.follows .mixedOrders = true) (hnd : noDefer ops = true) (hlo : ∀ a w, ¬ Q .outgrown a w)
    (h : wpAnyT P .any ops Q S e ops.size (Array.replicate ops.size false) a w.drew) : (Code.region id ops true).wpIn (Fence.wide.inRound l) n P Q a w :=
  wpIn_region_any hm (any_round hnd hlo _ _ _ _ (wpAny_of_till _ _ _ _ h))
end
/-- Ranges over chunks: what has come. -/
def fins (m k : Nat) : List (Fin m) := (List.finRange m).take k
theorem fins_succ (m k : Nat) (h : k < m) : fins m (k + 1) = fins m k ++ [⟨k, h⟩] := by
  unfold fins
  rw [List.take_add_one, List.getElem?_eq_getElem (by simpa using h)]
  simp
theorem fins_length (m k : Nat) (h : k ≤ m) : (fins m k).length = k := by simp [fins]; omega
theorem fins_val (m : Nat) : (fins m m).map Fin.val = List.range m := by
  unfold fins
  rw [List.take_of_length_le (by simp)]
  apply List.ext_getElem <;> simp
/-- The blocks that the iterator looks at are as they were. -/
def Kp3 (a b c : Nat) (W W' : World) : Prop := W.heap.size ≤ W'.heap.size ∧ ∀ k, (k = a ∨ k = b ∨ k = c) → W'.heap[k]? = W.heap[k]?
theorem Kp3.trans {a b c : Nat} {X Y Z : World} (h : Kp3 a b c X Y) (k : Kp3 a b c Y Z) : Kp3 a b c X Z := ⟨Nat.le_trans h.1 k.1, fun i hi => (k.2 i hi).trans (h.2 i hi)⟩
theorem Kp3.refl (a b c : Nat) (X : World) : Kp3 a b c X X := ⟨Nat.le_refl _, fun _ _ => rfl⟩
theorem Kp3.of_fr {a b c : Nat} {F : Nat → Prop} {X Y : World} (h : Fr F X Y) (ha : a < X.heap.size ∧ ¬ F a) (hb : b < X.heap.size ∧ ¬ F b) (hc : c < X.heap.size ∧ ¬ F c) : Kp3 a b c X Y :=
  ⟨h.size, fun k hk => by rcases hk with rfl | rfl | rfl; exact h.block _ ha.1 ha.2; exact h.block _ hb.1 hb.2; exact h.block _ hc.1 hc.2⟩
set_option maxHeartbeats 1000000 in
theorem chunk_calls (a : Option Addr) (len cap : Nat) (w : World) :
    Calls Tryz.prog 53 #[.slice a len cap, .int .i64 16] w fun e w' => e = .returned (.func (.func 82) #[] #[.pointer (some ⟨w.heap.size, 0, none⟩), .pointer (some ⟨w.heap.size + 1, 0, none⟩)]) ∧ w' = (w.alloc (.cells #[.slice a len cap] 53)).alloc (.cells #[.int .i64 16] 3) := by
  go_enter Tryz.func53, Tryz.ntmps53
  go_wp2_with fail
  go_ret
  exact ⟨rfl, rfl⟩
/-- The chunk that comes as number k. -/
def encC (b len m : Nat) (k : Fin m) : Array Value := #[.slice (some ⟨b, 16 * k.1, none⟩) (min 16 (len - 16 * k.1)) (min 16 (len - 16 * k.1))]
set_option maxRecDepth 100000 in
set_option maxHeartbeats 2000000 in
theorem chunk1_in (n l Bs Bn b len cap m : Nat) (hm : m = (len + 15) / 16) (hlc : len ≤ cap) (hcap : len ≤ 1000000) (J Jx : List (Fin m) → World → Prop) (hJd : ∀ pre W, J pre W → J pre W.drew)
    (hY : ∀ pre x W, J pre W → pre.length < m → YieldAt Fence.wide (n - 1) Tryz.prog l (encC b len m x) W fun e W' =>
      (e = .returned (.bool true) ∧ J (pre ++ [x]) W' ∧ Kp3 Bs Bn b W W') ∨ (e = .returned (.bool false) ∧ Jx (pre ++ [x]) W'))
    (W : World) (hBs : W.cell? ⟨Bs, 0, none⟩ = some (.slice (some ⟨b, 0, none⟩) len cap)) (hBn : W.cell? ⟨Bn, 0, none⟩ = some (.int .i64 16)) (h0 : J [] W) :
    CallsIn Fence.wide n Tryz.prog 82 #[.func (.yield l) #[] #[], .pointer (some ⟨Bs, 0, none⟩), .pointer (some ⟨Bn, 0, none⟩)] W fun e W' => (∃ v, e = .returned v) ∧
      ((∃ ys, ys = fins m m ∧ J ys W') ∨ (∃ pre, (∃ k, k ≤ m ∧ pre = fins m k) ∧ Jx pre W')) := by
  refine callsIn_of_wp Tryz.func82 rfl trivial ?_ rfl
  simp only [Tryz.ntmps82, List.size_toArray, List.length_cons, List.length_nil, Nat.reduceAdd, Nat.reduceSub, Array.replicate_succ, Array.replicate_zero, List.push_toArray, List.append_toArray, List.nil_append, List.cons_append]
  gi_wp2
  gi_loopw [4] (fun i wr => ∃ k : Nat, k ≤ m ∧ i = .int .i64 ((16 * k : Nat) : Int) ∧ J (fins m k) wr ∧ Kp3 Bs Bn b W wr)
    (fun i _ => len + 16 - (intOf i).toNat)
  case atStart => exact ⟨0, Nat.zero_le _, rfl, h0, Kp3.refl _ _ _ _⟩
  case round =>
    obtain ⟨k, hk, rfl, hJs, hnx⟩ := hrel
    have hbs : wr.cell? ⟨Bs, 0, none⟩ = some (.slice (some ⟨b, 0, none⟩) len cap) := (World.cell?_of_block (a := ⟨Bs, 0, none⟩) (hnx.2 Bs (.inl rfl))).trans hBs
    have hbn : wr.cell? ⟨Bn, 0, none⟩ = some (.int .i64 16) := (World.cell?_of_block (a := ⟨Bn, 0, none⟩) (hnx.2 Bn (.inr (.inl rfl)))).trans hBn
    by_cases hlt : 16 * k < len
    · have hkm : k < m := by omega
      obtain ⟨fn, tmps, assign, body, hy, hR⟩ := hY _ ⟨k, hkm⟩ wr.drew (hJd _ _ hJs) (by rw [fins_length _ _ hk]; exact hkm)
      unfold encC at hy
      dsimp only at hy
      rw [← fins_succ m k hkm] at hR
      have HR := Lib.hid hR
      have HJ := Lib.hid hJs
      have HN := Lib.hid (show Kp3 Bs Bn b W wr.drew from hnx)
      have hbs2 : wr.drew.cell? ⟨Bs, 0, none⟩ = some (.slice (some ⟨b, 0, none⟩) len cap) := hbs
      have hbn2 : wr.drew.cell? ⟨Bn, 0, none⟩ = some (.int .i64 16) := hbn
      obtain ⟨q, hq⟩ : ∃ q, q = 16 * k := ⟨_, rfl⟩
      rw [← hq] at hy hlt ⊢
      have hqx : (q : Int) < (len : Int) := by omega
      obtain ⟨c, hc⟩ : ∃ c, c = min 16 (len - q) := ⟨_, rfl⟩
      rw [← hc] at hy
      have HQ := Lib.hid hq
      have HC := Lib.hid hc
      have HKM := Lib.hid (show k < m ∧ m = (len + 15) / 16 ∧ k ≤ m from ⟨hkm, hm, hk⟩)
      have hql : q ≤ len := by omega
      have hqc : q ≤ cap := by omega
      have hc1 : c ≤ 16 := by omega
      have hc2 : q + c ≤ len := by omega
      have hc3 : q + c ≤ cap := by omega
      have hmin : min (16 : Int) ((len - q : Nat) : Int) = (c : Int) := by omega
      obtain ⟨d, hd⟩ : ∃ d, d = q + c := ⟨_, rfl⟩
      have hw : IntKind.i64.wrap ((q : Int) + (c : Int)) = (d : Int) := by rw [IntWalk.i64_in _ (by omega)]; omega
      have hdq : c = d - q := by omega
      rw [hdq] at hy
      have hd1 : q ≤ d := by omega
      have hd0 : q < d := by omega
      have hd4 : ¬ d - q = 0 := by omega
      have hd5 : 0 < d - q := by omega
      have hd2 : d ≤ len := by omega
      have hd3 : d ≤ cap := by omega
      obtain ⟨q2, hq2⟩ : ∃ d, d = q + 16 := ⟨_, rfl⟩
      have hw2 : IntKind.i64.wrap ((q : Int) + 16) = (q2 : Int) := by rw [IntWalk.i64_in _ (by omega)]; omega
      have HQ2 := Lib.hid (show q2 = 16 * (k + 1) ∧ q2 = q + 16 by omega)
      clear hdq hd hq2
      clear hR hJs hnx hBs hBn h0 hY hq hc hkm hk hm
      gi_wp2
      refine wpIn_wide.2 ?_
      refine wp_region_still_tail 6 (by kernel_rfl) (by kernel_rfl) ?_
      simp only [List.take_succ_cons, List.take_zero, List.drop_succ_cons, List.drop_zero]
      change wpStill _ _ wr.drew (fun a' => wpList _ _ _ _ a' wr.drew) _ _
      repeat still_step
      refine wpStill_nil ?_
      go_wp2
      gi_wp2
      refine ⟨fun h => (by cases h), HR.out.mono ?_⟩
      rintro e W3 (⟨rfl, hJ3, hk3⟩ | ⟨rfl, hJx3⟩)
      · have HK3 := Lib.hid (HN.out.trans hk3)
        have HJ3 := Lib.hid hJ3
        have hbn3 : W3.cell? ⟨Bn, 0, none⟩ = some (.int .i64 16) := (World.cell?_of_block (a := ⟨Bn, 0, none⟩) (hk3.2 Bn (.inr (.inl rfl)))).trans hbn2
        clear hJ3 hk3
        gi_wp2
        go_roundw
        case rel => exact ⟨k + 1, by have := HKM.out; omega, by rw [HQ2.out.1], HJ3.out, HK3.out⟩
        case measure => have := HQ2.out.2; simp [intOf]; omega
      · have HJx := Lib.hid hJx3
        clear hJx3
        gi_wp2
        refine bodyPost_ret (results_none rfl _ _ _) rfl ?_
        exact ⟨⟨_, rfl⟩, .inr ⟨_, ⟨k + 1, by have := HKM.out; omega, rfl⟩, HJx.out⟩⟩
    · obtain rfl : k = m := by omega
      have HJ := Lib.hid hJs
      obtain ⟨q, hq⟩ : ∃ q, q = 16 * k := ⟨_, rfl⟩
      rw [← hq] at hlt ⊢
      have hqx : ¬ (q : Int) < (len : Int) := by omega
      clear hJs hnx hq hm hY
      gi_wp2
      go_end0
      exact ⟨⟨_, rfl⟩, .inl HJ.out⟩
theorem grown_drew (w : World) : w.grownBy w.drew none := ⟨rfl, rfl, rfl, Nat.le_refl _, fun _ _ _ => rfl⟩
theorem chunk_stops (n Bs Bn b len cap m : Nat) (hm : m = (len + 15) / 16) (hlc : len ≤ cap) (hcap : len ≤ 1000000) (w : World) (h1 : Bs < w.heap.size) (h2 : Bn < w.heap.size)
    (hBs : w.cell? ⟨Bs, 0, none⟩ = some (.slice (some ⟨b, 0, none⟩) len cap)) (hBn : w.cell? ⟨Bn, 0, none⟩ = some (.int .i64 16)) :
    SeqStopsK Fence.wide n Tryz.prog 82 #[.pointer (some ⟨Bs, 0, none⟩), .pointer (some ⟨Bn, 0, none⟩)] (encC b len m) (Kp3 Bs Bn b) (fun ys => ys = fins m m) (fun pre => ∃ k, k ≤ m ∧ pre = fins m k) m w := fun l J Jx W hW hJ hJx hY h0 =>
  chunk1_in n l Bs Bn b len cap m hm hlc hcap J Jx (fun pre W h => hJ pre W W.drew none h (grown_drew W) (fun r e => by cases e)) hY W ((hW.cell (p := ⟨Bs, 0, none⟩) h1).trans hBs) ((hW.cell (p := ⟨Bn, 0, none⟩) h2).trans hBn) h0
end Go.Proofs.YtcchhfkmhbjdmaaGreat
/-! Jr -/
set_option linter.unusedVariables false
set_option linter.unusedSimpArgs false
namespace Go.Proofs.YtcchhfkmhbjdmaaGreat
open Go.RowKit
theorem xbytesWorld_fr (w : World) (e : TypeId) (s : ByteArray) : Fr (fun _ => False) w (Lib.bytesWorld w e s) :=
  ⟨by simp [Lib.bytesWorld, World.freeze] <;> rfl, by simp [Lib.bytesWorld, World.freeze] <;> rfl, by simp [Lib.bytesWorld, World.freeze] <;> rfl, by rw [Lib.bytesWorld_size]; omega, fun i hi _ => Lib.bytesWorld_at_old w e s i hi⟩
/-- A row of bytes: xs, and room behind them. -/
def XRow (w : World) (g cap : Nat) (xs : List UInt8) : Prop :=
  ∃ (cur : List Value) (fr : Nat × Nat), w.heap[g]? = some (.cells (bcells xs ++ cur).toArray 5 fr) ∧ cap = xs.length + cur.length ∧ (fr = (0, 0) ∨ cap ≤ fr.1)
theorem XRow.cell {w : World} {g cap : Nat} {xs : List UInt8} (h : XRow w g cap xs) (k : Nat) (x : UInt8) (hx : xs[k]? = some x) : w.cell? ⟨g, k, none⟩ = some (.int .u8 (x.toNat : Int)) := by
  obtain ⟨cur, fr, hg, _, _⟩ := h
  have hk : k < xs.length := (List.getElem?_eq_some_iff.1 hx).1
  rw [cell_of_row w g k _ _ _ hg]
  simp only [List.getElem?_toArray]
  rw [List.getElem?_append_left (by rw [bcells_length]; exact hk)]
  simp [bcells, hx]
theorem XRow.lt {w : World} {g cap : Nat} {xs : List UInt8} (h : XRow w g cap xs) : g < w.heap.size := by
  obtain ⟨cur, fr, hg, _, _⟩ := h
  exact lt_of_heap hg
theorem XRow.fr {F : Nat → Prop} {w w' : World} {g cap : Nat} {xs : List UInt8} (h : XRow w g cap xs) (hf : Fr F w w') (hn : ¬ F g) : XRow w' g cap xs := by
  obtain ⟨cur, fr, hg, h1, h2⟩ := h
  exact ⟨cur, fr, hf.heap hg hn, h1, h2⟩
theorem xrow_conv (w : World) (l : List UInt8) : XRow (Lib.bytesWorld w 5 (str l)) w.heap.size (grownCap w (str l).size 0 5) l := by
  have h := Lib.bytesWorld_at_new w 5 (str l)
  have hle : (str l).size ≤ grownCap w (str l).size 0 5 := grownCap_ge w _ _ _
  have hc : Lib.bytesCells w 5 (str l) = (bcells l ++ List.replicate (grownCap w (str l).size 0 5 - (str l).size) (Value.int .u8 0)).toArray := by
    unfold Lib.bytesCells
    apply Array.ext'
    simp [bcells, str]
  refine ⟨List.replicate (grownCap w (str l).size 0 5 - (str l).size) (Value.int .u8 0), _, h.trans (by rw [← hc]), ?_, .inr ?_⟩
  · rw [List.length_replicate, ← str_size l]; omega
  · rw [hc, List.size_toArray, List.length_append, bcells_length, List.length_replicate, ← str_size l]; omega
theorem xsetCell_row (w : World) (g i : Nat) (cs : Array Value) (t : TypeId) (fr : Nat × Nat) (v : Value) (hg : w.heap[g]? = some (.cells cs t fr)) :
    (w.setCell ⟨g, i, none⟩ v).heap[g]? = some (.cells (cs.setIfInBounds i v) t fr) := by
  rw [setCell_eq_setRow w g i cs t fr v hg]
  show (w.heap.modify g _)[g]? = _
  simp [Array.getElem?_modify, hg]
set_option maxRecDepth 20000 in
theorem xappend_byte (w : World) (g cap : Nat) (xs : List UInt8) (h : XRow w g cap xs) (hx : xs.length ≤ 100000) (B : Nat) (x : UInt8) (ha : w.cell? ⟨B, 0, none⟩ = some (.int .u8 (x.toNat : Int))) (c : Nat) (ty : TypeId) :
    ∃ g' cap' w', (Builtin.append_ #[53, 53] ty #[.slice (some ⟨g, 0, none⟩) xs.length cap, .slice (some ⟨B, 0, none⟩) 1 c]).run Tryz.prog w = .ok (.slice (some ⟨g', 0, none⟩) (xs.length + 1) cap') w' ∧
      XRow w' g' cap' (xs ++ [x]) ∧ w.grownBy w' (some g) ∧ (g' = g ∨ g' = w.heap.size) := by
  obtain ⟨i0, hi0⟩ : ∃ i0, Tryz.prog.info? 5 = some i0 := ⟨_, rfl⟩
  have hz0 : (Tryz.prog.info? 5).map (fun i => (i.zero, i.size, i.bytes)) = some (some (.int .u8 0), 1, 1) := by kernel_rfl
  rw [hi0] at hz0
  simp only [Option.map_some, Option.some.injEq, Prod.mk.injEq] at hz0
  have hnews : ∀ j u, ([.int .u8 (x.toNat : Int)] : List Value)[j]? = some u → w.cell? ((⟨B, 0, none⟩ : Addr).add j) = some u := fun j u hj => by
    have : j = 0 := by
      have := (List.getElem?_eq_some_iff.1 hj).1
      simpa using this
    subst this
    simp at hj
    rw [← hj, Addr.add_mid]; exact ha
  by_cases hroom : xs.length + 1 ≤ cap
  · obtain ⟨cur, fr, hg, h1, h2⟩ := h
    obtain ⟨y, cur', rfl⟩ : ∃ y c, cur = y :: c := by
      cases cur with
      | nil => simp at h1; omega
      | cons y c => exact ⟨y, c, rfl⟩
    have hf := run_firstCells_some (P := Tryz.prog) w 1 1 ⟨B, 0, none⟩ 1 c [.int .u8 (x.toNat : Int)] rfl hnews
    have hcell : (w.cell? ⟨g, xs.length, none⟩).isSome = true := by
      rw [cell_of_row w g _ _ _ _ hg]
      simp [bcells_length]
    have hfz : w.frozen? ⟨g, xs.length, none⟩ = false := by
      simp only [World.frozen?, hg]
      rcases h2 with h2 | h2
      · rw [h2]; simp
      · simp; omega
    have hst := run_storeCells_cells (P := Tryz.prog) g xs.length [.int .u8 (x.toNat : Int)] 0 w (fun j hj => by
      have : j = 0 := by simpa using hj
      subst this; simpa using hcell) (fun j hj => by
      have : j = 0 := by simpa using hj
      subst this; simpa using hfz) (by simp [Value.oneCell'])
    refine ⟨g, cap, w.setCell ⟨g, xs.length, none⟩ (.int .u8 (x.toNat : Int)), ?_, ?_, ?_, .inl rfl⟩
    · simp only [Nat.add_zero, World.setCells] at hst
      simp [Builtin.append_, run_underlying Tryz.underlying53, sizeOf, typeInfo, hi0, hz0, Builtin.lenOf, hroom, hf, Addr.add_lit, hst]
    · refine ⟨cur', fr, ?_, ?_, h2⟩
      · rw [xsetCell_row w g _ _ _ _ _ hg]
        congr 2
        apply Array.ext'
        simp [bcells, List.set_append]
      · simp at h1 ⊢; omega
    · exact ⟨rfl, rfl, rfl, by simp [World.setCell], fun k hk hne => heap_setCell_other w _ k _ (fun e => hne (by rw [e]))⟩
  · have hgr := run_append_grow (P := Tryz.prog) w 53 ty 5 i0 (.int .u8 0) Tryz.underlying53 hi0 hz0.1 ⟨g, 0, none⟩ xs.length cap (bcells xs) (by rw [bcells_length, hz0.2.1]; omega) (fun j v hj => by
      rw [Addr.add_mid, Nat.zero_add]
      rw [bcells_get] at hj
      cases hxj : xs[j]? with
      | none => simp [hxj] at hj
      | some b =>
        simp [hxj] at hj
        rw [← hj]; exact h.cell j b hxj) ⟨B, 0, none⟩ 1 c [.int .u8 (x.toNat : Int)] (by simp [hz0.2.1]) hnews (by omega) (by omega) (by
      have := nextslicecap_le (need := xs.length + 1) (old := cap) (by omega)
      rw [hz0.2.2]; omega)
    refine ⟨w.heap.size, _, _, hgr, ?_, ?_, .inr rfl⟩
    · refine ⟨List.replicate (grownCap w (xs.length + 1) cap 5 - (xs.length + 1)) (.int .u8 0), (0, 0), ?_, ?_, .inl rfl⟩
      · have hn := heap_alloc_new w.drew (.cells ((bcells xs).toArray ++ [Value.int .u8 (x.toNat : Int)].toArray ++ Builtin.zeroCells (Value.int .u8 0).cells (grownCap w (xs.length + 1) cap 5 - (xs.length + 1))) 5)
        have hs : w.drew.heap.size = w.heap.size := rfl
        rw [hs] at hn
        rw [hn]
        congr 2
        apply Array.ext'
        simp [bcells, Builtin.zeroCells, Value.cells]
        apply List.ext_getElem (by simp)
        intro i h1 h2
        simp [Nat.mod_one]
      · have := grownCap_ge w (xs.length + 1) cap 5
        simp; omega
    · exact ⟨rfl, rfl, rfl, by simp, fun k hk hne => Below.heap_alloc w.drew _ k hk⟩
section
variable {ops : Array Oper} {rest : List Oper} {op : Oper} {a : Act} {w : World} {Q : Exit → Act → World → Prop}
theorem wpList_xappend (hgd : op.guard = none) (s y : Operand) (ho : op.op = .call { callee := .builtin .append, args := #[s, y], argTypes := #[53, 53] })
    (g cap : Nat) (xs : List UInt8) (h : XRow w g cap xs) (hx : xs.length ≤ 100000) (n : Nat) (hn : n = xs.length) (hs : a.eval s = .slice (some ⟨g, 0, none⟩) n cap) (B c : Nat) (hy : a.eval y = .slice (some ⟨B, 0, none⟩) 1 c)
    (x : UInt8) (ha : w.cell? ⟨B, 0, none⟩ = some (.int .u8 (x.toNat : Int)))
    (hk : ∀ g' cap' w', XRow w' g' cap' (xs ++ [x]) → w.grownBy w' (some g) → (g' = g ∨ g' = w.heap.size) → wpList Tryz.prog ops Q rest (a.put op.dst (.slice (some ⟨g', 0, none⟩) (n + 1) cap')) w') : wpList Tryz.prog ops Q (op :: rest) a w := by
  refine wpList_plain hgd fun K hK => ?_
  obtain ⟨g', cap', w', hr, h1, h2, h3⟩ := xappend_byte w g cap xs h hx B x ha c op.type
  subst hn
  unfold Oper.wp execOp
  simp only [ho, resolve, invoke, builtin, Sem.run_bind, Sem.run_pure, Result.andThen_ok, List.map_toArray, List.map_cons, List.map_nil, hs, hy, hr]
  exact hK _ _ (hk g' cap' w' h1 h2 h3)
end
end Go.Proofs.YtcchhfkmhbjdmaaGreat
/-! Pg9 -/
set_option linter.unusedVariables false
set_option linter.unusedSimpArgs false
set_option pp.deepTerms true
set_option pp.maxSteps 100000
namespace Go.Proofs.YtcchhfkmhbjdmaaGreat
open Go.RowKit Go.Shelf
attribute [local go_sem] Oper.semAt_some
theorem own_cells {w : World} {B : Nat} {v : Value} {n : Nat} {xs : List Value} (h : w.ownsRowF B 5 1 v n xs) (k : Nat) (hk : v.ownBlock = some k) : ∃ cs fz, w.heap[k]? = some (.cells cs 5 fz) := by
  rcases h.2 with ⟨hn, _⟩ | ⟨g, cap, cur, fz, rfl, hb, hgg, rest⟩
  · rw [hn] at hk; cases hk
  · cases hk; exact ⟨_, _, hgg⟩
theorem own_grown {w w' : World} {B : Nat} {v : Value} {n : Nat} {xs : List Value} {row : Option Nat} (h : w.ownsRowF B 5 1 v n xs) (hg : w.grownBy w' row) (hr : ∀ r, row = some r → ∃ o : Obj, w.heap[r]? = some o ∧ o.isCells = false) : w'.ownsRowF B 5 1 v n xs := by
  refine ⟨h.1, ?_⟩
  rcases h.2 with hn | ⟨g, cap, cur, fz, rfl, hb, hgg, rest⟩
  · exact .inl hn
  · refine .inr ⟨g, cap, cur, fz, rfl, hb, (hg.block g (lt_of_heap hgg) (fun e => ?_)).trans hgg, rest⟩
    obtain ⟨o, ho, hc⟩ := hr g e.symm
    rw [hgg] at ho; cases ho; cases hc
theorem heap_grown {w w' : World} {g : Nat} {cs : Array Value} {t : TypeId} {fz : Nat × Nat} {row : Option Nat} (h : w.heap[g]? = some (.cells cs t fz)) (hg : w.grownBy w' row) (hr : ∀ r, row = some r → ∃ o : Obj, w.heap[r]? = some o ∧ o.isCells = false) : w'.heap[g]? = some (.cells cs t fz) :=
  (hg.block g (lt_of_heap h) (fun e => by obtain ⟨o, ho, hc⟩ := hr g e.symm; rw [h] at ho; cases ho; cases hc)).trans h
theorem keepsFrom_of_fr {F : Nat → Prop} {W W' : World} (D : Nat) (h : Fr F W W') (hF : ∀ k, D ≤ k → F k → ∃ cs t fz, W.heap[k]? = some (.cells cs t fz)) : KeepsFrom D W W' :=
  ⟨h.size, fun k o hk ho hc => (h.block k (lt_of_heap ho) (fun hf => by obtain ⟨cs, t, fz, he⟩ := hF k hk hf; rw [he] at ho; cases ho; cases hc)).trans ho⟩
/-- Between two rounds. -/
def BodyI (Wd nonce t : List UInt8) (m : Nat) (w0 : World) (Bd Jb : Nat) (pre : List (Fin m)) (W : World) : Prop :=
  Fr (fun k => k = Bd ∨ k = Jb) w0 W ∧ W.heap[Jb]? = some (.cells #[.int .i64 ((2 + pre.length : Nat) : Int)] 3 (0, 0)) ∧
  ∃ p v, (p = .pointer none ∨ p = .pointer (some ⟨Bd, 0, none⟩)) ∧ W.heap[Bd]? = some (.cells #[p, v] 57 (0, 0)) ∧
    W.ownsRowF w0.heap.size 5 1 v (bodyX Wd nonce t (pre.map Fin.val)).length (bcells (bodyX Wd nonce t (pre.map Fin.val)))
theorem bodyI_own (Wd nonce t : List UInt8) (m : Nat) (w0 : World) (Bd Jb : Nat) : OwnFrom w0.heap.size (BodyI Wd nonce t m w0 Bd Jb) := by
  rintro s A B row ⟨h1, h2, p, v, h3, h4, h5⟩ hg hr
  exact ⟨h1.grown hg (fun k hk => .inr (hr k hk).1), heap_grown h2 hg (fun r e => (hr r e).2), p, v, h3, heap_grown h4 hg (fun r e => (hr r e).2), own_grown h5 hg (fun r e => (hr r e).2)⟩
set_option maxRecDepth 100000 in
set_option maxHeartbeats 2000000 in
theorem body_calls (S : Nat) (key nonce t : List UInt8) (ht : t.length ≤ 100000) (hn : nonce.length = 12) (w : World) (hS : Sea w S key nonce) :
    Calls Tryz.prog 31 #[.pointer (some ⟨S, 0, none⟩), .string (str t)] w fun e w' => e = .returned (.string (str (bodyL (words key 52) nonce t))) ∧ Fr (fun _ => False) w w' := by
  obtain ⟨T, hT⟩ : ∃ T, T = str t := ⟨_, rfl⟩
  rw [← hT]
  refine (callsIn_wide (n := 3)).1 ?_
  refine callsIn_of_wp_marks Tryz.func31 rfl trivial ?_ rfl
  simp only [Tryz.ntmps31, List.size_toArray, List.length_cons, List.length_nil, Nat.reduceAdd, Nat.reduceSub, Array.replicate_succ, Array.replicate_zero, List.push_toArray, List.append_toArray, List.nil_append, List.cons_append]
  have hconv : ∀ w : World, (convert 9 53 (.string T)).run Tryz.prog w = .ok (.slice (some ⟨w.heap.size, 0, none⟩) T.size (grownCap w T.size 0 5)) (Lib.bytesWorld w 5 T) := fun w =>
    Lib.run_convert_string_bytes (P := Tryz.prog) w 9 53 5 T Tryz.underlying9 Tryz.underlying53 Tryz.underlying5
  have HT := Lib.hid hT
  have HS := Lib.hid hS
  clear hT hS
  gi_wp2_with fail
  obtain ⟨w3, hw3⟩ : ∃ w3, w3 = ((w.alloc (.cells #[.pointer (some ⟨S, 0, none⟩)] 66)).alloc (.cells #[.pointer none, .slice none 0 0] 57)).alloc (.cells #[.int .i64 2] 3) := ⟨_, rfl⟩
  rw [← hw3]
  have hsz3 : w3.heap.size = w.heap.size + 1 + 1 + 1 := by rw [hw3]; simp
  have hA3 : w3.heap[w.heap.size]? = some (.cells #[.pointer (some ⟨S, 0, none⟩)] 66 (0, 0)) := by
    rw [hw3]; exact (((Fr.refl (fun _ => False) _).alloc _).alloc _).heap (heap_alloc_new w _) id
  have hB3 : w3.heap[w.heap.size + 1]? = some (.cells #[.pointer none, .slice none 0 0] 57 (0, 0)) := by
    rw [hw3]
    have h := heap_alloc_new (w.alloc (.cells #[.pointer (some ⟨S, 0, none⟩)] 66)) (.cells #[.pointer none, .slice none 0 0] 57)
    rw [World.size_alloc] at h
    exact ((Fr.refl (fun _ => False) _).alloc _).heap h id
  have hJ3 : w3.heap[w.heap.size + 1 + 1]? = some (.cells #[.int .i64 2] 3 (0, 0)) := by
    rw [hw3]
    have h := heap_alloc_new ((w.alloc (.cells #[.pointer (some ⟨S, 0, none⟩)] 66)).alloc (.cells #[.pointer none, .slice none 0 0] 57)) (.cells #[.int .i64 2] 3)
    simp only [World.size_alloc] at h
    exact h
  have hF3 : Fr (fun _ => False) w w3 := by rw [hw3]; exact (((Fr.refl _ _).alloc _).alloc _).alloc _
  obtain ⟨cap, hcap⟩ : ∃ c, c = grownCap w3 T.size 0 5 := ⟨_, rfl⟩
  have hX4 : XRow (Lib.bytesWorld w3 5 T) (w.heap.size + 1 + 1 + 1) cap t := by
    have h := xrow_conv w3 t
    rw [← HT.out, hsz3, ← hcap] at h
    exact h
  have hF4 : Fr (fun _ => False) w3 (Lib.bytesWorld w3 5 T) := xbytesWorld_fr w3 5 T
  have hsz4 : (Lib.bytesWorld w3 5 T).heap.size = w.heap.size + 1 + 1 + 1 + 1 := by rw [Lib.bytesWorld_size, hsz3]
  rw [← hcap]
  have hcl : T.size ≤ cap := by rw [hcap]; exact grownCap_ge w3 _ _ _
  generalize Lib.bytesWorld w3 5 T = w4 at hX4 hF4 hsz4 ⊢
  have hTs : T.size = t.length := by rw [HT.out, str_size]
  refine ⟨trivial, CallsIn.mono (callsIn_wide.2 (chunk_calls _ _ _ _)) ?_⟩
  rintro e w' ⟨rfl, hw'⟩
  rw [hsz4]
  have hs6 : w'.heap[w.heap.size + 1 + 1 + 1 + 1]? = some (.cells #[.slice (some ⟨w.heap.size + 1 + 1 + 1, 0, none⟩) T.size cap] 53 (0, 0)) := by
    have h := heap_alloc_new w4 (.cells #[.slice (some ⟨w.heap.size + 1 + 1 + 1, 0, none⟩) T.size cap] 53)
    rw [hsz4] at h
    rw [hw']; exact ((Fr.refl (fun _ => False) _).alloc _).heap h id
  have hn6 : w'.heap[w.heap.size + 1 + 1 + 1 + 1 + 1]? = some (.cells #[.int .i64 16] 3 (0, 0)) := by
    have h := heap_alloc_new (w4.alloc (.cells #[.slice (some ⟨w.heap.size + 1 + 1 + 1, 0, none⟩) T.size cap] 53)) (.cells #[.int .i64 16] 3)
    rw [World.size_alloc, hsz4] at h
    rw [hw']; exact h
  have hF6 : Fr (fun _ => False) w4 w' := by rw [hw']; exact ((Fr.refl _ _).alloc _).alloc _
  have hsz6 : w'.heap.size = w.heap.size + 1 + 1 + 1 + 1 + 1 + 1 := by rw [hw']; simp [hsz4]
  clear hw' hw3
  have hFw : Fr (fun _ => False) w w' := (hF3.trans hF4 (fun i hi => hi.elim)).trans hF6 (fun i hi => hi.elim)
  have hF36 : Fr (fun _ => False) w3 w' := hF4.trans hF6 (fun i hi => hi.elim)
  have HA := Lib.hid (hF36.heap hA3 id)
  have HB := Lib.hid (hF36.heap hB3 id)
  have HJ := Lib.hid (hF36.heap hJ3 id)
  have HX := Lib.hid (hX4.fr hF6 id)
  have HSl := Lib.hid hs6
  have HN6 := Lib.hid hn6
  have HFw := Lib.hid hFw
  have HSz := Lib.hid hsz6
  have HTs := Lib.hid hTs
  have HCl := Lib.hid hcl
  have HSea := Lib.hid (HS.out.fr hFw)
  clear hA3 hB3 hJ3 hF3 hX4 hF4 hsz4 hs6 hn6 hF6 hFw hF36 hsz6 hTs hcap hcl hsz3 hconv
  gi_wp2
  obtain ⟨m, hm⟩ : ∃ m, m = (t.length + 15) / 16 := ⟨_, rfl⟩
  have HM := Lib.hid hm
  have h00 : BodyI (words key 52) nonce t m w' (w.heap.size + 1) (w.heap.size + 1 + 1) [] w' := ⟨Fr.refl _ _, HJ.out, _, _, .inl rfl, HB.out, rfl, .inl ⟨rfl, rfl⟩⟩
  refine wpIn_rangeFunc_ownG (α := Fin m) rfl (by omega) (gf := 82) (lb := #[.pointer (some ⟨w.heap.size + 1 + 1 + 1 + 1, 0, none⟩), .pointer (some ⟨w.heap.size + 1 + 1 + 1 + 1 + 1, 0, none⟩)]) rfl trivial (enters_of Tryz.func82 (by kernel_rfl) rfl)
    (chunk_stops _ (w.heap.size + 1 + 1 + 1 + 1) (w.heap.size + 1 + 1 + 1 + 1 + 1) (w.heap.size + 1 + 1 + 1) T.size cap m (by rw [HTs.out]; exact hm) HCl.out (by have := HTs.out; omega) w' (by have := HSz.out; omega) (by have := HSz.out; omega)
      ((cell_of_row _ _ 0 _ _ _ HSl.out).trans rfl) ((cell_of_row _ _ 0 _ _ _ HN6.out).trans rfl))
    (fun h k => h.trans k) (fun W l o o' hl ho _ _ => ⟨by simp, fun k hk => World.putObj_heap_other (by have := HSz.out; omega)⟩) (Below.refl _ _) (fun _ => rfl)
    (BodyI (words key 52) nonce t m w' (w.heap.size + 1) (w.heap.size + 1 + 1)) (fun _ _ _ => False) (bodyI_own _ _ _ _ _ _ _) (fun _ _ _ _ _ hs _ _ => hs) h00
    (fun x => { tmps := #[.pointer (some ⟨S, 0, none⟩), .string T, .pointer (some ⟨w.heap.size, 0, none⟩), undef, .string ⟨#[]⟩, .pointer (some ⟨w.heap.size + 1, 0, none⟩), .pointer (some ⟨w.heap.size + 1 + 1, 0, none⟩),
      .slice (some ⟨w.heap.size + 1 + 1 + 1, 16 * x.1, none⟩) (min 16 (T.size - 16 * x.1)) (min 16 (T.size - 16 * x.1)), .string T, .slice (some ⟨w.heap.size + 1 + 1 + 1, 0, none⟩) T.size cap,
      .func (.func 82) #[] #[.pointer (some ⟨w.heap.size + 1 + 1 + 1 + 1, 0, none⟩), .pointer (some ⟨w.heap.size + 1 + 1 + 1 + 1 + 1, 0, none⟩)],
      .slice (some ⟨w.heap.size + 1 + 1 + 1, 16 * x.1, none⟩) (min 16 (T.size - 16 * x.1)) (min 16 (T.size - 16 * x.1)), undef, undef, undef, undef, undef, undef, undef, undef, undef, undef, undef, undef, undef], defers := [] }) ?assign ?body ?done ?stop
  case assign =>
    intro l x W K hK
    unfold encC
    gi_wp2
    exact hK
  case stop =>
    rintro D c pre W _ _ h _
    exact h.elim
  case done =>
    rintro D ys W hD rfl ⟨hf, hj, p, v, hp, hb, ho⟩ hK
    rw [fins_val, bodyX_range, bodyN_all _ _ _ _ (by rw [hm]; omega)] at ho
    have hFW : Fr (fun _ => False) w W := HFw.out.trans hf (fun i hi => .inr (by rcases hi with rfl | rfl <;> omega))
    have HFW := Lib.hid hFW
    have HStr := Lib.hid (builder_string w'.heap.size (w.heap.size + 1) p v hp _ W hb ho (by have := HSz.out; omega) (by have := hf.size; have := HSz.out; omega))
    have HK := Lib.hid hK
    clear hf hj hp hb ho hFW hK h00
    gi_wp2
    refine ⟨trivial, CallsIn.mono (callsIn_wide.2 HStr.out) ?_⟩
    rintro e W2 ⟨rfl, hbl, hok⟩
    have hK2 : W2.heap[D]? = some (.deferred (some [])) := hok D _ HK.out (by intro h; have := Option.some.inj h; have := HSz.out; omega) (fun _ _ h => by cases h)
    have HF2 := Lib.hid (show Fr (fun _ => False) w W2 from HFW.out.trans (G := fun k => w.heap.size ≤ k) ⟨hbl.os, hbl.tape, hbl.output, hbl.size, fun i hi hn => hbl.block i (by omega)⟩ (fun i hi => .inr hi))
    clear hbl hok
    gi_wp2
    refine ⟨by simp, .inl ⟨_, _, rfl, run_takeDeferred hK2, ?_⟩⟩
    exact ⟨_, results_tmp rfl _ _ _, rfl, HF2.out.grown (grownBy_putObj' W2 D _) (fun k e => by cases e; exact .inr (by have := HSz.out; omega))⟩
  case body =>
    rintro l pre x W ⟨hf, hj, p, v, hp, hb, ho⟩ hlen
    have hFW : Fr (fun _ => False) w W.drew := (HFw.out.trans hf (fun i hi => .inr (by rcases hi with rfl | rfl <;> omega))).drew
    have hsz := HSz.out
    obtain ⟨P, N, C, hS1, hP1, hN1, hC1⟩ := HS.out.fr hFW
    have hX1 : XRow W.drew (w.heap.size + 1 + 1 + 1) cap t := (HX.out.fr hf (by rintro (h | h) <;> omega)).fr (Fr.refl (fun _ => False) W).drew id
    have hA1 : W.drew.heap[w.heap.size]? = some (.cells #[.pointer (some ⟨S, 0, none⟩)] 66 (0, 0)) := hf.heap HA.out (by rintro (h | h) <;> omega)
    have hJ1 : W.drew.heap[w.heap.size + 1 + 1]? = some (.cells #[.int .i64 ((2 + pre.length : Nat) : Int)] 3 (0, 0)) := hj
    have hlim : pre.length ≤ 10000 := by omega
    obtain ⟨k, hkm⟩ := x
    dsimp only
    have hk16 : 16 * k < t.length := by omega
    obtain ⟨q, hq⟩ : ∃ q, q = 16 * k := ⟨_, rfl⟩
    obtain ⟨c, hc⟩ : ∃ c, c = min 16 (T.size - q) := ⟨_, rfl⟩
    obtain ⟨j, hjd⟩ : ∃ j, j = 2 + pre.length := ⟨_, rfl⟩
    obtain ⟨CH, hCH⟩ : ∃ s, s = str (chunk t k) := ⟨_, rfl⟩
    obtain ⟨CT, hCT⟩ : ∃ s, s = str (ctr (words key 52) nonce j) := ⟨_, rfl⟩
    obtain ⟨TU, hTU⟩ : ∃ s, s = str (turnL (chunk t k) (ctr (words key 52) nonce j)) := ⟨_, rfl⟩
    have HConv := Lib.hid (show ∀ W', Fr (fun _ => False) W.drew W' → (convert 53 9 (.slice (some ⟨w.heap.size + 1 + 1 + 1, q, none⟩) c c)).run Tryz.prog W' = .ok (.string CH) W' from fun W' hW => by
      rw [hCH]
      refine run_convert_str (P := Tryz.prog) W' 53 5 Tryz.underlying53 Tryz.underlying5 (w.heap.size + 1 + 1 + 1) q c c (chunk t k) (by rw [chunk_length, hc, HTs.out, hq]) (fun i v hi => ?_) 9 Tryz.underlying9
      rw [bcells_get] at hi
      have hil : i < (chunk t k).length := by
        rcases Nat.lt_or_ge i (chunk t k).length with h | h
        · exact h
        · rw [List.getElem?_eq_none h] at hi; cases hi
      rw [List.getElem?_eq_getElem hil] at hi
      cases hi
      refine (hX1.fr hW id).cell (q + i) _ ?_
      have h16 : i < 16 := by rw [chunk_length] at hil; omega
      rw [hq]
      simp [chunk]
      )
    have HCount := Lib.hid (show ∀ W', Fr (fun _ => False) W.drew W' → Calls Tryz.prog 51 #[.int .i64 (j : Int), .pointer (some ⟨P, 0, none⟩), .pointer (some ⟨N, 0, none⟩)] W' fun e w' => e = .returned (.string CT) ∧ Fr (fun _ => False) W' w' from fun W' hW => by
      rw [hCT]; exact count_calls C P N (words key 52) nonce hn j (by omega) W' (hC1.fr hW id) (hW.heap hP1 id) (hW.heap hN1 id))
    have HTurn := Lib.hid (show ∀ W', Calls Tryz.prog 54 #[.string CH, .string CT] W' fun e w' => e = .returned (.string TU) ∧ Fr (fun _ => False) W' w' from fun W' => by
      rw [hCH, hCT, hTU]; exact gturn_calls _ _ (by rw [chunk_length]; omega) (by rw [ctr_length]; omega) W')
    have HXL := Lib.hid (bodyX_length (words key 52) nonce t (pre.map Fin.val))
    obtain ⟨D0, hD0⟩ : ∃ d, d = w'.heap.size := ⟨_, rfl⟩
    rw [← hD0] at ho
    have HWr := Lib.hid (show ∀ W', Fr (fun _ => False) W.drew W' → Calls Tryz.prog 27 #[.pointer (some ⟨w.heap.size + 1, 0, none⟩), .string TU] W' fun e w2 => (∃ u, e = .returned u) ∧ (∃ v', w2.heap[w.heap.size + 1]? = some (.cells #[.pointer (some ⟨w.heap.size + 1, 0, none⟩), v'] 57 (0, 0)) ∧ w2.ownsRowF D0 5 1 v' (bodyX (words key 52) nonce t ((pre ++ [(⟨k, hkm⟩ : Fin m)]).map Fin.val)).length (bcells (bodyX (words key 52) nonce t ((pre ++ [(⟨k, hkm⟩ : Fin m)]).map Fin.val)))) ∧ Fr (fun k => k = w.heap.size + 1 ∨ v.ownBlock = some k) W' w2 from fun W' hW => by
      have hW0 : Fr (fun _ => False) W W' := ((Fr.refl (fun _ => False) W).drew).trans hW (fun i hi => hi.elim)
      have h := builder_write D0 (w.heap.size + 1) p v hp (bodyX (words key 52) nonce t (pre.map Fin.val)) (turnL (chunk t k) (ctr (words key 52) nonce j)) W' (hW0.heap hb id) (own_keep ho hW0 (fun _ _ => id)) (by omega) (by have := hf.size; have := hW0.size; omega) (by have h1 := HXL.out; rw [List.length_map] at h1; rw [turnL_length, ctr_length]; omega)
      rw [← hTU] at h
      rw [List.map_append, List.map_cons, List.map_nil, bodyX_snoc, List.length_map, ← hjd]
      exact h)
    have HOC := Lib.hid (show ∀ k, v.ownBlock = some k → D0 ≤ k ∧ ∃ cs fz, W.heap[k]? = some (.cells cs 5 fz) from fun k hk => ⟨own_ge ho k hk, own_cells ho k hk⟩)
    have cA : ∀ W', Fr (fun _ => False) W.drew W' → W'.cell? ⟨w.heap.size, 0, none⟩ = some (.pointer (some ⟨S, 0, none⟩)) := fun W' hW => (cell_of_row W' _ 0 _ _ _ (hW.heap hA1 id)).trans rfl
    have cS : ∀ W', Fr (fun _ => False) W.drew W' → W'.cell? ⟨S, 2, none⟩ = some (.func (.func 51) #[] #[.pointer (some ⟨P, 0, none⟩), .pointer (some ⟨N, 0, none⟩)]) := fun W' hW => (cell_of_row W' _ 2 _ _ _ (hW.heap hS1 id)).trans rfl
    have cJ : ∀ W', Fr (fun _ => False) W.drew W' → W'.cell? ⟨w.heap.size + 1 + 1, 0, none⟩ = some (.int .i64 (j : Int)) := fun W' hW => (cell_of_row W' _ 0 _ _ _ (hW.heap hJ1 id)).trans (by rw [hjd]; rfl)
    have HcA := Lib.hid cA
    have HcS := Lib.hid cS
    have HcJ := Lib.hid cJ
    have HF := Lib.hid hf
    have HJJ := Lib.hid (show j = 2 + pre.length ∧ j ≤ 20000 by omega)
    have HFW := Lib.hid (show Fr (fun _ => False) W W.drew from (Fr.refl _ _).drew)
    have HSF := Lib.hid (show ∀ W', Fr (fun _ => False) W.drew W' → W'.heap[w.heap.size + 1 + 1]? = some (.cells #[.int .i64 (j : Int)] 3 (0, 0)) from fun W' hW => by rw [hjd]; exact hW.heap hJ1 id)
    have HKp := Lib.hid (show w'.heap.size ≤ W.heap.size from hf.size)
    have HD0 := Lib.hid hD0
    rw [← hq, ← hc]
    clear cA cS cJ hf hj hp hb ho hFW hS1 hP1 hN1 hC1 hX1 hA1 hJ1 hq hc hjd hCH hCT hTU hlim hlen hk16 hsz h00 hD0
    have HS0 := Lib.hid (Fr.refl (fun _ => False) W.drew)
    gi_wp2
    refine wpIn_region_till (fun W' => Fr (fun _ => False) W.drew W') 8 (by kernel_rfl) (by kernel_rfl) (fun _ _ h => h) ?_
    refine wpAnyT_take (i := 0) (n := 9) (v := .slice (some ⟨w.heap.size + 1 + 1 + 1, q, none⟩) c c) rfl (by kernel_rfl) (fun _ _ _ h => h) HS0.out (yieldsIf_plain rfl (fun W' hW => by clear hW; go_simp)) ?_
    simp only [List.getElem_toArray, List.getElem_cons_succ, List.getElem_cons_zero, Act.put, List.setIfInBounds_toArray, List.set_cons_zero, List.set_cons_succ]
    refine wpAnyT_take (i := 1) (n := 9) (v := .string CH) rfl (by kernel_rfl) (fun _ _ _ h => h) HS0.out (yieldsIf_plain rfl (fun W' hW => by have h1 := HConv.out W' hW; clear hW; go_simp)) ?_
    simp only [List.getElem_toArray, List.getElem_cons_succ, List.getElem_cons_zero, Act.put, List.setIfInBounds_toArray, List.set_cons_zero, List.set_cons_succ]
    refine wpAnyT_take (i := 2) (n := 9) (v := .pointer (some ⟨S, 0, none⟩)) rfl (by kernel_rfl) (fun _ _ _ h => h) HS0.out (yieldsIf_plain rfl (fun W' hW => by have h1 := HcA.out W' hW; clear hW; go_simp)) ?_
    simp only [List.getElem_toArray, List.getElem_cons_succ, List.getElem_cons_zero, Act.put, List.setIfInBounds_toArray, List.set_cons_zero, List.set_cons_succ]
    refine wpAnyT_take (i := 3) (n := 9) (v := .pointer (some ⟨S, 0, none⟩)) rfl (by kernel_rfl) (fun _ _ _ h => h) HS0.out (yieldsIf_plain rfl (fun W' hW => by clear hW; go_simp)) ?_
    simp only [List.getElem_toArray, List.getElem_cons_succ, List.getElem_cons_zero, Act.put, List.setIfInBounds_toArray, List.set_cons_zero, List.set_cons_succ]
    refine wpAnyT_take (i := 4) (n := 9) (v := .pointer (some ⟨S, 2, none⟩)) rfl (by kernel_rfl) (fun _ _ _ h => h) HS0.out (yieldsIf_plain rfl (fun W' hW => by clear hW; go_simp)) ?_
    simp only [List.getElem_toArray, List.getElem_cons_succ, List.getElem_cons_zero, Act.put, List.setIfInBounds_toArray, List.set_cons_zero, List.set_cons_succ]
    refine wpAnyT_take (i := 5) (n := 9) (v := .func (.func 51) #[] #[.pointer (some ⟨P, 0, none⟩), .pointer (some ⟨N, 0, none⟩)]) rfl (by kernel_rfl) (fun _ _ _ h => h) HS0.out (yieldsIf_plain rfl (fun W' hW => by have h1 := HcS.out W' hW; clear hW; go_simp)) ?_
    simp only [List.getElem_toArray, List.getElem_cons_succ, List.getElem_cons_zero, Act.put, List.setIfInBounds_toArray, List.set_cons_zero, List.set_cons_succ]
    refine wpAnyT_take (i := 6) (n := 9) (v := .int .i64 (j : Int)) rfl (by kernel_rfl) (fun _ _ _ h => h) HS0.out (yieldsIf_plain rfl (fun W' hW => by have h1 := HcJ.out W' hW; clear hW; go_simp)) ?_
    simp only [List.getElem_toArray, List.getElem_cons_succ, List.getElem_cons_zero, Act.put, List.setIfInBounds_toArray, List.set_cons_zero, List.set_cons_succ]
    refine wpAnyT_one (i := 7) rfl (by kernel_rfl) (wpOp_plain rfl rfl (fun K hK => ?_))
    simp only [List.getElem_toArray, List.getElem_cons_succ, List.getElem_cons_zero, Act.put, List.setIfInBounds_toArray, List.set_cons_zero, List.set_cons_succ]
    have HKK := Lib.hid hK
    clear hK
    go_wp2_with fail
    refine (HCount.out _ HS0.out).mono ?_
    rintro e W3 ⟨rfl, f3⟩
    have HS3 := Lib.hid f3
    clear f3
    go_wp2_with fail
    refine HKK.out _ _ ⟨fun _ => HS3.out, ?_⟩
    clear HKK K
    try simp only [List.getElem_toArray, List.getElem_cons_succ, List.getElem_cons_zero, Act.put, List.setIfInBounds_toArray, List.set_cons_zero, List.set_cons_succ]
    refine wpAnyT_of_any trivial [8, 9] _ _ _ _ (by kernel_rfl) (by simp) (.inr rfl) ?_
    simp only [List.filterMap_cons, List.filterMap_nil, List.getElem?_toArray, List.getElem?_cons_zero, List.getElem?_cons_succ]
    go_wp2_with fail
    refine (HTurn.out W3).mono ?_
    rintro e W4 ⟨rfl, f4⟩
    have HS4 := Lib.hid (HS3.out.trans f4 (fun i hi => hi.elim))
    clear f4
    go_wp2_with fail
    refine (HWr.out W4 HS4.out).mono ?_
    rintro e W5 ⟨⟨u, rfl⟩, ⟨v', hb5, ho5⟩, f5⟩
    have hj5 : W5.heap[w.heap.size + 1 + 1]? = some (.cells #[.int .i64 (j : Int)] 3 (0, 0)) := f5.heap (HSF.out W4 HS4.out) (by
      rintro (h | h)
      · omega
      · have := (HOC.out _ h).1; have := HD0.out; have := HSz.out; omega)
    have c5 : W5.cell? ⟨w.heap.size + 1 + 1, 0, none⟩ = some (.int .i64 (j : Int)) := (cell_of_row W5 _ 0 _ _ _ hj5).trans rfl
    have z5 : W5.frozen? ⟨w.heap.size + 1 + 1, 0, none⟩ = false := frozen_of_row W5 _ _ _ _ hj5
    obtain ⟨j1, hj1⟩ : ∃ x, x = j + 1 := ⟨_, rfl⟩
    have hw1 : IntKind.i64.wrap ((j : Int) + 1) = (j1 : Int) := by rw [IntWalk.i64_in _ (by have := HJJ.out; omega)]; omega
    have f6 : Fr (fun k => k = w.heap.size + 1 + 1) W5 (W5.setCell ⟨w.heap.size + 1 + 1, 0, none⟩ (.int .i64 (j1 : Int))) := (Fr.refl _ _).setCell _ _ (.inl rfl)
    have HJ6 := Lib.hid (show (W5.setCell ⟨w.heap.size + 1 + 1, 0, none⟩ (.int .i64 (j1 : Int))).heap[w.heap.size + 1 + 1]? = some (.cells #[.int .i64 (j1 : Int)] 3 (0, 0)) from heap_setCell_same W5 _ 0 _ _ _ hj5)
    have HB6 := Lib.hid (f6.heap hb5 (by omega))
    have HO6 := Lib.hid (own_keep ho5 f6 (fun k hk => by have := own_ge ho5 k hk; have := HD0.out; have := HSz.out; omega))
    have HW6 := Lib.hid (show Fr (fun k => k = w.heap.size + 1 ∨ k = w.heap.size + 1 + 1 ∨ v.ownBlock = some k) W (W5.setCell ⟨w.heap.size + 1 + 1, 0, none⟩ (.int .i64 (j1 : Int))) from
      (((HFW.out.trans HS4.out (fun i hi => hi.elim)).mono (fun i hi => hi.elim)).trans f5 (fun i hi => .inl (by rcases hi with h | h; exact .inl h; exact .inr (.inr h)))).trans f6 (fun i hi => .inl (.inr (.inl hi))))
    have HJ1 := Lib.hid hj1
    clear hb5 ho5 f5 hj5 f6 hj1
    go_wp2_with fail
    gi_wp2
    have hsz := HSz.out
    have hd0 := HD0.out
    have hkp := HKp.out
    have hno : ∀ i, i < w'.heap.size → i ≠ w.heap.size + 1 → i ≠ w.heap.size + 1 + 1 → ¬ (i = w.heap.size + 1 ∨ i = w.heap.size + 1 + 1 ∨ v.ownBlock = some i) := fun i hi h1 h2 h => by
      rcases h with h | h | h
      · exact h1 h
      · exact h2 h
      · have := (HOC.out i h).1; omega
    refine ⟨keepsFrom_of_fr _ HW6.out (fun i hi hF => ?_), Kp3.of_fr HW6.out ⟨by omega, hno _ (by omega) (by omega) (by omega)⟩ ⟨by omega, hno _ (by omega) (by omega) (by omega)⟩ ⟨by omega, hno _ (by omega) (by omega) (by omega)⟩, ?_⟩
    · rcases hF with h | h | h
      · omega
      · omega
      · obtain ⟨cs, fz, he⟩ := (HOC.out i h).2
        exact ⟨cs, 5, fz, he⟩
    · refine ⟨HF.out.trans HW6.out (fun i hi => ?_), ?_, _, v', .inr rfl, HB6.out, ?_⟩
      · rcases hi with h | h | h
        · exact .inl (.inl h)
        · exact .inl (.inr h)
        · exact .inr (by have := (HOC.out i h).1; omega)
      · have e : (j1 : Int) = ((2 + (pre ++ [(⟨k, hkm⟩ : Fin m)]).length : Nat) : Int) := by
          rw [List.length_append, List.length_cons, List.length_nil, HJ1.out, HJJ.out.1]; omega
        rw [← e]; exact HJ6.out
      · rw [← hd0]; exact HO6.out
end Go.Proofs.YtcchhfkmhbjdmaaGreat
