/- The tag: the walk. -/
import Derived.Test.YtcchhfkmhbjdmaaPg9
set_option linter.unusedVariables false
set_option linter.unusedSimpArgs false
set_option pp.deepTerms true
set_option pp.maxSteps 100000
namespace Go.Proofs.Ytcchhfkmhbjdmaa
open Go.RowKit
theorem chunk_drop (all : List UInt8) (k : Nat) : (all.drop (16 * k)).take 16 = chunk all k ∧ (all.drop (16 * k)).drop 16 = all.drop (16 * (k + 1)) := by
  refine ⟨rfl, ?_⟩
  rw [List.drop_drop]; rfl
def strSize : Value → Nat
  | .string s => s.size
  | _ => 0
theorem sea_lt {w : World} {S : Nat} {key nonce : List UInt8} (h : Sea w S key nonce) : S < w.heap.size := by
  obtain ⟨P, N, C, h1, _⟩ := h
  exact lt_of_heap h1
set_option maxRecDepth 100000 in
set_option maxHeartbeats 2000000 in
theorem tag_calls (S : Nat) (key nonce beside body : List UInt8) (hb : beside.length ≤ 100000) (hy : body.length ≤ 100000) (hn : nonce.length = 12) (w : World) (hS : Sea w S key nonce) :
    Calls Try.prog 86 #[.pointer (some ⟨S, 0, none⟩), .string (str beside), .string (str body)] w fun e w' => e = .returned (.string (str (tagL key nonce beside body))) ∧ Fr (fun _ => False) w w' := by
  obtain ⟨BS, hBS⟩ : ∃ t, t = str beside := ⟨_, rfl⟩
  obtain ⟨BO, hBO⟩ : ∃ t, t = str body := ⟨_, rfl⟩
  obtain ⟨FB, hFB⟩ : ∃ t, t = str (fillL beside) := ⟨_, rfl⟩
  obtain ⟨FO, hFO⟩ : ∃ t, t = str (fillL body) := ⟨_, rfl⟩
  obtain ⟨LE, hLE⟩ : ∃ t, t = str (lensL beside.length body.length) := ⟨_, rfl⟩
  obtain ⟨F2, hF2⟩ : ∃ t, t = str (fillL beside ++ fillL body) := ⟨_, rfl⟩
  obtain ⟨AL, hAL⟩ : ∃ t, t = str (allL beside body) := ⟨_, rfl⟩
  obtain ⟨m, hm⟩ : ∃ m, m = beside.length := ⟨_, rfl⟩
  obtain ⟨n, hnn⟩ : ∃ n, n = body.length := ⟨_, rfl⟩
  have hsb : BS.size = m := by rw [hBS, str_size, hm]
  have hso : BO.size = n := by rw [hBO, str_size, hnn]
  obtain ⟨xa, hxa⟩ : ∃ x, x = UInt64.ofNat (8 * m) := ⟨_, rfl⟩
  obtain ⟨xb, hxb⟩ : ∃ x, x = UInt64.ofNat (8 * n) := ⟨_, rfl⟩
  have em : IntKind.u64.wrap (m : Int) = (m : Int) := by rw [wrap_u64']; omega
  have en : IntKind.u64.wrap (n : Int) = (n : Int) := by rw [wrap_u64']; omega
  have ea : IntKind.u64.wrap (8 * (m : Int)) = (xa.toNat : Int) := by rw [wrap_u64', hxa]; simp
  have eb : IntKind.u64.wrap (8 * (n : Int)) = (xb.toNat : Int) := by rw [wrap_u64', hxb]; simp
  have em2 : (m : Int) % 18446744073709551616 = (m : Int) := by omega
  have en2 : (n : Int) % 18446744073709551616 = (n : Int) := by omega
  have ea2 : (8 * (m : Int)) % 18446744073709551616 = (xa.toNat : Int) := by rw [← ea, wrap_u64']
  have eb2 : (8 * (n : Int)) % 18446744073709551616 = (xb.toNat : Int) := by rw [← eb, wrap_u64']
  have hap1 : FB ++ FO = F2 := by rw [hFB, hFO, hF2, jstr_append]
  have hap2 : F2 ++ LE = AL := by rw [hF2, hLE, hAL, jstr_append]; rfl
  have hfl1 := (fillL_length beside).2
  have hfl2 := (fillL_length body).2
  have hall := allL_length beside body
  have hsf1 : FB.size ≤ 100015 := by rw [hFB, str_size]; omega
  have hsf2 : FO.size ≤ 100015 := by rw [hFO, str_size]; omega
  have hsf3 : LE.size = 16 := by rw [hLE, str_size]; exact text_length _
  have hsf4 : F2.size ≤ 300000 := by rw [hF2, str_size, List.length_append]; omega
  have hb1 : ¬ 9223372036854775807 < FB.size + FO.size := by omega
  have hb2 : FB.size + FO.size ≤ 9223372036854775807 := by omega
  have hb3 : ¬ 9223372036854775807 < F2.size + LE.size := by omega
  have hb4 : F2.size + LE.size ≤ 9223372036854775807 := by omega
  have HFB := Lib.hid (show ∀ w, Calls Try.prog 118 #[.string BS] w fun e w' => e = .returned (.string FB) ∧ Fr (fun _ => False) w w' from fun w => by rw [hBS, hFB]; exact fill_calls _ (by omega) w)
  have HFO := Lib.hid (show ∀ w, Calls Try.prog 118 #[.string BO] w fun e w' => e = .returned (.string FO) ∧ Fr (fun _ => False) w w' from fun w => by rw [hBO, hFO]; exact fill_calls _ (by omega) w)
  have HLE := Lib.hid (show ∀ w, Calls Try.prog 91 #[.agg #[.int .u64 (xa.toNat : Int), .int .u64 (xb.toNat : Int)]] w fun e w' => e = .returned (.string LE) ∧ Fr (fun _ => False) w w' from fun w => by
    rw [hLE]; have h := text_calls ⟨xa, xb⟩ w; unfold lensL; rw [← hm, ← hnn, ← hxa, ← hxb]; exact h)
  have HALd := Lib.hid hAL
  have HALL := Lib.hid hall
  have HS := Lib.hid hS
  rw [← hBS, ← hBO]
  have bxa := xa.toNat_lt
  have bxb := xb.toNat_lt
  clear hBS hBO hFB hFO hLE hF2 hAL hm hnn hxa hxb hfl1 hfl2 hall hS
  go_enter Try.func86, Try.ntmps86
  go_wp2
  obtain ⟨h0, h1, hf⟩ := two_alloc w (vals W2.zero) (vals ⟨xa, xb⟩) 127 127
  change Code.wp _ _ _ _ ((w.alloc (.cells (vals W2.zero) 127)).alloc (.cells (vals ⟨xa, xb⟩) 127))
  generalize (w.alloc (.cells (vals W2.zero) 127)).alloc (.cells (vals ⟨xa, xb⟩) 127) = w2 at h0 h1 hf ⊢
  obtain ⟨V, hV⟩ : ∃ V, V = w.heap.size := ⟨_, rfl⟩
  obtain ⟨L, hL⟩ : ∃ V, V = w.heap.size + 1 := ⟨_, rfl⟩
  have HVL := Lib.hid (show V = w.heap.size ∧ L = w.heap.size + 1 from ⟨hV, hL⟩)
  rw [← hL, ← hV]
  rw [← hL] at h1
  rw [← hV] at h0
  have H0 := Lib.hid (show w2.drew.heap[V]? = some (.cells (vals W2.zero) 127 (0, 0)) from h0)
  have H1 := Lib.hid (show w2.drew.heap[L]? = some (.cells (vals ⟨xa, xb⟩) 127 (0, 0)) from h1)
  have HF := Lib.hid hf.drew
  clear h0 h1 hf hV hL
  refine wp_region_till (fun W' => Fr (fun _ => False) w2.drew W') 7 (by kernel_rfl) ?_
  have HS0 := Lib.hid (Fr.refl (fun _ => False) w2.drew)
  refine wpAnyT_take (i := 0) (n := 12) (v := .string BS) rfl (by kernel_rfl) (fun _ _ _ h => h) HS0.out (yieldsIf_plain rfl (fun W' hW => by clear hW; go_simp)) ?_
  simp only [List.getElem_toArray, List.getElem_cons_succ, List.getElem_cons_zero, Act.put, List.setIfInBounds_toArray, List.set_cons_zero, List.set_cons_succ]
  refine wpAnyT_take (i := 2) (n := 12) (v := .string BO) rfl (by kernel_rfl) (fun _ _ _ h => h) HS0.out (yieldsIf_plain rfl (fun W' hW => by clear hW; go_simp)) ?_
  simp only [List.getElem_toArray, List.getElem_cons_succ, List.getElem_cons_zero, Act.put, List.setIfInBounds_toArray, List.set_cons_zero, List.set_cons_succ]
  refine wpAnyT_take (i := 5) (n := 12) (v := .agg #[.int .u64 (xa.toNat : Int), .int .u64 (xb.toNat : Int)]) rfl (by kernel_rfl) (fun _ _ _ h => h) HS0.out (yieldsIf_load rfl 127 _ rfl L 0 rfl [.int .u64 (xa.toNat : Int), .int .u64 (xb.toNat : Int)] _ (fun W' hW => rangeAt_block (hW.heap H1.out id) 0 2) Try.underlying127 rfl (by kernel_rfl)) ?_
  simp only [List.getElem_toArray, List.getElem_cons_succ, List.getElem_cons_zero, Act.put, List.setIfInBounds_toArray, List.set_cons_zero, List.set_cons_succ]
  refine wpAnyT_one (i := 1) rfl (by kernel_rfl) (wpOp_plain rfl rfl (fun K hK => ?_))
  simp only [List.getElem_toArray, List.getElem_cons_succ, List.getElem_cons_zero, Act.put, List.setIfInBounds_toArray, List.set_cons_zero, List.set_cons_succ]
  have HKK := Lib.hid hK
  clear hK
  go_wp2_with fail
  refine (HFB.out _).mono ?_
  rintro e w3 ⟨rfl, f3⟩
  have HS3 := Lib.hid f3
  clear f3
  go_wp2_with fail
  refine HKK.out _ _ ⟨fun _ => HS3.out, ?_⟩
  clear HKK K
  try simp only [List.getElem_toArray, List.getElem_cons_succ, List.getElem_cons_zero, Act.put, List.setIfInBounds_toArray, List.set_cons_zero, List.set_cons_succ]
  refine wpAnyT_one (i := 3) rfl (by kernel_rfl) (wpOp_plain rfl rfl (fun K hK => ?_))
  simp only [List.getElem_toArray, List.getElem_cons_succ, List.getElem_cons_zero, Act.put, List.setIfInBounds_toArray, List.set_cons_zero, List.set_cons_succ]
  have HKK := Lib.hid hK
  clear hK
  go_wp2_with fail
  refine (HFO.out w3).mono ?_
  rintro e w4 ⟨rfl, f4⟩
  have HS4 := Lib.hid (HS3.out.trans f4 (fun i hi => hi.elim))
  clear f4
  go_wp2_with fail
  refine HKK.out _ _ ⟨fun _ => HS4.out, ?_⟩
  clear HKK K
  try simp only [List.getElem_toArray, List.getElem_cons_succ, List.getElem_cons_zero, Act.put, List.setIfInBounds_toArray, List.set_cons_zero, List.set_cons_succ]
  refine wpAnyT_take (i := 4) (n := 12) (v := .string F2) rfl (by kernel_rfl) (fun _ _ _ h => h) HS4.out (yieldsIf_plain rfl (fun W' hW => by clear hW; go_simp)) ?_
  simp only [List.getElem_toArray, List.getElem_cons_succ, List.getElem_cons_zero, Act.put, List.setIfInBounds_toArray, List.set_cons_zero, List.set_cons_succ]
  refine wpAnyT_one (i := 6) rfl (by kernel_rfl) (wpOp_plain rfl rfl (fun K hK => ?_))
  simp only [List.getElem_toArray, List.getElem_cons_succ, List.getElem_cons_zero, Act.put, List.setIfInBounds_toArray, List.set_cons_zero, List.set_cons_succ]
  have HKK := Lib.hid hK
  clear hK
  go_wp2_with fail
  refine (HLE.out w4).mono ?_
  rintro e w5 ⟨rfl, f5⟩
  have HS5 := Lib.hid (HS4.out.trans f5 (fun i hi => hi.elim))
  clear f5
  go_wp2_with fail
  refine HKK.out _ _ ⟨fun _ => HS5.out, ?_⟩
  clear HKK K
  try simp only [List.getElem_toArray, List.getElem_cons_succ, List.getElem_cons_zero, Act.put, List.setIfInBounds_toArray, List.set_cons_zero, List.set_cons_succ]
  refine wpAnyT_of_any trivial [7, 8] _ _ _ _ (by kernel_rfl) (by simp) (.inr rfl) ?_
  simp only [List.filterMap_cons, List.filterMap_nil, List.getElem?_toArray, List.getElem?_cons_zero, List.getElem?_cons_succ]
  go_wp2
  have HV5 := Lib.hid (HS5.out.heap H0.out id)
  have HF5 := Lib.hid (HF.out.trans HS5.out (fun i hi => hi.elim))
  clear HS0 HS3 HS4 HS5 H0 H1
  obtain ⟨all, hall⟩ : ∃ l, l = allL beside body := ⟨_, rfl⟩
  obtain ⟨cnt, hcnt⟩ : ∃ c, c = all.length / 16 := ⟨_, rfl⟩
  have hlen : all.length = 16 * cnt ∧ cnt ≤ 20000 := by have := HALL.out; rw [hall] at *; omega
  have HLEN := Lib.hid hlen
  have HAL := Lib.hid (show AL = str (all.drop (16 * 0)) by rw [HALd.out, hall]; rfl)
  have hcm : cnt ≤ 20000 := hlen.2
  have HCNT := Lib.hid hcnt
  have HALLD := Lib.hid hall
  clear hall hcnt hlen
  go_loopw [9] (fun v9 wr => ∃ k : Nat, k ≤ cnt ∧ v9 = .string (str (all.drop (16 * k))) ∧ wr.heap[V]? = some (.cells (vals (ghF (hkey key) all k)) 127 (0, 0)) ∧ Fr (fun _ => False) w wr) (fun v _ => strSize v)
  case atStart => exact ⟨0, Nat.zero_le _, by rw [HAL.out], HV5.out, HF5.out⟩
  case round =>
    obtain ⟨k, hk, rfl, hv, hf⟩ := hrel
    obtain ⟨g, hg⟩ : ∃ g, g = ghF (hkey key) all k := ⟨_, rfl⟩
    obtain ⟨A, hA⟩ : ∃ A, A = str (all.drop (16 * k)) := ⟨_, rfl⟩
    rw [← hg] at hv
    rw [← hA]
    have HVr := Lib.hid hv
    have HFr := Lib.hid hf
    have HG := Lib.hid hg
    have HA := Lib.hid hA
    have hsA : A.size = 16 * cnt - 16 * k := by rw [hA, str_size, List.length_drop, HLEN.out.1]
    clear hv hf hg hA HV5 HF5 HAL
    by_cases hlt : k < cnt
    · have hne : A.toList.isEmpty = false := by
        rw [HA.out, str_toList]
        cases h : all.drop (16 * k) with
        | nil => have h2 := congrArg List.length h; rw [List.length_drop, HLEN.out.1, List.length_nil] at h2; omega
        | cons y l => rfl
      obtain ⟨CK, hCK⟩ : ∃ c, c = str (chunk all k) := ⟨_, rfl⟩
      obtain ⟨NA, hNA⟩ : ∃ c, c = str (all.drop (16 * (k + 1))) := ⟨_, rfl⟩
      obtain ⟨an, han⟩ : ∃ n, n = 16 * cnt - 16 * k := ⟨_, rfl⟩
      rw [← han] at hsA
      have ha16 : 16 ≤ an := by omega
      have ha16' : (16 : Int) ≤ (an : Int) := by omega
      have hx1 : A.extract 0 16 = CK := by rw [HA.out, jstr_take, hCK]; rfl
      have hx2 : A.extract 16 an = NA := by rw [← hsA, HA.out, jstr_drop, (chunk_drop all k).2, hNA]
      have hkl : (chunk all k).length = 16 := by rw [chunk_length, HLEN.out.1]; omega
      obtain ⟨x, hx⟩ : ∃ x, x = loadL (chunk all k) := ⟨_, rfl⟩
      have HLoad := Lib.hid (show ∀ w, Calls Try.prog 89 #[.string CK] w fun e w' => e = .returned (.agg #[.int .u64 (x.a.toNat : Int), .int .u64 (x.b.toNat : Int)]) ∧ Fr (fun _ => False) w w' from fun w => by rw [hCK, hx]; exact load_calls _ hkl w)
      obtain ⟨z, hz⟩ : ∃ z, z = W2.xr g x := ⟨_, rfl⟩
      have e1 : bits .xor .u64 (g.a.toNat : Int) (x.a.toNat : Int) = (z.a.toNat : Int) := by rw [hz]; exact xor_u64 _ _
      have e2 : bits .xor .u64 (g.b.toNat : Int) (x.b.toNat : Int) = (z.b.toNat : Int) := by rw [hz]; exact xor_u64 _ _
      obtain ⟨g1, hg1⟩ : ∃ g1, g1 = ghF (hkey key) all (k + 1) := ⟨_, rfl⟩
      obtain ⟨H, hH⟩ : ∃ H, H = hkey key := ⟨_, rfl⟩
      have HTimes := Lib.hid (show ∀ w, Calls Try.prog 90 #[.agg #[.int .u64 (z.a.toNat : Int), .int .u64 (z.b.toNat : Int)], .agg #[.int .u64 (H.a.toNat : Int), .int .u64 (H.b.toNat : Int)]] w fun e w' => e = .returned (.agg #[.int .u64 (g1.a.toNat : Int), .int .u64 (g1.b.toNat : Int)]) ∧ Fr (fun _ => False) w w' from fun w => by
        have h := times_calls z H w
        rw [hg1, ghF, ← HG.out, ← hx, ← hz, ← hH]; exact h)
      have HNAd := Lib.hid hNA
      have HG1 := Lib.hid hg1
      have HHd := Lib.hid hH
      have HSZ := Lib.hid (show an = 16 * cnt - 16 * k ∧ NA.size = 16 * cnt - 16 * (k + 1) by
        refine ⟨han, ?_⟩
        rw [hNA, str_size, List.length_drop, HLEN.out.1])
      clear hCK hNA hkl hx hz hg1 hH han
      go_wp2_with fail
      refine (HLoad.out wr).mono ?_
      rintro e w6 ⟨rfl, f6⟩
      have HV6 := Lib.hid (f6.heap HVr.out id)
      have HF6 := Lib.hid (HFr.out.trans f6 (fun i hi => hi.elim))
      clear f6
      go_wp2_with (first
        | (with_reducible refine wpList_store_fresh (op := ⟨none, .store 127 _ _, _, _, _, _⟩) rfl 127 _ _ rfl w6 #[.int .u64 0, .int .u64 0] #[.int .u64 (x.a.toNat : Int), .int .u64 (x.b.toNat : Int)] rfl rfl rfl rfl (by kernel_rfl) (by simp [Value.oneCell']) ?_))
      obtain ⟨X, hX⟩ : ∃ X, X = w6.heap.size := ⟨_, rfl⟩
      have hx6 := heap_alloc_new w6 (.cells #[.int .u64 (x.a.toNat : Int), .int .u64 (x.b.toNat : Int)] 127)
      rw [← hX] at hx6 ⊢
      have hf7 : Fr (fun _ => False) w6 (w6.alloc (.cells #[.int .u64 (x.a.toNat : Int), .int .u64 (x.b.toNat : Int)] 127)) := (Fr.refl _ _).alloc _
      have hv7 := hf7.heap HV6.out id
      have HF7 := Lib.hid (HF6.out.trans hf7 (fun i hi => hi.elim))
      have HVX := Lib.hid (show V ≠ X by intro h; have := lt_of_heap HV6.out; omega)
      generalize w6.alloc (.cells #[.int .u64 (x.a.toNat : Int), .int .u64 (x.b.toNat : Int)] 127) = w7 at hx6 hf7 hv7 HF7 ⊢
      simp only [Act.put]
      have HV7 := Lib.hid (show w7.drew.heap[V]? = some (.cells #[.int .u64 (g.a.toNat : Int), .int .u64 (g.b.toNat : Int)] 127 (0, 0)) from hv7)
      have HX7 := Lib.hid (show w7.drew.heap[X]? = some (.cells #[.int .u64 (x.a.toNat : Int), .int .u64 (x.b.toNat : Int)] 127 (0, 0)) from hx6)
      obtain ⟨P, N, C, hS1, hS2⟩ := HS.out.fr HF7.out.drew
      clear hS2
      have HS7 := Lib.hid (show w7.drew.heap[S]? = some (.cells #[.int .u64 (H.a.toNat : Int), .int .u64 (H.b.toNat : Int), .func (.func 115) #[] #[.pointer (some ⟨P, 0, none⟩), .pointer (some ⟨N, 0, none⟩)]] 158 (0, 0)) by rw [HHd.out]; exact hS1)
      have HSV := Lib.hid (show S ≠ V by have := sea_lt HS.out; have := HVL.out.1; omega)
      clear hX hx6 hf7 hv7 hS1
      refine wp_region_till (fun W' => Fr (fun _ => False) w7.drew W') 15 (by kernel_rfl) ?_
      have HS0 := Lib.hid (Fr.refl (fun _ => False) w7.drew)
      refine wpAnyT_take (i := 0) (n := 12) (v := .pointer (some ⟨V, 0, none⟩)) rfl (by kernel_rfl) (fun _ _ _ h => h) HS0.out (yieldsIf_plain rfl (fun W' hW => by clear hW; go_simp)) ?_
      simp only [List.getElem_toArray, List.getElem_cons_succ, List.getElem_cons_zero, Act.put, List.setIfInBounds_toArray, List.set_cons_zero, List.set_cons_succ]
      refine wpAnyT_take (i := 1) (n := 12) (v := .int .u64 (g.a.toNat : Int)) rfl (by kernel_rfl) (fun _ _ _ h => h) HS0.out (yieldsIf_plain rfl (fun W' hW => by have h1 := (cell_of_row W' V 0 _ _ _ (hW.heap HV7.out id)).trans (show _ = some (.int .u64 (g.a.toNat : Int)) from rfl); clear hW; go_simp)) ?_
      simp only [List.getElem_toArray, List.getElem_cons_succ, List.getElem_cons_zero, Act.put, List.setIfInBounds_toArray, List.set_cons_zero, List.set_cons_succ]
      refine wpAnyT_take (i := 2) (n := 12) (v := .pointer (some ⟨X, 0, none⟩)) rfl (by kernel_rfl) (fun _ _ _ h => h) HS0.out (yieldsIf_plain rfl (fun W' hW => by clear hW; go_simp)) ?_
      simp only [List.getElem_toArray, List.getElem_cons_succ, List.getElem_cons_zero, Act.put, List.setIfInBounds_toArray, List.set_cons_zero, List.set_cons_succ]
      refine wpAnyT_take (i := 3) (n := 12) (v := .int .u64 (x.a.toNat : Int)) rfl (by kernel_rfl) (fun _ _ _ h => h) HS0.out (yieldsIf_plain rfl (fun W' hW => by have h1 := (cell_of_row W' X 0 _ _ _ (hW.heap HX7.out id)).trans (show _ = some (.int .u64 (x.a.toNat : Int)) from rfl); clear hW; go_simp)) ?_
      simp only [List.getElem_toArray, List.getElem_cons_succ, List.getElem_cons_zero, Act.put, List.setIfInBounds_toArray, List.set_cons_zero, List.set_cons_succ]
      refine wpAnyT_take (i := 4) (n := 12) (v := .int .u64 (z.a.toNat : Int)) rfl (by kernel_rfl) (fun _ _ _ h => h) HS0.out (yieldsIf_plain rfl (fun W' hW => by clear hW; go_simp)) ?_
      simp only [List.getElem_toArray, List.getElem_cons_succ, List.getElem_cons_zero, Act.put, List.setIfInBounds_toArray, List.set_cons_zero, List.set_cons_succ]
      refine wpAnyT_take (i := 5) (n := 12) (v := .pointer (some ⟨V, 1, none⟩)) rfl (by kernel_rfl) (fun _ _ _ h => h) HS0.out (yieldsIf_plain rfl (fun W' hW => by clear hW; go_simp)) ?_
      simp only [List.getElem_toArray, List.getElem_cons_succ, List.getElem_cons_zero, Act.put, List.setIfInBounds_toArray, List.set_cons_zero, List.set_cons_succ]
      refine wpAnyT_take (i := 6) (n := 12) (v := .int .u64 (g.b.toNat : Int)) rfl (by kernel_rfl) (fun _ _ _ h => h) HS0.out (yieldsIf_plain rfl (fun W' hW => by have h1 := (cell_of_row W' V 1 _ _ _ (hW.heap HV7.out id)).trans (show _ = some (.int .u64 (g.b.toNat : Int)) from rfl); clear hW; go_simp)) ?_
      simp only [List.getElem_toArray, List.getElem_cons_succ, List.getElem_cons_zero, Act.put, List.setIfInBounds_toArray, List.set_cons_zero, List.set_cons_succ]
      refine wpAnyT_take (i := 7) (n := 12) (v := .pointer (some ⟨X, 1, none⟩)) rfl (by kernel_rfl) (fun _ _ _ h => h) HS0.out (yieldsIf_plain rfl (fun W' hW => by clear hW; go_simp)) ?_
      simp only [List.getElem_toArray, List.getElem_cons_succ, List.getElem_cons_zero, Act.put, List.setIfInBounds_toArray, List.set_cons_zero, List.set_cons_succ]
      refine wpAnyT_take (i := 8) (n := 12) (v := .int .u64 (x.b.toNat : Int)) rfl (by kernel_rfl) (fun _ _ _ h => h) HS0.out (yieldsIf_plain rfl (fun W' hW => by have h1 := (cell_of_row W' X 1 _ _ _ (hW.heap HX7.out id)).trans (show _ = some (.int .u64 (x.b.toNat : Int)) from rfl); clear hW; go_simp)) ?_
      simp only [List.getElem_toArray, List.getElem_cons_succ, List.getElem_cons_zero, Act.put, List.setIfInBounds_toArray, List.set_cons_zero, List.set_cons_succ]
      refine wpAnyT_take (i := 9) (n := 12) (v := .int .u64 (z.b.toNat : Int)) rfl (by kernel_rfl) (fun _ _ _ h => h) HS0.out (yieldsIf_plain rfl (fun W' hW => by clear hW; go_simp)) ?_
      simp only [List.getElem_toArray, List.getElem_cons_succ, List.getElem_cons_zero, Act.put, List.setIfInBounds_toArray, List.set_cons_zero, List.set_cons_succ]
      refine wpAnyT_take (i := 10) (n := 12) (v := .agg #[.int .u64 (z.a.toNat : Int), .int .u64 (z.b.toNat : Int)]) rfl (by kernel_rfl) (fun _ _ _ h => h) HS0.out (yieldsIf_plain rfl (fun W' hW => by clear hW; go_simp)) ?_
      simp only [List.getElem_toArray, List.getElem_cons_succ, List.getElem_cons_zero, Act.put, List.setIfInBounds_toArray, List.set_cons_zero, List.set_cons_succ]
      refine wpAnyT_take (i := 11) (n := 12) (v := .pointer (some ⟨S, 0, none⟩)) rfl (by kernel_rfl) (fun _ _ _ h => h) HS0.out (yieldsIf_plain rfl (fun W' hW => by clear hW; go_simp)) ?_
      simp only [List.getElem_toArray, List.getElem_cons_succ, List.getElem_cons_zero, Act.put, List.setIfInBounds_toArray, List.set_cons_zero, List.set_cons_succ]
      refine wpAnyT_take (i := 12) (n := 12) (v := .pointer (some ⟨S, 0, none⟩)) rfl (by kernel_rfl) (fun _ _ _ h => h) HS0.out (yieldsIf_plain rfl (fun W' hW => by clear hW; go_simp)) ?_
      simp only [List.getElem_toArray, List.getElem_cons_succ, List.getElem_cons_zero, Act.put, List.setIfInBounds_toArray, List.set_cons_zero, List.set_cons_succ]
      refine wpAnyT_take (i := 13) (n := 12) (v := .pointer (some ⟨S, 0, none⟩)) rfl (by kernel_rfl) (fun _ _ _ h => h) HS0.out (yieldsIf_plain rfl (fun W' hW => by clear hW; go_simp)) ?_
      simp only [List.getElem_toArray, List.getElem_cons_succ, List.getElem_cons_zero, Act.put, List.setIfInBounds_toArray, List.set_cons_zero, List.set_cons_succ]
      refine wpAnyT_take (i := 14) (n := 12) (v := .agg #[.int .u64 (H.a.toNat : Int), .int .u64 (H.b.toNat : Int)]) rfl (by kernel_rfl) (fun _ _ _ h => h) HS0.out (yieldsIf_load rfl 127 _ rfl S 0 rfl [.int .u64 (H.a.toNat : Int), .int .u64 (H.b.toNat : Int)] _ (fun W' hW => rangeAt_block (hW.heap HS7.out id) 0 2) Try.underlying127 rfl (by kernel_rfl)) ?_
      simp only [List.getElem_toArray, List.getElem_cons_succ, List.getElem_cons_zero, Act.put, List.setIfInBounds_toArray, List.set_cons_zero, List.set_cons_succ]
      refine wpAnyT_of_any trivial [15, 16] _ _ _ _ (by kernel_rfl) (by simp) (.inr rfl) ?_
      simp only [List.filterMap_cons, List.filterMap_nil, List.getElem?_toArray, List.getElem?_cons_zero, List.getElem?_cons_succ]
      go_wp2_with fail
      refine (HTimes.out _).mono ?_
      rintro e w8 ⟨rfl, f8⟩
      have HV8 := Lib.hid (f8.heap HV7.out id)
      have HF8 := Lib.hid (HF7.out.drew.trans f8 (fun i hi => hi.elim))
      have HV9 := Lib.hid (show (w8.setRow V #[.int .u64 (g1.a.toNat : Int), .int .u64 (g1.b.toNat : Int)]).heap[V]? = some (.cells #[.int .u64 (g1.a.toNat : Int), .int .u64 (g1.b.toNat : Int)] 127 (0, 0)) from setRow_heap HV8.out)
      have HF9 := Lib.hid (HF8.out.setRow V #[.int .u64 (g1.a.toNat : Int), .int .u64 (g1.b.toNat : Int)] (.inr (by have := HVL.out.1; omega)))
      clear f8
      rename_i hxx
      refine hxx _ _ ?_
      refine wpList_store_whole (op := ⟨none, .store 127 _ _, _, _, _, _⟩) rfl 127 _ _ rfl V 127 #[.int .u64 (g.a.toNat : Int), .int .u64 (g.b.toNat : Int)] #[.int .u64 (g1.a.toNat : Int), .int .u64 (g1.b.toNat : Int)] rfl rfl HV8.out rfl (by kernel_rfl) (by simp [Value.oneCell']) ?_
      clear hxx
      simp only [Act.put]
      go_wp2_with fail
      go_roundw
      case rel => exact ⟨k + 1, by omega, by rw [HNAd.out], by rw [← HG1.out]; exact HV9.out, HF9.out⟩
      case measure => have := HSZ.out; simp [strSize]; omega
    · have hkc : k = cnt := by omega
      have hne : A.toList.isEmpty = true := by
        rw [HA.out, str_toList, List.drop_of_length_le (by rw [HLEN.out.1, hkc]; exact Nat.le_refl _)]; rfl
      have HV7 := Lib.hid (show wr.drew.heap[V]? = some (.cells #[.int .u64 (g.a.toNat : Int), .int .u64 (g.b.toNat : Int)] 127 (0, 0)) from HVr.out)
      obtain ⟨P, N, C, hS1, hP1, hN1, hC1⟩ := HS.out.fr HFr.out.drew
      obtain ⟨H, hH⟩ : ∃ H, H = hkey key := ⟨_, rfl⟩
      rw [← hH] at hS1
      have HS7 := Lib.hid hS1
      obtain ⟨YS, hYS⟩ : ∃ c, c = str (textL g) := ⟨_, rfl⟩
      obtain ⟨CT, hCT⟩ : ∃ c, c = str (ctr (words key 52) nonce 1) := ⟨_, rfl⟩
      obtain ⟨TG, hTG⟩ : ∃ c, c = str (tagL key nonce beside body) := ⟨_, rfl⟩
      have HTxt := Lib.hid (show ∀ w, Calls Try.prog 91 #[.agg #[.int .u64 (g.a.toNat : Int), .int .u64 (g.b.toNat : Int)]] w fun e w' => e = .returned (.string YS) ∧ Fr (fun _ => False) w w' from fun w => by rw [hYS]; exact text_calls g w)
      have HCount := Lib.hid (show ∀ W', Fr (fun _ => False) wr.drew W' → Calls Try.prog 115 #[.int .i64 1, .pointer (some ⟨P, 0, none⟩), .pointer (some ⟨N, 0, none⟩)] W' fun e w' => e = .returned (.string CT) ∧ Fr (fun _ => False) W' w' from fun W' hW => by
        rw [hCT]; exact count_calls C P N (words key 52) nonce hn 1 (by omega) W' (hC1.fr hW id) (hW.heap hP1 id) (hW.heap hN1 id))
      have HTurn := Lib.hid (show ∀ W', Calls Try.prog 117 #[.string YS, .string CT] W' fun e w' => e = .returned (.string TG) ∧ Fr (fun _ => False) W' w' from fun W' => by
        have h := gturn_calls (textL g) (ctr (words key 52) nonce 1) (by rw [text_length]; omega) (by rw [ctr_length]; omega) W'
        rw [hYS, hCT, hTG]
        unfold tagL
        rw [← HALLD.out, ← HCNT.out, ← hkc, ← HG.out]
        exact h)
      have HTGd := Lib.hid hTG
      clear hS1 hP1 hN1 hC1 hH hYS hCT hTG hkc hsA
      go_wp2_with fail
      refine wp_region_till (fun W' => Fr (fun _ => False) wr.drew W') 7 (by kernel_rfl) ?_
      have HS0 := Lib.hid (Fr.refl (fun _ => False) wr.drew)
      refine wpAnyT_take (i := 0) (n := 12) (v := .agg #[.int .u64 (g.a.toNat : Int), .int .u64 (g.b.toNat : Int)]) rfl (by kernel_rfl) (fun _ _ _ h => h) HS0.out (yieldsIf_load rfl 127 _ rfl V 0 rfl [.int .u64 (g.a.toNat : Int), .int .u64 (g.b.toNat : Int)] _ (fun W' hW => rangeAt_block (hW.heap HV7.out id) 0 2) Try.underlying127 rfl (by kernel_rfl)) ?_
      simp only [List.getElem_toArray, List.getElem_cons_succ, List.getElem_cons_zero, Act.put, List.setIfInBounds_toArray, List.set_cons_zero, List.set_cons_succ]
      refine wpAnyT_take (i := 2) (n := 12) (v := .pointer (some ⟨S, 0, none⟩)) rfl (by kernel_rfl) (fun _ _ _ h => h) HS0.out (yieldsIf_plain rfl (fun W' hW => by clear hW; go_simp)) ?_
      simp only [List.getElem_toArray, List.getElem_cons_succ, List.getElem_cons_zero, Act.put, List.setIfInBounds_toArray, List.set_cons_zero, List.set_cons_succ]
      refine wpAnyT_take (i := 3) (n := 12) (v := .pointer (some ⟨S, 0, none⟩)) rfl (by kernel_rfl) (fun _ _ _ h => h) HS0.out (yieldsIf_plain rfl (fun W' hW => by clear hW; go_simp)) ?_
      simp only [List.getElem_toArray, List.getElem_cons_succ, List.getElem_cons_zero, Act.put, List.setIfInBounds_toArray, List.set_cons_zero, List.set_cons_succ]
      refine wpAnyT_take (i := 4) (n := 12) (v := .pointer (some ⟨S, 2, none⟩)) rfl (by kernel_rfl) (fun _ _ _ h => h) HS0.out (yieldsIf_plain rfl (fun W' hW => by clear hW; go_simp)) ?_
      simp only [List.getElem_toArray, List.getElem_cons_succ, List.getElem_cons_zero, Act.put, List.setIfInBounds_toArray, List.set_cons_zero, List.set_cons_succ]
      refine wpAnyT_take (i := 5) (n := 12) (v := .func (.func 115) #[] #[.pointer (some ⟨P, 0, none⟩), .pointer (some ⟨N, 0, none⟩)]) rfl (by kernel_rfl) (fun _ _ _ h => h) HS0.out (yieldsIf_plain rfl (fun W' hW => by have h1 := (cell_of_row W' S 2 _ _ _ (hW.heap HS7.out id)).trans (show _ = some (.func (.func 115) #[] #[.pointer (some ⟨P, 0, none⟩), .pointer (some ⟨N, 0, none⟩)]) from rfl); clear hW; go_simp)) ?_
      simp only [List.getElem_toArray, List.getElem_cons_succ, List.getElem_cons_zero, Act.put, List.setIfInBounds_toArray, List.set_cons_zero, List.set_cons_succ]
      refine wpAnyT_one (i := 1) rfl (by kernel_rfl) (wpOp_plain rfl rfl (fun K hK => ?_))
      simp only [List.getElem_toArray, List.getElem_cons_succ, List.getElem_cons_zero, Act.put, List.setIfInBounds_toArray, List.set_cons_zero, List.set_cons_succ]
      have HKK := Lib.hid hK
      clear hK
      go_wp2_with fail
      refine (HTxt.out _).mono ?_
      rintro e w3 ⟨rfl, f3⟩
      have HS3 := Lib.hid f3
      clear f3
      go_wp2_with fail
      refine HKK.out _ _ ⟨fun _ => HS3.out, ?_⟩
      clear HKK K
      try simp only [List.getElem_toArray, List.getElem_cons_succ, List.getElem_cons_zero, Act.put, List.setIfInBounds_toArray, List.set_cons_zero, List.set_cons_succ]
      refine wpAnyT_one (i := 6) rfl (by kernel_rfl) (wpOp_plain rfl rfl (fun K hK => ?_))
      simp only [List.getElem_toArray, List.getElem_cons_succ, List.getElem_cons_zero, Act.put, List.setIfInBounds_toArray, List.set_cons_zero, List.set_cons_succ]
      have HKK := Lib.hid hK
      clear hK
      go_wp2_with fail
      refine (HCount.out w3 HS3.out).mono ?_
      rintro e w4 ⟨rfl, f4⟩
      have HS4 := Lib.hid (HS3.out.trans f4 (fun i hi => hi.elim))
      clear f4
      go_wp2_with fail
      refine HKK.out _ _ ⟨fun _ => HS4.out, ?_⟩
      clear HKK K
      try simp only [List.getElem_toArray, List.getElem_cons_succ, List.getElem_cons_zero, Act.put, List.setIfInBounds_toArray, List.set_cons_zero, List.set_cons_succ]
      refine wpAnyT_of_any trivial [7, 8] _ _ _ _ (by kernel_rfl) (by simp) (.inr rfl) ?_
      simp only [List.filterMap_cons, List.filterMap_nil, List.getElem?_toArray, List.getElem?_cons_zero, List.getElem?_cons_succ]
      go_wp2_with fail
      refine (HTurn.out _).mono ?_
      rintro e w8 ⟨rfl, f8⟩
      have HF8 := Lib.hid ((HFr.out.drew.trans HS4.out (fun i hi => hi.elim)).trans f8 (fun i hi => hi.elim))
      clear f8
      go_wp2_with fail
      go_ret
      exact ⟨by rw [← HTGd.out]; rfl, HF8.out⟩
end Go.Proofs.Ytcchhfkmhbjdmaa
