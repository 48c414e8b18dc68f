/- Labels: the document's Text, walked. -/
import Derived.Test.YtcchhfkmhbjdmaaGreatMd
set_option linter.unusedVariables false
set_option linter.unusedSimpArgs false
set_option pp.deepTerms true
set_option pp.maxSteps 100000
namespace Go.Proofs.YtcchhfkmhbjdmaaGreat
open Go.RowKit
theorem rangeAt_all {w : World} {b : Nat} {cs : List Value} {t : TypeId} {fr : Nat × Nat} (h : w.heap[b]? = some (.cells cs.toArray t fr)) : w.rangeAt b 0 cs := fun j v hj => by
  rw [cell_of_row w b _ _ _ _ h]
  simpa using hj
theorem str_appendP (a b : List UInt8) : str a ++ str b = str (a ++ b) := by
  apply ByteArray.ext
  simp [str]
theorem reftext_no (a : Option Addr) (cap : Nat) (l : List Pr) (w : World) (hl : PSl w a l) (hlc : l.length ≤ cap) (hcap : cap ≤ 9223372036854775807) (hr : rightB l = false) :
    Calls Tryz.prog 16 #[.slice a l.length cap] w fun e w' => e = .returned (.tuple #[.string ⟨#[]⟩, .int .i64 2]) ∧ Fr (fun _ => False) w w' := by
  have HR := refright_calls a cap l w hl hlc hcap
  rw [hr] at HR
  have HRR := Lib.hid HR
  clear HR hl hlc hcap hr
  go_enter Tryz.func16, Tryz.ntmps16
  go_wp2_with fail
  refine HRR.out.mono ?_
  rintro e w1 ⟨rfl, f1⟩
  have G1 := Lib.hid f1
  clear f1
  go_wp2_with fail
  go_ret2
  exact ⟨rfl, G1.out⟩
set_option maxRecDepth 20000 in
set_option maxHeartbeats 16000000 in
theorem reftext_yes (a : Option Addr) (cap : Nat) (l : List Pr) (w : World) (hl : PSl w a l) (hlc : l.length ≤ cap) (hcap : cap ≤ 9223372036854775807) (hr : rightB l = true) :
    Calls Tryz.prog 16 #[.slice a l.length cap] w fun e w' => e = .returned (.tuple #[.string (str (textOf l)), .int .i64 0]) ∧ Fr (fun _ => False) w w' := by
  have hri := (rightB_iff l).1 hr
  have HR := refright_calls a cap l w hl hlc hcap
  rw [hr] at HR
  have HRR := Lib.hid HR
  obtain ⟨m, hm⟩ : ∃ m, m = sortR l := ⟨_, rfl⟩
  have HSo := Lib.hid (show ∀ w', Fr (fun _ => False) w w' → Calls Tryz.prog 34 #[.slice a l.length cap] w' fun e w2 => ∃ v, e = .returned v ∧ PV w2 v m ∧ Fr (fun _ => False) w' w2 from fun w' hf => by rw [hm]; exact refsorted_calls a cap l w' (hl.frF hf) (by have := hri.2.2; omega) hlc hcap)
  have hml : m.length = l.length := by rw [hm, sortR_length]
  have hmsm : ∀ p ∈ m, p.1.length ≤ 32 ∧ p.2.length ≤ 64 := fun p hp => prOk_le (hri.1 p ((sortR_perm l).mem_iff.1 (hm ▸ hp)))
  have HMS := Lib.hid hmsm
  have HML := Lib.hid (And.intro hml hri.2.2)
  obtain ⟨res, hres⟩ : ∃ s, s = str (textOf l) := ⟨_, rfl⟩
  have HRes := Lib.hid (show res = str (textP m) by rw [hres, hm]; rfl)
  rw [← hres]
  clear HR hl hlc hcap hr hri hm hml hmsm hres
  go_enter Tryz.func16, Tryz.ntmps16
  go_wp2_with fail
  refine HRR.out.mono ?_
  rintro e w1 ⟨rfl, f1⟩
  have G1 := Lib.hid f1
  clear f1
  go_wp2_with fail
  refine (HSo.out _ G1.out).mono ?_
  rintro e w2 ⟨v, rfl, ⟨a2, cap2, rfl, hps, hlc2, hcap2⟩, f2⟩
  have G2 := Lib.hid (G1.out.trans f2 (fun i hi => hi.elim))
  have HPS := Lib.hid hps
  obtain ⟨n, hn⟩ : ∃ n, n = m.length := ⟨_, rfl⟩
  have HN := Lib.hid hn
  rw [← hn] at hlc2 ⊢
  clear hps f2 hn
  go_wp2_with fail
  go_loopw [4, 6] (fun s i wr => ∃ k : Nat, k ≤ n ∧ s = .string (str (textP (m.take k))) ∧ i = .int .i64 (k : Int) ∧ Fr (fun _ => False) w2 wr) (fun _ i _ => n - (intOf i).toNat)
  case atStart => exact ⟨0, Nat.zero_le _, rfl, rfl, Fr.refl _ _⟩
  case round =>
    obtain ⟨k, hk, rfl, rfl, hfr⟩ := hrel
    have HF := Lib.hid hfr
    obtain ⟨T0, hT0⟩ : ∃ s, s = str (textP (m.take k)) := ⟨_, rfl⟩
    rw [← hT0]
    by_cases hlt : k < n
    · have hkm : k < m.length := by rw [← HN.out]; exact hlt
      rcases HPS.out with h0 | ⟨b2, off2, rfl, hpb, hb'⟩
      · exact absurd hkm (by rw [h0]; simp)
      have hsz := HMS.out _ (List.getElem_mem hkm)
      have htk := textL_take m k hkm
      obtain ⟨kk, hkk⟩ : ∃ x, x = m[k].1 := ⟨_, rfl⟩
      obtain ⟨vv, hvv⟩ : ∃ x, x = m[k].2 := ⟨_, rfl⟩
      obtain ⟨K, hK⟩ : ∃ s, s = str kk := ⟨_, rfl⟩
      obtain ⟨V, hV⟩ : ∃ s, s = str vv := ⟨_, rfl⟩
      have HCK := Lib.hid (show ∀ W', Fr (fun _ => False) wr W' → W'.cell? ⟨b2, off2 + k * 2, none⟩ = some (.string K) from fun W' hf => by rw [hK, hkk]; exact ((hpb.fr (hfr.trans hf (fun i hi => hi.elim)) id).cells k hkm).1)
      have HCV := Lib.hid (show ∀ W', Fr (fun _ => False) wr W' → W'.cell? ⟨b2, off2 + k * 2 + 1, none⟩ = some (.string V) from fun W' hf => by rw [hV, hvv]; exact ((hpb.fr (hfr.trans hf (fun i hi => hi.elim)) id).cells k hkm).2)
      rw [← hkk] at htk hsz
      rw [← hvv] at htk hsz
      obtain ⟨c1, hc1⟩ : ∃ c, c = UInt8.ofNat kk.length := ⟨_, rfl⟩
      obtain ⟨c2, hc2⟩ : ∃ c, c = UInt8.ofNat vv.length := ⟨_, rfl⟩
      have hks : K.size = kk.length := by rw [hK, str_size]
      have hvs : V.size = vv.length := by rw [hV, str_size]
      have hw1 : (K.size : Int) % 256 = (c1.toNat : Int) := by rw [hks, hc1]; simp
      have hw2 : (V.size : Int) % 256 = (c2.toNat : Int) := by rw [hvs, hc2]; simp
      have hw3 : IntKind.u8.wrap (K.size : Int) = (c1.toNat : Int) := by rw [IntKind.wrap_u8', hw1]
      have hw4 : IntKind.u8.wrap (V.size : Int) = (c2.toNat : Int) := by rw [IntKind.wrap_u8', hw2]
      obtain ⟨T1, hT1⟩ : ∃ s, T0 ++ str [c1] = s := ⟨_, rfl⟩
      obtain ⟨T2, hT2⟩ : ∃ s, T1 ++ K = s := ⟨_, rfl⟩
      obtain ⟨T3, hT3⟩ : ∃ s, T2 ++ str [c2] = s := ⟨_, rfl⟩
      obtain ⟨T4, hT4⟩ : ∃ s, T3 ++ V = s := ⟨_, rfl⟩
      have HT4 := Lib.hid (show Value.string T4 = .string (str (textP (m.take (k + 1)))) by
        rw [← hT4, ← hT3, ← hT2, ← hT1, hT0, hK, hV, str_appendP, str_appendP, str_appendP, str_appendP, htk, hc1, hc2]
        simp [encS])
      have htl := textL_length (m.take k) (fun p hp => HMS.out p (List.mem_of_mem_take hp))
      have htl' : T0.size ≤ 800 := by
        rw [hT0, str_size]
        have h1 := HML.out; rw [List.length_take] at htl; omega
      have hz1 : T0.size + (str [c1]).size ≤ 9223372036854775807 := by rw [str_size]; simp; omega
      have hs1 : T1.size ≤ 801 := by rw [← hT1, ByteArray.size_append, str_size]; simp; omega
      have hz2 : T1.size + K.size ≤ 9223372036854775807 := by omega
      have hs2 : T2.size ≤ 901 := by rw [← hT2, ByteArray.size_append]; omega
      have hz3 : T2.size + (str [c2]).size ≤ 9223372036854775807 := by rw [str_size]; simp; omega
      have hs3 : T3.size ≤ 902 := by rw [← hT3, ByteArray.size_append, str_size]; simp; omega
      have hz4 : T3.size + V.size ≤ 9223372036854775807 := by omega
      have hi0 : (k : Int) < (n : Int) := by omega
      have hR0 := Fr.refl (fun _ => False) wr
      clear htl htl' hs1 hs2 hs3 hks hvs hsz htk hkk hvv hK hV hc1 hc2 hpb hb' hfr hT0 hkm
      go_wp2_with fail
      refine wp_region_till (fun w' => Fr (fun _ => False) (wr.drew) w') 33 rfl ?_
      generalize hW0 : wr.drew = W0
      have HR0 := Lib.hid (show Fr (fun _ => False) wr W0 by rw [← hW0]; exact hR0.drew)
      have HS0 := Lib.hid (Fr.refl (fun _ => False) W0)
      clear hW0 hR0
      refine wpAnyT_path (i := 0) (p := []) (v := .string T0) rfl (by kernel_rfl) (by kernel_rfl) (fun _ _ _ h => h) HS0.out (.inl ⟨by rfl, fun W' hW => by clear hW; go_simp⟩) ?_
      try simp only [Act.put, List.setIfInBounds_toArray]
      try dsimp only [List.getElem_toArray, List.getElem_cons_succ, List.getElem_cons_zero, List.set_cons_zero, List.set_cons_succ]
      refine wpAnyT_path (i := 1) (p := []) (v := .slice (some ⟨b2, off2, none⟩) n cap2) rfl (by kernel_rfl) (by kernel_rfl) (fun _ _ _ h => h) HS0.out (.inl ⟨by rfl, fun W' hW => by clear hW; go_simp⟩) ?_
      try simp only [Act.put, List.setIfInBounds_toArray]
      try dsimp only [List.getElem_toArray, List.getElem_cons_succ, List.getElem_cons_zero, List.set_cons_zero, List.set_cons_succ]
      refine wpAnyT_path (i := 2) (p := []) (v := .int .i64 (k : Int)) rfl (by kernel_rfl) (by kernel_rfl) (fun _ _ _ h => h) HS0.out (.inl ⟨by rfl, fun W' hW => by clear hW; go_simp⟩) ?_
      try simp only [Act.put, List.setIfInBounds_toArray]
      try dsimp only [List.getElem_toArray, List.getElem_cons_succ, List.getElem_cons_zero, List.set_cons_zero, List.set_cons_succ]
      refine wpAnyT_path (i := 3) (p := []) (v := .pointer (some ⟨b2, off2 + k * 2, none⟩)) rfl (by kernel_rfl) (by kernel_rfl) (fun _ _ _ h => h) HS0.out (.inl ⟨by rfl, fun W' hW => by clear hW; go_simp⟩) ?_
      try simp only [Act.put, List.setIfInBounds_toArray]
      try dsimp only [List.getElem_toArray, List.getElem_cons_succ, List.getElem_cons_zero, List.set_cons_zero, List.set_cons_succ]
      refine wpAnyT_path (i := 4) (p := []) (v := .pointer (some ⟨b2, off2 + k * 2, none⟩)) rfl (by kernel_rfl) (by kernel_rfl) (fun _ _ _ h => h) HS0.out (.inl ⟨by rfl, fun W' hW => by clear hW; go_simp⟩) ?_
      try simp only [Act.put, List.setIfInBounds_toArray]
      try dsimp only [List.getElem_toArray, List.getElem_cons_succ, List.getElem_cons_zero, List.set_cons_zero, List.set_cons_succ]
      refine wpAnyT_path (i := 5) (p := []) (v := .string K) rfl (by kernel_rfl) (by kernel_rfl) (fun _ _ _ h => h) HS0.out (.inl ⟨by rfl, fun W' hW => by have hc := HCK.out W' (HR0.out.trans hW (fun i hi => hi.elim)); clear hW; go_simp⟩) ?_
      try simp only [Act.put, List.setIfInBounds_toArray]
      try dsimp only [List.getElem_toArray, List.getElem_cons_succ, List.getElem_cons_zero, List.set_cons_zero, List.set_cons_succ]
      refine wpAnyT_path (i := 6) (p := []) (v := .int .i64 (K.size : Int)) rfl (by kernel_rfl) (by kernel_rfl) (fun _ _ _ h => h) HS0.out (.inl ⟨by rfl, fun W' hW => by clear hW; go_simp⟩) ?_
      try simp only [Act.put, List.setIfInBounds_toArray]
      try dsimp only [List.getElem_toArray, List.getElem_cons_succ, List.getElem_cons_zero, List.set_cons_zero, List.set_cons_succ]
      refine wpAnyT_path (i := 7) (p := []) (v := .int .u8 (c1.toNat : Int)) rfl (by kernel_rfl) (by kernel_rfl) (fun _ _ _ h => h) HS0.out (.inl ⟨by rfl, fun W' hW => by clear hW; go_simp⟩) ?_
      try simp only [Act.put, List.setIfInBounds_toArray]
      try dsimp only [List.getElem_toArray, List.getElem_cons_succ, List.getElem_cons_zero, List.set_cons_zero, List.set_cons_succ]
      refine wpAnyT_path (i := 11) (p := []) (v := .slice (some ⟨b2, off2, none⟩) n cap2) rfl (by kernel_rfl) (by kernel_rfl) (fun _ _ _ h => h) HS0.out (.inl ⟨by rfl, fun W' hW => by clear hW; go_simp⟩) ?_
      try simp only [Act.put, List.setIfInBounds_toArray]
      try dsimp only [List.getElem_toArray, List.getElem_cons_succ, List.getElem_cons_zero, List.set_cons_zero, List.set_cons_succ]
      refine wpAnyT_path (i := 12) (p := []) (v := .int .i64 (k : Int)) rfl (by kernel_rfl) (by kernel_rfl) (fun _ _ _ h => h) HS0.out (.inl ⟨by rfl, fun W' hW => by clear hW; go_simp⟩) ?_
      try simp only [Act.put, List.setIfInBounds_toArray]
      try dsimp only [List.getElem_toArray, List.getElem_cons_succ, List.getElem_cons_zero, List.set_cons_zero, List.set_cons_succ]
      refine wpAnyT_path (i := 13) (p := []) (v := .pointer (some ⟨b2, off2 + k * 2, none⟩)) rfl (by kernel_rfl) (by kernel_rfl) (fun _ _ _ h => h) HS0.out (.inl ⟨by rfl, fun W' hW => by clear hW; go_simp⟩) ?_
      try simp only [Act.put, List.setIfInBounds_toArray]
      try dsimp only [List.getElem_toArray, List.getElem_cons_succ, List.getElem_cons_zero, List.set_cons_zero, List.set_cons_succ]
      refine wpAnyT_path (i := 14) (p := []) (v := .pointer (some ⟨b2, off2 + k * 2, none⟩)) rfl (by kernel_rfl) (by kernel_rfl) (fun _ _ _ h => h) HS0.out (.inl ⟨by rfl, fun W' hW => by clear hW; go_simp⟩) ?_
      try simp only [Act.put, List.setIfInBounds_toArray]
      try dsimp only [List.getElem_toArray, List.getElem_cons_succ, List.getElem_cons_zero, List.set_cons_zero, List.set_cons_succ]
      refine wpAnyT_path (i := 15) (p := []) (v := .string K) rfl (by kernel_rfl) (by kernel_rfl) (fun _ _ _ h => h) HS0.out (.inl ⟨by rfl, fun W' hW => by have hc := HCK.out W' (HR0.out.trans hW (fun i hi => hi.elim)); clear hW; go_simp⟩) ?_
      try simp only [Act.put, List.setIfInBounds_toArray]
      try dsimp only [List.getElem_toArray, List.getElem_cons_succ, List.getElem_cons_zero, List.set_cons_zero, List.set_cons_succ]
      refine wpAnyT_path (i := 17) (p := []) (v := .slice (some ⟨b2, off2, none⟩) n cap2) rfl (by kernel_rfl) (by kernel_rfl) (fun _ _ _ h => h) HS0.out (.inl ⟨by rfl, fun W' hW => by clear hW; go_simp⟩) ?_
      try simp only [Act.put, List.setIfInBounds_toArray]
      try dsimp only [List.getElem_toArray, List.getElem_cons_succ, List.getElem_cons_zero, List.set_cons_zero, List.set_cons_succ]
      refine wpAnyT_path (i := 18) (p := []) (v := .int .i64 (k : Int)) rfl (by kernel_rfl) (by kernel_rfl) (fun _ _ _ h => h) HS0.out (.inl ⟨by rfl, fun W' hW => by clear hW; go_simp⟩) ?_
      try simp only [Act.put, List.setIfInBounds_toArray]
      try dsimp only [List.getElem_toArray, List.getElem_cons_succ, List.getElem_cons_zero, List.set_cons_zero, List.set_cons_succ]
      refine wpAnyT_path (i := 19) (p := []) (v := .pointer (some ⟨b2, off2 + k * 2, none⟩)) rfl (by kernel_rfl) (by kernel_rfl) (fun _ _ _ h => h) HS0.out (.inl ⟨by rfl, fun W' hW => by clear hW; go_simp⟩) ?_
      try simp only [Act.put, List.setIfInBounds_toArray]
      try dsimp only [List.getElem_toArray, List.getElem_cons_succ, List.getElem_cons_zero, List.set_cons_zero, List.set_cons_succ]
      refine wpAnyT_path (i := 20) (p := []) (v := .pointer (some ⟨b2, off2 + k * 2 + 1, none⟩)) rfl (by kernel_rfl) (by kernel_rfl) (fun _ _ _ h => h) HS0.out (.inl ⟨by rfl, fun W' hW => by clear hW; go_simp⟩) ?_
      try simp only [Act.put, List.setIfInBounds_toArray]
      try dsimp only [List.getElem_toArray, List.getElem_cons_succ, List.getElem_cons_zero, List.set_cons_zero, List.set_cons_succ]
      refine wpAnyT_path (i := 21) (p := []) (v := .string V) rfl (by kernel_rfl) (by kernel_rfl) (fun _ _ _ h => h) HS0.out (.inl ⟨by rfl, fun W' hW => by have hc := HCV.out W' (HR0.out.trans hW (fun i hi => hi.elim)); clear hW; go_simp⟩) ?_
      try simp only [Act.put, List.setIfInBounds_toArray]
      try dsimp only [List.getElem_toArray, List.getElem_cons_succ, List.getElem_cons_zero, List.set_cons_zero, List.set_cons_succ]
      refine wpAnyT_path (i := 22) (p := []) (v := .int .i64 (V.size : Int)) rfl (by kernel_rfl) (by kernel_rfl) (fun _ _ _ h => h) HS0.out (.inl ⟨by rfl, fun W' hW => by clear hW; go_simp⟩) ?_
      try simp only [Act.put, List.setIfInBounds_toArray]
      try dsimp only [List.getElem_toArray, List.getElem_cons_succ, List.getElem_cons_zero, List.set_cons_zero, List.set_cons_succ]
      refine wpAnyT_path (i := 23) (p := []) (v := .int .u8 (c2.toNat : Int)) rfl (by kernel_rfl) (by kernel_rfl) (fun _ _ _ h => h) HS0.out (.inl ⟨by rfl, fun W' hW => by clear hW; go_simp⟩) ?_
      try simp only [Act.put, List.setIfInBounds_toArray]
      try dsimp only [List.getElem_toArray, List.getElem_cons_succ, List.getElem_cons_zero, List.set_cons_zero, List.set_cons_succ]
      refine wpAnyT_path (i := 27) (p := []) (v := .slice (some ⟨b2, off2, none⟩) n cap2) rfl (by kernel_rfl) (by kernel_rfl) (fun _ _ _ h => h) HS0.out (.inl ⟨by rfl, fun W' hW => by clear hW; go_simp⟩) ?_
      try simp only [Act.put, List.setIfInBounds_toArray]
      try dsimp only [List.getElem_toArray, List.getElem_cons_succ, List.getElem_cons_zero, List.set_cons_zero, List.set_cons_succ]
      refine wpAnyT_path (i := 28) (p := []) (v := .int .i64 (k : Int)) rfl (by kernel_rfl) (by kernel_rfl) (fun _ _ _ h => h) HS0.out (.inl ⟨by rfl, fun W' hW => by clear hW; go_simp⟩) ?_
      try simp only [Act.put, List.setIfInBounds_toArray]
      try dsimp only [List.getElem_toArray, List.getElem_cons_succ, List.getElem_cons_zero, List.set_cons_zero, List.set_cons_succ]
      refine wpAnyT_path (i := 29) (p := []) (v := .pointer (some ⟨b2, off2 + k * 2, none⟩)) rfl (by kernel_rfl) (by kernel_rfl) (fun _ _ _ h => h) HS0.out (.inl ⟨by rfl, fun W' hW => by clear hW; go_simp⟩) ?_
      try simp only [Act.put, List.setIfInBounds_toArray]
      try dsimp only [List.getElem_toArray, List.getElem_cons_succ, List.getElem_cons_zero, List.set_cons_zero, List.set_cons_succ]
      refine wpAnyT_path (i := 30) (p := []) (v := .pointer (some ⟨b2, off2 + k * 2 + 1, none⟩)) rfl (by kernel_rfl) (by kernel_rfl) (fun _ _ _ h => h) HS0.out (.inl ⟨by rfl, fun W' hW => by clear hW; go_simp⟩) ?_
      try simp only [Act.put, List.setIfInBounds_toArray]
      try dsimp only [List.getElem_toArray, List.getElem_cons_succ, List.getElem_cons_zero, List.set_cons_zero, List.set_cons_succ]
      refine wpAnyT_path (i := 31) (p := []) (v := .string V) rfl (by kernel_rfl) (by kernel_rfl) (fun _ _ _ h => h) HS0.out (.inl ⟨by rfl, fun W' hW => by have hc := HCV.out W' (HR0.out.trans hW (fun i hi => hi.elim)); clear hW; go_simp⟩) ?_
      try simp only [Act.put, List.setIfInBounds_toArray]
      try dsimp only [List.getElem_toArray, List.getElem_cons_succ, List.getElem_cons_zero, List.set_cons_zero, List.set_cons_succ]
      refine wpAnyT_two (i := 8) (j := 24) (by kernel_rfl) ?_ ?_
      · refine wpOp_plain rfl rfl (fun K hK => ?_)
        try simp only [Act.put, List.setIfInBounds_toArray]
        try dsimp only [List.getElem_toArray, List.getElem_cons_succ, List.getElem_cons_zero, List.set_cons_zero, List.set_cons_succ]
        have HKK2 := Lib.hid hK
        clear hK
        go_wp2_with fail
        generalize hW1 : W0.alloc (.cells #[.int .u8 (c1.toNat : Int)] 5) = W1
        obtain ⟨g1, hg1⟩ : ∃ g, g = W0.heap.size := ⟨_, rfl⟩
        rw [← hg1]
        have HRB1 := Lib.hid (show Fr (fun _ => False) W0 W1 by rw [← hW1]; exact (Fr.refl _ _).alloc _)
        have HR1 := Lib.hid (HR0.out.trans HRB1.out (fun i hi => hi.elim))
        have HCB1 := Lib.hid (show ∀ W', Fr (fun _ => False) W1 W' → (convert 53 9 (.slice (some ⟨g1, 0, none⟩) 1 1)).run Tryz.prog W' = .ok (.string (str [c1])) W' from fun W' hf => run_convert_str W' _ _ Tryz.underlying53 Tryz.underlying5 g1 0 1 1 [c1] rfl (rangeAt_all (hf.heap (by rw [← hW1, hg1]; exact heap_alloc_new _ _) id)) _ Tryz.underlying9)
        have HS1 := Lib.hid (Fr.refl (fun _ => False) W1)
        clear hW1 hg1
        refine HKK2.out _ _ ⟨fun _ => HRB1.out, ?_⟩
        clear HKK2 K
        try simp only [Act.put, List.setIfInBounds_toArray]
        try dsimp only [List.getElem_toArray, List.getElem_cons_succ, List.getElem_cons_zero, List.set_cons_zero, List.set_cons_succ]
        refine wpAnyT_mono (S' := fun w' => Fr (fun _ => False) W1 w') (fun w' h => HRB1.out.trans h (fun i hi => hi.elim)) _ _ _ _ ?_
        refine wpAnyT_path (i := 9) (p := []) (v := .string (str [c1])) rfl (by kernel_rfl) (by kernel_rfl) (fun _ _ _ h => h) HS1.out (.inl ⟨by rfl, fun W' hW => by have h := HCB1.out W' hW; clear hW; simp [execOp, Act.eval, h]⟩) ?_
        try simp only [Act.put, List.setIfInBounds_toArray]
        try dsimp only [List.getElem_toArray, List.getElem_cons_succ, List.getElem_cons_zero, List.set_cons_zero, List.set_cons_succ]
        refine wpAnyT_path (i := 10) (p := []) (v := .string T1) rfl (by kernel_rfl) (by kernel_rfl) (fun _ _ _ h => h) HS1.out (.inl ⟨by rfl, fun W' hW => by clear hW; go_simp⟩) ?_
        try simp only [Act.put, List.setIfInBounds_toArray]
        try dsimp only [List.getElem_toArray, List.getElem_cons_succ, List.getElem_cons_zero, List.set_cons_zero, List.set_cons_succ]
        refine wpAnyT_path (i := 16) (p := []) (v := .string T2) rfl (by kernel_rfl) (by kernel_rfl) (fun _ _ _ h => h) HS1.out (.inl ⟨by rfl, fun W' hW => by clear hW; go_simp⟩) ?_
        try simp only [Act.put, List.setIfInBounds_toArray]
        try dsimp only [List.getElem_toArray, List.getElem_cons_succ, List.getElem_cons_zero, List.set_cons_zero, List.set_cons_succ]
        refine wpAnyT_one (i := 24) rfl (by kernel_rfl) ?_
        refine wpOp_plain rfl rfl (fun K hK => ?_)
        try simp only [Act.put, List.setIfInBounds_toArray]
        try dsimp only [List.getElem_toArray, List.getElem_cons_succ, List.getElem_cons_zero, List.set_cons_zero, List.set_cons_succ]
        have HKK2 := Lib.hid hK
        clear hK
        go_wp2_with fail
        generalize hW2 : W1.alloc (.cells #[.int .u8 (c2.toNat : Int)] 5) = W2
        obtain ⟨g2, hg2⟩ : ∃ g, g = W1.heap.size := ⟨_, rfl⟩
        rw [← hg2]
        have HRB2 := Lib.hid (show Fr (fun _ => False) W1 W2 by rw [← hW2]; exact (Fr.refl _ _).alloc _)
        have HR2 := Lib.hid (HR1.out.trans HRB2.out (fun i hi => hi.elim))
        have HCB2 := Lib.hid (show ∀ W', Fr (fun _ => False) W2 W' → (convert 53 9 (.slice (some ⟨g2, 0, none⟩) 1 1)).run Tryz.prog W' = .ok (.string (str [c2])) W' from fun W' hf => run_convert_str W' _ _ Tryz.underlying53 Tryz.underlying5 g2 0 1 1 [c2] rfl (rangeAt_all (hf.heap (by rw [← hW2, hg2]; exact heap_alloc_new _ _) id)) _ Tryz.underlying9)
        have HS2 := Lib.hid (Fr.refl (fun _ => False) W2)
        clear hW2 hg2
        refine HKK2.out _ _ ⟨fun _ => HRB2.out, ?_⟩
        clear HKK2 K
        try simp only [Act.put, List.setIfInBounds_toArray]
        try dsimp only [List.getElem_toArray, List.getElem_cons_succ, List.getElem_cons_zero, List.set_cons_zero, List.set_cons_succ]
        refine wpAnyT_mono (S' := fun w' => Fr (fun _ => False) W2 w') (fun w' h => HRB2.out.trans h (fun i hi => hi.elim)) _ _ _ _ ?_
        refine wpAnyT_path (i := 25) (p := []) (v := .string (str [c2])) rfl (by kernel_rfl) (by kernel_rfl) (fun _ _ _ h => h) HS2.out (.inl ⟨by rfl, fun W' hW => by have h := HCB2.out W' hW; clear hW; simp [execOp, Act.eval, h]⟩) ?_
        try simp only [Act.put, List.setIfInBounds_toArray]
        try dsimp only [List.getElem_toArray, List.getElem_cons_succ, List.getElem_cons_zero, List.set_cons_zero, List.set_cons_succ]
        refine wpAnyT_path (i := 26) (p := []) (v := .string T3) rfl (by kernel_rfl) (by kernel_rfl) (fun _ _ _ h => h) HS2.out (.inl ⟨by rfl, fun W' hW => by clear hW; go_simp⟩) ?_
        try simp only [Act.put, List.setIfInBounds_toArray]
        try dsimp only [List.getElem_toArray, List.getElem_cons_succ, List.getElem_cons_zero, List.set_cons_zero, List.set_cons_succ]
        refine wpAnyT_path (i := 32) (p := []) (v := .string T4) rfl (by kernel_rfl) (by kernel_rfl) (fun _ _ _ h => h) HS2.out (.inl ⟨by rfl, fun W' hW => by clear hW; go_simp⟩) ?_
        try simp only [Act.put, List.setIfInBounds_toArray]
        try dsimp only [List.getElem_toArray, List.getElem_cons_succ, List.getElem_cons_zero, List.set_cons_zero, List.set_cons_succ]
        refine wpAnyT_one (i := 33) rfl (by kernel_rfl) ?_
        refine wpOp_plain rfl rfl (fun K hK => ?_)
        try simp only [Act.put, List.setIfInBounds_toArray]
        try dsimp only [List.getElem_toArray, List.getElem_cons_succ, List.getElem_cons_zero, List.set_cons_zero, List.set_cons_succ]
        have HKK2 := Lib.hid hK
        clear hK
        go_wp2_with fail
        refine HKK2.out _ _ ⟨fun _ => HS2.out, ?_⟩
        clear HKK2 K
        try simp only [Act.put, List.setIfInBounds_toArray]
        try dsimp only [List.getElem_toArray, List.getElem_cons_succ, List.getElem_cons_zero, List.set_cons_zero, List.set_cons_succ]
        refine wpAnyT_doneP (by first | rfl | kernel_rfl) _ _ _ ?_
        refine wpAny_done (by kernel_rfl) ?_ _
        have HFin := Lib.hid (HF.out.trans HR2.out (fun i hi => hi.elim))
        go_wp2_with fail
        go_roundw
        case rel => exact ⟨k + 1, by omega, HT4.out, by go_num, HFin.out⟩
        case measure => simp [intOf]; omega
      · refine wpOp_plain rfl rfl (fun K hK => ?_)
        try simp only [Act.put, List.setIfInBounds_toArray]
        try dsimp only [List.getElem_toArray, List.getElem_cons_succ, List.getElem_cons_zero, List.set_cons_zero, List.set_cons_succ]
        have HKK2 := Lib.hid hK
        clear hK
        go_wp2_with fail
        generalize hW1 : W0.alloc (.cells #[.int .u8 (c2.toNat : Int)] 5) = W1
        obtain ⟨g2, hg2⟩ : ∃ g, g = W0.heap.size := ⟨_, rfl⟩
        rw [← hg2]
        have HRB1 := Lib.hid (show Fr (fun _ => False) W0 W1 by rw [← hW1]; exact (Fr.refl _ _).alloc _)
        have HR1 := Lib.hid (HR0.out.trans HRB1.out (fun i hi => hi.elim))
        have HCB2 := Lib.hid (show ∀ W', Fr (fun _ => False) W1 W' → (convert 53 9 (.slice (some ⟨g2, 0, none⟩) 1 1)).run Tryz.prog W' = .ok (.string (str [c2])) W' from fun W' hf => run_convert_str W' _ _ Tryz.underlying53 Tryz.underlying5 g2 0 1 1 [c2] rfl (rangeAt_all (hf.heap (by rw [← hW1, hg2]; exact heap_alloc_new _ _) id)) _ Tryz.underlying9)
        have HS1 := Lib.hid (Fr.refl (fun _ => False) W1)
        clear hW1 hg2
        refine HKK2.out _ _ ⟨fun _ => HRB1.out, ?_⟩
        clear HKK2 K
        try simp only [Act.put, List.setIfInBounds_toArray]
        try dsimp only [List.getElem_toArray, List.getElem_cons_succ, List.getElem_cons_zero, List.set_cons_zero, List.set_cons_succ]
        refine wpAnyT_mono (S' := fun w' => Fr (fun _ => False) W1 w') (fun w' h => HRB1.out.trans h (fun i hi => hi.elim)) _ _ _ _ ?_
        refine wpAnyT_path (i := 25) (p := []) (v := .string (str [c2])) rfl (by kernel_rfl) (by kernel_rfl) (fun _ _ _ h => h) HS1.out (.inl ⟨by rfl, fun W' hW => by have h := HCB2.out W' hW; clear hW; simp [execOp, Act.eval, h]⟩) ?_
        try simp only [Act.put, List.setIfInBounds_toArray]
        try dsimp only [List.getElem_toArray, List.getElem_cons_succ, List.getElem_cons_zero, List.set_cons_zero, List.set_cons_succ]
        refine wpAnyT_one (i := 8) rfl (by kernel_rfl) ?_
        refine wpOp_plain rfl rfl (fun K hK => ?_)
        try simp only [Act.put, List.setIfInBounds_toArray]
        try dsimp only [List.getElem_toArray, List.getElem_cons_succ, List.getElem_cons_zero, List.set_cons_zero, List.set_cons_succ]
        have HKK2 := Lib.hid hK
        clear hK
        go_wp2_with fail
        generalize hW2 : W1.alloc (.cells #[.int .u8 (c1.toNat : Int)] 5) = W2
        obtain ⟨g1, hg1⟩ : ∃ g, g = W1.heap.size := ⟨_, rfl⟩
        rw [← hg1]
        have HRB2 := Lib.hid (show Fr (fun _ => False) W1 W2 by rw [← hW2]; exact (Fr.refl _ _).alloc _)
        have HR2 := Lib.hid (HR1.out.trans HRB2.out (fun i hi => hi.elim))
        have HCB1 := Lib.hid (show ∀ W', Fr (fun _ => False) W2 W' → (convert 53 9 (.slice (some ⟨g1, 0, none⟩) 1 1)).run Tryz.prog W' = .ok (.string (str [c1])) W' from fun W' hf => run_convert_str W' _ _ Tryz.underlying53 Tryz.underlying5 g1 0 1 1 [c1] rfl (rangeAt_all (hf.heap (by rw [← hW2, hg1]; exact heap_alloc_new _ _) id)) _ Tryz.underlying9)
        have HS2 := Lib.hid (Fr.refl (fun _ => False) W2)
        clear hW2 hg1
        refine HKK2.out _ _ ⟨fun _ => HRB2.out, ?_⟩
        clear HKK2 K
        try simp only [Act.put, List.setIfInBounds_toArray]
        try dsimp only [List.getElem_toArray, List.getElem_cons_succ, List.getElem_cons_zero, List.set_cons_zero, List.set_cons_succ]
        refine wpAnyT_mono (S' := fun w' => Fr (fun _ => False) W2 w') (fun w' h => HRB2.out.trans h (fun i hi => hi.elim)) _ _ _ _ ?_
        refine wpAnyT_path (i := 9) (p := []) (v := .string (str [c1])) rfl (by kernel_rfl) (by kernel_rfl) (fun _ _ _ h => h) HS2.out (.inl ⟨by rfl, fun W' hW => by have h := HCB1.out W' hW; clear hW; simp [execOp, Act.eval, h]⟩) ?_
        try simp only [Act.put, List.setIfInBounds_toArray]
        try dsimp only [List.getElem_toArray, List.getElem_cons_succ, List.getElem_cons_zero, List.set_cons_zero, List.set_cons_succ]
        refine wpAnyT_path (i := 10) (p := []) (v := .string T1) rfl (by kernel_rfl) (by kernel_rfl) (fun _ _ _ h => h) HS2.out (.inl ⟨by rfl, fun W' hW => by clear hW; go_simp⟩) ?_
        try simp only [Act.put, List.setIfInBounds_toArray]
        try dsimp only [List.getElem_toArray, List.getElem_cons_succ, List.getElem_cons_zero, List.set_cons_zero, List.set_cons_succ]
        refine wpAnyT_path (i := 16) (p := []) (v := .string T2) rfl (by kernel_rfl) (by kernel_rfl) (fun _ _ _ h => h) HS2.out (.inl ⟨by rfl, fun W' hW => by clear hW; go_simp⟩) ?_
        try simp only [Act.put, List.setIfInBounds_toArray]
        try dsimp only [List.getElem_toArray, List.getElem_cons_succ, List.getElem_cons_zero, List.set_cons_zero, List.set_cons_succ]
        refine wpAnyT_path (i := 26) (p := []) (v := .string T3) rfl (by kernel_rfl) (by kernel_rfl) (fun _ _ _ h => h) HS2.out (.inl ⟨by rfl, fun W' hW => by clear hW; go_simp⟩) ?_
        try simp only [Act.put, List.setIfInBounds_toArray]
        try dsimp only [List.getElem_toArray, List.getElem_cons_succ, List.getElem_cons_zero, List.set_cons_zero, List.set_cons_succ]
        refine wpAnyT_path (i := 32) (p := []) (v := .string T4) rfl (by kernel_rfl) (by kernel_rfl) (fun _ _ _ h => h) HS2.out (.inl ⟨by rfl, fun W' hW => by clear hW; go_simp⟩) ?_
        try simp only [Act.put, List.setIfInBounds_toArray]
        try dsimp only [List.getElem_toArray, List.getElem_cons_succ, List.getElem_cons_zero, List.set_cons_zero, List.set_cons_succ]
        refine wpAnyT_one (i := 33) rfl (by kernel_rfl) ?_
        refine wpOp_plain rfl rfl (fun K hK => ?_)
        try simp only [Act.put, List.setIfInBounds_toArray]
        try dsimp only [List.getElem_toArray, List.getElem_cons_succ, List.getElem_cons_zero, List.set_cons_zero, List.set_cons_succ]
        have HKK2 := Lib.hid hK
        clear hK
        go_wp2_with fail
        refine HKK2.out _ _ ⟨fun _ => HS2.out, ?_⟩
        clear HKK2 K
        try simp only [Act.put, List.setIfInBounds_toArray]
        try dsimp only [List.getElem_toArray, List.getElem_cons_succ, List.getElem_cons_zero, List.set_cons_zero, List.set_cons_succ]
        refine wpAnyT_doneP (by first | rfl | kernel_rfl) _ _ _ ?_
        refine wpAny_done (by kernel_rfl) ?_ _
        have HFin := Lib.hid (HF.out.trans HR2.out (fun i hi => hi.elim))
        go_wp2_with fail
        go_roundw
        case rel => exact ⟨k + 1, by omega, HT4.out, by go_num, HFin.out⟩
        case measure => simp [intOf]; omega
    · obtain rfl : k = n := by omega
      have hge : ¬ (k : Int) < (k : Int) := by omega
      have HT := Lib.hid (show T0 = res by rw [hT0, HRes.out, show m.take k = m by rw [HN.out]; exact List.take_of_length_le (Nat.le_refl _)])
      have HFin := Lib.hid (G2.out.trans HF.out (fun i hi => hi.elim))
      clear hT0 hfr hlt
      go_wp2_with fail
      go_ret2
      exact ⟨by rw [HT.out]; rfl, HFin.out⟩
theorem reftext_calls (a : Option Addr) (cap : Nat) (l : List Pr) (w : World) (hl : PSl w a l) (hlc : l.length ≤ cap) (hcap : cap ≤ 9223372036854775807) :
    Calls Tryz.prog 16 #[.slice a l.length cap] w fun e w' => e = .returned (.tuple #[.string (str (if rightB l then textOf l else [])), .int .i64 (if rightB l then 0 else 2)]) ∧ Fr (fun _ => False) w w' := by
  cases hr : rightB l with
  | false => exact reftext_no a cap l w hl hlc hcap hr
  | true => exact reftext_yes a cap l w hl hlc hcap hr
end Go.Proofs.YtcchhfkmhbjdmaaGreat
