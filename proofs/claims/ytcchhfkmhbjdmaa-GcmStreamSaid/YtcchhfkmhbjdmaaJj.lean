/- MacKeys: the walk. -/
import Derived.Test.YtcchhfkmhbjdmaaJi
import Derived.Laws.OwnMore
set_option linter.unusedVariables false
set_option linter.unusedSimpArgs false
set_option pp.deepTerms true
set_option pp.maxSteps 100000
namespace Go.Proofs.Ytcchhfkmhbjdmaa
open Go.RowKit
theorem jmade_bytes (n : Nat) : madeCells #[.int .u8 0] n = (bcells (List.replicate n 0)).toArray := by
  apply Array.ext'
  rw [toList_madeCells_one]
  simp [bcells]
set_option maxRecDepth 20000 in
theorem make_zeros (m : Nat) (hm : m ≤ 100000) (w : World) : (Instr.makeSlice 27 (.int .i64 (m : Int)) (.int .i64 (m : Int))).run Try.prog w = .ok (.slice (some ⟨w.heap.size, 0, none⟩) m m) (w.alloc (.cells (bcells (List.replicate m 0)).toArray 5)) := by
  obtain ⟨i0, hi0⟩ : ∃ i0, Try.prog.info? 5 = some i0 := ⟨_, rfl⟩
  have hz0 : (Try.prog.info? 5).map (fun i => (i.zero, i.size, i.bytes)) = some (some (.int .u8 0), 1, 1) := by kernel_rfl
  rw [hi0] at hz0
  simp only [Option.map_some, Option.some.injEq, Prod.mk.injEq] at hz0
  have h := run_makeSlice (P := Try.prog) w 27 5 i0 (.int .u8 0) Try.underlying27 hi0 hz0.1 .i64 .i64 m m (by omega) (by omega) (by rw [hz0.2.1]; simp; omega) (by rw [hz0.2.2]; omega) (by omega)
  rw [h, hz0.2.1]
  simp only [Int.toNat_natCast, Nat.mul_one]
  rw [show (Value.int IntKind.u8 0).cells = #[.int .u8 0] from rfl, jmade_bytes]
theorem tag_dig (key s : List UInt8) (h : 64 < key.length) : tag (dig key) s = tag key s := by
  unfold tag
  rw [show keyN (dig key) = keyN key by unfold keyN; rw [if_pos h, if_neg (by rw [dig_length]; omega)]]
theorem tag_pad (key s : List UInt8) (m : Nat) (h : key.length + m ≤ 64) : tag (key ++ List.replicate m 0) s = tag key s := by
  unfold tag
  rw [show keyN (key ++ List.replicate m 0) = key ++ List.replicate m 0 by unfold keyN; rw [if_neg (by rw [List.length_append, List.length_replicate]; omega)], show keyN key = key by unfold keyN; rw [if_neg (by omega)]]
  unfold padK
  rw [List.append_assoc, List.length_append, List.length_replicate, List.replicate_append_replicate, show m + (64 - (key.length + m)) = 64 - key.length by omega]
set_option maxRecDepth 20000 in
set_option maxHeartbeats 1000000 in
theorem keys_walk (key s : ByteArray) (cut noughts : Int) (w : World) :
    Calls Try.prog 10 #[.string key, .string s, .int .i64 cut, .int .i64 noughts] w fun e w' => e = .returned (.bool true) ∧ Fr (fun _ => False) w w' := by
  have HAW := Lib.hid (mac_awake w)
  by_cases g0 : (300 : Int) < (key.size : Int)
  · have d0 : decide ((300 : Int) < (key.size : Int)) = true := decide_eq_true g0
    clear g0
    go_enter Try.func10, Try.ntmps10
    go_wp2_with fail
    refine HAW.out.mono ?_
    rintro e w1 ⟨rfl, h1⟩
    have HF1 := Lib.hid h1
    clear h1
    go_wp2_with fail
    go_ret
    exact ⟨rfl, HF1.out⟩
  by_cases g1 : (1000 : Int) < (s.size : Int)
  · have d0 : decide ((300 : Int) < (key.size : Int)) = false := decide_eq_false g0
    have d1 : decide ((1000 : Int) < (s.size : Int)) = true := decide_eq_true g1
    clear g0 g1
    go_enter Try.func10, Try.ntmps10
    go_wp2_with fail
    refine HAW.out.mono ?_
    rintro e w1 ⟨rfl, h1⟩
    have HF1 := Lib.hid h1
    clear h1
    go_wp2_with fail
    go_ret
    exact ⟨rfl, HF1.out⟩
  by_cases g2 : cut < 0
  · have d0 : decide ((300 : Int) < (key.size : Int)) = false := decide_eq_false g0
    have d1 : decide ((1000 : Int) < (s.size : Int)) = false := decide_eq_false g1
    have d2 : decide (cut < 0) = true := decide_eq_true g2
    clear g0 g1 g2
    go_enter Try.func10, Try.ntmps10
    go_wp2_with fail
    refine HAW.out.mono ?_
    rintro e w1 ⟨rfl, h1⟩
    have HF1 := Lib.hid h1
    clear h1
    go_wp2_with fail
    go_ret
    exact ⟨rfl, HF1.out⟩
  by_cases g3 : (s.size : Int) < cut
  · have d0 : decide ((300 : Int) < (key.size : Int)) = false := decide_eq_false g0
    have d1 : decide ((1000 : Int) < (s.size : Int)) = false := decide_eq_false g1
    have d2 : decide (cut < 0) = false := decide_eq_false g2
    have d3 : decide ((s.size : Int) < cut) = true := decide_eq_true g3
    clear g0 g1 g2 g3
    go_enter Try.func10, Try.ntmps10
    go_wp2_with fail
    refine HAW.out.mono ?_
    rintro e w1 ⟨rfl, h1⟩
    have HF1 := Lib.hid h1
    clear h1
    go_wp2_with fail
    go_ret
    exact ⟨rfl, HF1.out⟩
  by_cases g4 : noughts < 0
  · have d0 : decide ((300 : Int) < (key.size : Int)) = false := decide_eq_false g0
    have d1 : decide ((1000 : Int) < (s.size : Int)) = false := decide_eq_false g1
    have d2 : decide (cut < 0) = false := decide_eq_false g2
    have d3 : decide ((s.size : Int) < cut) = false := decide_eq_false g3
    have d4 : decide (noughts < 0) = true := decide_eq_true g4
    clear g0 g1 g2 g3 g4
    go_enter Try.func10, Try.ntmps10
    go_wp2_with fail
    refine HAW.out.mono ?_
    rintro e w1 ⟨rfl, h1⟩
    have HF1 := Lib.hid h1
    clear h1
    go_wp2_with fail
    go_ret
    exact ⟨rfl, HF1.out⟩
  by_cases g5 : (64 : Int) < noughts
  · have d0 : decide ((300 : Int) < (key.size : Int)) = false := decide_eq_false g0
    have d1 : decide ((1000 : Int) < (s.size : Int)) = false := decide_eq_false g1
    have d2 : decide (cut < 0) = false := decide_eq_false g2
    have d3 : decide ((s.size : Int) < cut) = false := decide_eq_false g3
    have d4 : decide (noughts < 0) = false := decide_eq_false g4
    have d5 : decide ((64 : Int) < noughts) = true := decide_eq_true g5
    clear g0 g1 g2 g3 g4 g5
    go_enter Try.func10, Try.ntmps10
    go_wp2_with fail
    refine HAW.out.mono ?_
    rintro e w1 ⟨rfl, h1⟩
    have HF1 := Lib.hid h1
    clear h1
    go_wp2_with fail
    go_ret
    exact ⟨rfl, HF1.out⟩
  have d0 : decide ((300 : Int) < (key.size : Int)) = false := decide_eq_false g0
  have d1 : decide ((1000 : Int) < (s.size : Int)) = false := decide_eq_false g1
  have d2 : decide (cut < 0) = false := decide_eq_false g2
  have d3 : decide ((s.size : Int) < cut) = false := decide_eq_false g3
  have d4 : decide (noughts < 0) = false := decide_eq_false g4
  have d5 : decide ((64 : Int) < noughts) = false := decide_eq_false g5
  obtain ⟨c, rfl⟩ : ∃ c : Nat, cut = (c : Int) := ⟨cut.toNat, by omega⟩
  obtain ⟨nn, rfl⟩ : ∃ c : Nat, noughts = (c : Int) := ⟨noughts.toNat, by omega⟩
  obtain ⟨lk, hlk⟩ : ∃ l, key = str l := ⟨key.data.toList, by apply ByteArray.ext; simp [str]⟩
  obtain ⟨ls, hls⟩ : ∃ l, s = str l := ⟨s.data.toList, by apply ByteArray.ext; simp [str]⟩
  have hsk : key.size = lk.length := by rw [hlk, str_size]
  have hss : s.size = ls.length := by rw [hls, str_size]
  have HBD := Lib.hid (show lk.length ≤ 300 ∧ ls.length ≤ 1000 ∧ c ≤ ls.length ∧ nn ≤ 64 by omega)
  have HLK := Lib.hid hlk
  have HLS := Lib.hid hls
  obtain ⟨TG, hTG⟩ : ∃ S, S = str (tag lk ls) := ⟨_, rfl⟩
  obtain ⟨s1, hs1⟩ : ∃ S, S = str (ls.take c) := ⟨_, rfl⟩
  obtain ⟨s2, hs2⟩ : ∃ S, S = str (ls.drop c) := ⟨_, rfl⟩
  have hx1 : s.extract 0 c = s1 := by rw [hls, hs1]; exact jstr_take ls c
  have hx2 : s.extract c s.size = s2 := by rw [hls, hs2]; exact jstr_drop ls c
  have hcs : (c : Int) ≤ (s.size : Int) := by omega
  have hcs2 : c ≤ s.size := by omega
  have HTag := Lib.hid (show ∀ w : World, Calls Try.prog 38 #[.string key, .slice (some ⟨w.heap.size, 0, none⟩) 1 1] (w.alloc (.cells #[.string s] 9)) fun e w' => e = .returned (.string TG) ∧ Fr (fun _ => False) (w.alloc (.cells #[.string s] 9)) w' from fun w => by
      have h := mac_tag lk w.heap.size 1 [ls] (w.alloc (.cells (([ls] : List (List UInt8)).map fun s => Value.string (str s)).toArray 9)) (fun j s hj => strs_cell w _ 9 j s hj) (by rw [World.size_alloc]; omega) (by have := HBD.out; omega) (by have := HBD.out; simp; omega) (by simp)
      rw [show ([ls] : List (List UInt8)).flatten = ls by simp] at h
      rw [hlk, hls, hTG]; exact h)
  have HTag2 := Lib.hid (show ∀ w : World, Calls Try.prog 38 #[.string key, .slice (some ⟨w.heap.size, 0, none⟩) 2 2] (w.alloc (.cells #[.string s1, .string s2] 9)) fun e w' => e = .returned (.string TG) ∧ Fr (fun _ => False) (w.alloc (.cells #[.string s1, .string s2] 9)) w' from fun w => by
      have h := mac_tag lk w.heap.size 2 [ls.take c, ls.drop c] (w.alloc (.cells (([ls.take c, ls.drop c] : List (List UInt8)).map fun s => Value.string (str s)).toArray 9)) (fun j s hj => strs_cell w _ 9 j s hj) (by rw [World.size_alloc]; omega) (by have := HBD.out; omega) (by have := HBD.out; simp; omega) (by simp)
      rw [show ([ls.take c, ls.drop c] : List (List UInt8)).flatten = ls by simp] at h
      rw [hlk, hs1, hs2, hTG]; exact h)
  clear hs1 hs2 g0 g1 g2 g3 g4 g5
  by_cases h64 : 64 < key.size
  · have d64 : decide ((64 : Int) < (key.size : Int)) = true := decide_eq_true (by omega)
    obtain ⟨KD, hKD⟩ : ∃ S, S = str (dig lk) := ⟨_, rfl⟩
    have HOf := Lib.hid (show ∀ w : World, Calls Try.prog 33 #[.slice (some ⟨w.heap.size, 0, none⟩) 1 1] (w.alloc (.cells #[.string key] 9)) fun e w' => e = .returned (.string KD) ∧ Fr (fun _ => False) (w.alloc (.cells #[.string key] 9)) w' from fun w => by
      have h := sha_of w.heap.size 1 [lk] (w.alloc (.cells (([lk] : List (List UInt8)).map fun s => Value.string (str s)).toArray 9)) (fun j s hj => strs_cell w _ 9 j s hj) (by have := HBD.out; simp; omega) (by simp) (by rw [World.size_alloc]; omega)
      rw [show ([lk] : List (List UInt8)).flatten = lk by simp, ← hKD] at h
      rw [hlk]; exact h)
    have HTag3 := Lib.hid (show ∀ w : World, Calls Try.prog 38 #[.string KD, .slice (some ⟨w.heap.size, 0, none⟩) 1 1] (w.alloc (.cells #[.string s] 9)) fun e w' => e = .returned (.string TG) ∧ Fr (fun _ => False) (w.alloc (.cells #[.string s] 9)) w' from fun w => by
      have h := mac_tag (dig lk) w.heap.size 1 [ls] (w.alloc (.cells (([ls] : List (List UInt8)).map fun s => Value.string (str s)).toArray 9)) (fun j s hj => strs_cell w _ 9 j s hj) (by rw [World.size_alloc]; omega) (by rw [dig_length]; omega) (by have := HBD.out; simp; omega) (by simp)
      rw [show ([ls] : List (List UInt8)).flatten = ls by simp] at h
      rw [hKD, hls, hTG, ← tag_dig lk ls (by omega)]; exact h)
    clear hKD hlk hls hTG hsk hss h64
    go_enter Try.func10, Try.ntmps10
    go_wp2_with fail
    refine HAW.out.mono ?_
    rintro e w1 ⟨rfl, h1⟩
    have HF1 := Lib.hid h1
    clear h1
    go_wp2_with fail
    refine (HTag.out _).mono ?_
    rintro e w2 ⟨rfl, h2⟩
    have HF2 := Lib.hid ((HF1.out.alloc (.cells #[.string s] 9)).trans h2 (fun i hi => hi.elim))
    clear h2
    go_wp2_with fail
    refine wp_region_till (fun W => True) 10 (by kernel_rfl) ?_
    have HS := Lib.hid trivial
    have HF3 := Lib.hid HF2.out.drew
    generalize w2.drew = w3 at HF3 ⊢
    refine wpAnyT_take (i := 0) (n := 10) (v := .string TG) rfl (by kernel_rfl) (fun _ _ _ h => h) HS.out (yieldsIf_plain rfl (fun W hW => by clear hW; go_simp)) ?_
    simp only [List.getElem_toArray, List.getElem_cons_succ, List.getElem_cons_zero, Act.put, List.setIfInBounds_toArray, List.set_cons_zero, List.set_cons_succ]
    refine wpAnyT_take (i := 1) (n := 10) (v := .string key) rfl (by kernel_rfl) (fun _ _ _ h => h) HS.out (yieldsIf_plain rfl (fun W hW => by clear hW; go_simp)) ?_
    simp only [List.getElem_toArray, List.getElem_cons_succ, List.getElem_cons_zero, Act.put, List.setIfInBounds_toArray, List.set_cons_zero, List.set_cons_succ]
    refine wpAnyT_take (i := 2) (n := 10) (v := .string s) rfl (by kernel_rfl) (fun _ _ _ h => h) HS.out (yieldsIf_plain rfl (fun W hW => by clear hW; go_simp)) ?_
    simp only [List.getElem_toArray, List.getElem_cons_succ, List.getElem_cons_zero, Act.put, List.setIfInBounds_toArray, List.set_cons_zero, List.set_cons_succ]
    refine wpAnyT_take (i := 3) (n := 10) (v := .int .i64 (c : Int)) rfl (by kernel_rfl) (fun _ _ _ h => h) HS.out (yieldsIf_plain rfl (fun W hW => by clear hW; go_simp)) ?_
    simp only [List.getElem_toArray, List.getElem_cons_succ, List.getElem_cons_zero, Act.put, List.setIfInBounds_toArray, List.set_cons_zero, List.set_cons_succ]
    refine wpAnyT_take (i := 4) (n := 10) (v := .string s1) rfl (by kernel_rfl) (fun _ _ _ h => h) HS.out (yieldsIf_plain rfl (fun W hW => by clear hW; go_simp)) ?_
    simp only [List.getElem_toArray, List.getElem_cons_succ, List.getElem_cons_zero, Act.put, List.setIfInBounds_toArray, List.set_cons_zero, List.set_cons_succ]
    refine wpAnyT_take (i := 5) (n := 10) (v := .string s) rfl (by kernel_rfl) (fun _ _ _ h => h) HS.out (yieldsIf_plain rfl (fun W hW => by clear hW; go_simp)) ?_
    simp only [List.getElem_toArray, List.getElem_cons_succ, List.getElem_cons_zero, Act.put, List.setIfInBounds_toArray, List.set_cons_zero, List.set_cons_succ]
    refine wpAnyT_take (i := 6) (n := 10) (v := .int .i64 (c : Int)) rfl (by kernel_rfl) (fun _ _ _ h => h) HS.out (yieldsIf_plain rfl (fun W hW => by clear hW; go_simp)) ?_
    simp only [List.getElem_toArray, List.getElem_cons_succ, List.getElem_cons_zero, Act.put, List.setIfInBounds_toArray, List.set_cons_zero, List.set_cons_succ]
    refine wpAnyT_take (i := 7) (n := 10) (v := .string s2) rfl (by kernel_rfl) (fun _ _ _ h => h) HS.out (yieldsIf_plain rfl (fun W hW => by clear hW; go_simp)) ?_
    simp only [List.getElem_toArray, List.getElem_cons_succ, List.getElem_cons_zero, Act.put, List.setIfInBounds_toArray, List.set_cons_zero, List.set_cons_succ]
    refine wpAnyT_one (i := 8) rfl (by kernel_rfl) (wpOp_plain rfl rfl (fun K hK => ?_))
    simp only [List.getElem_toArray, List.getElem_cons_succ, List.getElem_cons_zero, Act.put, List.setIfInBounds_toArray, List.set_cons_zero, List.set_cons_succ]
    have HKK := Lib.hid hK
    clear hK
    go_wp2_with fail
    refine HKK.out _ _ ⟨fun _ => trivial, ?_⟩
    clear HKK K
    try simp only [List.getElem_toArray, List.getElem_cons_succ, List.getElem_cons_zero, Act.put, List.setIfInBounds_toArray, List.set_cons_zero, List.set_cons_succ]
    refine wpAnyT_one (i := 9) rfl (by kernel_rfl) (wpOp_plain rfl rfl (fun K hK => ?_))
    simp only [List.getElem_toArray, List.getElem_cons_succ, List.getElem_cons_zero, Act.put, List.setIfInBounds_toArray, List.set_cons_zero, List.set_cons_succ]
    have HKK := Lib.hid hK
    clear hK
    go_wp2_with fail
    refine (HTag2.out _).mono ?_
    rintro e w4 ⟨rfl, h4⟩
    have HF4 := Lib.hid ((HF3.out.alloc (.cells #[.string s1, .string s2] 9)).trans h4 (fun i hi => hi.elim))
    clear h4
    go_wp2_with fail
    refine HKK.out _ _ ⟨fun _ => trivial, ?_⟩
    clear HKK K
    try simp only [List.getElem_toArray, List.getElem_cons_succ, List.getElem_cons_zero, Act.put, List.setIfInBounds_toArray, List.set_cons_zero, List.set_cons_succ]
    refine wpAnyT_of_any trivial [10] _ _ _ _ (by kernel_rfl) (by simp) (.inr rfl) ?_
    simp only [List.filterMap_cons, List.filterMap_nil, List.getElem?_toArray, List.getElem?_cons_zero, List.getElem?_cons_succ]
    go_wp2_with fail
    refine (HOf.out _).mono ?_
    rintro e w5 ⟨rfl, h5⟩
    have HF5 := Lib.hid ((HF4.out.alloc (.cells #[.string key] 9)).trans h5 (fun i hi => hi.elim))
    clear h5
    go_wp2_with fail
    refine (HTag3.out _).mono ?_
    rintro e w6 ⟨rfl, h6⟩
    have HF6 := Lib.hid ((HF5.out.alloc (.cells #[.string s] 9)).trans h6 (fun i hi => hi.elim))
    clear h6
    go_wp2_with fail
    go_ret
    exact ⟨by simp, HF6.out⟩
  · have d64 : decide ((64 : Int) < (key.size : Int)) = false := decide_eq_false (by omega)
    obtain ⟨m, hm⟩ : ∃ m, m = min nn (64 - key.size) := ⟨_, rfl⟩
    obtain ⟨zs, hzs⟩ : ∃ S, S = str (List.replicate m 0) := ⟨_, rfl⟩
    obtain ⟨KZ, hKZ⟩ : ∃ S, S = str (lk ++ List.replicate m 0) := ⟨_, rfl⟩
    have hap : key ++ zs = KZ := by rw [hlk, hzs, hKZ, jstr_append]
    have hzl : zs.size = m := by rw [hzs, str_size, List.length_replicate]
    have hsz : ¬ 9223372036854775807 < key.size + zs.size := by omega
    have hsz2 : key.size + zs.size ≤ 9223372036854775807 := by omega
    have hsz3 : key.size + m ≤ 9223372036854775807 := by omega
    have HZS := Lib.hid hzs
    have HTag4 := Lib.hid (show ∀ (w : World) (g : Nat), g = w.heap.size → Calls Try.prog 38 #[.string KZ, .slice (some ⟨g, 0, none⟩) 1 1] (w.alloc (.cells #[.string s] 9)) fun e w' => e = .returned (.string TG) ∧ Fr (fun _ => False) (w.alloc (.cells #[.string s] 9)) w' from fun w g hg => by
      subst hg
      have h := mac_tag (lk ++ List.replicate m 0) w.heap.size 1 [ls] (w.alloc (.cells (([ls] : List (List UInt8)).map fun s => Value.string (str s)).toArray 9)) (fun j s hj => strs_cell w _ 9 j s hj) (by rw [World.size_alloc]; omega) (by have := HBD.out; rw [List.length_append, List.length_replicate]; omega) (by have := HBD.out; simp; omega) (by simp)
      rw [show ([ls] : List (List UInt8)).flatten = ls by simp] at h
      rw [hKZ, hls, hTG, ← tag_pad lk ls m (by omega)]; exact h)
    obtain ⟨b, hb⟩ : ∃ b : Nat, b = 64 - key.size := ⟨_, rfl⟩
    have hwb : IntKind.i64.wrap (64 - (key.size : Int)) = (b : Int) := by rw [IntWalk.i64_in _ (by omega)]; omega
    have hmin : min (nn : Int) (b : Int) = (m : Int) := by omega
    have HMK := Lib.hid (fun w => make_zeros m (by omega) w)
    have HMC := Lib.hid (show ∀ w : World, Sem.run Try.prog (convert 27 9 (.slice (some ⟨w.heap.size, 0, none⟩) m m)) (w.alloc (.cells (bcells (List.replicate m 0)).toArray 5)) = .ok (.string zs) (w.alloc (.cells (bcells (List.replicate m 0)).toArray 5)) from fun w => by
      rw [HZS.out]
      exact run_convert_str (P := Try.prog) (w.alloc (.cells (bcells (List.replicate m 0)).toArray 5)) 27 5 Try.underlying27 Try.underlying5 w.heap.size 0 m m (List.replicate m 0) (by simp) (fun j v hj => by
        rw [Nat.zero_add, cell_of_row _ w.heap.size j _ _ _ (heap_alloc_new w _)]; simpa using hj) 9 Try.underlying9)
    have hm64 : m ≤ 64 := by omega
    clear hzs hKZ hlk hls hTG hsk hss h64 hb hm
    go_enter Try.func10, Try.ntmps10
    go_wp2_with fail
    refine HAW.out.mono ?_
    rintro e w1 ⟨rfl, h1⟩
    have HF1 := Lib.hid h1
    clear h1
    go_wp2_with fail
    refine (HTag.out _).mono ?_
    rintro e w2 ⟨rfl, h2⟩
    have HF2 := Lib.hid ((HF1.out.alloc (.cells #[.string s] 9)).trans h2 (fun i hi => hi.elim))
    clear h2
    go_wp2_with fail
    refine wp_region_till (fun W => True) 10 (by kernel_rfl) ?_
    have HS := Lib.hid trivial
    have HF3 := Lib.hid HF2.out.drew
    generalize w2.drew = w3 at HF3 ⊢
    refine wpAnyT_take (i := 0) (n := 10) (v := .string TG) rfl (by kernel_rfl) (fun _ _ _ h => h) HS.out (yieldsIf_plain rfl (fun W hW => by clear hW; go_simp)) ?_
    simp only [List.getElem_toArray, List.getElem_cons_succ, List.getElem_cons_zero, Act.put, List.setIfInBounds_toArray, List.set_cons_zero, List.set_cons_succ]
    refine wpAnyT_take (i := 1) (n := 10) (v := .string key) rfl (by kernel_rfl) (fun _ _ _ h => h) HS.out (yieldsIf_plain rfl (fun W hW => by clear hW; go_simp)) ?_
    simp only [List.getElem_toArray, List.getElem_cons_succ, List.getElem_cons_zero, Act.put, List.setIfInBounds_toArray, List.set_cons_zero, List.set_cons_succ]
    refine wpAnyT_take (i := 2) (n := 10) (v := .string s) rfl (by kernel_rfl) (fun _ _ _ h => h) HS.out (yieldsIf_plain rfl (fun W hW => by clear hW; go_simp)) ?_
    simp only [List.getElem_toArray, List.getElem_cons_succ, List.getElem_cons_zero, Act.put, List.setIfInBounds_toArray, List.set_cons_zero, List.set_cons_succ]
    refine wpAnyT_take (i := 3) (n := 10) (v := .int .i64 (c : Int)) rfl (by kernel_rfl) (fun _ _ _ h => h) HS.out (yieldsIf_plain rfl (fun W hW => by clear hW; go_simp)) ?_
    simp only [List.getElem_toArray, List.getElem_cons_succ, List.getElem_cons_zero, Act.put, List.setIfInBounds_toArray, List.set_cons_zero, List.set_cons_succ]
    refine wpAnyT_take (i := 4) (n := 10) (v := .string s1) rfl (by kernel_rfl) (fun _ _ _ h => h) HS.out (yieldsIf_plain rfl (fun W hW => by clear hW; go_simp)) ?_
    simp only [List.getElem_toArray, List.getElem_cons_succ, List.getElem_cons_zero, Act.put, List.setIfInBounds_toArray, List.set_cons_zero, List.set_cons_succ]
    refine wpAnyT_take (i := 5) (n := 10) (v := .string s) rfl (by kernel_rfl) (fun _ _ _ h => h) HS.out (yieldsIf_plain rfl (fun W hW => by clear hW; go_simp)) ?_
    simp only [List.getElem_toArray, List.getElem_cons_succ, List.getElem_cons_zero, Act.put, List.setIfInBounds_toArray, List.set_cons_zero, List.set_cons_succ]
    refine wpAnyT_take (i := 6) (n := 10) (v := .int .i64 (c : Int)) rfl (by kernel_rfl) (fun _ _ _ h => h) HS.out (yieldsIf_plain rfl (fun W hW => by clear hW; go_simp)) ?_
    simp only [List.getElem_toArray, List.getElem_cons_succ, List.getElem_cons_zero, Act.put, List.setIfInBounds_toArray, List.set_cons_zero, List.set_cons_succ]
    refine wpAnyT_take (i := 7) (n := 10) (v := .string s2) rfl (by kernel_rfl) (fun _ _ _ h => h) HS.out (yieldsIf_plain rfl (fun W hW => by clear hW; go_simp)) ?_
    simp only [List.getElem_toArray, List.getElem_cons_succ, List.getElem_cons_zero, Act.put, List.setIfInBounds_toArray, List.set_cons_zero, List.set_cons_succ]
    refine wpAnyT_one (i := 8) rfl (by kernel_rfl) (wpOp_plain rfl rfl (fun K hK => ?_))
    simp only [List.getElem_toArray, List.getElem_cons_succ, List.getElem_cons_zero, Act.put, List.setIfInBounds_toArray, List.set_cons_zero, List.set_cons_succ]
    have HKK := Lib.hid hK
    clear hK
    go_wp2_with fail
    refine HKK.out _ _ ⟨fun _ => trivial, ?_⟩
    clear HKK K
    try simp only [List.getElem_toArray, List.getElem_cons_succ, List.getElem_cons_zero, Act.put, List.setIfInBounds_toArray, List.set_cons_zero, List.set_cons_succ]
    refine wpAnyT_one (i := 9) rfl (by kernel_rfl) (wpOp_plain rfl rfl (fun K hK => ?_))
    simp only [List.getElem_toArray, List.getElem_cons_succ, List.getElem_cons_zero, Act.put, List.setIfInBounds_toArray, List.set_cons_zero, List.set_cons_succ]
    have HKK := Lib.hid hK
    clear hK
    go_wp2_with fail
    refine (HTag2.out _).mono ?_
    rintro e w4 ⟨rfl, h4⟩
    have HF4 := Lib.hid ((HF3.out.alloc (.cells #[.string s1, .string s2] 9)).trans h4 (fun i hi => hi.elim))
    clear h4
    go_wp2_with fail
    refine HKK.out _ _ ⟨fun _ => trivial, ?_⟩
    clear HKK K
    try simp only [List.getElem_toArray, List.getElem_cons_succ, List.getElem_cons_zero, Act.put, List.setIfInBounds_toArray, List.set_cons_zero, List.set_cons_succ]
    refine wpAnyT_of_any trivial [10] _ _ _ _ (by kernel_rfl) (by simp) (.inr rfl) ?_
    simp only [List.filterMap_cons, List.filterMap_nil, List.getElem?_toArray, List.getElem?_cons_zero, List.getElem?_cons_succ]
    have hmk := HMK.out w4
    have hmc := HMC.out w4
    go_wp2_with fail
    refine (HTag4.out (w4.alloc (.cells (bcells (List.replicate m 0)).toArray 5)) (w4.heap.size + 1) (by rw [World.size_alloc])).mono ?_
    rintro e w6 ⟨rfl, h6⟩
    have HF6 := Lib.hid (((HF4.out.alloc (.cells (bcells (List.replicate m 0)).toArray 5)).alloc (.cells #[.string s] 9)).trans h6 (fun i hi => hi.elim))
    clear h6
    go_wp2_with fail
    go_ret
    exact ⟨by simp, HF6.out⟩
end Go.Proofs.Ytcchhfkmhbjdmaa
