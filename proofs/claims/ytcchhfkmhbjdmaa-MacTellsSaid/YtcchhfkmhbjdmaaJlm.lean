/- The document's digest: the whole. -/
import Derived.Test.YtcchhfkmhbjdmaaJl3
import Derived.Test.YtcchhfkmhbjdmaaJr
set_option linter.unusedVariables false
set_option linter.unusedSimpArgs false
set_option pp.deepTerms true
set_option pp.maxSteps 100000
namespace Go.Proofs.Ytcchhfkmhbjdmaa
open Go.RowKit
theorem pad_mod (n k : Nat) (hk : k ≤ (119 - n % 64) % 64) : ((n + 1 + k) % 64 = 56) ↔ k = (119 - n % 64) % 64 := by omega
theorem be8_length (n : Nat) : (be8 n).length = 8 := by simp [be8]
theorem be8_get (n k : Nat) (hk : k < 8) : (be8 n)[k]? = some (UInt8.ofNat (n / 2 ^ (56 - 8 * k))) := by simp [be8, hk]
set_option maxRecDepth 100000 in
set_option maxHeartbeats 4000000 in
theorem kt_calls (w : World) : Calls Try.prog 81 #[] w fun e w' => e = .returned (.agg (wcells kT).toArray) ∧ Fr (fun _ => False) w w' := by
  go_enter Try.func81, Try.ntmps81
  go_wp2_with (with_reducible refine wpList_store_fresh (op := ⟨none, .store 115 _ _, _, _, _, _⟩) rfl 115 _ _ rfl w #[.int .u32 0, .int .u32 0, .int .u32 0, .int .u32 0, .int .u32 0, .int .u32 0, .int .u32 0, .int .u32 0, .int .u32 0, .int .u32 0, .int .u32 0, .int .u32 0, .int .u32 0, .int .u32 0, .int .u32 0, .int .u32 0, .int .u32 0, .int .u32 0, .int .u32 0, .int .u32 0, .int .u32 0, .int .u32 0, .int .u32 0, .int .u32 0, .int .u32 0, .int .u32 0, .int .u32 0, .int .u32 0, .int .u32 0, .int .u32 0, .int .u32 0, .int .u32 0, .int .u32 0, .int .u32 0, .int .u32 0, .int .u32 0, .int .u32 0, .int .u32 0, .int .u32 0, .int .u32 0, .int .u32 0, .int .u32 0, .int .u32 0, .int .u32 0, .int .u32 0, .int .u32 0, .int .u32 0, .int .u32 0, .int .u32 0, .int .u32 0, .int .u32 0, .int .u32 0, .int .u32 0, .int .u32 0, .int .u32 0, .int .u32 0, .int .u32 0, .int .u32 0, .int .u32 0, .int .u32 0, .int .u32 0, .int .u32 0, .int .u32 0, .int .u32 0] (wcells kT).toArray rfl rfl rfl rfl (by kernel_rfl) (by simpa using wcells_one kT) ?_)
  refine bodyPost_ret (results_cell_row rfl _ _ w.heap.size 115 (wcells kT).toArray (0, 0) _ rfl (heap_alloc_new w _) Try.underlying115 rfl (by kernel_rfl)) rfl ?_
  exact ⟨rfl, (Fr.refl _ _).alloc _⟩
set_option maxRecDepth 100000 in
set_option maxHeartbeats 4000000 in
theorem ref_sum (text : List UInt8) (hb : text.length ≤ 90000) (w : World) : Calls Try.prog 31 #[.string (str text)] w fun e w' => e = .returned (.string (str (dig text))) ∧ Fr (fun _ => False) w w' := by
  obtain ⟨n, hn⟩ : ∃ n, n = text.length := ⟨_, rfl⟩
  have hsz : (str text).size = n := by rw [str_size, hn]
  have HN := Lib.hid hn
  have hnb : n ≤ 90000 := by omega
  have hcv := Lib.run_convert_string_bytes (P := Try.prog) w 9 27 5 (str text) Try.underlying9 Try.underlying27 Try.underlying5
  have hfB := xbytesWorld_fr w 5 (str text)
  have hrB := xrow_conv w text
  rw [hsz] at hcv hrB
  generalize grownCap w n 0 5 = cap0 at hcv hrB
  generalize Lib.bytesWorld w 5 (str text) = wB at hcv hfB hrB
  obtain ⟨g0, hg0⟩ : ∃ g, g = w.heap.size := ⟨_, rfl⟩
  rw [← hg0] at hcv hrB
  have HG0 := Lib.hid hg0
  obtain ⟨n8, hn8⟩ : ∃ z, z = 8 * n := ⟨_, rfl⟩
  have hw8 : IntKind.i64.wrap (8 * (n : Int)) = (n8 : Int) := by rw [IntWalk.i64_in _ (by omega)]; omega
  have HN8 := Lib.hid hn8
  have hfa : Fr (fun _ => False) wB (wB.alloc (.cells #[.int .u8 128] 5)) := (Fr.refl _ _).alloc _
  have HX0 := Lib.hid (hrB.fr hfa id)
  have HF0 := Lib.hid (hfB.alloc (.cells #[.int .u8 128] 5))
  have HC0 := Lib.hid (show (wB.alloc (.cells #[.int .u8 128] 5)).cell? ⟨wB.heap.size, 0, none⟩ = some (.int .u8 ((128 : UInt8).toNat : Int)) from (cell_of_row _ _ 0 _ _ _ (heap_alloc_new wB _)).trans rfl)
  have HWB := Lib.hid (show w.heap.size ≤ wB.heap.size from hfB.size)
  clear hfB hrB hg0 hn8 hfa hn hb
  go_enter Try.func31, Try.ntmps31
  go_wp2_with (with_reducible refine wpList_xappend (op := ⟨some 25, _, _, _, _, _⟩) rfl _ _ rfl g0 cap0 text HX0.out (by have := HN.out; omega) n HN.out rfl wB.heap.size 1 rfl 128 HC0.out ?_)
  intro g1 cap1 w1 hx1 hgr hat
  have HX1 := Lib.hid hx1
  have HG1 := Lib.hid (show w.heap.size ≤ g1 by have h0 := HG0.out; have h1 := HWB.out; rcases hat with h | h <;> (try simp at h) <;> omega)
  have HF1 := Lib.hid (HF0.out.grown hgr (fun k hk => .inr (by have := HG0.out; cases hk; omega)))
  clear hx1 hgr hat hcv
  obtain ⟨zz, hzz⟩ : ∃ z, z = (119 - n % 64) % 64 := ⟨_, rfl⟩
  have HZZ := Lib.hid hzz
  clear hzz
  go_wp2
  go_loopw [3] (fun v wr => ∃ (g cap k L : Nat), k ≤ zz ∧ L = n + 1 + k ∧ v = .slice (some ⟨g, 0, none⟩) L cap ∧ XRow wr g cap (text ++ 128 :: List.replicate k 0) ∧ w.heap.size ≤ g ∧ Fr (fun _ => False) w wr) (fun v _ => zz + n + 1 - (match v with | .slice _ l _ => l | _ => 0))
  case atStart => exact ⟨g1, cap1, 0, n + 1, Nat.zero_le _, rfl, rfl, HX1.out, HG1.out, HF1.out⟩
  case round =>
    obtain ⟨g, cap, k, L, hk, hL, rfl, hx, hg, hf⟩ := hrel
    have HX := Lib.hid hx
    have HG := Lib.hid hg
    have HF := Lib.hid hf
    have HL := Lib.hid hL
    have HK := Lib.hid hk
    clear hx hg hf HX1 HG1 HF1
    have HXL := Lib.hid (show L = (text ++ 128 :: List.replicate k 0).length by rw [List.length_append, List.length_cons, List.length_replicate, ← HN.out, hL]; omega)
    have hz64 : zz < 64 := by have := HZZ.out; omega
    have hLb : L ≤ 100000 := by omega
    obtain ⟨q, hq⟩ : ∃ q, q = L % 64 := ⟨_, rfl⟩
    have hq1 : (L : Int).tmod 64 = (q : Int) := by rw [Int.tmod_eq_emod_of_nonneg (by omega)]; omega
    have hq2 : (L : Int) % 64 = (q : Int) := by omega
    have hq3 : IntKind.i64.wrap (q : Int) = (q : Int) := IntWalk.i64_in _ (by omega)
    have hiff := pad_mod n k (by rw [← HZZ.out]; exact hk)
    rw [← HZZ.out, ← hL, ← hq] at hiff
    by_cases hlt : k = zz
    · have hne : ((q : Int) != 56) = false := by have := hiff.mpr hlt; simp [this]
      have HXP := Lib.hid (show XRow wr g cap (text ++ 128 :: List.replicate zz 0) by rw [← hlt]; exact HX.out)
      have HLz := Lib.hid (show L = n + 1 + zz by omega)
      clear hlt hiff hq hk hL
      go_wp2
      -- the length's bytes
      go_loopw [3, 5] (fun v3 v5 wr => ∃ (g cap k L : Nat), k ≤ 8 ∧ L = n + 1 + zz + k ∧ v3 = .slice (some ⟨g, 0, none⟩) L cap ∧ v5 = .int .i64 (7 - (k : Int)) ∧ XRow wr g cap ((text ++ 128 :: List.replicate zz 0) ++ (be8 n8).take k) ∧ w.heap.size ≤ g ∧ Fr (fun _ => False) w wr) (fun _ v _ => (intOf v + 1).toNat)
      case atStart => exact ⟨g, cap, 0, L, Nat.zero_le _, HLz.out, rfl, rfl, by simpa using HXP.out, HG.out, HF.out⟩
      case round =>
        obtain ⟨g, cap, k, L, hk, hL, rfl, rfl, hx, hg, hf⟩ := hrel
        have HX2 := Lib.hid hx
        have HG2 := Lib.hid hg
        have HF2 := Lib.hid hf
        have HL2 := Lib.hid hL
        clear hx hg hf HXP HLz
        have HXL2 := Lib.hid (show L = ((text ++ 128 :: List.replicate zz 0) ++ (be8 n8).take k).length by rw [List.length_append, List.length_append, List.length_cons, List.length_replicate, List.length_take, be8_length, ← HN.out, hL]; omega)
        have hLb2 : L ≤ 100000 := by omega
        by_cases hlt : k < 8
        · obtain ⟨i, hi⟩ : ∃ i, i = 7 - k := ⟨_, rfl⟩
          have hi7 : (7 : Int) - (k : Int) = (i : Int) := by omega
          obtain ⟨m, hm⟩ : ∃ m, m = 56 - 8 * k := ⟨_, rfl⟩
          obtain ⟨z, hz⟩ : ∃ z, z = UInt8.ofNat (n8 / 2 ^ (56 - 8 * k)) := ⟨_, rfl⟩
          have hw1 : IntKind.i64.wrap (8 * (i : Int)) = (m : Int) := by rw [IntWalk.i64_in _ (by omega)]; omega
          have hw2 : IntKind.u64.wrap (m : Int) = (m : Int) := by simp [IntKind.wrap, IntKind.bits, IntKind.signed]; omega
          have hm0 : (0 : Int) ≤ (m : Int) := by omega
          have hm1 : m ≤ 56 := by omega
          have hm2 : (m : Int) ≤ 64 := by omega
          have hi0 : (0 : Int) ≤ (i : Int) := by omega
          have hwi : IntKind.i64.wrap ((i : Int) - 1) = (i : Int) - 1 := IntWalk.i64_in _ (by omega)
          have hzz2 : ((n8 : Int) / 2 ^ m) % 256 = (z.toNat : Int) := by
            rw [hz, hm]
            simp
          have hzw : IntKind.u8.wrap ((n8 : Int) / 2 ^ m) = (z.toNat : Int) := by rw [IntKind.wrap_u8', hzz2]
          have HST := Lib.hid (show ((text ++ 128 :: List.replicate zz 0) ++ (be8 n8).take k) ++ [z] = (text ++ 128 :: List.replicate zz 0) ++ (be8 n8).take (k + 1) by
            rw [List.take_add_one, be8_get n8 k hlt, hz, List.append_assoc]; rfl)
          have hfa : Fr (fun _ => False) wr (wr.alloc (.cells #[.int .u8 (z.toNat : Int)] 5)) := (Fr.refl _ _).alloc _
          have HXb := Lib.hid (HX2.out.fr hfa id)
          have HFb := Lib.hid (HF2.out.alloc (.cells #[.int .u8 (z.toNat : Int)] 5))
          have HCb := Lib.hid (show (wr.alloc (.cells #[.int .u8 (z.toNat : Int)] 5)).cell? ⟨wr.heap.size, 0, none⟩ = some (.int .u8 (z.toNat : Int)) from (cell_of_row _ _ 0 _ _ _ (heap_alloc_new wr _)).trans rfl)
          have HWr := Lib.hid (show w.heap.size ≤ wr.heap.size from HF2.out.size)
          have HI := Lib.hid (show (i : Int) - 1 = 7 - ((k + 1 : Nat) : Int) by omega)
          have bz := z.toNat_lt
          rw [hi7]
          clear hz hm hi7 hfa hi hL
          go_wp2_with (with_reducible refine wpList_xappend (op := ⟨some 45, _, _, _, _, _⟩) rfl _ _ rfl g cap _ HXb.out (by rw [← HXL2.out]; exact hLb2) L HXL2.out rfl wr.heap.size 1 rfl z HCb.out ?_)
          intro g' cap' w' hx' hgr hat
          have HX' := Lib.hid (show XRow w' g' cap' ((text ++ 128 :: List.replicate zz 0) ++ (be8 n8).take (k + 1)) by rw [← HST.out]; first | exact hx' | simpa using hx')
          have HG' := Lib.hid (show w.heap.size ≤ g' by have h0 := HG2.out; have h1 := HWr.out; rcases hat with h | h <;> (try simp at h) <;> omega)
          have HF' := Lib.hid (HFb.out.grown hgr (fun k hk => .inr (by have := HG2.out; cases hk; omega)))
          clear hx' hgr hat
          go_wp2
          go_roundw
          case rel => exact ⟨g', cap', k + 1, L + 1, by omega, by have := HL2.out; omega, rfl, by rw [HI.out], HX'.out, HG'.out, HF'.out⟩
          case measure => first | (simp [intOf]; done) | (simp [intOf]; omega)
        · have hk8 : k = 8 := by omega
          subst hk8
          have hneg : ¬ (0 : Int) ≤ 7 - ((8 : Nat) : Int) := by omega
          obtain ⟨msg, hmsg⟩ : ∃ m, m = text ++ padL n := ⟨_, rfl⟩
          have HMS := Lib.hid (show XRow wr g cap msg by
            have := HX2.out
            rw [List.take_of_length_le (by rw [be8_length]; omega)] at this
            rw [hmsg]; unfold padL
            rw [← HN8.out, ← HZZ.out]
            simpa using this)
          have HML := Lib.hid (show L = msg.length by
            have h1 := HXL2.out
            rw [hmsg, List.length_append]; unfold padL
            rw [List.length_cons, List.length_append, List.length_replicate, be8_length, ← HZZ.out, ← HN.out, hL]; omega)
          have HMM := Lib.hid (show L % 64 = 0 by rw [HML.out, hmsg, HN.out]; exact padded text)
          have HMD := Lib.hid (show dig text = outL (eatAll hT msg).1 by rw [hmsg, HN.out]; exact dig_all text)
          clear hmsg hL
          go_wp2_with fail
          refine (kt_calls wr).mono ?_
          rintro e w2 ⟨rfl, hf2⟩
          have HF3 := Lib.hid (HF2.out.trans hf2 (fun i hi => hi.elim))
          have HM3 := Lib.hid (HMS.out.fr hf2 id)
          clear hf2 HMS
          have HZ := Lib.hid (show (#[.int .u32 0, .int .u32 0, .int .u32 0, .int .u32 0, .int .u32 0, .int .u32 0, .int .u32 0, .int .u32 0, .int .u32 0, .int .u32 0, .int .u32 0, .int .u32 0, .int .u32 0, .int .u32 0, .int .u32 0, .int .u32 0, .int .u32 0, .int .u32 0, .int .u32 0, .int .u32 0, .int .u32 0, .int .u32 0, .int .u32 0, .int .u32 0, .int .u32 0, .int .u32 0, .int .u32 0, .int .u32 0, .int .u32 0, .int .u32 0, .int .u32 0, .int .u32 0, .int .u32 0, .int .u32 0, .int .u32 0, .int .u32 0, .int .u32 0, .int .u32 0, .int .u32 0, .int .u32 0, .int .u32 0, .int .u32 0, .int .u32 0, .int .u32 0, .int .u32 0, .int .u32 0, .int .u32 0, .int .u32 0, .int .u32 0, .int .u32 0, .int .u32 0, .int .u32 0, .int .u32 0, .int .u32 0, .int .u32 0, .int .u32 0, .int .u32 0, .int .u32 0, .int .u32 0, .int .u32 0, .int .u32 0, .int .u32 0, .int .u32 0, .int .u32 0] : Array Value).size = (wcells kT).toArray.size by rfl)
          have HI := Lib.hid (show (Try.prog.info? 115).map (·.size) = some (wcells kT).toArray.size by kernel_rfl)
          have H1 := Lib.hid (show ∀ v ∈ (wcells kT).toArray.toList, v.oneCell' = true by simpa using wcells_one kT)
          have HZ7 := Lib.hid (show (#[.int .u32 0, .int .u32 0, .int .u32 0, .int .u32 0, .int .u32 0, .int .u32 0, .int .u32 0, .int .u32 0] : Array Value).size = (wcells hT).toArray.size by rfl)
          have HI7 := Lib.hid (show (Try.prog.info? 107).map (·.size) = some (wcells hT).toArray.size by kernel_rfl)
          have H17 := Lib.hid (show ∀ v ∈ (wcells hT).toArray.toList, v.oneCell' = true by simpa using wcells_one hT)
          have hgw : g < w2.heap.size := HM3.out.lt
          go_wp2_with (first
            | (with_reducible refine wpList_store_fresh (op := ⟨none, .store 115 _ _, _, _, _, _⟩) rfl 115 _ _ rfl w2 #[.int .u32 0, .int .u32 0, .int .u32 0, .int .u32 0, .int .u32 0, .int .u32 0, .int .u32 0, .int .u32 0, .int .u32 0, .int .u32 0, .int .u32 0, .int .u32 0, .int .u32 0, .int .u32 0, .int .u32 0, .int .u32 0, .int .u32 0, .int .u32 0, .int .u32 0, .int .u32 0, .int .u32 0, .int .u32 0, .int .u32 0, .int .u32 0, .int .u32 0, .int .u32 0, .int .u32 0, .int .u32 0, .int .u32 0, .int .u32 0, .int .u32 0, .int .u32 0, .int .u32 0, .int .u32 0, .int .u32 0, .int .u32 0, .int .u32 0, .int .u32 0, .int .u32 0, .int .u32 0, .int .u32 0, .int .u32 0, .int .u32 0, .int .u32 0, .int .u32 0, .int .u32 0, .int .u32 0, .int .u32 0, .int .u32 0, .int .u32 0, .int .u32 0, .int .u32 0, .int .u32 0, .int .u32 0, .int .u32 0, .int .u32 0, .int .u32 0, .int .u32 0, .int .u32 0, .int .u32 0, .int .u32 0, .int .u32 0, .int .u32 0, .int .u32 0] (wcells kT).toArray rfl rfl rfl HZ.out HI.out H1.out ?_)
            | (refine wpList_store_fresh (op := ⟨none, .store 107 _ _, _, _, _, _⟩) rfl 107 _ _ rfl (w2.alloc (.cells (wcells kT).toArray 115)) #[.int .u32 0, .int .u32 0, .int .u32 0, .int .u32 0, .int .u32 0, .int .u32 0, .int .u32 0, .int .u32 0] (wcells hT).toArray rfl rfl rfl HZ7.out HI7.out H17.out ?_))
          have hK0 := heap_alloc_new w2 (.cells (wcells kT).toArray 115)
          have hfA : Fr (fun _ => False) w2 (w2.alloc (.cells (wcells kT).toArray 115)) := (Fr.refl _ _).alloc _
          have hfB : Fr (fun _ => False) w2 ((w2.alloc (.cells (wcells kT).toArray 115)).alloc (.cells (wcells hT).toArray 107)) := hfA.alloc _
          have hK1 := ((Fr.refl (fun _ => False) (w2.alloc (.cells (wcells kT).toArray 115))).alloc (.cells (wcells hT).toArray 107)).heap hK0 id
          have hH0 := heap_alloc_new (w2.alloc (.cells (wcells kT).toArray 115)) (.cells (wcells hT).toArray 107)
          rw [World.size_alloc] at hH0
          change Code.wp _ _ _ _ ((w2.alloc (.cells (wcells kT).toArray 115)).alloc (.cells (wcells hT).toArray 107))
          generalize (w2.alloc (.cells (wcells kT).toArray 115)).alloc (.cells (wcells hT).toArray 107) = w4 at hK1 hH0 hfB ⊢
          obtain ⟨KB, hKB⟩ : ∃ K, K = w2.heap.size := ⟨_, rfl⟩
          obtain ⟨H, hHd⟩ : ∃ H, H = w2.heap.size + 1 := ⟨_, rfl⟩
          rw [← hHd] at hH0
          rw [← hKB] at hK1
          rw [← hHd, ← hKB]
          have HK4 := Lib.hid (show w4.heap[KB]? = some (.cells (wcells kT ++ []).toArray 115 (0, 0)) by simpa using hK1)
          have HH4 := Lib.hid (show w4.heap[H]? = some (.cells (wcells hT ++ []).toArray 107 (0, 0)) by simpa using hH0)
          have HF4 := Lib.hid (HF3.out.trans hfB (fun i hi => hi.elim))
          have HM4 := Lib.hid (HM3.out.fr hfB id)
          have HW4 := Lib.hid (show w.heap.size ≤ H ∧ g ≠ H ∧ KB ≠ H by have := HF3.out.size; omega)
          clear hK0 hfA hfB hK1 hH0 hKB hHd hgw HZ HI H1 HZ7 HI7 H17
          refine ref_l3 _ _ _ _ _ _ _ _ _ _ _ _ _ _ _ _ _ _ _ _ _ _ _ _ _ _ _ _ _ _ _ _ _ _ _ _ _ _ _ _ _ _ _ _ _ _ _ _ _ _ _ _ _ _ _ _ _ _ _ _ _ _ _ _ _ _ _ _ _ _ _ _ _ _ _ _ _ _ _ _ _ _ _ _ _ _ _ _ _ _ _ _ _ _ _ _ _ _ _ _ _ _ _ _ _ _ _ _ _ _ _ _ _ _ _ _ _ _ _ _ _ _ _ _ _ _ _ _ _ _ _ _ _ _ _ _ _ _ _ _ _ _ _ _ _ _ _ _ _ _ _ _ _ _ _ _ _ _ _ _ _ _ _ _ _ _ _ _ _ _ _ _ _ _ _ _ _ _ _ _ _ _ _ _ _ _ _ _ _ _ _ _ _ _ _ _ _ _ _ _ _ _ _ _ _ _ _ _ _ _ _ _ _ _ _ _ _ _ _ _ _ _ _ _ _ _ _ _ _ _ _ _ _ _ _ _ _ _ _ _ _ _ _ _ _ _ _ _ _ _ _ _ _ _ _ _ _ _ _ _ _ _ _ _ _ _ _ _ _ _ _ _ _ _ _ _ g L cap KB H msg HML.out (by omega) HMM.out w4 (fun k x hk => HM4.out.cell k x hk) HM4.out.lt HW4.out.2.1 HW4.out.2.2 HK4.out HH4.out _ ?_
          intro p9 p10 p11 p12 p13 p14 p15 p48 p49 p50 p51 p52 p53 p54 p55 p56 p57 p58 p59 p60 p61 p62 p63 p64 p65 p66 p67 p68 p69 p70 p71 p72 p73 p74 p75 p76 p77 p78 p79 p80 p81 p82 p83 p84 p85 p86 p87 p88 p89 p90 p91 p92 p93 p94 p95 p96 p97 p98 p99 p100 p101 p102 p103 p104 p105 p106 p107 p108 p109 p110 p111 p112 p113 p114 p115 p116 p117 p118 p119 p120 p121 p122 p123 p124 p125 p126 p127 p128 p129 p130 p131 p132 p133 p134 p135 p136 p137 p138 p139 p140 p141 p142 p143 p144 p145 p146 p147 p148 p149 p150 p151 p152 p153 p154 p155 p156 p157 p158 p159 p160 p161 p162 p163 p164 p165 p166 p167 p168 p169 p170 p171 p172 p173 p174 p175 p176 p177 p178 p179 p180 p181 p182 p183 p184 p185 p186 p187 p188 p189 p190 p191 p192 p193 p194 p195 p196 p197 p198 p199 p200 p201 p202 p203 p204 p205 p206 p207 p208 p209 p210 p211 p212 p213 p214 p215 p216 p217 p218 p219 p220 p221 p222 p223 p224 p225 p226 p227 p228 p229 p230 p231 p232 p233 p234 p235 p236 p237 p238 p239 p240 p241 p242 p243 p244 p245 p246 p247 p248 p249 p250 p251 w5 hH5 hf5
          obtain ⟨hz, hzd⟩ : ∃ h, h = (eatAll hT msg).1 := ⟨_, rfl⟩
          rw [← hzd] at hH5
          have HH5 := Lib.hid hH5
          have HF5 := Lib.hid (HF4.out.trans hf5 (fun i hi => .inr (by rw [hi]; exact HW4.out.1)))
          have HD := Lib.hid (show dig text = outL hz by rw [HMD.out, hzd])
          have HL8 := Lib.hid (show hz.length = 8 by rw [hzd]; exact eatAll_hl _ rfl _)
          clear hH5 hf5 hzd
          go_wp2
          go_loopw [16, 17] (fun v16 v17 wr => ∃ i : Nat, i ≤ 8 ∧ v16 = .string (str (outL (hz.take i))) ∧ v17 = .int .i64 i ∧ Fr (fun _ => False) w5 wr) (fun _ v _ => 8 - (intOf v).toNat)
          case atStart => exact ⟨0, Nat.zero_le _, rfl, rfl, Fr.refl _ _⟩
          case round =>
            obtain ⟨i, hi, rfl, rfl, hf⟩ := hrel
            have HFr := Lib.hid hf
            clear hf
            by_cases hlt : i < 8
            · obtain ⟨x, hx⟩ : ∃ z, z = hz.getD i 0 := ⟨_, rfl⟩
              have hxi : hz[i]? = some x := by rw [hx]; exact get_some32 HL8.out i hlt
              have HST := Lib.hid (outL_step hz i x hxi)
              have hi8' : (i : Int) < 8 := by omega
              obtain ⟨y0, hy0⟩ : ∃ z, z = (x >>> 24).toUInt8 := ⟨_, rfl⟩
              obtain ⟨y1, hy1⟩ : ∃ z, z = (x >>> 16).toUInt8 := ⟨_, rfl⟩
              obtain ⟨y2, hy2⟩ : ∃ z, z = (x >>> 8).toUInt8 := ⟨_, rfl⟩
              obtain ⟨y3, hy3⟩ : ∃ z, z = x.toUInt8 := ⟨_, rfl⟩
              have HOW := Lib.hid (show outW x = [y0, y1, y2, y3] by rw [hy0, hy1, hy2, hy3]; rfl)
              have o0 : ((x.toNat : Int) / 16777216) % 256 = (y0.toNat : Int) := by rw [hy0]; exact out_b x 24 24 rfl (by omega)
              have o1 : ((x.toNat : Int) / 65536) % 256 = (y1.toNat : Int) := by rw [hy1]; exact out_b x 16 16 rfl (by omega)
              have o2 : ((x.toNat : Int) / 256) % 256 = (y2.toNat : Int) := by rw [hy2]; exact out_b x 8 8 rfl (by omega)
              have o3 : (x.toNat : Int) % 256 = (y3.toNat : Int) := by rw [hy3]; simp
              have p0 : IntKind.u8.wrap ((x.toNat : Int) / 16777216) = (y0.toNat : Int) := by rw [IntKind.wrap_u8', o0]
              have p1 : IntKind.u8.wrap ((x.toNat : Int) / 65536) = (y1.toNat : Int) := by rw [IntKind.wrap_u8', o1]
              have p2 : IntKind.u8.wrap ((x.toNat : Int) / 256) = (y2.toNat : Int) := by rw [IntKind.wrap_u8', o2]
              have p3 : IntKind.u8.wrap (x.toNat : Int) = (y3.toNat : Int) := by rw [IntKind.wrap_u8', o3]
              have by0 := y0.toNat_lt
              have by1 := y1.toNat_lt
              have by2 := y2.toNat_lt
              have by3 := y3.toNat_lt
              have bx := x.toNat_lt
              have HCX := Lib.hid (show wr.drew.cell? ⟨H, i, none⟩ = some (.int .u32 (x.toNat : Int)) from HFr.out.cell (wcells_cell HH5.out i x hxi) id)
              have HCV := Lib.hid (show ∀ wy : World, Sem.run Try.prog (convert 27 9 (.slice (some ⟨wy.heap.size, 0, none⟩) 4 4)) (wy.alloc (.cells #[.int .u8 (y0.toNat : Int), .int .u8 (y1.toNat : Int), .int .u8 (y2.toNat : Int), .int .u8 (y3.toNat : Int)] 5)) = .ok (.string (str [y0, y1, y2, y3])) (wy.alloc (.cells #[.int .u8 (y0.toNat : Int), .int .u8 (y1.toNat : Int), .int .u8 (y2.toNat : Int), .int .u8 (y3.toNat : Int)] 5)) from fun wy =>
                run_convert_str (P := Try.prog) (wy.alloc (.cells #[.int .u8 (y0.toNat : Int), .int .u8 (y1.toNat : Int), .int .u8 (y2.toNat : Int), .int .u8 (y3.toNat : Int)] 5)) 27 5 Try.underlying27 Try.underlying5 wy.heap.size 0 4 4 [y0, y1, y2, y3] rfl (fun j v hj => by
                rw [Nat.zero_add, cell_of_row _ wy.heap.size j _ _ _ (heap_alloc_new wy _)]; simpa [bcells] using hj) 9 Try.underlying9)
              obtain ⟨O, hO⟩ : ∃ s, s = str (outL (hz.take i)) := ⟨_, rfl⟩
              obtain ⟨Y, hY⟩ : ∃ s, s = str [y0, y1, y2, y3] := ⟨_, rfl⟩
              have HAP := Lib.hid (show O ++ Y = str (outL (hz.take (i + 1))) by rw [hO, hY, jstr_append, HST.out, HOW.out])
              have hOs : O.size ≤ 32 := by rw [hO, str_size, outL_length, List.length_take, HL8.out]; omega
              have hYs : Y.size = 4 := by rw [hY, str_size]; rfl
              have hsb : ¬ 9223372036854775807 < O.size + Y.size := by omega
              have hsb2 : O.size + Y.size ≤ 9223372036854775807 := by omega
              have hsb3 : O.size + 4 ≤ 9223372036854775807 := by omega
              rw [← hY] at HCV
              rw [← hO]
              have HF6a := Lib.hid (show Fr (fun _ => False) w5 wr.drew from HFr.out.drew)
              have HF6 := Lib.hid (HFr.out.drew.alloc (.cells #[.int .u8 (y0.toNat : Int), .int .u8 (y1.toNat : Int), .int .u8 (y2.toNat : Int), .int .u8 (y3.toNat : Int)] 5))
              clear hx hxi hy0 hy1 hy2 hy3 hO hY
              go_wp2
              refine wp_region_till (fun W => W.cell? ⟨H, i, none⟩ = some (.int .u32 (x.toNat : Int))) 22 (by kernel_rfl) ?_
              have HS := HCX
              clear HF6
              generalize wr.drew = wy at HS HCX HF6a ⊢
              refine wpAnyT_take (i := 0) (n := 22) (v := .string O) rfl (by kernel_rfl) (fun _ _ _ h => h) HS.out (yieldsIf_plain rfl (fun W hW => by clear hW; go_simp)) ?_
              simp only [List.getElem_toArray, List.getElem_cons_succ, List.getElem_cons_zero, Act.put, List.setIfInBounds_toArray, List.set_cons_zero, List.set_cons_succ]
              refine wpAnyT_take (i := 1) (n := 22) (v := .int .i64 (i : Int)) rfl (by kernel_rfl) (fun _ _ _ h => h) HS.out (yieldsIf_plain rfl (fun W hW => by clear hW; go_simp)) ?_
              simp only [List.getElem_toArray, List.getElem_cons_succ, List.getElem_cons_zero, Act.put, List.setIfInBounds_toArray, List.set_cons_zero, List.set_cons_succ]
              refine wpAnyT_take (i := 2) (n := 22) (v := .pointer (some ⟨H, i, none⟩)) rfl (by kernel_rfl) (fun _ _ _ h => h) HS.out (yieldsIf_plain rfl (fun W hW => by clear hW; go_simp)) ?_
              simp only [List.getElem_toArray, List.getElem_cons_succ, List.getElem_cons_zero, Act.put, List.setIfInBounds_toArray, List.set_cons_zero, List.set_cons_succ]
              refine wpAnyT_take (i := 3) (n := 22) (v := .int .u32 (x.toNat : Int)) rfl (by kernel_rfl) (fun _ _ _ h => h) HS.out (yieldsIf_plain rfl (fun W hW => by have h1 := hW; clear hW; go_simp)) ?_
              simp only [List.getElem_toArray, List.getElem_cons_succ, List.getElem_cons_zero, Act.put, List.setIfInBounds_toArray, List.set_cons_zero, List.set_cons_succ]
              refine wpAnyT_take (i := 4) (n := 22) (v := .int .u32 ((x.toNat : Int) / 16777216)) rfl (by kernel_rfl) (fun _ _ _ h => h) HS.out (yieldsIf_plain rfl (fun W hW => by clear hW; go_simp)) ?_
              simp only [List.getElem_toArray, List.getElem_cons_succ, List.getElem_cons_zero, Act.put, List.setIfInBounds_toArray, List.set_cons_zero, List.set_cons_succ]
              refine wpAnyT_take (i := 5) (n := 22) (v := .int .u8 (y0.toNat : Int)) rfl (by kernel_rfl) (fun _ _ _ h => h) HS.out (yieldsIf_plain rfl (fun W hW => by clear hW; go_simp)) ?_
              simp only [List.getElem_toArray, List.getElem_cons_succ, List.getElem_cons_zero, Act.put, List.setIfInBounds_toArray, List.set_cons_zero, List.set_cons_succ]
              refine wpAnyT_take (i := 6) (n := 22) (v := .int .i64 (i : Int)) rfl (by kernel_rfl) (fun _ _ _ h => h) HS.out (yieldsIf_plain rfl (fun W hW => by clear hW; go_simp)) ?_
              simp only [List.getElem_toArray, List.getElem_cons_succ, List.getElem_cons_zero, Act.put, List.setIfInBounds_toArray, List.set_cons_zero, List.set_cons_succ]
              refine wpAnyT_take (i := 7) (n := 22) (v := .pointer (some ⟨H, i, none⟩)) rfl (by kernel_rfl) (fun _ _ _ h => h) HS.out (yieldsIf_plain rfl (fun W hW => by clear hW; go_simp)) ?_
              simp only [List.getElem_toArray, List.getElem_cons_succ, List.getElem_cons_zero, Act.put, List.setIfInBounds_toArray, List.set_cons_zero, List.set_cons_succ]
              refine wpAnyT_take (i := 8) (n := 22) (v := .int .u32 (x.toNat : Int)) rfl (by kernel_rfl) (fun _ _ _ h => h) HS.out (yieldsIf_plain rfl (fun W hW => by have h1 := hW; clear hW; go_simp)) ?_
              simp only [List.getElem_toArray, List.getElem_cons_succ, List.getElem_cons_zero, Act.put, List.setIfInBounds_toArray, List.set_cons_zero, List.set_cons_succ]
              refine wpAnyT_take (i := 9) (n := 22) (v := .int .u32 ((x.toNat : Int) / 65536)) rfl (by kernel_rfl) (fun _ _ _ h => h) HS.out (yieldsIf_plain rfl (fun W hW => by clear hW; go_simp)) ?_
              simp only [List.getElem_toArray, List.getElem_cons_succ, List.getElem_cons_zero, Act.put, List.setIfInBounds_toArray, List.set_cons_zero, List.set_cons_succ]
              refine wpAnyT_take (i := 10) (n := 22) (v := .int .u8 (y1.toNat : Int)) rfl (by kernel_rfl) (fun _ _ _ h => h) HS.out (yieldsIf_plain rfl (fun W hW => by clear hW; go_simp)) ?_
              simp only [List.getElem_toArray, List.getElem_cons_succ, List.getElem_cons_zero, Act.put, List.setIfInBounds_toArray, List.set_cons_zero, List.set_cons_succ]
              refine wpAnyT_take (i := 11) (n := 22) (v := .int .i64 (i : Int)) rfl (by kernel_rfl) (fun _ _ _ h => h) HS.out (yieldsIf_plain rfl (fun W hW => by clear hW; go_simp)) ?_
              simp only [List.getElem_toArray, List.getElem_cons_succ, List.getElem_cons_zero, Act.put, List.setIfInBounds_toArray, List.set_cons_zero, List.set_cons_succ]
              refine wpAnyT_take (i := 12) (n := 22) (v := .pointer (some ⟨H, i, none⟩)) rfl (by kernel_rfl) (fun _ _ _ h => h) HS.out (yieldsIf_plain rfl (fun W hW => by clear hW; go_simp)) ?_
              simp only [List.getElem_toArray, List.getElem_cons_succ, List.getElem_cons_zero, Act.put, List.setIfInBounds_toArray, List.set_cons_zero, List.set_cons_succ]
              refine wpAnyT_take (i := 13) (n := 22) (v := .int .u32 (x.toNat : Int)) rfl (by kernel_rfl) (fun _ _ _ h => h) HS.out (yieldsIf_plain rfl (fun W hW => by have h1 := hW; clear hW; go_simp)) ?_
              simp only [List.getElem_toArray, List.getElem_cons_succ, List.getElem_cons_zero, Act.put, List.setIfInBounds_toArray, List.set_cons_zero, List.set_cons_succ]
              refine wpAnyT_take (i := 14) (n := 22) (v := .int .u32 ((x.toNat : Int) / 256)) rfl (by kernel_rfl) (fun _ _ _ h => h) HS.out (yieldsIf_plain rfl (fun W hW => by clear hW; go_simp)) ?_
              simp only [List.getElem_toArray, List.getElem_cons_succ, List.getElem_cons_zero, Act.put, List.setIfInBounds_toArray, List.set_cons_zero, List.set_cons_succ]
              refine wpAnyT_take (i := 15) (n := 22) (v := .int .u8 (y2.toNat : Int)) rfl (by kernel_rfl) (fun _ _ _ h => h) HS.out (yieldsIf_plain rfl (fun W hW => by clear hW; go_simp)) ?_
              simp only [List.getElem_toArray, List.getElem_cons_succ, List.getElem_cons_zero, Act.put, List.setIfInBounds_toArray, List.set_cons_zero, List.set_cons_succ]
              refine wpAnyT_take (i := 16) (n := 22) (v := .int .i64 (i : Int)) rfl (by kernel_rfl) (fun _ _ _ h => h) HS.out (yieldsIf_plain rfl (fun W hW => by clear hW; go_simp)) ?_
              simp only [List.getElem_toArray, List.getElem_cons_succ, List.getElem_cons_zero, Act.put, List.setIfInBounds_toArray, List.set_cons_zero, List.set_cons_succ]
              refine wpAnyT_take (i := 17) (n := 22) (v := .pointer (some ⟨H, i, none⟩)) rfl (by kernel_rfl) (fun _ _ _ h => h) HS.out (yieldsIf_plain rfl (fun W hW => by clear hW; go_simp)) ?_
              simp only [List.getElem_toArray, List.getElem_cons_succ, List.getElem_cons_zero, Act.put, List.setIfInBounds_toArray, List.set_cons_zero, List.set_cons_succ]
              refine wpAnyT_take (i := 18) (n := 22) (v := .int .u32 (x.toNat : Int)) rfl (by kernel_rfl) (fun _ _ _ h => h) HS.out (yieldsIf_plain rfl (fun W hW => by have h1 := hW; clear hW; go_simp)) ?_
              simp only [List.getElem_toArray, List.getElem_cons_succ, List.getElem_cons_zero, Act.put, List.setIfInBounds_toArray, List.set_cons_zero, List.set_cons_succ]
              refine wpAnyT_take (i := 19) (n := 22) (v := .int .u8 (y3.toNat : Int)) rfl (by kernel_rfl) (fun _ _ _ h => h) HS.out (yieldsIf_plain rfl (fun W hW => by clear hW; go_simp)) ?_
              simp only [List.getElem_toArray, List.getElem_cons_succ, List.getElem_cons_zero, Act.put, List.setIfInBounds_toArray, List.set_cons_zero, List.set_cons_succ]
              refine wpAnyT_one (i := 20) rfl (by kernel_rfl) (wpOp_plain rfl rfl (fun K hK => ?_))
              simp only [List.getElem_toArray, List.getElem_cons_succ, List.getElem_cons_zero, Act.put, List.setIfInBounds_toArray, List.set_cons_zero, List.set_cons_succ]
              have HKK := Lib.hid hK
              clear hK
              go_wp2_with fail
              have hfy : Fr (fun _ => False) wy (wy.alloc (.cells #[.int .u8 (y0.toNat : Int), .int .u8 (y1.toNat : Int), .int .u8 (y2.toNat : Int), .int .u8 (y3.toNat : Int)] 5)) := (Fr.refl _ _).alloc _
              have HSy := Lib.hid (hfy.cell HS.out id)
              have HF6 := Lib.hid (HF6a.out.alloc (.cells #[.int .u8 (y0.toNat : Int), .int .u8 (y1.toNat : Int), .int .u8 (y2.toNat : Int), .int .u8 (y3.toNat : Int)] 5))
              clear hfy
              refine HKK.out _ _ ⟨fun _ => HSy.out, ?_⟩
              clear HKK K
              try simp only [List.getElem_toArray, List.getElem_cons_succ, List.getElem_cons_zero, Act.put, List.setIfInBounds_toArray, List.set_cons_zero, List.set_cons_succ]
              refine wpAnyT_one (i := 21) rfl (by kernel_rfl) (wpOp_plain rfl rfl (fun K hK => ?_))
              simp only [List.getElem_toArray, List.getElem_cons_succ, List.getElem_cons_zero, Act.put, List.setIfInBounds_toArray, List.set_cons_zero, List.set_cons_succ]
              have HKK := Lib.hid hK
              clear hK
              have hcv := HCV.out wy
              go_wp2_with fail
              clear hcv
              refine HKK.out _ _ ⟨fun _ => HSy.out, ?_⟩
              clear HKK K
              try simp only [List.getElem_toArray, List.getElem_cons_succ, List.getElem_cons_zero, Act.put, List.setIfInBounds_toArray, List.set_cons_zero, List.set_cons_succ]
              refine wpAnyT_of_any trivial [22, 23] _ _ _ _ (by kernel_rfl) (by simp) (.inr rfl) ?_
              simp only [List.filterMap_cons, List.filterMap_nil, List.getElem?_toArray, List.getElem?_cons_zero, List.getElem?_cons_succ]
              go_wp2
              go_roundw
              case rel => exact ⟨i + 1, by omega, by rw [HAP.out], by go_num, HF6.out⟩
              case measure => simp [intOf]; omega
            · have h8 : i = 8 := by omega
              subst h8
              have HTK := Lib.hid (show outL (hz.take 8) = dig text by rw [HD.out, List.take_of_length_le (by rw [HL8.out]; omega)])
              go_wp2
              go_ret
              exact ⟨by rw [HTK.out]; rfl, HF5.out.trans HFr.out (fun i hi => hi.elim)⟩
    · have hne : ((q : Int) != 56) = true := by
        have : ¬ q = 56 := fun h => hlt (hiff.mp h)
        simp; omega
      have HK2 := Lib.hid (show k + 1 ≤ zz by omega)
      have HST := Lib.hid (show (text ++ 128 :: List.replicate k 0) ++ [0] = text ++ 128 :: List.replicate (k + 1) 0 by
        rw [List.append_assoc, List.cons_append, List.replicate_succ'])
      have hfa : Fr (fun _ => False) wr (wr.alloc (.cells #[.int .u8 0] 5)) := (Fr.refl _ _).alloc _
      have HXb := Lib.hid (HX.out.fr hfa id)
      have HFb := Lib.hid (HF.out.alloc (.cells #[.int .u8 0] 5))
      have HCb := Lib.hid (show (wr.alloc (.cells #[.int .u8 0] 5)).cell? ⟨wr.heap.size, 0, none⟩ = some (.int .u8 ((0 : UInt8).toNat : Int)) from (cell_of_row _ _ 0 _ _ _ (heap_alloc_new wr _)).trans rfl)
      have HWr := Lib.hid (show w.heap.size ≤ wr.heap.size from HF.out.size)
      clear hfa hiff hq hlt hk hL
      go_wp2_with (with_reducible refine wpList_xappend (op := ⟨some 32, _, _, _, _, _⟩) rfl _ _ rfl g cap _ HXb.out (by rw [← HXL.out]; exact hLb) L HXL.out rfl wr.heap.size 1 rfl 0 HCb.out ?_)
      intro g' cap' w' hx' hgr hat
      have HX' := Lib.hid (show XRow w' g' cap' (text ++ 128 :: List.replicate (k + 1) 0) by rw [← HST.out]; first | exact hx' | simpa using hx')
      have HG' := Lib.hid (show w.heap.size ≤ g' by have h0 := HG.out; have h1 := HWr.out; rcases hat with h | h <;> (try simp at h) <;> omega)
      have HF' := Lib.hid (HFb.out.grown hgr (fun k hk => .inr (by have := HG.out; cases hk; omega)))
      clear hx' hgr hat
      go_wp2
      go_roundw
      case rel => exact ⟨g', cap', k + 1, L + 1, HK2.out, by have := HL.out; omega, rfl, HX'.out, HG'.out, HF'.out⟩
      case measure => have := HK2.out; have := HL.out; simp; omega
end Go.Proofs.Ytcchhfkmhbjdmaa
