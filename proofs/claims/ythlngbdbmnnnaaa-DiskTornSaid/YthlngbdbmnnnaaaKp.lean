/- DiskTorn: the walk. -/
import Derived.Test.YthlngbdbmnnnaaaKn
import Derived.Test.YthlngbdbmnnnaaaKo
import Derived.Test.YthlngbdbmnnnaaaL2
set_option pp.deepTerms true
set_option pp.maxSteps 100000
set_option linter.unusedVariables false
set_option linter.unusedSimpArgs false
namespace Go.Proofs.Ythlngbdbmnnnaaa
open Go.RowKit
theorem tornD_fine (n m : Nat) (h : m ≤ n) (hn : n ≤ 70) : Fine (tornD n m) := ⟨by simp [tornD, Dk.new], by simp [tornD, Dk.new], by simp [tornD, tornW_length]; omega, by simp [tornD]; omega⟩
def part (k : Nat) : List UInt8 := List.replicate k 120 ++ List.replicate (64 - k) 0
theorem part_set (k : Nat) (h : k < 64) : (bcells (part k)).set k (.int .u8 120) = bcells (part (k + 1)) := by
  have : part (k + 1) = (part k).set k 120 := by
    unfold part
    apply List.ext_getElem?
    intro j
    simp only [List.getElem?_set, List.getElem?_append, List.length_replicate, List.getElem?_replicate]
    by_cases h1 : j < k
    · simp [h1, show j < k + 1 by omega, show ¬ k = j by omega]
    · by_cases h2 : j = k
      · subst h2; simp; omega
      · simp [h1, show ¬ j < k + 1 by omega, show ¬ k = j by omega]
        by_cases h3 : j - k < 64 - k
        · simp [h3]; omega
        · simp [h3]; omega
  rw [this]
  simp [bcells, List.map_set]
theorem part_all : part 64 = tornX := by simp [part, tornX]
theorem torn_image_size (n : Nat) (keep torn : Int) : (str ((tornD n n).crash keep torn).lasts).size = 64 * n := by rw [str_size, torn_lasts_len]
theorem torn_image (n : Nat) (keep torn : Int) (i k : Nat) (hi : i < n) (hk : k < 64) (h : 64 * i + k < (str ((tornD n n).crash keep torn).lasts).size) : (str ((tornD n n).crash keep torn).lasts).get (64 * i + k) h = if k < crashN keep torn n i then 120 else 0 := by
  have := torn_lasts_get n keep torn i k hi hk
  obtain ⟨h', e⟩ := List.getElem?_eq_some_iff.mp this
  rw [← e]; rfl
theorem shr_bit (keep : Int) (i : Nat) (h : i < 64) (h0 : 0 ≤ keep) (h1 : keep ≤ 18446744073709551615) : True := trivial
set_option maxRecDepth 20000 in
set_option maxHeartbeats 2000000 in
theorem torn_walk (n0 : Int) (keep torn : Int) (hn0 : 0 ≤ n0) (hn1 : n0 ≤ 255) (hk0 : 0 ≤ keep) (hk1 : keep ≤ 18446744073709551615) (w : World) :
    Calls Try.prog 4 #[.int .u8 n0, .int .u64 keep, .int .i64 torn] w fun e w' => e = .returned (.bool true) ∧ Fr (fun _ => False) w w' := by
  have hmk : ∀ W : World, (Instr.makeSlice 43 (.int .i64 64) (.int .i64 64)).run Try.prog W = .ok (.slice (some ⟨W.heap.size, 0, none⟩) 64 64) (W.alloc (.cells (bcells (part 0)).toArray 5)) := fun W => by
    have := run_make_row' (P := Try.prog) 43 5 (.int .u8 0) 1 Try.underlying43 (by kernel_rfl) rfl .i64 .i64 64 (by omega) (by omega) W
    rw [made_bytes] at this
    exact this
  obtain ⟨n, hn⟩ : ∃ n : Nat, n = (1 + n0 % 70).toNat := ⟨_, rfl⟩
  have hnn : 1 + n0 % 70 = (n : Int) := by omega
  have h1n : 1 ≤ n := by omega
  have hn70 : n ≤ 70 := by omega
  clear hn
  go_enter Try.func4, Try.ntmps4
  go_wp2_with fail
  refine (awake_true _).mono ?_
  rintro e w1 ⟨rfl, hf⟩
  have HF1 := Lib.hid hf
  clear hf
  go_wp2_with fail
  refine (onp_new n _ h1n (by omega)).mono ?_
  rintro e w2 ⟨g, rfl, ho, hf⟩
  have HO2 := Lib.hid ho
  have HF2 := Lib.hid (HF1.out.trans hf (fun i hi => hi.elim))
  have HSz := Lib.hid hf.size
  clear ho hf
  go_wp2
  have hO3 := onp_alloc HO2.out (.cells (bcells (part 0)).toArray 5)
  have hN3 := heap_alloc_new w2 (.cells (bcells (part 0)).toArray 5)
  have hF3 : Fr (fun _ => False) w (w2.alloc (.cells (bcells (part 0)).toArray 5)) := HF2.out.alloc _
  have hNge : w.heap.size ≤ w2.heap.size := HF2.out.size
  generalize hw3 : w2.alloc (.cells (bcells (part 0)).toArray 5) = w3 at hO3 hN3 hF3 ⊢
  obtain ⟨N, hN⟩ : ∃ N, N = w2.heap.size := ⟨_, rfl⟩
  rw [← hN] at hO3 hN3 hNge ⊢
  have hPr : ∀ i, i = N → (i < w1.heap.size ∨ i = N) := fun i hi => .inr hi
  obtain ⟨Pr, hPrd⟩ : ∃ Pr : Nat → Prop, Pr = fun i => i < w1.heap.size ∨ i = N := ⟨_, rfl⟩
  rw [← hPrd] at hO3
  have HPN := Lib.hid (show Pr N by rw [hPrd]; exact .inr rfl)
  have HPw := Lib.hid (show ∀ i, i < w.heap.size → Pr i from fun i hi => by rw [hPrd]; exact .inl (Nat.lt_of_lt_of_le hi HF1.out.size))
  clear hw3 hN hPr hPrd HO2 HF2 HSz
  have HO3 := Lib.hid hO3
  have HN3 := Lib.hid hN3
  have HF3 := Lib.hid hF3
  clear hO3 hN3 hF3
  go_loopw [11] (fun v wr => ∃ k : Nat, k ≤ 64 ∧ v = .int .i64 k ∧ wr.heap[N]? = some (.cells (bcells (part k)).toArray 5 (0, 0)) ∧ OnP Pr wr g (Dk.new n) ∧ Fr (fun _ => False) w wr) (fun v _ => 64 - (intOf v).toNat)
  case atStart => exact ⟨0, Nat.zero_le _, rfl, HN3.out, HO3.out, HF3.out⟩
  case round =>
    obtain ⟨k, hk, rfl, hN, hO, hF⟩ := hrel
    have HN := Lib.hid hN
    have HO := Lib.hid hO
    have HF := Lib.hid hF
    clear hN hO hF
    by_cases hlt : k < 64
    · have hc : wr.cell? ⟨N, k, none⟩ = some ((bcells (part k))[k]'(by simp [bcells_length, part]; omega)) := by
        rw [cell_of_row wr N k _ _ _ HN.out]; simp
      have hz : wr.frozen? ⟨N, k, none⟩ = false := frozen_of_row wr N k _ _ HN.out
      have HW := Lib.hid (show (wr.setCell ⟨N, k, none⟩ (.int .u8 120)).heap[N]? = some (.cells (bcells (part (k + 1))).toArray 5 (0, 0)) by
        rw [heap_setCell_same wr N k _ _ _ HN.out, ← part_set k hlt]; simp)
      go_wp2
      go_roundw
      case rel => exact ⟨k + 1, by omega, by go_num, HW.out, onp_keep HO.out (G := fun i => i = N) (Fr.setCell (Fr.refl _ _) _ _ (.inl rfl)) (fun i hi => by subst hi; exact HPN.out), HF.out.setCell _ _ (.inr hNge)⟩
      case measure => simp [intOf]; omega
    · have hk64 : k = 64 := by omega
      rw [hk64, part_all] at HN
      clear hk64
      go_wp2
      clear hlt hk
      go_loopw [12] (fun v wr2 => ∃ i : Nat, i ≤ n ∧ v = .int .i64 i ∧ wr2.heap[N]? = some (.cells (bcells tornX).toArray 5 (0, 0)) ∧ OnP Pr wr2 g (tornD n i) ∧ Fr (fun _ => False) w wr2) (fun v _ => n - (intOf v).toNat)
      case atStart => exact ⟨0, Nat.zero_le _, rfl, HN.out, HO.out, HF.out⟩
      case round =>
        obtain ⟨i, hi, rfl, hN2, hO2, hF2⟩ := hrel
        have HN2 := Lib.hid hN2
        have HO2 := Lib.hid hO2
        have HF2 := Lib.hid hF2
        have hcv := run_convert_str (P := Try.prog) wr 43 5 Try.underlying43 Try.underlying5 N 0 64 64 tornX rfl (fun j v hj => by
          rw [Nat.zero_add, cell_of_row wr N j _ _ _ hN2]; simpa using hj) 9 Try.underlying9
        clear hN2 hO2 hF2
        by_cases hlt2 : i < n
        · have HT := Lib.hid (torn_write n i hlt2)
          go_wp2_with fail
          refine (onp_write HO2.out (tornD_fine n i hi hn70) i (str tornX)).mono ?_
          rintro e wn ⟨rfl, ho, hk⟩
          rw [str_list, HT.out.2] at ho
          rw [str_list, HT.out.1]
          have HO' := Lib.hid ho
          have HN' := Lib.hid (hk.heap HN2.out HPN.out)
          have HF' := Lib.hid (hk.old HPw.out HF2.out)
          clear ho hk hcv
          go_wp2
          go_roundw
          case rel => exact ⟨i + 1, by omega, by go_num, HN'.out, HO'.out, HF'.out⟩
          case measure => simp [intOf]; omega
        · obtain rfl : n = i := by omega
          go_wp2_with fail
          refine (onp_crash HO2.out (tornD_fine n n hi hn70) keep torn hk0 hk1).mono ?_
          rintro e wc ⟨rfl, ho, hk⟩
          have HO' := Lib.hid ho
          have HF' := Lib.hid (hk.old HPw.out HF2.out)
          clear ho hk hcv
          go_wp2_with fail
          refine (onp_image HO'.out).mono ?_
          rintro e wi ⟨rfl, rfl⟩
          have HIB := Lib.hid (torn_image n keep torn)
          have HIS := Lib.hid (torn_image_size n keep torn)
          obtain ⟨im, him⟩ : ∃ im, im = str ((tornD n n).crash keep torn).lasts := ⟨_, rfl⟩
          rw [← him] at HIB HIS ⊢
          clear him HN2 HO2 HF2 HO' hlt2 hi
          go_wp2
          go_loop [14, 15, 16] (fun v _ _ => ∃ i : Nat, i ≤ n ∧ v = .int .i64 i) (fun v _ _ => n - (intOf v).toNat)
          case atStart => exact ⟨0, Nat.zero_le _, rfl⟩
          case round =>
            obtain ⟨i, hi, rfl⟩ := hrel
            by_cases hlt : i < n
            · have hin : (i : Int) < n := by omega
              obtain ⟨f, hf⟩ : ∃ f, f = crashN keep torn n i := ⟨_, rfl⟩
              have HB := Lib.hid (fun k hk h => hf ▸ HIB.out i k hlt hk h)
              by_cases h64 : i < 64
              · have hq0 : 0 ≤ keep / 2 ^ i := Int.ediv_nonneg hk0 (by exact Int.le_of_lt (Int.pow_pos (by decide)))
                have hq1 : keep / 2 ^ i ≤ 18446744073709551615 := Int.le_trans (Int.ediv_le_self _ hk0) hk1
                by_cases hb : keep / 2 ^ i % 2 = 1
                · have hbt : (keep / 2 ^ i % 2 == 1) = true := by simpa using hb
                  have hc : ¬ (63 < i ∨ keep / 2 ^ i % 2 = 0) := by omega
                  by_cases hl : i + 1 = n
                  · have hlt2 : ((i : Int) == (n : Int) - 1) = true := by simp; omega
                    by_cases ht : torn ≤ 0
                    · have hf0 : f = 0 := by rw [hf, crashN, if_neg hc, if_pos hl]; omega
                      clear hf hb hl hc
                      go_wp2
                      go_loop [16] (fun v => ∃ k : Nat, k ≤ 64 ∧ v = .int .i64 k) (fun v => 64 - (intOf v).toNat)
                      case atStart => exact ⟨0, Nat.zero_le _, rfl⟩
                      case round =>
                        obtain ⟨k, hk, rfl⟩ := hrel
                        by_cases hlt4 : k < 64
                        · have hidx : 64 * i + k < im.size := by have := HIS.out; omega
                          have hbyte := HB.out k hlt4 hidx
                          by_cases hkf : k < f
                          · exact absurd hkf (by omega)
                          · rw [if_neg hkf] at hbyte
                            have hbt1 : (((im[64 * i + k]'hidx).toNat : Int) == 120) = false := by
                              have e : (im[64 * i + k]'hidx).toNat = 0 := congrArg UInt8.toNat hbyte
                              rw [e]; rfl
                            have hbt2 : decide ((k : Int) < 0) = false := decide_eq_false (by omega)
                            clear hbyte
                            go_wp2
                            go_round
                            case rel => exact ⟨k + 1, by omega, by go_num⟩
                            case measure => simp [intOf]; omega
                        · go_wp2
                          go_round
                          case rel => exact ⟨i + 1, by omega, by go_num⟩
                          case measure => simp [intOf]; omega
                    · by_cases ht2 : torn ≤ 64
                      · have hf0 : (f : Int) = torn := by rw [hf, crashN, if_neg hc, if_pos hl]; omega
                        clear hf hb hl hc
                        go_wp2
                        go_loop [16] (fun v => ∃ k : Nat, k ≤ 64 ∧ v = .int .i64 k) (fun v => 64 - (intOf v).toNat)
                        case atStart => exact ⟨0, Nat.zero_le _, rfl⟩
                        case round =>
                          obtain ⟨k, hk, rfl⟩ := hrel
                          by_cases hlt4 : k < 64
                          · have hidx : 64 * i + k < im.size := by have := HIS.out; omega
                            have hbyte := HB.out k hlt4 hidx
                            by_cases hkf : k < f
                            · rw [if_pos hkf] at hbyte
                              have hbt1 : (((im[64 * i + k]'hidx).toNat : Int) == 120) = true := by
                                have e : (im[64 * i + k]'hidx).toNat = 120 := congrArg UInt8.toNat hbyte
                                rw [e]; rfl
                              have hbt2 : decide ((k : Int) < torn) = true := decide_eq_true (by omega)
                              clear hbyte
                              go_wp2
                              go_round
                              case rel => exact ⟨k + 1, by omega, by go_num⟩
                              case measure => simp [intOf]; omega
                            · rw [if_neg hkf] at hbyte
                              have hbt1 : (((im[64 * i + k]'hidx).toNat : Int) == 120) = false := by
                                have e : (im[64 * i + k]'hidx).toNat = 0 := congrArg UInt8.toNat hbyte
                                rw [e]; rfl
                              have hbt2 : decide ((k : Int) < torn) = false := decide_eq_false (by omega)
                              clear hbyte
                              go_wp2
                              go_round
                              case rel => exact ⟨k + 1, by omega, by go_num⟩
                              case measure => simp [intOf]; omega
                          · go_wp2
                            go_round
                            case rel => exact ⟨i + 1, by omega, by go_num⟩
                            case measure => simp [intOf]; omega
                      · have hf0 : f = 64 := by rw [hf, crashN, if_neg hc, if_pos hl]; omega
                        clear hf hb hl hc
                        go_wp2
                        go_loop [16] (fun v => ∃ k : Nat, k ≤ 64 ∧ v = .int .i64 k) (fun v => 64 - (intOf v).toNat)
                        case atStart => exact ⟨0, Nat.zero_le _, rfl⟩
                        case round =>
                          obtain ⟨k, hk, rfl⟩ := hrel
                          by_cases hlt4 : k < 64
                          · have hidx : 64 * i + k < im.size := by have := HIS.out; omega
                            have hbyte := HB.out k hlt4 hidx
                            by_cases hkf : k < f
                            · rw [if_pos hkf] at hbyte
                              have hbt1 : (((im[64 * i + k]'hidx).toNat : Int) == 120) = true := by
                                have e : (im[64 * i + k]'hidx).toNat = 120 := congrArg UInt8.toNat hbyte
                                rw [e]; rfl
                              have hbt2 : decide ((k : Int) < 64) = true := decide_eq_true (by omega)
                              clear hbyte
                              go_wp2
                              go_round
                              case rel => exact ⟨k + 1, by omega, by go_num⟩
                              case measure => simp [intOf]; omega
                            · rw [if_neg hkf] at hbyte
                              have hbt1 : (((im[64 * i + k]'hidx).toNat : Int) == 120) = false := by
                                have e : (im[64 * i + k]'hidx).toNat = 0 := congrArg UInt8.toNat hbyte
                                rw [e]; rfl
                              have hbt2 : decide ((k : Int) < 64) = false := decide_eq_false (by omega)
                              clear hbyte
                              go_wp2
                              go_round
                              case rel => exact ⟨k + 1, by omega, by go_num⟩
                              case measure => simp [intOf]; omega
                          · go_wp2
                            go_round
                            case rel => exact ⟨i + 1, by omega, by go_num⟩
                            case measure => simp [intOf]; omega
                  · have hlt2 : ((i : Int) == (n : Int) - 1) = false := by simp; omega
                    have hf0 : f = 64 := by rw [hf, crashN, if_neg hc, if_neg hl]
                    clear hf hb hl hc
                    go_wp2
                    go_loop [16] (fun v => ∃ k : Nat, k ≤ 64 ∧ v = .int .i64 k) (fun v => 64 - (intOf v).toNat)
                    case atStart => exact ⟨0, Nat.zero_le _, rfl⟩
                    case round =>
                      obtain ⟨k, hk, rfl⟩ := hrel
                      by_cases hlt4 : k < 64
                      · have hidx : 64 * i + k < im.size := by have := HIS.out; omega
                        have hbyte := HB.out k hlt4 hidx
                        by_cases hkf : k < f
                        · rw [if_pos hkf] at hbyte
                          have hbt1 : (((im[64 * i + k]'hidx).toNat : Int) == 120) = true := by
                            have e : (im[64 * i + k]'hidx).toNat = 120 := congrArg UInt8.toNat hbyte
                            rw [e]; rfl
                          have hbt2 : decide ((k : Int) < 64) = true := decide_eq_true (by omega)
                          clear hbyte
                          go_wp2
                          go_round
                          case rel => exact ⟨k + 1, by omega, by go_num⟩
                          case measure => simp [intOf]; omega
                        · rw [if_neg hkf] at hbyte
                          have hbt1 : (((im[64 * i + k]'hidx).toNat : Int) == 120) = false := by
                            have e : (im[64 * i + k]'hidx).toNat = 0 := congrArg UInt8.toNat hbyte
                            rw [e]; rfl
                          have hbt2 : decide ((k : Int) < 64) = false := decide_eq_false (by omega)
                          clear hbyte
                          go_wp2
                          go_round
                          case rel => exact ⟨k + 1, by omega, by go_num⟩
                          case measure => simp [intOf]; omega
                      · go_wp2
                        go_round
                        case rel => exact ⟨i + 1, by omega, by go_num⟩
                        case measure => simp [intOf]; omega
                · have hbt : (keep / 2 ^ i % 2 == 1) = false := by simpa using hb
                  have hf0 : f = 0 := by rw [hf, crashN, if_pos (by omega)]
                  clear hf hb
                  go_wp2
                  go_loop [16] (fun v => ∃ k : Nat, k ≤ 64 ∧ v = .int .i64 k) (fun v => 64 - (intOf v).toNat)
                  case atStart => exact ⟨0, Nat.zero_le _, rfl⟩
                  case round =>
                    obtain ⟨k, hk, rfl⟩ := hrel
                    by_cases hlt4 : k < 64
                    · have hidx : 64 * i + k < im.size := by have := HIS.out; omega
                      have hbyte := HB.out k hlt4 hidx
                      by_cases hkf : k < f
                      · exact absurd hkf (by omega)
                      · rw [if_neg hkf] at hbyte
                        have hbt1 : (((im[64 * i + k]'hidx).toNat : Int) == 120) = false := by
                          have e : (im[64 * i + k]'hidx).toNat = 0 := congrArg UInt8.toNat hbyte
                          rw [e]; rfl
                        have hbt2 : decide ((k : Int) < 0) = false := decide_eq_false (by omega)
                        clear hbyte
                        go_wp2
                        go_round
                        case rel => exact ⟨k + 1, by omega, by go_num⟩
                        case measure => simp [intOf]; omega
                    · go_wp2
                      go_round
                      case rel => exact ⟨i + 1, by omega, by go_num⟩
                      case measure => simp [intOf]; omega
              · have hf0 : f = 0 := by rw [hf, crashN, if_pos (by omega)]
                clear hf
                go_wp2
                go_loop [16] (fun v => ∃ k : Nat, k ≤ 64 ∧ v = .int .i64 k) (fun v => 64 - (intOf v).toNat)
                case atStart => exact ⟨0, Nat.zero_le _, rfl⟩
                case round =>
                  obtain ⟨k, hk, rfl⟩ := hrel
                  by_cases hlt4 : k < 64
                  · have hidx : 64 * i + k < im.size := by have := HIS.out; omega
                    have hbyte := HB.out k hlt4 hidx
                    by_cases hkf : k < f
                    · exact absurd hkf (by omega)
                    · rw [if_neg hkf] at hbyte
                      have hbt1 : (((im[64 * i + k]'hidx).toNat : Int) == 120) = false := by
                        have e : (im[64 * i + k]'hidx).toNat = 0 := congrArg UInt8.toNat hbyte
                        rw [e]; rfl
                      have hbt2 : decide ((k : Int) < 0) = false := decide_eq_false (by omega)
                      clear hbyte
                      go_wp2
                      go_round
                      case rel => exact ⟨k + 1, by omega, by go_num⟩
                      case measure => simp [intOf]; omega
                  · go_wp2
                    go_round
                    case rel => exact ⟨i + 1, by omega, by go_num⟩
                    case measure => simp [intOf]; omega
            · go_wp2_with fail
              go_ret
              exact ⟨rfl, HF'.out⟩
end Go.Proofs.Ythlngbdbmnnnaaa
