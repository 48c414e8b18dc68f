/- Keys under keys: Wrap and Unwrap walked, the document's too. -/
import Derived.Test.YtcchhfkmhbjdmaaPmA
import Derived.Test.YtcchhfkmhbjdmaaPmC
import Derived.Test.YtcchhfkmhbjdmaaPmE
/-! Ph2 -/
set_option linter.unusedVariables false
set_option linter.unusedSimpArgs false
set_option pp.deepTerms true
set_option pp.maxSteps 100000
namespace Go.Proofs.Ytcchhfkmhbjdmaa
open Go.RowKit
def wnL (under name key : List UInt8) : List UInt8 := (tag under (name ++ ([0] ++ key))).take 12
def wrapL (under name key : List UInt8) : List UInt8 := wnL under name key ++ sealL under (wnL under name key) name key
def unkey (under w : List UInt8) : List UInt8 := openL under (w.take 12) (w.drop 12)
def unwraps (under name w : List UInt8) : Bool := opensL under (w.take 12) name (w.drop 12) && decide (wrapL under name (unkey under w) = w)
theorem wnL_length (under name key : List UInt8) : (wnL under name key).length = 12 := by
  unfold wnL; rw [List.length_take, tag_length]; rfl
theorem sealL_len (key nonce beside t : List UInt8) : (sealL key nonce beside t).length = t.length + 16 := by
  unfold sealL; rw [List.length_append, bodyL_length, tagL_length]
theorem wrapL_length (under name key : List UInt8) : (wrapL under name key).length = key.length + 28 := by
  unfold wrapL; rw [List.length_append, wnL_length, sealL_len]; omega
theorem unkey_length (under w : List UInt8) : (unkey under w).length = w.length - 28 := by
  unfold unkey openL; rw [bodyL_length, List.length_take, List.length_drop]; omega
set_option maxHeartbeats 1000000 in
theorem asked_no (name : ByteArray) (w : World) : Calls Try.prog 92 #[.bool false, .string name] w fun e w' => e = .returned (.int .i64 2) ∧ w' = w := by
  go_enter Try.func92, Try.ntmps92
  go_wp2_with fail
  go_ret
  exact ⟨rfl, rfl⟩
set_option maxHeartbeats 1000000 in
theorem asked_long (name : ByteArray) (h : 64 < name.size) (w : World) : Calls Try.prog 92 #[.bool true, .string name] w fun e w' => e = .returned (.int .i64 3) ∧ w' = w := by
  have d : decide ((64 : Int) < (name.size : Int)) = true := decide_eq_true (by omega)
  clear h
  go_enter Try.func92, Try.ntmps92
  go_wp2_with fail
  go_ret
  exact ⟨rfl, rfl⟩
set_option maxHeartbeats 1000000 in
theorem asked_ok (name : ByteArray) (h : ¬ 64 < name.size) (w : World) : Calls Try.prog 92 #[.bool true, .string name] w fun e w' => e = .returned (.int .i64 0) ∧ w' = w := by
  have d : decide ((64 : Int) < (name.size : Int)) = false := decide_eq_false (by omega)
  clear h
  go_enter Try.func92, Try.ntmps92
  go_wp2_with fail
  go_ret
  exact ⟨rfl, rfl⟩
theorem asked_calls (b : Bool) (name : ByteArray) (w : World) : Calls Try.prog 92 #[.bool b, .string name] w fun e w' => e = .returned (.int .i64 (if b then (if 64 < name.size then 3 else 0) else 2)) ∧ w' = w := by
  cases b with
  | false => exact asked_no name w
  | true =>
    rw [if_pos rfl]
    by_cases h : 64 < name.size
    · rw [if_pos h]; exact asked_long name h w
    · rw [if_neg h]; exact asked_ok name h w
set_option maxRecDepth 20000 in
set_option maxHeartbeats 1000000 in
theorem nonce_calls (A B C : Nat) (under name key : List UInt8) (hu : under.length ≤ 1000) (hn : name.length ≤ 1000) (hk : key.length ≤ 1000) (w : World) (hA : w.heap[A]? = some (.cells #[.string (str under)] 9 (0, 0))) (hB : w.heap[B]? = some (.cells #[.string (str name)] 9 (0, 0))) (hC : w.heap[C]? = some (.cells #[.string (str key)] 9 (0, 0))) :
    Calls Try.prog 93 #[.pointer (some ⟨A, 0, none⟩), .pointer (some ⟨B, 0, none⟩), .pointer (some ⟨C, 0, none⟩)] w fun e w' => e = .returned (.string (str (wnL under name key))) ∧ Fr (fun _ => False) w w' := by
  obtain ⟨U, hU⟩ : ∃ s, s = str under := ⟨_, rfl⟩
  obtain ⟨N, hN⟩ : ∃ s, s = str name := ⟨_, rfl⟩
  obtain ⟨K, hK⟩ : ∃ s, s = str key := ⟨_, rfl⟩
  obtain ⟨T, hT⟩ : ∃ s, s = str (tag under (name ++ ([0] ++ key))) := ⟨_, rfl⟩
  obtain ⟨X, hX⟩ : ∃ s, s = str (wnL under name key) := ⟨_, rfl⟩
  have cA : w.cell? ⟨A, 0, none⟩ = some (.string U) := by rw [hU]; exact (cell_of_row w A 0 _ _ _ hA).trans rfl
  have cB : w.cell? ⟨B, 0, none⟩ = some (.string N) := by rw [hN]; exact (cell_of_row w B 0 _ _ _ hB).trans rfl
  have cC : w.cell? ⟨C, 0, none⟩ = some (.string K) := by rw [hK]; exact (cell_of_row w C 0 _ _ _ hC).trans rfl
  have hts : T.size = 32 := by rw [hT, str_size]; exact tag_length _ _
  have hx : T.extract 0 12 = X := by rw [hT, jstr_take, hX]; rfl
  have HTag := Lib.hid (show Calls Try.prog 38 #[.string U, .slice (some ⟨w.heap.size, 0, none⟩) 3 3] (w.alloc (.cells #[.string N, .string ⟨#[0]⟩, .string K] 9)) fun e w' => e = .returned (.string T) ∧ Fr (fun _ => False) (w.alloc (.cells #[.string N, .string ⟨#[0]⟩, .string K] 9)) w' by
    have h := mac_tag under w.heap.size 3 [name, [0], key] (w.alloc (.cells #[.string N, .string ⟨#[0]⟩, .string K] 9)) (fun j s hs => by
      rw [cell_of_row _ w.heap.size j _ _ _ (heap_alloc_new w _)]
      have : j = 0 ∨ j = 1 ∨ j = 2 ∨ 3 ≤ j := by omega
      rcases this with rfl | rfl | rfl | h
      · simp at hs; subst hs; rw [hN]; rfl
      · simp at hs; subst hs; rfl
      · simp at hs; subst hs; rw [hK]; rfl
      · rw [List.getElem?_eq_none (by simpa using h)] at hs; cases hs) (by simp) (by omega) (by simp; omega) (by simp)
    rw [show ([name, [0], key] : List (List UInt8)).flatten = name ++ ([0] ++ key) by simp] at h
    rw [hU, hT]; exact h)
  have HX := Lib.hid hX
  have hfa : Fr (fun _ => False) w (w.alloc (.cells #[.string N, .string ⟨#[0]⟩, .string K] 9)) := (Fr.refl _ _).alloc _
  have HFa := Lib.hid hfa
  clear hU hN hK hT hX hA hB hC hfa hu hn hk
  go_enter Try.func93, Try.ntmps93
  go_wp2_with fail
  refine HTag.out.mono ?_
  rintro e w2 ⟨rfl, f2⟩
  have F2 := Lib.hid (HFa.out.trans f2 (fun i hi => hi.elim))
  clear f2
  go_wp2_with fail
  go_ret
  exact ⟨by rw [← HX.out]; rfl, F2.out⟩
theorem three_alloc (w : World) (a b c : Array Value) (t : TypeId) :
    let w3 := ((w.alloc (.cells a t)).alloc (.cells b t)).alloc (.cells c t)
    w3.heap[w.heap.size]? = some (.cells a t (0, 0)) ∧ w3.heap[w.heap.size + 1]? = some (.cells b t (0, 0)) ∧ w3.heap[w.heap.size + 1 + 1]? = some (.cells c t (0, 0)) ∧ Fr (fun _ => False) w w3 := by
  intro w3
  have hA := heap_alloc_new w (.cells a t)
  have hB := heap_alloc_new (w.alloc (.cells a t)) (.cells b t)
  have hC := heap_alloc_new ((w.alloc (.cells a t)).alloc (.cells b t)) (.cells c t)
  have fA := ((Fr.refl (fun _ => False) (w.alloc (.cells a t))).alloc (.cells b t)).alloc (.cells c t)
  have fB := (Fr.refl (fun _ => False) ((w.alloc (.cells a t)).alloc (.cells b t))).alloc (.cells c t)
  simp only [World.size_alloc] at hB hC
  exact ⟨fA.heap hA id, fB.heap hB id, hC, (((Fr.refl _ _).alloc _).alloc _).alloc _⟩
set_option maxRecDepth 20000 in
set_option maxHeartbeats 1000000 in
theorem wrap_yes (under name key : List UInt8) (hu : under.length = 32) (hk : key.length = 32) (hn : name.length ≤ 64) (w : World) :
    Calls Try.prog 48 #[.string (str under), .string (str name), .string (str key)] w fun e w' => e = .returned (.tuple #[.string (str (wrapL under name key)), .int .i64 0]) ∧ Fr (fun _ => False) w w' := by
  obtain ⟨U, hU⟩ : ∃ s, s = str under := ⟨_, rfl⟩
  obtain ⟨N, hN⟩ : ∃ s, s = str name := ⟨_, rfl⟩
  obtain ⟨K, hK⟩ : ∃ s, s = str key := ⟨_, rfl⟩
  obtain ⟨X, hX⟩ : ∃ s, s = str (wnL under name key) := ⟨_, rfl⟩
  obtain ⟨S, hS⟩ : ∃ s, s = str (sealL under (wnL under name key) name key) := ⟨_, rfl⟩
  obtain ⟨R, hR⟩ : ∃ s, s = str (wrapL under name key) := ⟨_, rfl⟩
  have hsu : U.size = 32 := by rw [hU, str_size, hu]
  have hsk : K.size = 32 := by rw [hK, str_size, hk]
  have hsn : N.size ≤ 64 := by rw [hN, str_size]; exact hn
  have hsx : X.size = 12 := by rw [hX, str_size, wnL_length]
  have hss : S.size = 48 := by rw [hS, str_size, sealL_len, hk]
  have u1 : ((U.size : Int) == 32) = true := by rw [hsu]; rfl
  have k1 : ((K.size : Int) == 32) = true := by rw [hsk]; rfl
  have hap : X ++ S = R := by rw [hX, hS, hR, jstr_append]; rfl
  have b1 : ¬ 9223372036854775807 < X.size + S.size := by omega
  have b2 : X.size + S.size ≤ 9223372036854775807 := by omega
  have HAsk := Lib.hid (show ∀ w, Calls Try.prog 92 #[.bool true, .string N] w fun e w' => e = .returned (.int .i64 0) ∧ w' = w from fun w => by
    have h := asked_calls true N w
    rw [if_pos rfl, if_neg (by omega)] at h; exact h)
  obtain ⟨h0, h1, h2, hf⟩ := three_alloc w #[.string U] #[.string N] #[.string K] 9
  have HNon := Lib.hid (show Calls Try.prog 93 #[.pointer (some ⟨w.heap.size, 0, none⟩), .pointer (some ⟨w.heap.size + 1, 0, none⟩), .pointer (some ⟨w.heap.size + 1 + 1, 0, none⟩)] (((w.alloc (.cells #[.string U] 9)).alloc (.cells #[.string N] 9)).alloc (.cells #[.string K] 9)) fun e w' => e = .returned (.string X) ∧ Fr (fun _ => False) (((w.alloc (.cells #[.string U] 9)).alloc (.cells #[.string N] 9)).alloc (.cells #[.string K] 9)) w' by
    rw [hX]; exact nonce_calls _ _ _ under name key (by omega) (by omega) (by omega) _ (by rw [← hU]; exact h0) (by rw [← hN]; exact h1) (by rw [← hK]; exact h2))
  have HSeal := Lib.hid (show ∀ w, Calls Try.prog 41 #[.string U, .string X, .string N, .string K] w fun e w' => e = .returned (.tuple #[.string S, .int .i64 0]) ∧ Fr (fun _ => False) w w' from fun w => by
    rw [hU, hX, hN, hK, hS]; exact seal_yes under _ name key hu (wnL_length _ _ _) (by omega) (by omega) w)
  rw [← hU, ← hN, ← hK, ← hR]
  clear hU hN hK hX hS hR hu hk hn
  go_enter Try.func48, Try.ntmps48
  go_wp2_with fail
  refine (HAsk.out _).mono ?_
  rintro e w' ⟨rfl, hww⟩
  rw [hww]
  clear hww w'
  go_wp2_with fail
  generalize ((w.alloc (.cells #[.string U] 9)).alloc (.cells #[.string N] 9)).alloc (.cells #[.string K] 9) = w3 at h0 h1 h2 hf HNon ⊢
  obtain ⟨A, hA⟩ : ∃ A, A = w.heap.size := ⟨_, rfl⟩
  rw [← hA] at h0 h1 h2 HNon ⊢
  have H0 := Lib.hid h0
  have H1 := Lib.hid h1
  have H2 := Lib.hid h2
  have HF := Lib.hid hf
  clear h0 h1 h2 hf hA
  refine HNon.out.mono ?_
  rintro e w4 ⟨rfl, f4⟩
  have c0 : w4.cell? ⟨A, 0, none⟩ = some (.string U) := (cell_of_row w4 A 0 _ _ _ (f4.heap H0.out id)).trans rfl
  have c1 : w4.cell? ⟨A + 1, 0, none⟩ = some (.string N) := (cell_of_row w4 (A + 1) 0 _ _ _ (f4.heap H1.out id)).trans rfl
  have c2 : w4.cell? ⟨A + 1 + 1, 0, none⟩ = some (.string K) := (cell_of_row w4 (A + 1 + 1) 0 _ _ _ (f4.heap H2.out id)).trans rfl
  have HF4 := Lib.hid (HF.out.trans f4 (fun i hi => hi.elim))
  clear f4
  go_wp2_with fail
  refine (HSeal.out w4).mono ?_
  rintro e w5 ⟨rfl, f5⟩
  have HF5 := Lib.hid (HF4.out.trans f5 (fun i hi => hi.elim))
  clear f5
  go_wp2_with fail
  go_ret2
  exact ⟨rfl, HF5.out⟩
set_option maxRecDepth 20000 in
set_option maxHeartbeats 1000000 in
theorem wrap_form (U N K : ByteArray) (h : U.size ≠ 32 ∨ K.size ≠ 32) (w : World) :
    Calls Try.prog 48 #[.string U, .string N, .string K] w fun e w' => e = .returned (.tuple #[.string ⟨#[]⟩, .int .i64 2]) ∧ Fr (fun _ => False) w w' := by
  by_cases hu : U.size = 32
  · have hk : K.size ≠ 32 := by omega
    have u1 : ((U.size : Int) == 32) = true := by rw [hu]; rfl
    have k1 : ((K.size : Int) == 32) = false := by simp; omega
    have HAsk := Lib.hid (show ∀ w, Calls Try.prog 92 #[.bool false, .string N] w fun e w' => e = .returned (.int .i64 2) ∧ w' = w from fun w => by
      have h := asked_calls false N w
      rw [if_neg (by decide)] at h; exact h)
    clear h hu hk
    go_enter Try.func48, Try.ntmps48
    go_wp2_with fail
    refine (HAsk.out _).mono ?_
    rintro e w' ⟨rfl, hww⟩
    rw [hww]
    clear hww w'
    go_wp2_with fail
    go_ret2
    exact ⟨rfl, (((Fr.refl _ _).alloc _).alloc _).alloc _⟩
  · have u1 : ((U.size : Int) == 32) = false := by simp; omega
    have HAsk := Lib.hid (show ∀ w, Calls Try.prog 92 #[.bool false, .string N] w fun e w' => e = .returned (.int .i64 2) ∧ w' = w from fun w => by
      have h := asked_calls false N w
      rw [if_neg (by decide)] at h; exact h)
    clear h hu
    go_enter Try.func48, Try.ntmps48
    go_wp2_with fail
    refine (HAsk.out _).mono ?_
    rintro e w' ⟨rfl, hww⟩
    rw [hww]
    clear hww w'
    go_wp2_with fail
    go_ret2
    exact ⟨rfl, (((Fr.refl _ _).alloc _).alloc _).alloc _⟩
set_option maxRecDepth 20000 in
set_option maxHeartbeats 1000000 in
theorem wrap_long (U N K : ByteArray) (hu : U.size = 32) (hk : K.size = 32) (hn : 64 < N.size) (w : World) :
    Calls Try.prog 48 #[.string U, .string N, .string K] w fun e w' => e = .returned (.tuple #[.string ⟨#[]⟩, .int .i64 3]) ∧ Fr (fun _ => False) w w' := by
  have u1 : ((U.size : Int) == 32) = true := by rw [hu]; rfl
  have k1 : ((K.size : Int) == 32) = true := by rw [hk]; rfl
  have d1 : decide ((64 : Int) < (N.size : Int)) = true := decide_eq_true (by omega)
  have HAsk := Lib.hid (show ∀ w, Calls Try.prog 92 #[.bool true, .string N] w fun e w' => e = .returned (.int .i64 3) ∧ w' = w from fun w => by
    have h := asked_calls true N w
    rw [if_pos rfl, if_pos hn] at h; exact h)
  clear hu hk hn
  go_enter Try.func48, Try.ntmps48
  go_wp2_with fail
  refine (HAsk.out _).mono ?_
  rintro e w' ⟨rfl, hww⟩
  rw [hww]
  clear hww w'
  go_wp2_with fail
  go_ret2
  exact ⟨rfl, (((Fr.refl _ _).alloc _).alloc _).alloc _⟩
set_option maxRecDepth 20000 in
set_option maxHeartbeats 1000000 in
theorem unwrap_form (U N K : ByteArray) (h : U.size ≠ 32 ∨ K.size ≠ 60) (w : World) :
    Calls Try.prog 50 #[.string U, .string N, .string K] w fun e w' => e = .returned (.tuple #[.string ⟨#[]⟩, .int .i64 2]) ∧ Fr (fun _ => False) w w' := by
  by_cases hu : U.size = 32
  · have hk : K.size ≠ 60 := by omega
    have u1 : ((U.size : Int) == 32) = true := by rw [hu]; rfl
    have k1 : ((K.size : Int) == 60) = false := by simp; omega
    have HAsk := Lib.hid (show ∀ w, Calls Try.prog 92 #[.bool false, .string N] w fun e w' => e = .returned (.int .i64 2) ∧ w' = w from fun w => by
      have h := asked_calls false N w
      rw [if_neg (by decide)] at h; exact h)
    clear h hu hk
    go_enter Try.func50, Try.ntmps50
    go_wp2_with fail
    refine (HAsk.out _).mono ?_
    rintro e w' ⟨rfl, hww⟩
    rw [hww]
    clear hww w'
    go_wp2_with fail
    go_ret2
    exact ⟨rfl, Fr.refl _ _⟩
  · have u1 : ((U.size : Int) == 32) = false := by simp; omega
    have HAsk := Lib.hid (show ∀ w, Calls Try.prog 92 #[.bool false, .string N] w fun e w' => e = .returned (.int .i64 2) ∧ w' = w from fun w => by
      have h := asked_calls false N w
      rw [if_neg (by decide)] at h; exact h)
    clear h hu
    go_enter Try.func50, Try.ntmps50
    go_wp2_with fail
    refine (HAsk.out _).mono ?_
    rintro e w' ⟨rfl, hww⟩
    rw [hww]
    clear hww w'
    go_wp2_with fail
    go_ret2
    exact ⟨rfl, Fr.refl _ _⟩
set_option maxRecDepth 20000 in
set_option maxHeartbeats 1000000 in
theorem unwrap_long (U N K : ByteArray) (hu : U.size = 32) (hk : K.size = 60) (hn : 64 < N.size) (w : World) :
    Calls Try.prog 50 #[.string U, .string N, .string K] w fun e w' => e = .returned (.tuple #[.string ⟨#[]⟩, .int .i64 3]) ∧ Fr (fun _ => False) w w' := by
  have u1 : ((U.size : Int) == 32) = true := by rw [hu]; rfl
  have k1 : ((K.size : Int) == 60) = true := by rw [hk]; rfl
  have d1 : decide ((64 : Int) < (N.size : Int)) = true := decide_eq_true (by omega)
  have HAsk := Lib.hid (show ∀ w, Calls Try.prog 92 #[.bool true, .string N] w fun e w' => e = .returned (.int .i64 3) ∧ w' = w from fun w => by
    have h := asked_calls true N w
    rw [if_pos rfl, if_pos hn] at h; exact h)
  clear hu hk hn
  go_enter Try.func50, Try.ntmps50
  go_wp2_with fail
  refine (HAsk.out _).mono ?_
  rintro e w' ⟨rfl, hww⟩
  rw [hww]
  clear hww w'
  go_wp2_with fail
  go_ret2
  exact ⟨rfl, Fr.refl _ _⟩
set_option maxRecDepth 20000 in
set_option maxHeartbeats 1000000 in
theorem refwrap_form (U N K : ByteArray) (h : U.size ≠ 32 ∨ K.size ≠ 32) (w : World) :
    Calls Try.prog 49 #[.string U, .string N, .string K] w fun e w' => e = .returned (.tuple #[.string ⟨#[]⟩, .int .i64 2]) ∧ Fr (fun _ => False) w w' := by
  by_cases hu : U.size = 32
  · have hk : K.size ≠ 32 := by omega
    have u1 : ((U.size : Int) != 32) = false := by rw [hu]; rfl
    have k1 : ((K.size : Int) != 32) = true := by simp; omega
    clear h hu hk
    go_enter Try.func49, Try.ntmps49
    go_wp2_with fail
    go_ret2
    exact ⟨rfl, Fr.refl _ _⟩
  · have u1 : ((U.size : Int) != 32) = true := by simp; omega
    clear h hu
    go_enter Try.func49, Try.ntmps49
    go_wp2_with fail
    go_ret2
    exact ⟨rfl, Fr.refl _ _⟩
set_option maxRecDepth 20000 in
set_option maxHeartbeats 1000000 in
theorem refwrap_long (U N K : ByteArray) (hu : U.size = 32) (hk : K.size = 32) (hn : 64 < N.size) (w : World) :
    Calls Try.prog 49 #[.string U, .string N, .string K] w fun e w' => e = .returned (.tuple #[.string ⟨#[]⟩, .int .i64 3]) ∧ Fr (fun _ => False) w w' := by
  have u1 : ((U.size : Int) != 32) = false := by rw [hu]; rfl
  have k1 : ((K.size : Int) != 32) = false := by rw [hk]; rfl
  have d1 : decide ((64 : Int) < (N.size : Int)) = true := decide_eq_true (by omega)
  clear hu hk hn
  go_enter Try.func49, Try.ntmps49
  go_wp2_with fail
  go_ret2
  exact ⟨rfl, Fr.refl _ _⟩
set_option maxRecDepth 20000 in
set_option maxHeartbeats 1000000 in
theorem refunwrap_form (U N K : ByteArray) (h : U.size ≠ 32 ∨ K.size ≠ 60) (w : World) :
    Calls Try.prog 51 #[.string U, .string N, .string K] w fun e w' => e = .returned (.tuple #[.string ⟨#[]⟩, .int .i64 2]) ∧ Fr (fun _ => False) w w' := by
  by_cases hu : U.size = 32
  · have hk : K.size ≠ 60 := by omega
    have u1 : ((U.size : Int) != 32) = false := by rw [hu]; rfl
    have k1 : ((K.size : Int) != 60) = true := by simp; omega
    clear h hu hk
    go_enter Try.func51, Try.ntmps51
    go_wp2_with fail
    go_ret2
    exact ⟨rfl, Fr.refl _ _⟩
  · have u1 : ((U.size : Int) != 32) = true := by simp; omega
    clear h hu
    go_enter Try.func51, Try.ntmps51
    go_wp2_with fail
    go_ret2
    exact ⟨rfl, Fr.refl _ _⟩
set_option maxRecDepth 20000 in
set_option maxHeartbeats 1000000 in
theorem refunwrap_long (U N K : ByteArray) (hu : U.size = 32) (hk : K.size = 60) (hn : 64 < N.size) (w : World) :
    Calls Try.prog 51 #[.string U, .string N, .string K] w fun e w' => e = .returned (.tuple #[.string ⟨#[]⟩, .int .i64 3]) ∧ Fr (fun _ => False) w w' := by
  have u1 : ((U.size : Int) != 32) = false := by rw [hu]; rfl
  have k1 : ((K.size : Int) != 60) = false := by rw [hk]; rfl
  have d1 : decide ((64 : Int) < (N.size : Int)) = true := decide_eq_true (by omega)
  clear hu hk hn
  go_enter Try.func51, Try.ntmps51
  go_wp2_with fail
  go_ret2
  exact ⟨rfl, Fr.refl _ _⟩
set_option maxRecDepth 20000 in
set_option maxHeartbeats 1000000 in
theorem refwrap_yes (under name key : List UInt8) (hu : under.length = 32) (hk : key.length = 32) (hn : name.length ≤ 64) (w : World) :
    Calls Try.prog 49 #[.string (str under), .string (str name), .string (str key)] w fun e w' => e = .returned (.tuple #[.string (str (wrapL under name key)), .int .i64 0]) ∧ Fr (fun _ => False) w w' := by
  obtain ⟨U, hU⟩ : ∃ s, s = str under := ⟨_, rfl⟩
  obtain ⟨N, hN⟩ : ∃ s, s = str name := ⟨_, rfl⟩
  obtain ⟨K, hK⟩ : ∃ s, s = str key := ⟨_, rfl⟩
  obtain ⟨N0, hN0⟩ : ∃ s, s = str (name ++ [0]) := ⟨_, rfl⟩
  obtain ⟨NK, hNK⟩ : ∃ s, s = str (name ++ ([0] ++ key)) := ⟨_, rfl⟩
  obtain ⟨T, hT⟩ : ∃ s, s = str (tag under (name ++ ([0] ++ key))) := ⟨_, rfl⟩
  obtain ⟨X, hX⟩ : ∃ s, s = str (wnL under name key) := ⟨_, rfl⟩
  obtain ⟨S, hS⟩ : ∃ s, s = str (sealL under (wnL under name key) name key) := ⟨_, rfl⟩
  obtain ⟨R, hR⟩ : ∃ s, s = str (wrapL under name key) := ⟨_, rfl⟩
  have hsu : U.size = 32 := by rw [hU, str_size, hu]
  have hsk : K.size = 32 := by rw [hK, str_size, hk]
  have hsn : N.size ≤ 64 := by rw [hN, str_size]; exact hn
  have hs0 : N0.size ≤ 65 := by rw [hN0, str_size, List.length_append]; simp; omega
  have hsx : X.size = 12 := by rw [hX, str_size, wnL_length]
  have hss : S.size = 48 := by rw [hS, str_size, sealL_len, hk]
  have hts : T.size = 32 := by rw [hT, str_size]; exact tag_length _ _
  have hx : T.extract 0 12 = X := by rw [hT, jstr_take, hX]; rfl
  have u1 : ((U.size : Int) != 32) = false := by rw [hsu]; rfl
  have k1 : ((K.size : Int) != 32) = false := by rw [hsk]; rfl
  have d1 : decide ((64 : Int) < (N.size : Int)) = false := decide_eq_false (by omega)
  have ap0 : N ++ (⟨#[0]⟩ : ByteArray) = N0 := by rw [hN, hN0]; exact jstr_append _ [0]
  have ap1 : N0 ++ K = NK := by rw [hN0, hK, hNK, jstr_append, List.append_assoc]
  have ap2 : X ++ S = R := by rw [hX, hS, hR, jstr_append]; rfl
  have b0 : ¬ 9223372036854775807 < N.size + (⟨#[0]⟩ : ByteArray).size := by show ¬ _ < N.size + 1; omega
  have b0' : N.size + (⟨#[0]⟩ : ByteArray).size ≤ 9223372036854775807 := by show N.size + 1 ≤ _; omega
  have b0'' : N.size + 1 ≤ 9223372036854775807 := by omega
  have b1 : ¬ 9223372036854775807 < N0.size + K.size := by omega
  have b1' : N0.size + K.size ≤ 9223372036854775807 := by omega
  have b2 : ¬ 9223372036854775807 < X.size + S.size := by omega
  have b2' : X.size + S.size ≤ 9223372036854775807 := by omega
  have HTag := Lib.hid (show ∀ w, Calls Try.prog 35 #[.string U, .string NK] w fun e w' => e = .returned (.string T) ∧ Fr (fun _ => False) w w' from fun w => by rw [hU, hNK, hT]; exact ref_tag under _ (by omega) (by simp; omega) w)
  have HSeal := Lib.hid (show ∀ w, Calls Try.prog 42 #[.string U, .string X, .string N, .string K] w fun e w' => e = .returned (.tuple #[.string S, .int .i64 0]) ∧ Fr (fun _ => False) w w' from fun w => by
    rw [hU, hX, hN, hK, hS]; exact refseal_yes under _ name key hu (wnL_length _ _ _) (by omega) (by omega) w)
  rw [← hU, ← hN, ← hK, ← hR]
  clear hU hN hK hX hS hR hu hk hn hN0 hNK hT
  go_enter Try.func49, Try.ntmps49
  go_wp2_with fail
  refine (HTag.out w).mono ?_
  rintro e w1 ⟨rfl, f1⟩
  have HF1 := Lib.hid f1
  clear f1
  go_wp2_with fail
  refine (HSeal.out w1).mono ?_
  rintro e w2 ⟨rfl, f2⟩
  have HF2 := Lib.hid (HF1.out.trans f2 (fun i hi => hi.elim))
  clear f2
  go_wp2_with fail
  go_ret2
  exact ⟨rfl, HF2.out⟩
set_option maxRecDepth 20000 in
set_option maxHeartbeats 1000000 in
theorem unwrap_yes (under name wr : List UInt8) (hu : under.length = 32) (hk : wr.length = 60) (hn : name.length ≤ 64) (w : World) :
    Calls Try.prog 50 #[.string (str under), .string (str name), .string (str wr)] w fun e w' => e = .returned (.tuple #[.string (if unwraps under name wr then str (unkey under wr) else ⟨#[]⟩), .int .i64 (if unwraps under name wr then 0 else 8)]) ∧ Fr (fun _ => False) w w' := by
  obtain ⟨U, hU⟩ : ∃ s, s = str under := ⟨_, rfl⟩
  obtain ⟨N, hN⟩ : ∃ s, s = str name := ⟨_, rfl⟩
  obtain ⟨W, hW⟩ : ∃ s, s = str wr := ⟨_, rfl⟩
  obtain ⟨W1, hW1⟩ : ∃ s, s = str (wr.take 12) := ⟨_, rfl⟩
  obtain ⟨W2, hW2⟩ : ∃ s, s = str (wr.drop 12) := ⟨_, rfl⟩
  obtain ⟨KY, hKY⟩ : ∃ s, s = str (unkey under wr) := ⟨_, rfl⟩
  obtain ⟨AG, hAG⟩ : ∃ s, s = str (wrapL under name (unkey under wr)) := ⟨_, rfl⟩
  have hsu : U.size = 32 := by rw [hU, str_size, hu]
  have hsk : W.size = 60 := by rw [hW, str_size, hk]
  have hsn : N.size ≤ 64 := by rw [hN, str_size]; exact hn
  have u1 : ((U.size : Int) == 32) = true := by rw [hsu]; rfl
  have k1 : ((W.size : Int) == 60) = true := by rw [hsk]; rfl
  have d1 : decide ((64 : Int) < (N.size : Int)) = false := decide_eq_false (by omega)
  have hx1 : W.extract 0 12 = W1 := by rw [hW, jstr_take, hW1]
  have hx2 : W.extract 12 60 = W2 := by rw [← hsk, hW, jstr_drop, hW2]
  have HAsk := Lib.hid (show ∀ w, Calls Try.prog 92 #[.bool true, .string N] w fun e w' => e = .returned (.int .i64 0) ∧ w' = w from fun w => by
    have h := asked_calls true N w
    rw [if_pos rfl, if_neg (by omega)] at h; exact h)
  obtain ⟨q, hq⟩ : ∃ q, q = opensL under (wr.take 12) name (wr.drop 12) := ⟨_, rfl⟩
  obtain ⟨r, hr⟩ : ∃ r, r = decide (wrapL under name (unkey under wr) = wr) := ⟨_, rfl⟩
  have hun : unwraps under name wr = (q && r) := by rw [hq, hr]; rfl
  have HOpen := Lib.hid (show ∀ w, Calls Try.prog 43 #[.string U, .string W1, .string N, .string W2] w fun e w' => e = .returned (.tuple #[.string (if q then KY else ⟨#[]⟩), .int .i64 (if q then 0 else 8)]) ∧ Fr (fun _ => False) w w' from fun w => by
    rw [hU, hW1, hN, hW2, hKY, hq]; exact open_calls under _ name _ hu (by rw [List.length_take]; omega) (by omega) (by rw [List.length_drop]; omega) (by rw [List.length_drop]; omega) w)
  have HWrap := Lib.hid (show ∀ w, Calls Try.prog 48 #[.string U, .string N, .string KY] w fun e w' => e = .returned (.tuple #[.string AG, .int .i64 0]) ∧ Fr (fun _ => False) w w' from fun w => by
    rw [hU, hN, hKY, hAG]; exact wrap_yes under name _ hu (by rw [unkey_length]; omega) hn w)
  have HEq := Lib.hid (show ∀ w, Calls Try.prog 77 #[.string AG, .string W] w fun e w' => e = .returned (.bool r) ∧ Fr (fun _ => False) w w' from fun w => by
    rw [hAG, hW, hr]; exact sha_equal _ _ (by rw [wrapL_length, unkey_length]; omega) w)
  rw [hun, ← hU, ← hN, ← hW, ← hKY]
  clear hU hN hW hW1 hW2 hKY hAG hu hk hn hq hr hun
  go_enter Try.func50, Try.ntmps50
  go_wp2_with fail
  refine (HAsk.out _).mono ?_
  rintro e w' ⟨rfl, hww⟩
  rw [hww]
  clear hww w'
  go_wp2_with fail
  refine wp_region_till (fun W' => Fr (fun _ => False) w.drew W') 6 (by kernel_rfl) ?_
  have HS0 := Lib.hid (Fr.refl (fun _ => False) w.drew)
  refine wpAnyT_take (i := 0) (n := 12) (v := .string U) rfl (by kernel_rfl) (fun _ _ _ h => h) HS0.out (yieldsIf_plain rfl (fun W' hW => by clear hW; go_simp)) ?_
  simp only [List.getElem_toArray, List.getElem_cons_succ, List.getElem_cons_zero, Act.put, List.setIfInBounds_toArray, List.set_cons_zero, List.set_cons_succ]
  refine wpAnyT_take (i := 1) (n := 12) (v := .string W) rfl (by kernel_rfl) (fun _ _ _ h => h) HS0.out (yieldsIf_plain rfl (fun W' hW => by clear hW; go_simp)) ?_
  simp only [List.getElem_toArray, List.getElem_cons_succ, List.getElem_cons_zero, Act.put, List.setIfInBounds_toArray, List.set_cons_zero, List.set_cons_succ]
  refine wpAnyT_take (i := 2) (n := 12) (v := .string W1) rfl (by kernel_rfl) (fun _ _ _ h => h) HS0.out (yieldsIf_plain rfl (fun W' hW => by clear hW; go_simp)) ?_
  simp only [List.getElem_toArray, List.getElem_cons_succ, List.getElem_cons_zero, Act.put, List.setIfInBounds_toArray, List.set_cons_zero, List.set_cons_succ]
  refine wpAnyT_take (i := 3) (n := 12) (v := .string N) rfl (by kernel_rfl) (fun _ _ _ h => h) HS0.out (yieldsIf_plain rfl (fun W' hW => by clear hW; go_simp)) ?_
  simp only [List.getElem_toArray, List.getElem_cons_succ, List.getElem_cons_zero, Act.put, List.setIfInBounds_toArray, List.set_cons_zero, List.set_cons_succ]
  refine wpAnyT_take (i := 4) (n := 12) (v := .string W) rfl (by kernel_rfl) (fun _ _ _ h => h) HS0.out (yieldsIf_plain rfl (fun W' hW => by clear hW; go_simp)) ?_
  simp only [List.getElem_toArray, List.getElem_cons_succ, List.getElem_cons_zero, Act.put, List.setIfInBounds_toArray, List.set_cons_zero, List.set_cons_succ]
  refine wpAnyT_take (i := 5) (n := 12) (v := .string W2) rfl (by kernel_rfl) (fun _ _ _ h => h) HS0.out (yieldsIf_plain rfl (fun W' hW => by clear hW; go_simp)) ?_
  simp only [List.getElem_toArray, List.getElem_cons_succ, List.getElem_cons_zero, Act.put, List.setIfInBounds_toArray, List.set_cons_zero, List.set_cons_succ]
  refine wpAnyT_one (i := 6) rfl (by kernel_rfl) (wpOp_plain rfl rfl (fun K hK => ?_))
  simp only [List.getElem_toArray, List.getElem_cons_succ, List.getElem_cons_zero, Act.put, List.setIfInBounds_toArray, List.set_cons_zero, List.set_cons_succ]
  have HKK := Lib.hid hK
  clear hK
  go_wp2_with fail
  refine (HOpen.out _).mono ?_
  rintro e w3 ⟨rfl, f3⟩
  have HS3 := Lib.hid f3
  have HF3 := Lib.hid ((Fr.refl (fun _ => False) w).drew.trans f3 (fun i hi => hi.elim))
  clear f3
  cases q with
  | false =>
    rw [if_neg (by decide), if_neg (by decide)]
    go_wp2_with fail
    refine HKK.out _ _ ⟨fun _ => HS3.out, ?_⟩
    clear HKK K
    try simp only [List.getElem_toArray, List.getElem_cons_succ, List.getElem_cons_zero, Act.put, List.setIfInBounds_toArray, List.set_cons_zero, List.set_cons_succ]
    refine wpAnyT_done (by first | rfl | kernel_rfl) _ _ _ ?_
    refine wpAny_take (i := 7) (v := .tuple #[.string ⟨#[]⟩, .int .i64 8]) rfl (by kernel_rfl) (by kernel_rfl) (by kernel_rfl) (fun _ _ _ h => h) (.inl ⟨rfl, fun W' => by go_simp⟩) ?_
    simp only [List.getElem_toArray, List.getElem_cons_succ, List.getElem_cons_zero, Act.put, List.setIfInBounds_toArray, List.set_cons_zero, List.set_cons_succ]
    refine wpAny_take (i := 8) (v := .string ⟨#[]⟩) rfl (by kernel_rfl) (by kernel_rfl) (by kernel_rfl) (fun _ _ _ h => h) (.inl ⟨rfl, fun W' => by go_simp⟩) ?_
    simp only [List.getElem_toArray, List.getElem_cons_succ, List.getElem_cons_zero, Act.put, List.setIfInBounds_toArray, List.set_cons_zero, List.set_cons_succ]
    refine wpAny_take (i := 9) (v := .int .i64 8) rfl (by kernel_rfl) (by kernel_rfl) (by kernel_rfl) (fun _ _ _ h => h) (.inl ⟨rfl, fun W' => by go_simp⟩) ?_
    simp only [List.getElem_toArray, List.getElem_cons_succ, List.getElem_cons_zero, Act.put, List.setIfInBounds_toArray, List.set_cons_zero, List.set_cons_succ]
    refine wpAny_take (i := 10) (v := .string ⟨#[]⟩) rfl (by kernel_rfl) (by kernel_rfl) (by kernel_rfl) (fun _ _ _ h => h) (.inl ⟨rfl, fun W' => by go_simp⟩) ?_
    simp only [List.getElem_toArray, List.getElem_cons_succ, List.getElem_cons_zero, Act.put, List.setIfInBounds_toArray, List.set_cons_zero, List.set_cons_succ]
    refine wpAny_take (i := 11) (v := .int .i64 8) rfl (by kernel_rfl) (by kernel_rfl) (by kernel_rfl) (fun _ _ _ h => h) (.inl ⟨rfl, fun W' => by go_simp⟩) ?_
    simp only [List.getElem_toArray, List.getElem_cons_succ, List.getElem_cons_zero, Act.put, List.setIfInBounds_toArray, List.set_cons_zero, List.set_cons_succ]
    refine wpAny_done (by kernel_rfl) ?_ _
    go_wp2_with fail
    go_ret2
    exact ⟨rfl, HF3.out⟩
  | true =>
    rw [if_pos rfl, if_pos rfl]
    go_wp2_with fail
    refine HKK.out _ _ ⟨fun _ => HS3.out, ?_⟩
    clear HKK K
    try simp only [List.getElem_toArray, List.getElem_cons_succ, List.getElem_cons_zero, Act.put, List.setIfInBounds_toArray, List.set_cons_zero, List.set_cons_succ]
    refine wpAnyT_done (by first | rfl | kernel_rfl) _ _ _ ?_
    refine wpAny_take (i := 7) (v := .tuple #[.string KY, .int .i64 0]) rfl (by kernel_rfl) (by kernel_rfl) (by kernel_rfl) (fun _ _ _ h => h) (.inl ⟨rfl, fun W' => by go_simp⟩) ?_
    simp only [List.getElem_toArray, List.getElem_cons_succ, List.getElem_cons_zero, Act.put, List.setIfInBounds_toArray, List.set_cons_zero, List.set_cons_succ]
    refine wpAny_take (i := 8) (v := .string KY) rfl (by kernel_rfl) (by kernel_rfl) (by kernel_rfl) (fun _ _ _ h => h) (.inl ⟨rfl, fun W' => by go_simp⟩) ?_
    simp only [List.getElem_toArray, List.getElem_cons_succ, List.getElem_cons_zero, Act.put, List.setIfInBounds_toArray, List.set_cons_zero, List.set_cons_succ]
    refine wpAny_take (i := 9) (v := .int .i64 0) rfl (by kernel_rfl) (by kernel_rfl) (by kernel_rfl) (fun _ _ _ h => h) (.inl ⟨rfl, fun W' => by go_simp⟩) ?_
    simp only [List.getElem_toArray, List.getElem_cons_succ, List.getElem_cons_zero, Act.put, List.setIfInBounds_toArray, List.set_cons_zero, List.set_cons_succ]
    refine wpAny_take (i := 10) (v := .string KY) rfl (by kernel_rfl) (by kernel_rfl) (by kernel_rfl) (fun _ _ _ h => h) (.inl ⟨rfl, fun W' => by go_simp⟩) ?_
    simp only [List.getElem_toArray, List.getElem_cons_succ, List.getElem_cons_zero, Act.put, List.setIfInBounds_toArray, List.set_cons_zero, List.set_cons_succ]
    refine wpAny_take (i := 11) (v := .int .i64 0) rfl (by kernel_rfl) (by kernel_rfl) (by kernel_rfl) (fun _ _ _ h => h) (.inl ⟨rfl, fun W' => by go_simp⟩) ?_
    simp only [List.getElem_toArray, List.getElem_cons_succ, List.getElem_cons_zero, Act.put, List.setIfInBounds_toArray, List.set_cons_zero, List.set_cons_succ]
    refine wpAny_done (by kernel_rfl) ?_ _
    go_wp2_with fail
    refine (HWrap.out w3).mono ?_
    rintro e w4 ⟨rfl, f4⟩
    have HF4 := Lib.hid (HF3.out.trans f4 (fun i hi => hi.elim))
    clear f4
    go_wp2_with fail
    refine (HEq.out w4).mono ?_
    rintro e w5 ⟨rfl, f5⟩
    have HF5 := Lib.hid (HF4.out.trans f5 (fun i hi => hi.elim))
    clear f5
    cases r with
    | false =>
      go_wp2_with fail
      go_ret2
      exact ⟨rfl, HF5.out⟩
    | true =>
      go_wp2_with fail
      go_ret2
      exact ⟨rfl, HF5.out⟩
set_option maxRecDepth 20000 in
set_option maxHeartbeats 1000000 in
theorem refunwrap_yes (under name wr : List UInt8) (hu : under.length = 32) (hk : wr.length = 60) (hn : name.length ≤ 64) (w : World) :
    Calls Try.prog 51 #[.string (str under), .string (str name), .string (str wr)] w fun e w' => e = .returned (.tuple #[.string (if unwraps under name wr then str (unkey under wr) else ⟨#[]⟩), .int .i64 (if unwraps under name wr then 0 else 8)]) ∧ Fr (fun _ => False) w w' := by
  obtain ⟨U, hU⟩ : ∃ s, s = str under := ⟨_, rfl⟩
  obtain ⟨N, hN⟩ : ∃ s, s = str name := ⟨_, rfl⟩
  obtain ⟨W, hW⟩ : ∃ s, s = str wr := ⟨_, rfl⟩
  obtain ⟨W1, hW1⟩ : ∃ s, s = str (wr.take 12) := ⟨_, rfl⟩
  obtain ⟨W2, hW2⟩ : ∃ s, s = str (wr.drop 12) := ⟨_, rfl⟩
  obtain ⟨KY, hKY⟩ : ∃ s, s = str (unkey under wr) := ⟨_, rfl⟩
  obtain ⟨AG, hAG⟩ : ∃ s, s = str (wrapL under name (unkey under wr)) := ⟨_, rfl⟩
  have hsu : U.size = 32 := by rw [hU, str_size, hu]
  have hsk : W.size = 60 := by rw [hW, str_size, hk]
  have hsn : N.size ≤ 64 := by rw [hN, str_size]; exact hn
  have u1 : ((U.size : Int) != 32) = false := by rw [hsu]; rfl
  have k1 : ((W.size : Int) != 60) = false := by rw [hsk]; rfl
  have d1 : decide ((64 : Int) < (N.size : Int)) = false := decide_eq_false (by omega)
  have hx1 : W.extract 0 12 = W1 := by rw [hW, jstr_take, hW1]
  have hx2 : W.extract 12 60 = W2 := by rw [← hsk, hW, jstr_drop, hW2]
  have HAsk := Lib.hid (show ∀ w, Calls Try.prog 92 #[.bool true, .string N] w fun e w' => e = .returned (.int .i64 0) ∧ w' = w from fun w => by
    have h := asked_calls true N w
    rw [if_pos rfl, if_neg (by omega)] at h; exact h)
  obtain ⟨q, hq⟩ : ∃ q, q = opensL under (wr.take 12) name (wr.drop 12) := ⟨_, rfl⟩
  obtain ⟨r, hr⟩ : ∃ r, r = decide (wrapL under name (unkey under wr) = wr) := ⟨_, rfl⟩
  have hun : unwraps under name wr = (q && r) := by rw [hq, hr]; rfl
  have HOpen := Lib.hid (show ∀ w, Calls Try.prog 44 #[.string U, .string W1, .string N, .string W2] w fun e w' => e = .returned (.tuple #[.string (if q then KY else ⟨#[]⟩), .int .i64 (if q then 0 else 8)]) ∧ Fr (fun _ => False) w w' from fun w => by
    rw [hU, hW1, hN, hW2, hKY, hq]; exact refopen_calls under _ name _ hu (by rw [List.length_take]; omega) (by omega) (by rw [List.length_drop]; omega) (by rw [List.length_drop]; omega) w)
  have HWrap := Lib.hid (show ∀ w, Calls Try.prog 49 #[.string U, .string N, .string KY] w fun e w' => e = .returned (.tuple #[.string AG, .int .i64 0]) ∧ Fr (fun _ => False) w w' from fun w => by
    rw [hU, hN, hKY, hAG]; exact refwrap_yes under name _ hu (by rw [unkey_length]; omega) hn w)
  have HQ := Lib.hid (show (AG.toList == W.toList) = r by
    rw [hAG, hW, str_toList, str_toList, hr]
    by_cases e : wrapL under name (unkey under wr) = wr
    · rw [decide_eq_true e, e]; simp
    · rw [decide_eq_false e]; simp [e])
  rw [hun, ← hU, ← hN, ← hW, ← hKY]
  clear hU hN hW hW1 hW2 hKY hAG hu hk hn hq hr hun
  go_enter Try.func51, Try.ntmps51
  go_wp2_with fail
  refine wp_region_till (fun W' => Fr (fun _ => False) w.drew W') 6 (by kernel_rfl) ?_
  have HS0 := Lib.hid (Fr.refl (fun _ => False) w.drew)
  refine wpAnyT_take (i := 0) (n := 12) (v := .string U) rfl (by kernel_rfl) (fun _ _ _ h => h) HS0.out (yieldsIf_plain rfl (fun W' hW => by clear hW; go_simp)) ?_
  simp only [List.getElem_toArray, List.getElem_cons_succ, List.getElem_cons_zero, Act.put, List.setIfInBounds_toArray, List.set_cons_zero, List.set_cons_succ]
  refine wpAnyT_take (i := 1) (n := 12) (v := .string W) rfl (by kernel_rfl) (fun _ _ _ h => h) HS0.out (yieldsIf_plain rfl (fun W' hW => by clear hW; go_simp)) ?_
  simp only [List.getElem_toArray, List.getElem_cons_succ, List.getElem_cons_zero, Act.put, List.setIfInBounds_toArray, List.set_cons_zero, List.set_cons_succ]
  refine wpAnyT_take (i := 2) (n := 12) (v := .string W1) rfl (by kernel_rfl) (fun _ _ _ h => h) HS0.out (yieldsIf_plain rfl (fun W' hW => by clear hW; go_simp)) ?_
  simp only [List.getElem_toArray, List.getElem_cons_succ, List.getElem_cons_zero, Act.put, List.setIfInBounds_toArray, List.set_cons_zero, List.set_cons_succ]
  refine wpAnyT_take (i := 3) (n := 12) (v := .string N) rfl (by kernel_rfl) (fun _ _ _ h => h) HS0.out (yieldsIf_plain rfl (fun W' hW => by clear hW; go_simp)) ?_
  simp only [List.getElem_toArray, List.getElem_cons_succ, List.getElem_cons_zero, Act.put, List.setIfInBounds_toArray, List.set_cons_zero, List.set_cons_succ]
  refine wpAnyT_take (i := 4) (n := 12) (v := .string W) rfl (by kernel_rfl) (fun _ _ _ h => h) HS0.out (yieldsIf_plain rfl (fun W' hW => by clear hW; go_simp)) ?_
  simp only [List.getElem_toArray, List.getElem_cons_succ, List.getElem_cons_zero, Act.put, List.setIfInBounds_toArray, List.set_cons_zero, List.set_cons_succ]
  refine wpAnyT_take (i := 5) (n := 12) (v := .string W2) rfl (by kernel_rfl) (fun _ _ _ h => h) HS0.out (yieldsIf_plain rfl (fun W' hW => by clear hW; go_simp)) ?_
  simp only [List.getElem_toArray, List.getElem_cons_succ, List.getElem_cons_zero, Act.put, List.setIfInBounds_toArray, List.set_cons_zero, List.set_cons_succ]
  refine wpAnyT_one (i := 6) rfl (by kernel_rfl) (wpOp_plain rfl rfl (fun K hK => ?_))
  simp only [List.getElem_toArray, List.getElem_cons_succ, List.getElem_cons_zero, Act.put, List.setIfInBounds_toArray, List.set_cons_zero, List.set_cons_succ]
  have HKK := Lib.hid hK
  clear hK
  go_wp2_with fail
  refine (HOpen.out _).mono ?_
  rintro e w3 ⟨rfl, f3⟩
  have HS3 := Lib.hid f3
  have HF3 := Lib.hid ((Fr.refl (fun _ => False) w).drew.trans f3 (fun i hi => hi.elim))
  clear f3
  cases q with
  | false =>
    rw [if_neg (by decide), if_neg (by decide)]
    go_wp2_with fail
    refine HKK.out _ _ ⟨fun _ => HS3.out, ?_⟩
    clear HKK K
    try simp only [List.getElem_toArray, List.getElem_cons_succ, List.getElem_cons_zero, Act.put, List.setIfInBounds_toArray, List.set_cons_zero, List.set_cons_succ]
    refine wpAnyT_done (by first | rfl | kernel_rfl) _ _ _ ?_
    refine wpAny_take (i := 7) (v := .tuple #[.string ⟨#[]⟩, .int .i64 8]) rfl (by kernel_rfl) (by kernel_rfl) (by kernel_rfl) (fun _ _ _ h => h) (.inl ⟨rfl, fun W' => by go_simp⟩) ?_
    simp only [List.getElem_toArray, List.getElem_cons_succ, List.getElem_cons_zero, Act.put, List.setIfInBounds_toArray, List.set_cons_zero, List.set_cons_succ]
    refine wpAny_take (i := 8) (v := .string ⟨#[]⟩) rfl (by kernel_rfl) (by kernel_rfl) (by kernel_rfl) (fun _ _ _ h => h) (.inl ⟨rfl, fun W' => by go_simp⟩) ?_
    simp only [List.getElem_toArray, List.getElem_cons_succ, List.getElem_cons_zero, Act.put, List.setIfInBounds_toArray, List.set_cons_zero, List.set_cons_succ]
    refine wpAny_take (i := 9) (v := .int .i64 8) rfl (by kernel_rfl) (by kernel_rfl) (by kernel_rfl) (fun _ _ _ h => h) (.inl ⟨rfl, fun W' => by go_simp⟩) ?_
    simp only [List.getElem_toArray, List.getElem_cons_succ, List.getElem_cons_zero, Act.put, List.setIfInBounds_toArray, List.set_cons_zero, List.set_cons_succ]
    refine wpAny_take (i := 10) (v := .string ⟨#[]⟩) rfl (by kernel_rfl) (by kernel_rfl) (by kernel_rfl) (fun _ _ _ h => h) (.inl ⟨rfl, fun W' => by go_simp⟩) ?_
    simp only [List.getElem_toArray, List.getElem_cons_succ, List.getElem_cons_zero, Act.put, List.setIfInBounds_toArray, List.set_cons_zero, List.set_cons_succ]
    refine wpAny_take (i := 11) (v := .int .i64 8) rfl (by kernel_rfl) (by kernel_rfl) (by kernel_rfl) (fun _ _ _ h => h) (.inl ⟨rfl, fun W' => by go_simp⟩) ?_
    simp only [List.getElem_toArray, List.getElem_cons_succ, List.getElem_cons_zero, Act.put, List.setIfInBounds_toArray, List.set_cons_zero, List.set_cons_succ]
    refine wpAny_done (by kernel_rfl) ?_ _
    go_wp2_with fail
    go_ret2
    exact ⟨rfl, HF3.out⟩
  | true =>
    rw [if_pos rfl, if_pos rfl]
    go_wp2_with fail
    refine HKK.out _ _ ⟨fun _ => HS3.out, ?_⟩
    clear HKK K
    try simp only [List.getElem_toArray, List.getElem_cons_succ, List.getElem_cons_zero, Act.put, List.setIfInBounds_toArray, List.set_cons_zero, List.set_cons_succ]
    refine wpAnyT_done (by first | rfl | kernel_rfl) _ _ _ ?_
    refine wpAny_take (i := 7) (v := .tuple #[.string KY, .int .i64 0]) rfl (by kernel_rfl) (by kernel_rfl) (by kernel_rfl) (fun _ _ _ h => h) (.inl ⟨rfl, fun W' => by go_simp⟩) ?_
    simp only [List.getElem_toArray, List.getElem_cons_succ, List.getElem_cons_zero, Act.put, List.setIfInBounds_toArray, List.set_cons_zero, List.set_cons_succ]
    refine wpAny_take (i := 8) (v := .string KY) rfl (by kernel_rfl) (by kernel_rfl) (by kernel_rfl) (fun _ _ _ h => h) (.inl ⟨rfl, fun W' => by go_simp⟩) ?_
    simp only [List.getElem_toArray, List.getElem_cons_succ, List.getElem_cons_zero, Act.put, List.setIfInBounds_toArray, List.set_cons_zero, List.set_cons_succ]
    refine wpAny_take (i := 9) (v := .int .i64 0) rfl (by kernel_rfl) (by kernel_rfl) (by kernel_rfl) (fun _ _ _ h => h) (.inl ⟨rfl, fun W' => by go_simp⟩) ?_
    simp only [List.getElem_toArray, List.getElem_cons_succ, List.getElem_cons_zero, Act.put, List.setIfInBounds_toArray, List.set_cons_zero, List.set_cons_succ]
    refine wpAny_take (i := 10) (v := .string KY) rfl (by kernel_rfl) (by kernel_rfl) (by kernel_rfl) (fun _ _ _ h => h) (.inl ⟨rfl, fun W' => by go_simp⟩) ?_
    simp only [List.getElem_toArray, List.getElem_cons_succ, List.getElem_cons_zero, Act.put, List.setIfInBounds_toArray, List.set_cons_zero, List.set_cons_succ]
    refine wpAny_take (i := 11) (v := .int .i64 0) rfl (by kernel_rfl) (by kernel_rfl) (by kernel_rfl) (fun _ _ _ h => h) (.inl ⟨rfl, fun W' => by go_simp⟩) ?_
    simp only [List.getElem_toArray, List.getElem_cons_succ, List.getElem_cons_zero, Act.put, List.setIfInBounds_toArray, List.set_cons_zero, List.set_cons_succ]
    refine wpAny_done (by kernel_rfl) ?_ _
    go_wp2_with fail
    refine (HWrap.out w3).mono ?_
    rintro e w4 ⟨rfl, f4⟩
    have HF4 := Lib.hid (HF3.out.trans f4 (fun i hi => hi.elim))
    clear f4
    have qq := HQ.out
    cases r with
    | false =>
      go_wp2_with fail
      go_ret2
      exact ⟨rfl, HF4.out⟩
    | true =>
      go_wp2_with fail
      go_ret2
      exact ⟨rfl, HF4.out⟩
end Go.Proofs.Ytcchhfkmhbjdmaa
