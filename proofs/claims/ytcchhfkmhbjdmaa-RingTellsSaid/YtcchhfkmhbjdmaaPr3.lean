/- The ring's walks: with its closures, Backing, Key, Rewrap, and the document's. -/
import Derived.Test.YtcchhfkmhbjdmaaPr2
set_option linter.unusedVariables false
set_option linter.unusedSimpArgs false
set_option pp.deepTerms true
set_option pp.maxSteps 100000
namespace Go.Proofs.Ytcchhfkmhbjdmaa
open Go.RowKit
def backDo (draw key name : List UInt8) : List UInt8 × Int := wrapF key (98 :: name) (derL [98, 97, 99, 107, 105, 110, 103] draw name)
def keyDo (wr key name : List UInt8) : List UInt8 × Int := unwrapF key (98 :: name) wr
def rewDo (k key name : List UInt8) : List UInt8 × Int := wrapF key (98 :: name) k
def withF (root : List UInt8) (n : Int) (dom id : List UInt8) (v : Int) (f : List UInt8 → List UInt8 → List UInt8 × Int) : List UInt8 × Int :=
  if (n < 1 ∨ 8 < n) ∨ v < 1 ∨ 8 < v then ([], 1) else if 32 < id.length then ([], 3) else if (domF root n dom).2 = 0 then f (domF root n dom).1 (id ++ [UInt8.ofNat v.toNat]) else ([], (domF root n dom).2)
theorem bName_str (N : List UInt8) : (⟨#[98]⟩ : ByteArray) ++ str N = str (98 :: N) := jstr_append [98] _
theorem domF_code (root : List UInt8) (n : Int) (dom : List UInt8) : (domF root n dom).2 = 0 ∨ (domF root n dom).2 = 1 ∨ (domF root n dom).2 = 2 ∨ (domF root n dom).2 = 3 ∨ (domF root n dom).2 = 8 := by
  unfold domF
  split
  · exact .inr (.inl rfl)
  · rcases unwrapF_code root (domName n) dom with h | h | h | h <;> rw [h] <;> simp
set_option maxRecDepth 20000 in
set_option maxHeartbeats 1000000 in
theorem backdo_calls (A : Nat) (x key name : List UInt8) (hx : x.length ≤ 50000) (hn : name.length ≤ 50000) (w : World) (hA : w.heap[A]? = some (.cells #[.string (str x)] 9 (0, 0))) :
    Calls Try.prog 99 #[.string (str key), .string (str name), .pointer (some ⟨A, 0, none⟩)] w fun e w' => e = .returned (.tuple #[.string (str (backDo x key name).1), .int .i64 (backDo x key name).2]) ∧ Fr (fun _ => False) w w' := by
  unfold backDo
  obtain ⟨U, hU⟩ : ∃ s, s = str key := ⟨_, rfl⟩
  obtain ⟨N, hN⟩ : ∃ s, s = str name := ⟨_, rfl⟩
  obtain ⟨X, hX⟩ : ∃ s, s = str x := ⟨_, rfl⟩
  obtain ⟨M, hM⟩ : ∃ s, s = str (98 :: name) := ⟨_, rfl⟩
  obtain ⟨R, hR⟩ : ∃ s, s = str (wrapF key (98 :: name) (derL [98, 97, 99, 107, 105, 110, 103] x name)).1 := ⟨_, rfl⟩
  obtain ⟨c, hc⟩ : ∃ c, c = (wrapF key (98 :: name) (derL [98, 97, 99, 107, 105, 110, 103] x name)).2 := ⟨_, rfl⟩
  obtain ⟨D, hD⟩ : ∃ s, s = str (derL [98, 97, 99, 107, 105, 110, 103] x name) := ⟨_, rfl⟩
  have cA : w.cell? ⟨A, 0, none⟩ = some (.string X) := by rw [hX]; exact (cell_of_row w A 0 _ _ _ hA).trans rfl
  have ap : (⟨#[98]⟩ : ByteArray) ++ N = M := by rw [hN, hM]; exact bName_str name
  have hsn : N.size ≤ 50000 := by rw [hN, str_size]; exact hn
  have b0 : ¬ 9223372036854775807 < (⟨#[98]⟩ : ByteArray).size + N.size := by show ¬ _ < 1 + N.size; omega
  have b0' : (⟨#[98]⟩ : ByteArray).size + N.size ≤ 9223372036854775807 := by show 1 + N.size ≤ _; omega
  have b0'' : 1 + N.size ≤ 9223372036854775807 := by omega
  have HDer := Lib.hid (show ∀ w, Calls Try.prog 96 #[.string ⟨#[98, 97, 99, 107, 105, 110, 103]⟩, .string X, .string N] w fun e w' => e = .returned (.string D) ∧ Fr (fun _ => False) w w' from fun w => by rw [hX, hN, hD]; exact derived_calls [98, 97, 99, 107, 105, 110, 103] x name (by simp) (by omega) (by omega) w)
  have HFin := Lib.hid (show ∀ w, Calls Try.prog 48 #[.string U, .string M, .string D] w fun e w' => e = .returned (.tuple #[.string R, .int .i64 c]) ∧ Fr (fun _ => False) w w' from fun w => by rw [hU, hM, hD, hR, hc]; exact wrap_all _ _ _ w)
  rw [← hU, ← hN, ← hR, ← hc]
  clear hX hU hN hM hR hc hA hx hn hD
  go_enter Try.func99, Try.ntmps99
  go_wp2_with fail
  refine (HDer.out w).mono ?_
  rintro e w1 ⟨rfl, f1⟩
  have G1 := Lib.hid (f1)
  clear f1
  go_wp2_with fail
  refine (HFin.out w1).mono ?_
  rintro e w2 ⟨rfl, f2⟩
  have G2 := Lib.hid (G1.out.trans f2 (fun i hi => hi.elim))
  clear f2
  go_wp2_with fail
  go_ret2
  exact ⟨rfl, G2.out⟩
set_option maxRecDepth 20000 in
set_option maxHeartbeats 1000000 in
theorem keydo_calls (A : Nat) (x key name : List UInt8) (hx : x.length ≤ 50000) (hn : name.length ≤ 50000) (w : World) (hA : w.heap[A]? = some (.cells #[.string (str x)] 9 (0, 0))) :
    Calls Try.prog 101 #[.string (str key), .string (str name), .pointer (some ⟨A, 0, none⟩)] w fun e w' => e = .returned (.tuple #[.string (str (keyDo x key name).1), .int .i64 (keyDo x key name).2]) ∧ Fr (fun _ => False) w w' := by
  unfold keyDo
  obtain ⟨U, hU⟩ : ∃ s, s = str key := ⟨_, rfl⟩
  obtain ⟨N, hN⟩ : ∃ s, s = str name := ⟨_, rfl⟩
  obtain ⟨X, hX⟩ : ∃ s, s = str x := ⟨_, rfl⟩
  obtain ⟨M, hM⟩ : ∃ s, s = str (98 :: name) := ⟨_, rfl⟩
  obtain ⟨R, hR⟩ : ∃ s, s = str (unwrapF key (98 :: name) x).1 := ⟨_, rfl⟩
  obtain ⟨c, hc⟩ : ∃ c, c = (unwrapF key (98 :: name) x).2 := ⟨_, rfl⟩
  have cA : w.cell? ⟨A, 0, none⟩ = some (.string X) := by rw [hX]; exact (cell_of_row w A 0 _ _ _ hA).trans rfl
  have ap : (⟨#[98]⟩ : ByteArray) ++ N = M := by rw [hN, hM]; exact bName_str name
  have hsn : N.size ≤ 50000 := by rw [hN, str_size]; exact hn
  have b0 : ¬ 9223372036854775807 < (⟨#[98]⟩ : ByteArray).size + N.size := by show ¬ _ < 1 + N.size; omega
  have b0' : (⟨#[98]⟩ : ByteArray).size + N.size ≤ 9223372036854775807 := by show 1 + N.size ≤ _; omega
  have b0'' : 1 + N.size ≤ 9223372036854775807 := by omega
  have HFin := Lib.hid (show ∀ w, Calls Try.prog 50 #[.string U, .string M, .string X] w fun e w' => e = .returned (.tuple #[.string R, .int .i64 c]) ∧ Fr (fun _ => False) w w' from fun w => by rw [hU, hM, hX, hR, hc]; exact unwrap_all _ _ _ w)
  rw [← hU, ← hN, ← hR, ← hc]
  clear hX hU hN hM hR hc hA hx hn
  go_enter Try.func101, Try.ntmps101
  go_wp2_with fail
  refine (HFin.out w).mono ?_
  rintro e w1 ⟨rfl, f1⟩
  have G1 := Lib.hid (f1)
  clear f1
  go_wp2_with fail
  go_ret2
  exact ⟨rfl, G1.out⟩
set_option maxRecDepth 20000 in
set_option maxHeartbeats 1000000 in
theorem rewdo_calls (A : Nat) (x key name : List UInt8) (hx : x.length ≤ 50000) (hn : name.length ≤ 50000) (w : World) (hA : w.heap[A]? = some (.cells #[.string (str x)] 9 (0, 0))) :
    Calls Try.prog 102 #[.string (str key), .string (str name), .pointer (some ⟨A, 0, none⟩)] w fun e w' => e = .returned (.tuple #[.string (str (rewDo x key name).1), .int .i64 (rewDo x key name).2]) ∧ Fr (fun _ => False) w w' := by
  unfold rewDo
  obtain ⟨U, hU⟩ : ∃ s, s = str key := ⟨_, rfl⟩
  obtain ⟨N, hN⟩ : ∃ s, s = str name := ⟨_, rfl⟩
  obtain ⟨X, hX⟩ : ∃ s, s = str x := ⟨_, rfl⟩
  obtain ⟨M, hM⟩ : ∃ s, s = str (98 :: name) := ⟨_, rfl⟩
  obtain ⟨R, hR⟩ : ∃ s, s = str (wrapF key (98 :: name) x).1 := ⟨_, rfl⟩
  obtain ⟨c, hc⟩ : ∃ c, c = (wrapF key (98 :: name) x).2 := ⟨_, rfl⟩
  have cA : w.cell? ⟨A, 0, none⟩ = some (.string X) := by rw [hX]; exact (cell_of_row w A 0 _ _ _ hA).trans rfl
  have ap : (⟨#[98]⟩ : ByteArray) ++ N = M := by rw [hN, hM]; exact bName_str name
  have hsn : N.size ≤ 50000 := by rw [hN, str_size]; exact hn
  have b0 : ¬ 9223372036854775807 < (⟨#[98]⟩ : ByteArray).size + N.size := by show ¬ _ < 1 + N.size; omega
  have b0' : (⟨#[98]⟩ : ByteArray).size + N.size ≤ 9223372036854775807 := by show 1 + N.size ≤ _; omega
  have b0'' : 1 + N.size ≤ 9223372036854775807 := by omega
  have HFin := Lib.hid (show ∀ w, Calls Try.prog 48 #[.string U, .string M, .string X] w fun e w' => e = .returned (.tuple #[.string R, .int .i64 c]) ∧ Fr (fun _ => False) w w' from fun w => by rw [hU, hM, hX, hR, hc]; exact wrap_all _ _ _ w)
  rw [← hU, ← hN, ← hR, ← hc]
  clear hX hU hN hM hR hc hA hx hn
  go_enter Try.func102, Try.ntmps102
  go_wp2_with fail
  refine (HFin.out w).mono ?_
  rintro e w1 ⟨rfl, f1⟩
  have G1 := Lib.hid (f1)
  clear f1
  go_wp2_with fail
  go_ret2
  exact ⟨rfl, G1.out⟩
set_option maxRecDepth 20000 in
set_option maxHeartbeats 1000000 in
theorem withback_n (A B : Nat) (n v : Int) (hn : badN n) (D I : ByteArray) (w : World) :
    Calls Try.prog 98 #[.pointer (some ⟨A, 0, none⟩), .int .i64 n, .string D, .string I, .int .i64 v, .func (.func 99) #[] #[.pointer (some ⟨B, 0, none⟩)]] w fun e w' => e = .returned (.tuple #[.string ⟨#[]⟩, .int .i64 1]) ∧ Fr (fun _ => False) w w' := by
  have HDom := Lib.hid (fun w => domains_no n hn w)
  clear hn
  go_enter Try.func98, Try.ntmps98
  go_wp2_with fail
  refine (HDom.out _).mono ?_
  rintro e w' ⟨rfl, hww⟩
  rw [hww]
  clear hww w'
  go_wp2_with fail
  go_ret2
  exact ⟨rfl, Fr.refl _ _⟩
set_option maxRecDepth 20000 in
set_option maxHeartbeats 1000000 in
theorem withback_v (A B : Nat) (n v : Int) (hn : ¬ badN n) (hv : v < 1 ∨ 8 < v) (D I : ByteArray) (w : World) :
    Calls Try.prog 98 #[.pointer (some ⟨A, 0, none⟩), .int .i64 n, .string D, .string I, .int .i64 v, .func (.func 99) #[] #[.pointer (some ⟨B, 0, none⟩)]] w fun e w' => e = .returned (.tuple #[.string ⟨#[]⟩, .int .i64 1]) ∧ Fr (fun _ => False) w w' := by
  have HDom := Lib.hid (fun w => domains_yes n hn w)
  clear hn
  by_cases h : v < 1
  · have d1 : decide (v < (1 : Int)) = true := decide_eq_true h
    clear hv h
    go_enter Try.func98, Try.ntmps98
    go_wp2_with fail
    refine (HDom.out _).mono ?_
    rintro e w' ⟨rfl, hww⟩
    rw [hww]
    clear hww w'
    go_wp2_with fail
    go_ret2
    exact ⟨rfl, Fr.refl _ _⟩
  · have d1 : decide (v < (1 : Int)) = false := decide_eq_false h
    have d2 : decide ((8 : Int) < v) = true := decide_eq_true (by omega)
    clear hv h
    go_enter Try.func98, Try.ntmps98
    go_wp2_with fail
    refine (HDom.out _).mono ?_
    rintro e w' ⟨rfl, hww⟩
    rw [hww]
    clear hww w'
    go_wp2_with fail
    go_ret2
    exact ⟨rfl, Fr.refl _ _⟩
set_option maxRecDepth 20000 in
set_option maxHeartbeats 1000000 in
theorem withback_i (A B : Nat) (n v : Int) (hn : ¬ badN n) (hv : ¬ (v < 1 ∨ 8 < v)) (D I : ByteArray) (hi : 32 < I.size) (w : World) :
    Calls Try.prog 98 #[.pointer (some ⟨A, 0, none⟩), .int .i64 n, .string D, .string I, .int .i64 v, .func (.func 99) #[] #[.pointer (some ⟨B, 0, none⟩)]] w fun e w' => e = .returned (.tuple #[.string ⟨#[]⟩, .int .i64 3]) ∧ Fr (fun _ => False) w w' := by
  have HDom := Lib.hid (fun w => domains_yes n hn w)
  have d1 : decide (v < (1 : Int)) = false := decide_eq_false (by omega)
  have d2 : decide ((8 : Int) < v) = false := decide_eq_false (by omega)
  have d3 : decide ((32 : Int) < (I.size : Int)) = true := decide_eq_true (by omega)
  clear hn hv hi
  go_enter Try.func98, Try.ntmps98
  go_wp2_with fail
  refine (HDom.out _).mono ?_
  rintro e w' ⟨rfl, hww⟩
  rw [hww]
  clear hww w'
  go_wp2_with fail
  go_ret2
  exact ⟨rfl, Fr.refl _ _⟩
set_option maxRecDepth 20000 in
set_option maxHeartbeats 1000000 in
theorem withback_d (A B : Nat) (n v c : Int) (hn : ¬ badN n) (hv : ¬ (v < 1 ∨ 8 < v)) (D I : ByteArray) (hi : ¬ 32 < I.size) (w : World) (hc : c ≠ 0) (K : ByteArray) (HD : Hid (∀ w', Fr (fun _ => False) w w' → Calls Try.prog 123 #[.pointer (some ⟨A, 0, none⟩), .int .i64 n, .string D] w' fun e w'' => e = .returned (.tuple #[.string K, .int .i64 c]) ∧ Fr (fun _ => False) w' w'')) :
    Calls Try.prog 98 #[.pointer (some ⟨A, 0, none⟩), .int .i64 n, .string D, .string I, .int .i64 v, .func (.func 99) #[] #[.pointer (some ⟨B, 0, none⟩)]] w fun e w' => e = .returned (.tuple #[.string ⟨#[]⟩, .int .i64 c]) ∧ Fr (fun _ => False) w w' := by
  have HDom := Lib.hid (fun w => domains_yes n hn w)
  have d1 : decide (v < (1 : Int)) = false := decide_eq_false (by omega)
  have d2 : decide ((8 : Int) < v) = false := decide_eq_false (by omega)
  have d3 : decide ((32 : Int) < (I.size : Int)) = false := decide_eq_false (by omega)
  have d4 : (c != 0) = true := bne_iff_ne.2 hc
  clear hn hv hi hc
  go_enter Try.func98, Try.ntmps98
  go_wp2_with fail
  refine (HDom.out _).mono ?_
  rintro e w' ⟨rfl, hww⟩
  rw [hww]
  clear hww w'
  go_wp2_with fail
  refine (HD.out _ (Fr.refl _ _)).mono ?_
  rintro e w1 ⟨rfl, f1⟩
  have G1 := Lib.hid f1
  clear f1
  go_wp2_with fail
  go_ret2
  exact ⟨rfl, G1.out⟩
set_option maxRecDepth 20000 in
set_option maxHeartbeats 1000000 in
theorem withback_f (A B : Nat) (n : Int) (b : UInt8) (hn : ¬ badN n) (hv : ¬ ((b.toNat : Int) < 1 ∨ 8 < (b.toNat : Int))) (D I : ByteArray) (hi : ¬ 32 < I.size) (c : Int) (w : World) (K IV R : ByteArray) (hiv : I ++ str [b] = IV) (HD : Hid (∀ w', Fr (fun _ => False) w w' → Calls Try.prog 123 #[.pointer (some ⟨A, 0, none⟩), .int .i64 n, .string D] w' fun e w'' => e = .returned (.tuple #[.string K, .int .i64 0]) ∧ Fr (fun _ => False) w' w''))
    (HF : Hid (∀ w', Fr (fun _ => False) w w' → Calls Try.prog 99 #[.string K, .string IV, .pointer (some ⟨B, 0, none⟩)] w' fun e w'' => e = .returned (.tuple #[.string R, .int .i64 c]) ∧ Fr (fun _ => False) w' w'')) :
    Calls Try.prog 98 #[.pointer (some ⟨A, 0, none⟩), .int .i64 n, .string D, .string I, .int .i64 (b.toNat : Int), .func (.func 99) #[] #[.pointer (some ⟨B, 0, none⟩)]] w fun e w' => e = .returned (.tuple #[.string R, .int .i64 c]) ∧ Fr (fun _ => False) w w' := by
  have HDom := Lib.hid (fun w => domains_yes n hn w)
  have d1 : decide ((b.toNat : Int) < (1 : Int)) = false := decide_eq_false (by omega)
  have d2 : decide ((8 : Int) < (b.toNat : Int)) = false := decide_eq_false (by omega)
  have d1' : decide (b.toNat < 1) = false := decide_eq_false (by omega)
  have d2' : decide (8 < b.toNat) = false := decide_eq_false (by omega)
  have d3 : decide ((32 : Int) < (I.size : Int)) = false := decide_eq_false (by omega)
  obtain ⟨V, hV⟩ : ∃ V, V = str [b] := ⟨_, rfl⟩
  have hcv : ∀ W : World, (convert 27 9 (.slice (some ⟨W.heap.size, 0, none⟩) 1 1)).run Try.prog (W.alloc (.cells #[.int .u8 (b.toNat : Int)] 5)) = .ok (.string V) (W.alloc (.cells #[.int .u8 (b.toNat : Int)] 5)) := fun W => by
    rw [hV]
    exact run_convert_str (P := Try.prog) (W.alloc (.cells #[.int .u8 (b.toNat : Int)] 5)) 27 5 Try.underlying27 Try.underlying5 W.heap.size 0 1 1 [b] rfl (fun j v hj => by
      rw [Nat.zero_add, cell_of_row _ W.heap.size j _ _ _ (heap_alloc_new W _)]; simpa [bcells] using hj) 9 Try.underlying9
  have ap : I ++ V = IV := by rw [hV]; exact hiv
  have hsv : V.size = 1 := by rw [hV, str_size]; rfl
  have b0 : ¬ 9223372036854775807 < I.size + V.size := by omega
  have b0' : I.size + V.size ≤ 9223372036854775807 := by omega
  have b0'' : I.size + 1 ≤ 9223372036854775807 := by omega
  have hw8 : IntKind.u8.wrap (b.toNat : Int) = (b.toNat : Int) := by rw [IntKind.wrap_u8']; have := b.toNat_lt; omega
  clear hn hv hi hiv hV
  go_enter Try.func98, Try.ntmps98
  go_wp2_with fail
  refine (HDom.out _).mono ?_
  rintro e w' ⟨rfl, hww⟩
  rw [hww]
  clear hww w'
  go_wp2_with fail
  refine (HD.out _ (Fr.refl _ _)).mono ?_
  rintro e w1 ⟨rfl, f1⟩
  have G1 := Lib.hid f1
  clear f1
  go_wp2_with fail
  refine (HF.out _ (G1.out.alloc _)).mono ?_
  rintro e w2 ⟨rfl, f2⟩
  have G2 := Lib.hid ((G1.out.alloc _).trans f2 (fun i hi => hi.elim))
  clear f2
  go_wp2_with fail
  go_ret2
  exact ⟨rfl, G2.out⟩
theorem withback_all (A B : Nat) (root : List UInt8) (n v : Int) (dom id x : List UInt8) (hd : dom.length ≤ 50000) (hx : x.length ≤ 50000) (w : World) (hA : w.heap[A]? = some (.cells #[.string (str root)] 132 (0, 0))) (hB : w.heap[B]? = some (.cells #[.string (str x)] 9 (0, 0))) :
    Calls Try.prog 98 #[.pointer (some ⟨A, 0, none⟩), .int .i64 n, .string (str dom), .string (str id), .int .i64 v, .func (.func 99) #[] #[.pointer (some ⟨B, 0, none⟩)]] w fun e w' => e = .returned (.tuple #[.string (str (withF root n dom id v (backDo x)).1), .int .i64 (withF root n dom id v (backDo x)).2]) ∧ Fr (fun _ => False) w w' := by
  unfold withF
  by_cases hn : badN n
  · rw [if_pos (.inl hn)]
    exact withback_n A B n v hn _ _ w
  · by_cases hv : v < 1 ∨ 8 < v
    · rw [if_pos (.inr hv)]
      exact withback_v A B n v hn hv _ _ w
    · rw [if_neg (fun h => h.elim hn hv)]
      by_cases hi : 32 < id.length
      · rw [if_pos hi]
        exact withback_i A B n v hn hv _ _ (by rw [str_size]; exact hi) w
      · rw [if_neg hi]
        have HD := Lib.hid (fun w' (hf : Fr (fun _ => False) w w') => dom_all A root n dom hd w' (hf.heap hA _root_.id))
        by_cases hc : (domF root n dom).2 = 0
        · rw [if_pos hc]
          rw [hc] at HD
          obtain ⟨b, rfl⟩ := u8_of v (by omega) (by omega)
          have hb : UInt8.ofNat ((b.toNat : Int)).toNat = b := by simp
          rw [hb]
          exact withback_f A B n b hn hv _ (str id) (by rw [str_size]; exact hi) _ w _ _ _ (jstr_append id [b]) HD (Lib.hid (fun w' hf => backdo_calls B x _ (id ++ [b]) hx (by rw [List.length_append]; simp; omega) w' (hf.heap hB _root_.id)))
        · rw [if_neg hc]
          exact withback_d A B n v _ hn hv _ _ (by rw [str_size]; exact hi) w hc _ HD
set_option maxRecDepth 20000 in
set_option maxHeartbeats 1000000 in
theorem withkey_n (A B : Nat) (n v : Int) (hn : badN n) (D I : ByteArray) (w : World) :
    Calls Try.prog 98 #[.pointer (some ⟨A, 0, none⟩), .int .i64 n, .string D, .string I, .int .i64 v, .func (.func 101) #[] #[.pointer (some ⟨B, 0, none⟩)]] w fun e w' => e = .returned (.tuple #[.string ⟨#[]⟩, .int .i64 1]) ∧ Fr (fun _ => False) w w' := by
  have HDom := Lib.hid (fun w => domains_no n hn w)
  clear hn
  go_enter Try.func98, Try.ntmps98
  go_wp2_with fail
  refine (HDom.out _).mono ?_
  rintro e w' ⟨rfl, hww⟩
  rw [hww]
  clear hww w'
  go_wp2_with fail
  go_ret2
  exact ⟨rfl, Fr.refl _ _⟩
set_option maxRecDepth 20000 in
set_option maxHeartbeats 1000000 in
theorem withkey_v (A B : Nat) (n v : Int) (hn : ¬ badN n) (hv : v < 1 ∨ 8 < v) (D I : ByteArray) (w : World) :
    Calls Try.prog 98 #[.pointer (some ⟨A, 0, none⟩), .int .i64 n, .string D, .string I, .int .i64 v, .func (.func 101) #[] #[.pointer (some ⟨B, 0, none⟩)]] w fun e w' => e = .returned (.tuple #[.string ⟨#[]⟩, .int .i64 1]) ∧ Fr (fun _ => False) w w' := by
  have HDom := Lib.hid (fun w => domains_yes n hn w)
  clear hn
  by_cases h : v < 1
  · have d1 : decide (v < (1 : Int)) = true := decide_eq_true h
    clear hv h
    go_enter Try.func98, Try.ntmps98
    go_wp2_with fail
    refine (HDom.out _).mono ?_
    rintro e w' ⟨rfl, hww⟩
    rw [hww]
    clear hww w'
    go_wp2_with fail
    go_ret2
    exact ⟨rfl, Fr.refl _ _⟩
  · have d1 : decide (v < (1 : Int)) = false := decide_eq_false h
    have d2 : decide ((8 : Int) < v) = true := decide_eq_true (by omega)
    clear hv h
    go_enter Try.func98, Try.ntmps98
    go_wp2_with fail
    refine (HDom.out _).mono ?_
    rintro e w' ⟨rfl, hww⟩
    rw [hww]
    clear hww w'
    go_wp2_with fail
    go_ret2
    exact ⟨rfl, Fr.refl _ _⟩
set_option maxRecDepth 20000 in
set_option maxHeartbeats 1000000 in
theorem withkey_i (A B : Nat) (n v : Int) (hn : ¬ badN n) (hv : ¬ (v < 1 ∨ 8 < v)) (D I : ByteArray) (hi : 32 < I.size) (w : World) :
    Calls Try.prog 98 #[.pointer (some ⟨A, 0, none⟩), .int .i64 n, .string D, .string I, .int .i64 v, .func (.func 101) #[] #[.pointer (some ⟨B, 0, none⟩)]] w fun e w' => e = .returned (.tuple #[.string ⟨#[]⟩, .int .i64 3]) ∧ Fr (fun _ => False) w w' := by
  have HDom := Lib.hid (fun w => domains_yes n hn w)
  have d1 : decide (v < (1 : Int)) = false := decide_eq_false (by omega)
  have d2 : decide ((8 : Int) < v) = false := decide_eq_false (by omega)
  have d3 : decide ((32 : Int) < (I.size : Int)) = true := decide_eq_true (by omega)
  clear hn hv hi
  go_enter Try.func98, Try.ntmps98
  go_wp2_with fail
  refine (HDom.out _).mono ?_
  rintro e w' ⟨rfl, hww⟩
  rw [hww]
  clear hww w'
  go_wp2_with fail
  go_ret2
  exact ⟨rfl, Fr.refl _ _⟩
set_option maxRecDepth 20000 in
set_option maxHeartbeats 1000000 in
theorem withkey_d (A B : Nat) (n v c : Int) (hn : ¬ badN n) (hv : ¬ (v < 1 ∨ 8 < v)) (D I : ByteArray) (hi : ¬ 32 < I.size) (w : World) (hc : c ≠ 0) (K : ByteArray) (HD : Hid (∀ w', Fr (fun _ => False) w w' → Calls Try.prog 123 #[.pointer (some ⟨A, 0, none⟩), .int .i64 n, .string D] w' fun e w'' => e = .returned (.tuple #[.string K, .int .i64 c]) ∧ Fr (fun _ => False) w' w'')) :
    Calls Try.prog 98 #[.pointer (some ⟨A, 0, none⟩), .int .i64 n, .string D, .string I, .int .i64 v, .func (.func 101) #[] #[.pointer (some ⟨B, 0, none⟩)]] w fun e w' => e = .returned (.tuple #[.string ⟨#[]⟩, .int .i64 c]) ∧ Fr (fun _ => False) w w' := by
  have HDom := Lib.hid (fun w => domains_yes n hn w)
  have d1 : decide (v < (1 : Int)) = false := decide_eq_false (by omega)
  have d2 : decide ((8 : Int) < v) = false := decide_eq_false (by omega)
  have d3 : decide ((32 : Int) < (I.size : Int)) = false := decide_eq_false (by omega)
  have d4 : (c != 0) = true := bne_iff_ne.2 hc
  clear hn hv hi hc
  go_enter Try.func98, Try.ntmps98
  go_wp2_with fail
  refine (HDom.out _).mono ?_
  rintro e w' ⟨rfl, hww⟩
  rw [hww]
  clear hww w'
  go_wp2_with fail
  refine (HD.out _ (Fr.refl _ _)).mono ?_
  rintro e w1 ⟨rfl, f1⟩
  have G1 := Lib.hid f1
  clear f1
  go_wp2_with fail
  go_ret2
  exact ⟨rfl, G1.out⟩
set_option maxRecDepth 20000 in
set_option maxHeartbeats 1000000 in
theorem withkey_f (A B : Nat) (n : Int) (b : UInt8) (hn : ¬ badN n) (hv : ¬ ((b.toNat : Int) < 1 ∨ 8 < (b.toNat : Int))) (D I : ByteArray) (hi : ¬ 32 < I.size) (c : Int) (w : World) (K IV R : ByteArray) (hiv : I ++ str [b] = IV) (HD : Hid (∀ w', Fr (fun _ => False) w w' → Calls Try.prog 123 #[.pointer (some ⟨A, 0, none⟩), .int .i64 n, .string D] w' fun e w'' => e = .returned (.tuple #[.string K, .int .i64 0]) ∧ Fr (fun _ => False) w' w''))
    (HF : Hid (∀ w', Fr (fun _ => False) w w' → Calls Try.prog 101 #[.string K, .string IV, .pointer (some ⟨B, 0, none⟩)] w' fun e w'' => e = .returned (.tuple #[.string R, .int .i64 c]) ∧ Fr (fun _ => False) w' w'')) :
    Calls Try.prog 98 #[.pointer (some ⟨A, 0, none⟩), .int .i64 n, .string D, .string I, .int .i64 (b.toNat : Int), .func (.func 101) #[] #[.pointer (some ⟨B, 0, none⟩)]] w fun e w' => e = .returned (.tuple #[.string R, .int .i64 c]) ∧ Fr (fun _ => False) w w' := by
  have HDom := Lib.hid (fun w => domains_yes n hn w)
  have d1 : decide ((b.toNat : Int) < (1 : Int)) = false := decide_eq_false (by omega)
  have d2 : decide ((8 : Int) < (b.toNat : Int)) = false := decide_eq_false (by omega)
  have d1' : decide (b.toNat < 1) = false := decide_eq_false (by omega)
  have d2' : decide (8 < b.toNat) = false := decide_eq_false (by omega)
  have d3 : decide ((32 : Int) < (I.size : Int)) = false := decide_eq_false (by omega)
  obtain ⟨V, hV⟩ : ∃ V, V = str [b] := ⟨_, rfl⟩
  have hcv : ∀ W : World, (convert 27 9 (.slice (some ⟨W.heap.size, 0, none⟩) 1 1)).run Try.prog (W.alloc (.cells #[.int .u8 (b.toNat : Int)] 5)) = .ok (.string V) (W.alloc (.cells #[.int .u8 (b.toNat : Int)] 5)) := fun W => by
    rw [hV]
    exact run_convert_str (P := Try.prog) (W.alloc (.cells #[.int .u8 (b.toNat : Int)] 5)) 27 5 Try.underlying27 Try.underlying5 W.heap.size 0 1 1 [b] rfl (fun j v hj => by
      rw [Nat.zero_add, cell_of_row _ W.heap.size j _ _ _ (heap_alloc_new W _)]; simpa [bcells] using hj) 9 Try.underlying9
  have ap : I ++ V = IV := by rw [hV]; exact hiv
  have hsv : V.size = 1 := by rw [hV, str_size]; rfl
  have b0 : ¬ 9223372036854775807 < I.size + V.size := by omega
  have b0' : I.size + V.size ≤ 9223372036854775807 := by omega
  have b0'' : I.size + 1 ≤ 9223372036854775807 := by omega
  have hw8 : IntKind.u8.wrap (b.toNat : Int) = (b.toNat : Int) := by rw [IntKind.wrap_u8']; have := b.toNat_lt; omega
  clear hn hv hi hiv hV
  go_enter Try.func98, Try.ntmps98
  go_wp2_with fail
  refine (HDom.out _).mono ?_
  rintro e w' ⟨rfl, hww⟩
  rw [hww]
  clear hww w'
  go_wp2_with fail
  refine (HD.out _ (Fr.refl _ _)).mono ?_
  rintro e w1 ⟨rfl, f1⟩
  have G1 := Lib.hid f1
  clear f1
  go_wp2_with fail
  refine (HF.out _ (G1.out.alloc _)).mono ?_
  rintro e w2 ⟨rfl, f2⟩
  have G2 := Lib.hid ((G1.out.alloc _).trans f2 (fun i hi => hi.elim))
  clear f2
  go_wp2_with fail
  go_ret2
  exact ⟨rfl, G2.out⟩
theorem withkey_all (A B : Nat) (root : List UInt8) (n v : Int) (dom id x : List UInt8) (hd : dom.length ≤ 50000) (hx : x.length ≤ 50000) (w : World) (hA : w.heap[A]? = some (.cells #[.string (str root)] 132 (0, 0))) (hB : w.heap[B]? = some (.cells #[.string (str x)] 9 (0, 0))) :
    Calls Try.prog 98 #[.pointer (some ⟨A, 0, none⟩), .int .i64 n, .string (str dom), .string (str id), .int .i64 v, .func (.func 101) #[] #[.pointer (some ⟨B, 0, none⟩)]] w fun e w' => e = .returned (.tuple #[.string (str (withF root n dom id v (keyDo x)).1), .int .i64 (withF root n dom id v (keyDo x)).2]) ∧ Fr (fun _ => False) w w' := by
  unfold withF
  by_cases hn : badN n
  · rw [if_pos (.inl hn)]
    exact withkey_n A B n v hn _ _ w
  · by_cases hv : v < 1 ∨ 8 < v
    · rw [if_pos (.inr hv)]
      exact withkey_v A B n v hn hv _ _ w
    · rw [if_neg (fun h => h.elim hn hv)]
      by_cases hi : 32 < id.length
      · rw [if_pos hi]
        exact withkey_i A B n v hn hv _ _ (by rw [str_size]; exact hi) w
      · rw [if_neg hi]
        have HD := Lib.hid (fun w' (hf : Fr (fun _ => False) w w') => dom_all A root n dom hd w' (hf.heap hA _root_.id))
        by_cases hc : (domF root n dom).2 = 0
        · rw [if_pos hc]
          rw [hc] at HD
          obtain ⟨b, rfl⟩ := u8_of v (by omega) (by omega)
          have hb : UInt8.ofNat ((b.toNat : Int)).toNat = b := by simp
          rw [hb]
          exact withkey_f A B n b hn hv _ (str id) (by rw [str_size]; exact hi) _ w _ _ _ (jstr_append id [b]) HD (Lib.hid (fun w' hf => keydo_calls B x _ (id ++ [b]) hx (by rw [List.length_append]; simp; omega) w' (hf.heap hB _root_.id)))
        · rw [if_neg hc]
          exact withkey_d A B n v _ hn hv _ _ (by rw [str_size]; exact hi) w hc _ HD
set_option maxRecDepth 20000 in
set_option maxHeartbeats 1000000 in
theorem withrew_n (A B : Nat) (n v : Int) (hn : badN n) (D I : ByteArray) (w : World) :
    Calls Try.prog 98 #[.pointer (some ⟨A, 0, none⟩), .int .i64 n, .string D, .string I, .int .i64 v, .func (.func 102) #[] #[.pointer (some ⟨B, 0, none⟩)]] w fun e w' => e = .returned (.tuple #[.string ⟨#[]⟩, .int .i64 1]) ∧ Fr (fun _ => False) w w' := by
  have HDom := Lib.hid (fun w => domains_no n hn w)
  clear hn
  go_enter Try.func98, Try.ntmps98
  go_wp2_with fail
  refine (HDom.out _).mono ?_
  rintro e w' ⟨rfl, hww⟩
  rw [hww]
  clear hww w'
  go_wp2_with fail
  go_ret2
  exact ⟨rfl, Fr.refl _ _⟩
set_option maxRecDepth 20000 in
set_option maxHeartbeats 1000000 in
theorem withrew_v (A B : Nat) (n v : Int) (hn : ¬ badN n) (hv : v < 1 ∨ 8 < v) (D I : ByteArray) (w : World) :
    Calls Try.prog 98 #[.pointer (some ⟨A, 0, none⟩), .int .i64 n, .string D, .string I, .int .i64 v, .func (.func 102) #[] #[.pointer (some ⟨B, 0, none⟩)]] w fun e w' => e = .returned (.tuple #[.string ⟨#[]⟩, .int .i64 1]) ∧ Fr (fun _ => False) w w' := by
  have HDom := Lib.hid (fun w => domains_yes n hn w)
  clear hn
  by_cases h : v < 1
  · have d1 : decide (v < (1 : Int)) = true := decide_eq_true h
    clear hv h
    go_enter Try.func98, Try.ntmps98
    go_wp2_with fail
    refine (HDom.out _).mono ?_
    rintro e w' ⟨rfl, hww⟩
    rw [hww]
    clear hww w'
    go_wp2_with fail
    go_ret2
    exact ⟨rfl, Fr.refl _ _⟩
  · have d1 : decide (v < (1 : Int)) = false := decide_eq_false h
    have d2 : decide ((8 : Int) < v) = true := decide_eq_true (by omega)
    clear hv h
    go_enter Try.func98, Try.ntmps98
    go_wp2_with fail
    refine (HDom.out _).mono ?_
    rintro e w' ⟨rfl, hww⟩
    rw [hww]
    clear hww w'
    go_wp2_with fail
    go_ret2
    exact ⟨rfl, Fr.refl _ _⟩
set_option maxRecDepth 20000 in
set_option maxHeartbeats 1000000 in
theorem withrew_i (A B : Nat) (n v : Int) (hn : ¬ badN n) (hv : ¬ (v < 1 ∨ 8 < v)) (D I : ByteArray) (hi : 32 < I.size) (w : World) :
    Calls Try.prog 98 #[.pointer (some ⟨A, 0, none⟩), .int .i64 n, .string D, .string I, .int .i64 v, .func (.func 102) #[] #[.pointer (some ⟨B, 0, none⟩)]] w fun e w' => e = .returned (.tuple #[.string ⟨#[]⟩, .int .i64 3]) ∧ Fr (fun _ => False) w w' := by
  have HDom := Lib.hid (fun w => domains_yes n hn w)
  have d1 : decide (v < (1 : Int)) = false := decide_eq_false (by omega)
  have d2 : decide ((8 : Int) < v) = false := decide_eq_false (by omega)
  have d3 : decide ((32 : Int) < (I.size : Int)) = true := decide_eq_true (by omega)
  clear hn hv hi
  go_enter Try.func98, Try.ntmps98
  go_wp2_with fail
  refine (HDom.out _).mono ?_
  rintro e w' ⟨rfl, hww⟩
  rw [hww]
  clear hww w'
  go_wp2_with fail
  go_ret2
  exact ⟨rfl, Fr.refl _ _⟩
set_option maxRecDepth 20000 in
set_option maxHeartbeats 1000000 in
theorem withrew_d (A B : Nat) (n v c : Int) (hn : ¬ badN n) (hv : ¬ (v < 1 ∨ 8 < v)) (D I : ByteArray) (hi : ¬ 32 < I.size) (w : World) (hc : c ≠ 0) (K : ByteArray) (HD : Hid (∀ w', Fr (fun _ => False) w w' → Calls Try.prog 123 #[.pointer (some ⟨A, 0, none⟩), .int .i64 n, .string D] w' fun e w'' => e = .returned (.tuple #[.string K, .int .i64 c]) ∧ Fr (fun _ => False) w' w'')) :
    Calls Try.prog 98 #[.pointer (some ⟨A, 0, none⟩), .int .i64 n, .string D, .string I, .int .i64 v, .func (.func 102) #[] #[.pointer (some ⟨B, 0, none⟩)]] w fun e w' => e = .returned (.tuple #[.string ⟨#[]⟩, .int .i64 c]) ∧ Fr (fun _ => False) w w' := by
  have HDom := Lib.hid (fun w => domains_yes n hn w)
  have d1 : decide (v < (1 : Int)) = false := decide_eq_false (by omega)
  have d2 : decide ((8 : Int) < v) = false := decide_eq_false (by omega)
  have d3 : decide ((32 : Int) < (I.size : Int)) = false := decide_eq_false (by omega)
  have d4 : (c != 0) = true := bne_iff_ne.2 hc
  clear hn hv hi hc
  go_enter Try.func98, Try.ntmps98
  go_wp2_with fail
  refine (HDom.out _).mono ?_
  rintro e w' ⟨rfl, hww⟩
  rw [hww]
  clear hww w'
  go_wp2_with fail
  refine (HD.out _ (Fr.refl _ _)).mono ?_
  rintro e w1 ⟨rfl, f1⟩
  have G1 := Lib.hid f1
  clear f1
  go_wp2_with fail
  go_ret2
  exact ⟨rfl, G1.out⟩
set_option maxRecDepth 20000 in
set_option maxHeartbeats 1000000 in
theorem withrew_f (A B : Nat) (n : Int) (b : UInt8) (hn : ¬ badN n) (hv : ¬ ((b.toNat : Int) < 1 ∨ 8 < (b.toNat : Int))) (D I : ByteArray) (hi : ¬ 32 < I.size) (c : Int) (w : World) (K IV R : ByteArray) (hiv : I ++ str [b] = IV) (HD : Hid (∀ w', Fr (fun _ => False) w w' → Calls Try.prog 123 #[.pointer (some ⟨A, 0, none⟩), .int .i64 n, .string D] w' fun e w'' => e = .returned (.tuple #[.string K, .int .i64 0]) ∧ Fr (fun _ => False) w' w''))
    (HF : Hid (∀ w', Fr (fun _ => False) w w' → Calls Try.prog 102 #[.string K, .string IV, .pointer (some ⟨B, 0, none⟩)] w' fun e w'' => e = .returned (.tuple #[.string R, .int .i64 c]) ∧ Fr (fun _ => False) w' w'')) :
    Calls Try.prog 98 #[.pointer (some ⟨A, 0, none⟩), .int .i64 n, .string D, .string I, .int .i64 (b.toNat : Int), .func (.func 102) #[] #[.pointer (some ⟨B, 0, none⟩)]] w fun e w' => e = .returned (.tuple #[.string R, .int .i64 c]) ∧ Fr (fun _ => False) w w' := by
  have HDom := Lib.hid (fun w => domains_yes n hn w)
  have d1 : decide ((b.toNat : Int) < (1 : Int)) = false := decide_eq_false (by omega)
  have d2 : decide ((8 : Int) < (b.toNat : Int)) = false := decide_eq_false (by omega)
  have d1' : decide (b.toNat < 1) = false := decide_eq_false (by omega)
  have d2' : decide (8 < b.toNat) = false := decide_eq_false (by omega)
  have d3 : decide ((32 : Int) < (I.size : Int)) = false := decide_eq_false (by omega)
  obtain ⟨V, hV⟩ : ∃ V, V = str [b] := ⟨_, rfl⟩
  have hcv : ∀ W : World, (convert 27 9 (.slice (some ⟨W.heap.size, 0, none⟩) 1 1)).run Try.prog (W.alloc (.cells #[.int .u8 (b.toNat : Int)] 5)) = .ok (.string V) (W.alloc (.cells #[.int .u8 (b.toNat : Int)] 5)) := fun W => by
    rw [hV]
    exact run_convert_str (P := Try.prog) (W.alloc (.cells #[.int .u8 (b.toNat : Int)] 5)) 27 5 Try.underlying27 Try.underlying5 W.heap.size 0 1 1 [b] rfl (fun j v hj => by
      rw [Nat.zero_add, cell_of_row _ W.heap.size j _ _ _ (heap_alloc_new W _)]; simpa [bcells] using hj) 9 Try.underlying9
  have ap : I ++ V = IV := by rw [hV]; exact hiv
  have hsv : V.size = 1 := by rw [hV, str_size]; rfl
  have b0 : ¬ 9223372036854775807 < I.size + V.size := by omega
  have b0' : I.size + V.size ≤ 9223372036854775807 := by omega
  have b0'' : I.size + 1 ≤ 9223372036854775807 := by omega
  have hw8 : IntKind.u8.wrap (b.toNat : Int) = (b.toNat : Int) := by rw [IntKind.wrap_u8']; have := b.toNat_lt; omega
  clear hn hv hi hiv hV
  go_enter Try.func98, Try.ntmps98
  go_wp2_with fail
  refine (HDom.out _).mono ?_
  rintro e w' ⟨rfl, hww⟩
  rw [hww]
  clear hww w'
  go_wp2_with fail
  refine (HD.out _ (Fr.refl _ _)).mono ?_
  rintro e w1 ⟨rfl, f1⟩
  have G1 := Lib.hid f1
  clear f1
  go_wp2_with fail
  refine (HF.out _ (G1.out.alloc _)).mono ?_
  rintro e w2 ⟨rfl, f2⟩
  have G2 := Lib.hid ((G1.out.alloc _).trans f2 (fun i hi => hi.elim))
  clear f2
  go_wp2_with fail
  go_ret2
  exact ⟨rfl, G2.out⟩
theorem withrew_all (A B : Nat) (root : List UInt8) (n v : Int) (dom id x : List UInt8) (hd : dom.length ≤ 50000) (hx : x.length ≤ 50000) (w : World) (hA : w.heap[A]? = some (.cells #[.string (str root)] 132 (0, 0))) (hB : w.heap[B]? = some (.cells #[.string (str x)] 9 (0, 0))) :
    Calls Try.prog 98 #[.pointer (some ⟨A, 0, none⟩), .int .i64 n, .string (str dom), .string (str id), .int .i64 v, .func (.func 102) #[] #[.pointer (some ⟨B, 0, none⟩)]] w fun e w' => e = .returned (.tuple #[.string (str (withF root n dom id v (rewDo x)).1), .int .i64 (withF root n dom id v (rewDo x)).2]) ∧ Fr (fun _ => False) w w' := by
  unfold withF
  by_cases hn : badN n
  · rw [if_pos (.inl hn)]
    exact withrew_n A B n v hn _ _ w
  · by_cases hv : v < 1 ∨ 8 < v
    · rw [if_pos (.inr hv)]
      exact withrew_v A B n v hn hv _ _ w
    · rw [if_neg (fun h => h.elim hn hv)]
      by_cases hi : 32 < id.length
      · rw [if_pos hi]
        exact withrew_i A B n v hn hv _ _ (by rw [str_size]; exact hi) w
      · rw [if_neg hi]
        have HD := Lib.hid (fun w' (hf : Fr (fun _ => False) w w') => dom_all A root n dom hd w' (hf.heap hA _root_.id))
        by_cases hc : (domF root n dom).2 = 0
        · rw [if_pos hc]
          rw [hc] at HD
          obtain ⟨b, rfl⟩ := u8_of v (by omega) (by omega)
          have hb : UInt8.ofNat ((b.toNat : Int)).toNat = b := by simp
          rw [hb]
          exact withrew_f A B n b hn hv _ (str id) (by rw [str_size]; exact hi) _ w _ _ _ (jstr_append id [b]) HD (Lib.hid (fun w' hf => rewdo_calls B x _ (id ++ [b]) hx (by rw [List.length_append]; simp; omega) w' (hf.heap hB _root_.id)))
        · rw [if_neg hc]
          exact withrew_d A B n v _ hn hv _ _ (by rw [str_size]; exact hi) w hc _ HD
set_option maxRecDepth 20000 in
set_option maxHeartbeats 1000000 in
theorem backing_all (A : Nat) (root : List UInt8) (n v : Int) (dom id x : List UInt8) (hd : dom.length ≤ 50000) (hx : x.length ≤ 50000) (w : World) (hA : w.heap[A]? = some (.cells #[.string (str root)] 132 (0, 0))) :
    Calls Try.prog 57 #[.pointer (some ⟨A, 0, none⟩), .int .i64 n, .string (str dom), .string (str id), .int .i64 v, .string (str x)] w fun e w' => e = .returned (.tuple #[.string (str (withF root n dom id v (backDo x)).1), .int .i64 (withF root n dom id v (backDo x)).2]) ∧ Fr (fun _ => False) w w' := by
  obtain ⟨D, hD⟩ : ∃ s, s = str dom := ⟨_, rfl⟩
  obtain ⟨I, hI⟩ : ∃ s, s = str id := ⟨_, rfl⟩
  obtain ⟨X, hX⟩ : ∃ s, s = str x := ⟨_, rfl⟩
  obtain ⟨R, hR⟩ : ∃ s, s = str (withF root n dom id v (backDo x)).1 := ⟨_, rfl⟩
  obtain ⟨c, hc⟩ : ∃ c, c = (withF root n dom id v (backDo x)).2 := ⟨_, rfl⟩
  have HW := Lib.hid (show Calls Try.prog 98 #[.pointer (some ⟨A, 0, none⟩), .int .i64 n, .string D, .string I, .int .i64 v, .func (.func 99) #[] #[.pointer (some ⟨w.heap.size, 0, none⟩)]] (w.alloc (.cells #[.string X] 9)) fun e w' => e = .returned (.tuple #[.string R, .int .i64 c]) ∧ Fr (fun _ => False) (w.alloc (.cells #[.string X] 9)) w' by
    rw [hD, hI, hR, hc, hX]
    exact withback_all A w.heap.size root n v dom id x hd hx _ (((Fr.refl (fun _ => False) w).alloc _).heap hA _root_.id) (heap_alloc_new _ _))
  rw [← hD, ← hI, ← hX, ← hR, ← hc]
  clear hD hI hX hR hc hA hd hx
  go_enter Try.func57, Try.ntmps57
  go_wp2_with fail
  refine HW.out.mono ?_
  rintro e w1 ⟨rfl, f1⟩
  have G1 := Lib.hid (((Fr.refl (fun _ => False) w).alloc (.cells #[.string X] 9)).trans f1 (fun i hi => hi.elim))
  clear f1
  go_wp2_with fail
  go_ret2
  exact ⟨rfl, G1.out⟩
set_option maxRecDepth 20000 in
set_option maxHeartbeats 1000000 in
theorem key_all (A : Nat) (root : List UInt8) (n v : Int) (dom id x : List UInt8) (hd : dom.length ≤ 50000) (hx : x.length ≤ 50000) (w : World) (hA : w.heap[A]? = some (.cells #[.string (str root)] 132 (0, 0))) :
    Calls Try.prog 59 #[.pointer (some ⟨A, 0, none⟩), .int .i64 n, .string (str dom), .string (str id), .int .i64 v, .string (str x)] w fun e w' => e = .returned (.tuple #[.string (str (withF root n dom id v (keyDo x)).1), .int .i64 (withF root n dom id v (keyDo x)).2]) ∧ Fr (fun _ => False) w w' := by
  obtain ⟨D, hD⟩ : ∃ s, s = str dom := ⟨_, rfl⟩
  obtain ⟨I, hI⟩ : ∃ s, s = str id := ⟨_, rfl⟩
  obtain ⟨X, hX⟩ : ∃ s, s = str x := ⟨_, rfl⟩
  obtain ⟨R, hR⟩ : ∃ s, s = str (withF root n dom id v (keyDo x)).1 := ⟨_, rfl⟩
  obtain ⟨c, hc⟩ : ∃ c, c = (withF root n dom id v (keyDo x)).2 := ⟨_, rfl⟩
  have HW := Lib.hid (show Calls Try.prog 98 #[.pointer (some ⟨A, 0, none⟩), .int .i64 n, .string D, .string I, .int .i64 v, .func (.func 101) #[] #[.pointer (some ⟨w.heap.size, 0, none⟩)]] (w.alloc (.cells #[.string X] 9)) fun e w' => e = .returned (.tuple #[.string R, .int .i64 c]) ∧ Fr (fun _ => False) (w.alloc (.cells #[.string X] 9)) w' by
    rw [hD, hI, hR, hc, hX]
    exact withkey_all A w.heap.size root n v dom id x hd hx _ (((Fr.refl (fun _ => False) w).alloc _).heap hA _root_.id) (heap_alloc_new _ _))
  rw [← hD, ← hI, ← hX, ← hR, ← hc]
  clear hD hI hX hR hc hA hd hx
  go_enter Try.func59, Try.ntmps59
  go_wp2_with fail
  refine HW.out.mono ?_
  rintro e w1 ⟨rfl, f1⟩
  have G1 := Lib.hid (((Fr.refl (fun _ => False) w).alloc (.cells #[.string X] 9)).trans f1 (fun i hi => hi.elim))
  clear f1
  go_wp2_with fail
  go_ret2
  exact ⟨rfl, G1.out⟩
def rewrapF (root : List UInt8) (n : Int) (dom : List UInt8) (m : Int) (oth id : List UInt8) (v : Int) (x : List UInt8) : List UInt8 × Int :=
  if (withF root n dom id v (keyDo x)).2 = 0 then withF root m oth id v (rewDo (withF root n dom id v (keyDo x)).1) else ([], (withF root n dom id v (keyDo x)).2)
set_option maxRecDepth 20000 in
set_option maxHeartbeats 1000000 in
theorem rewrap_err (A : Nat) (n m v c : Int) (hc : c ≠ 0) (D O I X K : ByteArray) (w : World) (HK : Hid (∀ w', Fr (fun _ => False) w w' → Calls Try.prog 59 #[.pointer (some ⟨A, 0, none⟩), .int .i64 n, .string D, .string I, .int .i64 v, .string X] w' fun e w'' => e = .returned (.tuple #[.string K, .int .i64 c]) ∧ Fr (fun _ => False) w' w'')) :
    Calls Try.prog 61 #[.pointer (some ⟨A, 0, none⟩), .int .i64 n, .string D, .int .i64 m, .string O, .string I, .int .i64 v, .string X] w fun e w' => e = .returned (.tuple #[.string ⟨#[]⟩, .int .i64 c]) ∧ Fr (fun _ => False) w w' := by
  have d4 : (c != 0) = true := bne_iff_ne.2 hc
  clear hc
  go_enter Try.func61, Try.ntmps61
  go_wp2_with fail
  refine (HK.out _ (Fr.refl _ _)).mono ?_
  rintro e w1 ⟨rfl, f1⟩
  have G1 := Lib.hid f1
  clear f1
  go_wp2_with fail
  go_ret2
  exact ⟨rfl, G1.out.alloc _⟩
set_option maxRecDepth 20000 in
set_option maxHeartbeats 1000000 in
theorem rewrap_go (A : Nat) (n m v c : Int) (D O I X K R : ByteArray) (w : World) (HK : Hid (∀ w', Fr (fun _ => False) w w' → Calls Try.prog 59 #[.pointer (some ⟨A, 0, none⟩), .int .i64 n, .string D, .string I, .int .i64 v, .string X] w' fun e w'' => e = .returned (.tuple #[.string K, .int .i64 0]) ∧ Fr (fun _ => False) w' w''))
    (HW : Hid (∀ w' B, Fr (fun _ => False) w w' → w'.heap[B]? = some (.cells #[.string K] 9 (0, 0)) → Calls Try.prog 98 #[.pointer (some ⟨A, 0, none⟩), .int .i64 m, .string O, .string I, .int .i64 v, .func (.func 102) #[] #[.pointer (some ⟨B, 0, none⟩)]] w' fun e w'' => e = .returned (.tuple #[.string R, .int .i64 c]) ∧ Fr (fun _ => False) w' w'')) :
    Calls Try.prog 61 #[.pointer (some ⟨A, 0, none⟩), .int .i64 n, .string D, .int .i64 m, .string O, .string I, .int .i64 v, .string X] w fun e w' => e = .returned (.tuple #[.string R, .int .i64 c]) ∧ Fr (fun _ => False) w w' := by
  go_enter Try.func61, Try.ntmps61
  go_wp2_with fail
  refine (HK.out _ (Fr.refl _ _)).mono ?_
  rintro e w1 ⟨rfl, f1⟩
  have G1 := Lib.hid f1
  clear f1
  go_wp2_with fail
  refine (HW.out _ _ (G1.out.alloc _) (heap_alloc_new _ _)).mono ?_
  rintro e w2 ⟨rfl, f2⟩
  have G2 := Lib.hid ((G1.out.alloc _).trans f2 (fun i hi => hi.elim))
  clear f2
  go_wp2_with fail
  go_ret2
  exact ⟨rfl, G2.out⟩
theorem keyDo_len (root : List UInt8) (n : Int) (dom id : List UInt8) (v : Int) (x : List UInt8) (hx : x.length ≤ 50000) : (withF root n dom id v (keyDo x)).1.length ≤ 50000 := by
  unfold withF
  split
  · simp
  · split
    · simp
    · split
      · unfold keyDo unwrapF
        split
        · simp
        · split
          · simp
          · show (if _ then _ else []).length ≤ _
            split
            · rw [unkey_length]; omega
            · simp
      · simp
theorem rewrap_all (A : Nat) (root : List UInt8) (n m v : Int) (dom oth id x : List UInt8) (hd : dom.length ≤ 50000) (ho : oth.length ≤ 50000) (hx : x.length ≤ 50000) (w : World) (hA : w.heap[A]? = some (.cells #[.string (str root)] 132 (0, 0))) :
    Calls Try.prog 61 #[.pointer (some ⟨A, 0, none⟩), .int .i64 n, .string (str dom), .int .i64 m, .string (str oth), .string (str id), .int .i64 v, .string (str x)] w fun e w' => e = .returned (.tuple #[.string (str (rewrapF root n dom m oth id v x).1), .int .i64 (rewrapF root n dom m oth id v x).2]) ∧ Fr (fun _ => False) w w' := by
  have HK := Lib.hid (fun w' (hf : Fr (fun _ => False) w w') => key_all A root n v dom id x hd hx w' (hf.heap hA _root_.id))
  unfold rewrapF
  by_cases hc : (withF root n dom id v (keyDo x)).2 = 0
  · rw [if_pos hc]
    rw [hc] at HK
    exact rewrap_go A n m v _ _ _ _ _ _ _ w HK (Lib.hid (fun w' B hf hB => withrew_all A B root m v oth id _ ho (keyDo_len _ _ _ _ _ _ hx) w' (hf.heap hA _root_.id) hB))
  · rw [if_neg hc]
    exact rewrap_err A n m v _ hc _ _ _ _ _ w HK
end Go.Proofs.Ytcchhfkmhbjdmaa
