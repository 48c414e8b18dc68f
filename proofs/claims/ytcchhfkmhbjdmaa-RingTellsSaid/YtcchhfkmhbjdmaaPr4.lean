/- The document's ring: asked, Backing, Key, Rewrap. -/
import Derived.Test.YtcchhfkmhbjdmaaPr3
set_option linter.unusedVariables false
set_option linter.unusedSimpArgs false
set_option pp.deepTerms true
set_option pp.maxSteps 100000
namespace Go.Proofs.Ytcchhfkmhbjdmaa
open Go.RowKit
section
variable {P : Program} {ops : Array Oper} {Q : Exit → Act → World → Prop} {md : Region.Mode}
theorem wpAny_one' {i : Nat} {oi : Oper} {fuel : Nat} {listed : Array Bool} {a : Act} {w : World} (hi : ops[i]? = some oi) (hr : Region.ready md ops listed = [i])
    (h : wpOp P ops Q i (fun a' w' => wpAny P md ops Q fuel (listed.setIfInBounds i true) a' w') a w) : wpAny P md ops Q (fuel + 1) listed a w :=
  ⟨fun h0 => (by rw [hr] at h0; cases h0), fun j hj => (by rw [hr] at hj; obtain rfl : j = i := by simpa using hj
                                                           exact h)⟩
end
def askedF (root : List UInt8) (n : Int) (dom id : List UInt8) (v : Int) : List UInt8 × List UInt8 × Int :=
  if (n < 1 ∨ 8 < n) ∨ v < 1 ∨ 8 < v then ([], [], 1) else if 32 < id.length then ([], [], 3) else ((domF root n dom).1, id ++ [UInt8.ofNat v.toNat], (domF root n dom).2)
theorem withF_asked (root : List UInt8) (n : Int) (dom id : List UInt8) (v : Int) (f : List UInt8 → List UInt8 → List UInt8 × Int) :
    withF root n dom id v f = if (askedF root n dom id v).2.2 = 0 then f (askedF root n dom id v).1 (askedF root n dom id v).2.1 else ([], (askedF root n dom id v).2.2) := by
  unfold withF askedF
  by_cases h : (n < 1 ∨ 8 < n) ∨ v < 1 ∨ 8 < v
  · rw [if_pos h, if_pos h, if_neg (by decide)]
  · rw [if_neg h, if_neg h]
    by_cases hi : 32 < id.length
    · rw [if_pos hi, if_pos hi, if_neg (by decide)]
    · rw [if_neg hi, if_neg hi]
theorem askedF_len (root : List UInt8) (n : Int) (dom id : List UInt8) (v : Int) (hi : id.length ≤ 40000) : (askedF root n dom id v).2.1.length ≤ 40001 := by
  unfold askedF
  split
  · simp
  · split
    · simp
    · simp; omega
set_option maxRecDepth 20000 in
set_option maxHeartbeats 1000000 in
theorem refasked_n (n v : Int) (hn : badN n) (U D I : ByteArray) (w : World) : Calls Try.prog 100 #[.string U, .int .i64 n, .string D, .string I, .int .i64 v] w fun e w' => e = .returned (.tuple #[.string ⟨#[]⟩, .string ⟨#[]⟩, .int .i64 1]) ∧ Fr (fun _ => False) w w' := by
  by_cases h : n < 1
  · have d1 : decide (n < (1 : Int)) = true := decide_eq_true h
    clear hn h
    go_enter Try.func100, Try.ntmps100
    go_wp2_with fail
    go_ret3
    exact ⟨rfl, Fr.refl _ _⟩
  · have d1 : decide (n < (1 : Int)) = false := decide_eq_false h
    have d2 : decide ((8 : Int) < n) = true := decide_eq_true (by unfold badN at hn; omega)
    clear hn h
    go_enter Try.func100, Try.ntmps100
    go_wp2_with fail
    go_ret3
    exact ⟨rfl, Fr.refl _ _⟩
set_option maxRecDepth 20000 in
set_option maxHeartbeats 1000000 in
theorem refasked_v (n v : Int) (hn : ¬ badN n) (hv : v < 1 ∨ 8 < v) (U D I : ByteArray) (w : World) : Calls Try.prog 100 #[.string U, .int .i64 n, .string D, .string I, .int .i64 v] w fun e w' => e = .returned (.tuple #[.string ⟨#[]⟩, .string ⟨#[]⟩, .int .i64 1]) ∧ Fr (fun _ => False) w w' := by
  have d1 : decide (n < (1 : Int)) = false := decide_eq_false (by unfold badN at hn; omega)
  have d2 : decide ((8 : Int) < n) = false := decide_eq_false (by unfold badN at hn; omega)
  by_cases h : v < 1
  · have d3 : decide (v < (1 : Int)) = true := decide_eq_true h
    clear hn hv h
    go_enter Try.func100, Try.ntmps100
    go_wp2_with fail
    go_ret3
    exact ⟨rfl, Fr.refl _ _⟩
  · have d3 : decide (v < (1 : Int)) = false := decide_eq_false h
    have d4 : decide ((8 : Int) < v) = true := decide_eq_true (by omega)
    clear hn hv h
    go_enter Try.func100, Try.ntmps100
    go_wp2_with fail
    go_ret3
    exact ⟨rfl, Fr.refl _ _⟩
set_option maxRecDepth 20000 in
set_option maxHeartbeats 1000000 in
theorem refasked_i (n v : Int) (hn : ¬ badN n) (hv : ¬ (v < 1 ∨ 8 < v)) (U D I : ByteArray) (hi : 32 < I.size) (w : World) : Calls Try.prog 100 #[.string U, .int .i64 n, .string D, .string I, .int .i64 v] w fun e w' => e = .returned (.tuple #[.string ⟨#[]⟩, .string ⟨#[]⟩, .int .i64 3]) ∧ Fr (fun _ => False) w w' := by
  have d1 : decide (n < (1 : Int)) = false := decide_eq_false (by unfold badN at hn; omega)
  have d2 : decide ((8 : Int) < n) = false := decide_eq_false (by unfold badN at hn; omega)
  have d3 : decide (v < (1 : Int)) = false := decide_eq_false (by omega)
  have d4 : decide ((8 : Int) < v) = false := decide_eq_false (by omega)
  have d5 : decide ((32 : Int) < (I.size : Int)) = true := decide_eq_true (by omega)
  clear hn hv hi
  go_enter Try.func100, Try.ntmps100
  go_wp2_with fail
  go_ret3
  exact ⟨rfl, Fr.refl _ _⟩
set_option maxRecDepth 20000 in
set_option maxHeartbeats 1000000 in
theorem refasked_f (n : Int) (b : UInt8) (c : Int) (hn : ¬ badN n) (hv : ¬ ((b.toNat : Int) < 1 ∨ 8 < (b.toNat : Int))) (U D I F N K IV : ByteArray) (hi : ¬ 32 < I.size) (w : World) (hsf : F.size = 4) (ap0 : (⟨#[100]⟩ : ByteArray) ++ F = N) (hiv : I ++ str [b] = IV)
    (HFour : Hid (∀ w, Calls Try.prog 97 #[.int .i64 n] w fun e w' => e = .returned (.string F) ∧ Fr (fun _ => False) w w')) (HD : Hid (∀ w, Calls Try.prog 51 #[.string U, .string N, .string D] w fun e w' => e = .returned (.tuple #[.string K, .int .i64 c]) ∧ Fr (fun _ => False) w w')) :
    Calls Try.prog 100 #[.string U, .int .i64 n, .string D, .string I, .int .i64 (b.toNat : Int)] w fun e w' => e = .returned (.tuple #[.string K, .string IV, .int .i64 c]) ∧ Fr (fun _ => False) w w' := by
  have d1 : decide (n < (1 : Int)) = false := decide_eq_false (by unfold badN at hn; omega)
  have d2 : decide ((8 : Int) < n) = false := decide_eq_false (by unfold badN at hn; omega)
  have d3 : decide ((b.toNat : Int) < (1 : Int)) = false := decide_eq_false (by omega)
  have d4 : decide ((8 : Int) < (b.toNat : Int)) = false := decide_eq_false (by omega)
  have d3' : decide (b.toNat < 1) = false := decide_eq_false (by omega)
  have d4' : decide (8 < b.toNat) = false := decide_eq_false (by omega)
  have d5 : decide ((32 : Int) < (I.size : Int)) = false := decide_eq_false (by omega)
  obtain ⟨V, hV⟩ : ∃ V, V = str [b] := ⟨_, rfl⟩
  have hcv : ∀ W : World, (convert 27 9 (.slice (some ⟨W.heap.size, 0, none⟩) 1 1)).run Try.prog (W.alloc (.cells #[.int .u8 (b.toNat : Int)] 5)) = .ok (.string V) (W.alloc (.cells #[.int .u8 (b.toNat : Int)] 5)) := fun W => by
    rw [hV]
    exact run_convert_str (P := Try.prog) (W.alloc (.cells #[.int .u8 (b.toNat : Int)] 5)) 27 5 Try.underlying27 Try.underlying5 W.heap.size 0 1 1 [b] rfl (fun j v hj => by
      rw [Nat.zero_add, cell_of_row _ W.heap.size j _ _ _ (heap_alloc_new W _)]; simpa [bcells] using hj) 9 Try.underlying9
  have hcvd : ∀ W : World, (convert 27 9 (.slice (some ⟨W.heap.size, 0, none⟩) 1 1)).run Try.prog (W.alloc (.cells #[.int .u8 (b.toNat : Int)] 5)).drew = .ok (.string V) (W.alloc (.cells #[.int .u8 (b.toNat : Int)] 5)).drew := fun W => by
    rw [hV]
    exact run_convert_str (P := Try.prog) (W.alloc (.cells #[.int .u8 (b.toNat : Int)] 5)).drew 27 5 Try.underlying27 Try.underlying5 W.heap.size 0 1 1 [b] rfl (fun j v hj => by
      show (W.alloc _).cell? _ = _; rw [Nat.zero_add, cell_of_row _ W.heap.size j _ _ _ (heap_alloc_new W _)]; simpa [bcells] using hj) 9 Try.underlying9
  have ap : I ++ V = IV := by rw [hV]; exact hiv
  have hsv : V.size = 1 := by rw [hV, str_size]; rfl
  have b0 : ¬ 9223372036854775807 < (⟨#[100]⟩ : ByteArray).size + F.size := by show ¬ _ < 1 + F.size; omega
  have b0' : (⟨#[100]⟩ : ByteArray).size + F.size ≤ 9223372036854775807 := by show 1 + F.size ≤ _; omega
  have b0'' : 1 + F.size ≤ 9223372036854775807 := by omega
  have b1 : ¬ 9223372036854775807 < I.size + V.size := by omega
  have b1' : I.size + V.size ≤ 9223372036854775807 := by omega
  have b1'' : I.size + 1 ≤ 9223372036854775807 := by omega
  have hw8 : IntKind.u8.wrap (b.toNat : Int) = (b.toNat : Int) := by rw [IntKind.wrap_u8']; have := b.toNat_lt; omega
  clear hn hv hi hiv hV
  go_enter Try.func100, Try.ntmps100
  go_wp2_with fail
  refine (HFour.out w).mono ?_
  rintro e w1 ⟨rfl, f1⟩
  have G1 := Lib.hid (f1)
  clear f1
  go_wp2_with fail
  refine (HD.out w1).mono ?_
  rintro e w2 ⟨rfl, f2⟩
  have G2 := Lib.hid (G1.out.trans f2 (fun i hi => hi.elim))
  clear f2
  go_wp2_with fail
  refine wp_region_any (by kernel_rfl) ?_
  refine wpAny_take (i := 0) (v := .string K) rfl (by kernel_rfl) (by kernel_rfl) (by kernel_rfl) (fun _ _ _ h => h) (.inl ⟨rfl, fun W' => by go_simp⟩) ?_
  simp only [List.getElem_toArray, List.getElem_cons_succ, List.getElem_cons_zero, Act.put, List.setIfInBounds_toArray, List.set_cons_zero, List.set_cons_succ]
  refine wpAny_take (i := 1) (v := .string I) rfl (by kernel_rfl) (by kernel_rfl) (by kernel_rfl) (fun _ _ _ h => h) (.inl ⟨rfl, fun W' => by go_simp⟩) ?_
  simp only [List.getElem_toArray, List.getElem_cons_succ, List.getElem_cons_zero, Act.put, List.setIfInBounds_toArray, List.set_cons_zero, List.set_cons_succ]
  refine wpAny_take (i := 2) (v := .int .i64 (b.toNat : Int)) rfl (by kernel_rfl) (by kernel_rfl) (by kernel_rfl) (fun _ _ _ h => h) (.inl ⟨rfl, fun W' => by go_simp⟩) ?_
  simp only [List.getElem_toArray, List.getElem_cons_succ, List.getElem_cons_zero, Act.put, List.setIfInBounds_toArray, List.set_cons_zero, List.set_cons_succ]
  refine wpAny_take (i := 3) (v := .int .u8 (b.toNat : Int)) rfl (by kernel_rfl) (by kernel_rfl) (by kernel_rfl) (fun _ _ _ h => h) (.inl ⟨rfl, fun W' => by go_simp⟩) ?_
  simp only [List.getElem_toArray, List.getElem_cons_succ, List.getElem_cons_zero, Act.put, List.setIfInBounds_toArray, List.set_cons_zero, List.set_cons_succ]
  refine wpAny_take (i := 7) (v := .int .i64 c) rfl (by kernel_rfl) (by kernel_rfl) (by kernel_rfl) (fun _ _ _ h => h) (.inl ⟨rfl, fun W' => by go_simp⟩) ?_
  simp only [List.getElem_toArray, List.getElem_cons_succ, List.getElem_cons_zero, Act.put, List.setIfInBounds_toArray, List.set_cons_zero, List.set_cons_succ]
  refine wpAny_take (i := 8) (v := .string K) rfl (by kernel_rfl) (by kernel_rfl) (by kernel_rfl) (fun _ _ _ h => h) (.inl ⟨rfl, fun W' => by go_simp⟩) ?_
  simp only [List.getElem_toArray, List.getElem_cons_succ, List.getElem_cons_zero, Act.put, List.setIfInBounds_toArray, List.set_cons_zero, List.set_cons_succ]
  refine wpAny_one' (i := 4) rfl (by kernel_rfl) (wpOp_plain rfl rfl (fun KK hK => ?_))
  simp only [List.getElem_toArray, List.getElem_cons_succ, List.getElem_cons_zero, Act.put, List.setIfInBounds_toArray, List.set_cons_zero, List.set_cons_succ]
  have HKK := Lib.hid hK
  clear hK
  go_wp2_with fail
  refine HKK.out _ _ ?_
  clear HKK KK
  try simp only [List.getElem_toArray, List.getElem_cons_succ, List.getElem_cons_zero, Act.put, List.setIfInBounds_toArray, List.set_cons_zero, List.set_cons_succ]
  refine wpAny_one' (i := 5) rfl (by kernel_rfl) (wpOp_plain rfl rfl (fun KK hK => ?_))
  simp only [List.getElem_toArray, List.getElem_cons_succ, List.getElem_cons_zero, Act.put, List.setIfInBounds_toArray, List.set_cons_zero, List.set_cons_succ]
  have HKK := Lib.hid hK
  clear hK
  go_wp2_with fail
  refine HKK.out _ _ ?_
  clear HKK KK
  try simp only [List.getElem_toArray, List.getElem_cons_succ, List.getElem_cons_zero, Act.put, List.setIfInBounds_toArray, List.set_cons_zero, List.set_cons_succ]
  refine wpAny_take (i := 6) (v := .string IV) rfl (by kernel_rfl) (by kernel_rfl) (by kernel_rfl) (fun _ _ _ h => h) (.inl ⟨rfl, fun W' => by go_simp⟩) ?_
  simp only [List.getElem_toArray, List.getElem_cons_succ, List.getElem_cons_zero, Act.put, List.setIfInBounds_toArray, List.set_cons_zero, List.set_cons_succ]
  refine wpAny_take (i := 9) (v := .string IV) rfl (by kernel_rfl) (by kernel_rfl) (by kernel_rfl) (fun _ _ _ h => h) (.inl ⟨rfl, fun W' => by go_simp⟩) ?_
  simp only [List.getElem_toArray, List.getElem_cons_succ, List.getElem_cons_zero, Act.put, List.setIfInBounds_toArray, List.set_cons_zero, List.set_cons_succ]
  refine wpAny_take (i := 10) (v := .int .i64 c) rfl (by kernel_rfl) (by kernel_rfl) (by kernel_rfl) (fun _ _ _ h => h) (.inl ⟨rfl, fun W' => by go_simp⟩) ?_
  simp only [List.getElem_toArray, List.getElem_cons_succ, List.getElem_cons_zero, Act.put, List.setIfInBounds_toArray, List.set_cons_zero, List.set_cons_succ]
  refine wpAny_done (by kernel_rfl) ?_ _
  go_wp2_with fail
  go_ret3
  exact ⟨rfl, (G2.out.drew.alloc _)⟩
theorem refasked_all (root dom id : List UInt8) (n v : Int) (w : World) :
    Calls Try.prog 100 #[.string (str root), .int .i64 n, .string (str dom), .string (str id), .int .i64 v] w fun e w' => e = .returned (.tuple #[.string (str (askedF root n dom id v).1), .string (str (askedF root n dom id v).2.1), .int .i64 (askedF root n dom id v).2.2]) ∧ Fr (fun _ => False) w w' := by
  unfold askedF
  by_cases hn : badN n
  · rw [if_pos (.inl hn)]
    exact refasked_n n v hn _ _ _ w
  · by_cases hv : v < 1 ∨ 8 < v
    · rw [if_pos (.inr hv)]
      exact refasked_v n v hn hv _ _ _ w
    · rw [if_neg (fun h => h.elim hn hv)]
      by_cases hi : 32 < id.length
      · rw [if_pos hi]
        exact refasked_i n v hn hv _ _ _ (by rw [str_size]; exact hi) w
      · rw [if_neg hi]
        obtain ⟨b, rfl⟩ := u8_of v (by omega) (by omega)
        have hb : UInt8.ofNat ((b.toNat : Int)).toNat = b := by simp
        rw [hb]
        have hspec : domF root n dom = unwrapF root (domName n) dom := if_neg hn
        rw [hspec]
        exact refasked_f n b _ hn hv _ _ (str id) _ _ _ _ (by rw [str_size]; exact hi) w (str_size _) (domName_str n) (jstr_append id [b]) (Lib.hid (fun w => rgreffour_calls n hn w)) (Lib.hid (fun w => refunwrap_all _ _ _ w))
set_option maxRecDepth 20000 in
set_option maxHeartbeats 1000000 in
theorem refbacking_err (n v c : Int) (hc : c ≠ 0) (U D I X K N : ByteArray) (w : World) (HA : Hid (∀ w, Calls Try.prog 100 #[.string U, .int .i64 n, .string D, .string I, .int .i64 v] w fun e w' => e = .returned (.tuple #[.string K, .string N, .int .i64 c]) ∧ Fr (fun _ => False) w w')) :
    Calls Try.prog 58 #[.string U, .int .i64 n, .string D, .string I, .int .i64 v, .string X] w fun e w' => e = .returned (.tuple #[.string ⟨#[]⟩, .int .i64 c]) ∧ Fr (fun _ => False) w w' := by
  have d4 : (c != 0) = true := bne_iff_ne.2 hc
  clear hc
  go_enter Try.func58, Try.ntmps58
  go_wp2_with fail
  refine (HA.out w).mono ?_
  rintro e w1 ⟨rfl, f1⟩
  have G1 := Lib.hid (f1)
  clear f1
  go_wp2_with fail
  go_ret2
  exact ⟨rfl, G1.out⟩
set_option maxRecDepth 20000 in
set_option maxHeartbeats 1000000 in
theorem refbacking_go (n v c : Int) (U D I X K N M R : ByteArray) (w : World) (hsn : N.size ≤ 50000) (ap : (⟨#[98]⟩ : ByteArray) ++ N = M) (HA : Hid (∀ w, Calls Try.prog 100 #[.string U, .int .i64 n, .string D, .string I, .int .i64 v] w fun e w' => e = .returned (.tuple #[.string K, .string N, .int .i64 0]) ∧ Fr (fun _ => False) w w'))
    (E : ByteArray) (HE : Hid (∀ w, Calls Try.prog 64 #[.string ⟨#[98, 97, 99, 107, 105, 110, 103]⟩, .string X, .string N] w fun e w' => e = .returned (.string E) ∧ Fr (fun _ => False) w w')) (HF : Hid (∀ w, Calls Try.prog 49 #[.string K, .string M, .string E] w fun e w' => e = .returned (.tuple #[.string R, .int .i64 c]) ∧ Fr (fun _ => False) w w')) :
    Calls Try.prog 58 #[.string U, .int .i64 n, .string D, .string I, .int .i64 v, .string X] w fun e w' => e = .returned (.tuple #[.string R, .int .i64 c]) ∧ Fr (fun _ => False) w w' := by
  have b0 : ¬ 9223372036854775807 < (⟨#[98]⟩ : ByteArray).size + N.size := by show ¬ _ < 1 + N.size; omega
  have b0' : (⟨#[98]⟩ : ByteArray).size + N.size ≤ 9223372036854775807 := by show 1 + N.size ≤ _; omega
  have b0'' : 1 + N.size ≤ 9223372036854775807 := by omega
  clear hsn
  go_enter Try.func58, Try.ntmps58
  go_wp2_with fail
  refine (HA.out w).mono ?_
  rintro e w1 ⟨rfl, f1⟩
  have G1 := Lib.hid (f1)
  clear f1
  go_wp2_with fail
  refine (HE.out w1).mono ?_
  rintro e w2 ⟨rfl, f2⟩
  have G2 := Lib.hid (G1.out.trans f2 (fun i hi => hi.elim))
  clear f2
  go_wp2_with fail
  refine (HF.out w2).mono ?_
  rintro e w3 ⟨rfl, f3⟩
  have G3 := Lib.hid (G2.out.trans f3 (fun i hi => hi.elim))
  clear f3
  go_wp2_with fail
  go_ret2
  exact ⟨rfl, G3.out⟩
theorem refbacking_all (root dom id x : List UInt8) (n v : Int) (hi : id.length ≤ 40000) (hx : x.length ≤ 50000) (w : World) :
    Calls Try.prog 58 #[.string (str root), .int .i64 n, .string (str dom), .string (str id), .int .i64 v, .string (str x)] w fun e w' => e = .returned (.tuple #[.string (str (withF root n dom id v (backDo x)).1), .int .i64 (withF root n dom id v (backDo x)).2]) ∧ Fr (fun _ => False) w w' := by
  rw [withF_asked]
  have HA := Lib.hid (fun w => refasked_all root dom id n v w)
  have hl := askedF_len root n dom id v hi
  by_cases hc : (askedF root n dom id v).2.2 = 0
  · rw [if_pos hc]
    rw [hc] at HA
    exact refbacking_go n v _ _ _ _ _ _ _ _ _ w (by rw [str_size]; omega) (bName_str _) HA _ (Lib.hid (fun w => refderived_calls [98, 97, 99, 107, 105, 110, 103] x _ (by simp) (by omega) (by omega) w)) (Lib.hid (fun w => refwrap_all _ _ _ w))
  · rw [if_neg hc]
    exact refbacking_err n v _ hc _ _ _ _ _ _ w HA
set_option maxRecDepth 20000 in
set_option maxHeartbeats 1000000 in
theorem refkey_err (n v c : Int) (hc : c ≠ 0) (U D I X K N : ByteArray) (w : World) (HA : Hid (∀ w, Calls Try.prog 100 #[.string U, .int .i64 n, .string D, .string I, .int .i64 v] w fun e w' => e = .returned (.tuple #[.string K, .string N, .int .i64 c]) ∧ Fr (fun _ => False) w w')) :
    Calls Try.prog 60 #[.string U, .int .i64 n, .string D, .string I, .int .i64 v, .string X] w fun e w' => e = .returned (.tuple #[.string ⟨#[]⟩, .int .i64 c]) ∧ Fr (fun _ => False) w w' := by
  have d4 : (c != 0) = true := bne_iff_ne.2 hc
  clear hc
  go_enter Try.func60, Try.ntmps60
  go_wp2_with fail
  refine (HA.out w).mono ?_
  rintro e w1 ⟨rfl, f1⟩
  have G1 := Lib.hid (f1)
  clear f1
  go_wp2_with fail
  go_ret2
  exact ⟨rfl, G1.out⟩
set_option maxRecDepth 20000 in
set_option maxHeartbeats 1000000 in
theorem refkey_go (n v c : Int) (U D I X K N M R : ByteArray) (w : World) (hsn : N.size ≤ 50000) (ap : (⟨#[98]⟩ : ByteArray) ++ N = M) (HA : Hid (∀ w, Calls Try.prog 100 #[.string U, .int .i64 n, .string D, .string I, .int .i64 v] w fun e w' => e = .returned (.tuple #[.string K, .string N, .int .i64 0]) ∧ Fr (fun _ => False) w w'))
    (HF : Hid (∀ w, Calls Try.prog 51 #[.string K, .string M, .string X] w fun e w' => e = .returned (.tuple #[.string R, .int .i64 c]) ∧ Fr (fun _ => False) w w')) :
    Calls Try.prog 60 #[.string U, .int .i64 n, .string D, .string I, .int .i64 v, .string X] w fun e w' => e = .returned (.tuple #[.string R, .int .i64 c]) ∧ Fr (fun _ => False) w w' := by
  have b0 : ¬ 9223372036854775807 < (⟨#[98]⟩ : ByteArray).size + N.size := by show ¬ _ < 1 + N.size; omega
  have b0' : (⟨#[98]⟩ : ByteArray).size + N.size ≤ 9223372036854775807 := by show 1 + N.size ≤ _; omega
  have b0'' : 1 + N.size ≤ 9223372036854775807 := by omega
  clear hsn
  go_enter Try.func60, Try.ntmps60
  go_wp2_with fail
  refine (HA.out w).mono ?_
  rintro e w1 ⟨rfl, f1⟩
  have G1 := Lib.hid (f1)
  clear f1
  go_wp2_with fail
  refine (HF.out w1).mono ?_
  rintro e w3 ⟨rfl, f3⟩
  have G3 := Lib.hid (G1.out.trans f3 (fun i hi => hi.elim))
  clear f3
  go_wp2_with fail
  go_ret2
  exact ⟨rfl, G3.out⟩
theorem refkey_all (root dom id x : List UInt8) (n v : Int) (hi : id.length ≤ 40000) (hx : x.length ≤ 50000) (w : World) :
    Calls Try.prog 60 #[.string (str root), .int .i64 n, .string (str dom), .string (str id), .int .i64 v, .string (str x)] w fun e w' => e = .returned (.tuple #[.string (str (withF root n dom id v (keyDo x)).1), .int .i64 (withF root n dom id v (keyDo x)).2]) ∧ Fr (fun _ => False) w w' := by
  rw [withF_asked]
  have HA := Lib.hid (fun w => refasked_all root dom id n v w)
  have hl := askedF_len root n dom id v hi
  by_cases hc : (askedF root n dom id v).2.2 = 0
  · rw [if_pos hc]
    rw [hc] at HA
    exact refkey_go n v _ _ _ _ _ _ _ _ _ w (by rw [str_size]; omega) (bName_str _) HA (Lib.hid (fun w => refunwrap_all _ _ _ w))
  · rw [if_neg hc]
    exact refkey_err n v _ hc _ _ _ _ _ _ w HA
set_option maxRecDepth 20000 in
set_option maxHeartbeats 1000000 in
theorem refrewrap_e1 (n m v c : Int) (hc : c ≠ 0) (U D O I X Y : ByteArray) (w : World) (HK : Hid (∀ w, Calls Try.prog 60 #[.string U, .int .i64 n, .string D, .string I, .int .i64 v, .string X] w fun e w' => e = .returned (.tuple #[.string Y, .int .i64 c]) ∧ Fr (fun _ => False) w w')) :
    Calls Try.prog 62 #[.string U, .int .i64 n, .string D, .int .i64 m, .string O, .string I, .int .i64 v, .string X] w fun e w' => e = .returned (.tuple #[.string ⟨#[]⟩, .int .i64 c]) ∧ Fr (fun _ => False) w w' := by
  have d4 : (c != 0) = true := bne_iff_ne.2 hc
  clear hc
  go_enter Try.func62, Try.ntmps62
  go_wp2_with fail
  refine (HK.out w).mono ?_
  rintro e w1 ⟨rfl, f1⟩
  have G1 := Lib.hid (f1)
  clear f1
  go_wp2_with fail
  go_ret2
  exact ⟨rfl, G1.out⟩
set_option maxRecDepth 20000 in
set_option maxHeartbeats 1000000 in
theorem refrewrap_e2 (n m v c : Int) (hc : c ≠ 0) (U D O I X Y K N : ByteArray) (w : World) (HK : Hid (∀ w, Calls Try.prog 60 #[.string U, .int .i64 n, .string D, .string I, .int .i64 v, .string X] w fun e w' => e = .returned (.tuple #[.string Y, .int .i64 0]) ∧ Fr (fun _ => False) w w')) (HA : Hid (∀ w, Calls Try.prog 100 #[.string U, .int .i64 m, .string O, .string I, .int .i64 v] w fun e w' => e = .returned (.tuple #[.string K, .string N, .int .i64 c]) ∧ Fr (fun _ => False) w w')) :
    Calls Try.prog 62 #[.string U, .int .i64 n, .string D, .int .i64 m, .string O, .string I, .int .i64 v, .string X] w fun e w' => e = .returned (.tuple #[.string ⟨#[]⟩, .int .i64 c]) ∧ Fr (fun _ => False) w w' := by
  have d4 : (c != 0) = true := bne_iff_ne.2 hc
  clear hc
  go_enter Try.func62, Try.ntmps62
  go_wp2_with fail
  refine (HK.out w).mono ?_
  rintro e w1 ⟨rfl, f1⟩
  have G1 := Lib.hid (f1)
  clear f1
  go_wp2_with fail
  refine (HA.out w1).mono ?_
  rintro e w2 ⟨rfl, f2⟩
  have G2 := Lib.hid (G1.out.trans f2 (fun i hi => hi.elim))
  clear f2
  go_wp2_with fail
  go_ret2
  exact ⟨rfl, G2.out⟩
set_option maxRecDepth 20000 in
set_option maxHeartbeats 1000000 in
theorem refrewrap_go (n m v c : Int) (U D O I X Y K N M R : ByteArray) (w : World) (hsn : N.size ≤ 50000) (ap : (⟨#[98]⟩ : ByteArray) ++ N = M) (HK : Hid (∀ w, Calls Try.prog 60 #[.string U, .int .i64 n, .string D, .string I, .int .i64 v, .string X] w fun e w' => e = .returned (.tuple #[.string Y, .int .i64 0]) ∧ Fr (fun _ => False) w w')) (HA : Hid (∀ w, Calls Try.prog 100 #[.string U, .int .i64 m, .string O, .string I, .int .i64 v] w fun e w' => e = .returned (.tuple #[.string K, .string N, .int .i64 0]) ∧ Fr (fun _ => False) w w'))
    (HF : Hid (∀ w, Calls Try.prog 49 #[.string K, .string M, .string Y] w fun e w' => e = .returned (.tuple #[.string R, .int .i64 c]) ∧ Fr (fun _ => False) w w')) :
    Calls Try.prog 62 #[.string U, .int .i64 n, .string D, .int .i64 m, .string O, .string I, .int .i64 v, .string X] w fun e w' => e = .returned (.tuple #[.string R, .int .i64 c]) ∧ Fr (fun _ => False) w w' := by
  have b0 : ¬ 9223372036854775807 < (⟨#[98]⟩ : ByteArray).size + N.size := by show ¬ _ < 1 + N.size; omega
  have b0' : (⟨#[98]⟩ : ByteArray).size + N.size ≤ 9223372036854775807 := by show 1 + N.size ≤ _; omega
  have b0'' : 1 + N.size ≤ 9223372036854775807 := by omega
  clear hsn
  go_enter Try.func62, Try.ntmps62
  go_wp2_with fail
  refine (HK.out w).mono ?_
  rintro e w1 ⟨rfl, f1⟩
  have G1 := Lib.hid (f1)
  clear f1
  go_wp2_with fail
  refine (HA.out w1).mono ?_
  rintro e w2 ⟨rfl, f2⟩
  have G2 := Lib.hid (G1.out.trans f2 (fun i hi => hi.elim))
  clear f2
  go_wp2_with fail
  refine (HF.out w2).mono ?_
  rintro e w3 ⟨rfl, f3⟩
  have G3 := Lib.hid (G2.out.trans f3 (fun i hi => hi.elim))
  clear f3
  go_wp2_with fail
  go_ret2
  exact ⟨rfl, G3.out⟩
theorem refrewrap_all (root dom oth id x : List UInt8) (n m v : Int) (hi : id.length ≤ 40000) (hx : x.length ≤ 50000) (w : World) :
    Calls Try.prog 62 #[.string (str root), .int .i64 n, .string (str dom), .int .i64 m, .string (str oth), .string (str id), .int .i64 v, .string (str x)] w fun e w' => e = .returned (.tuple #[.string (str (rewrapF root n dom m oth id v x).1), .int .i64 (rewrapF root n dom m oth id v x).2]) ∧ Fr (fun _ => False) w w' := by
  unfold rewrapF
  have HK := Lib.hid (fun w => refkey_all root dom id x n v hi hx w)
  by_cases hc : (withF root n dom id v (keyDo x)).2 = 0
  · rw [if_pos hc, withF_asked root m]
    rw [hc] at HK
    have HA := Lib.hid (fun w => refasked_all root oth id m v w)
    have hl := askedF_len root m oth id v hi
    by_cases hc2 : (askedF root m oth id v).2.2 = 0
    · rw [if_pos hc2]
      rw [hc2] at HA
      exact refrewrap_go n m v _ _ _ _ _ _ _ _ _ _ _ w (by rw [str_size]; omega) (bName_str _) HK HA (Lib.hid (fun w => refwrap_all _ _ _ w))
    · rw [if_neg hc2]
      exact refrewrap_e2 n m v _ hc2 _ _ _ _ _ _ _ _ w HK HA
  · rw [if_neg hc]
    exact refrewrap_e1 n m v _ hc _ _ _ _ _ _ w HK
end Go.Proofs.Ytcchhfkmhbjdmaa
