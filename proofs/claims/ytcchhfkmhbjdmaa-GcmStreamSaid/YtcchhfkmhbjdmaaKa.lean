/- The field: plain laws of bytes. -/
import GoSem.Core.Lib
set_option linter.unusedVariables false
set_option linter.unusedSimpArgs false
namespace Go.Proofs.Ytcchhfkmhbjdmaa
theorem u8_all (p : UInt8 → Bool) (h : ((List.range 256).all fun n => p (UInt8.ofNat n)) = true) (a : UInt8) : p a = true := by
  have := List.all_eq_true.mp h a.toNat (List.mem_range.mpr a.toNat_lt)
  simpa using this
theorem u8_span (P : UInt8 → Prop) (h0 : P 0) (hx : ∀ x y, P x → P y → P (x ^^^ y)) (hb : ∀ i : Fin 8, P (1 <<< UInt8.ofNat i.val)) (a : UInt8) : P a := by
  have e : a = (a &&& 1) ^^^ (a &&& 2) ^^^ (a &&& 4) ^^^ (a &&& 8) ^^^ (a &&& 16) ^^^ (a &&& 32) ^^^ (a &&& 64) ^^^ (a &&& 128) := by
    have := u8_all (fun a => a == ((a &&& 1) ^^^ (a &&& 2) ^^^ (a &&& 4) ^^^ (a &&& 8) ^^^ (a &&& 16) ^^^ (a &&& 32) ^^^ (a &&& 64) ^^^ (a &&& 128))) (by decide +kernel) a
    simpa using this
  have f : ∀ i : Fin 8, a &&& (1 <<< UInt8.ofNat i.val) = 0 ∨ a &&& (1 <<< UInt8.ofNat i.val) = 1 <<< UInt8.ofNat i.val := by
    have := u8_all (fun a => (List.finRange 8).all fun i => (a &&& (1 <<< UInt8.ofNat i.val) == 0) || (a &&& (1 <<< UInt8.ofNat i.val) == 1 <<< UInt8.ofNat i.val)) (by decide +kernel) a
    intro i
    have h1 := List.all_eq_true.mp this i (List.mem_finRange i)
    simpa using h1
  have g : ∀ i : Fin 8, P (a &&& (1 <<< UInt8.ofNat i.val)) := fun i => by
    rcases f i with h | h
    · rw [h]; exact h0
    · rw [h]; exact hb i
  rw [e]
  exact hx _ _ (hx _ _ (hx _ _ (hx _ _ (hx _ _ (hx _ _ (hx _ _ (g 0) (g 1)) (g 2)) (g 3)) (g 4)) (g 5)) (g 6)) (g 7)
/-- By x. -/
def tw (a : UInt8) : UInt8 := (a <<< 1) ^^^ ((0x1b : UInt8) * (a >>> 7))
def mulN : Nat → UInt8 → UInt8 → UInt8 → UInt8
  | 0, _, _, p => p
  | n + 1, a, b, p => mulN n (tw a) (b >>> 1) (p ^^^ a * (b &&& 1))
def mul (a b : UInt8) : UInt8 := mulN 8 a b 0
theorem bit_cases (b : UInt8) : b &&& 1 = 0 ∨ b &&& 1 = 1 := by
  have := u8_all (fun b => (b &&& 1 == 0) || (b &&& 1 == 1)) (by decide +kernel) b
  simpa using this
theorem top_cases (b : UInt8) : b >>> 7 = 0 ∨ b >>> 7 = 1 := by
  have := u8_all (fun b => (b >>> 7 == 0) || (b >>> 7 == 1)) (by decide +kernel) b
  simpa using this
theorem u8_shl_xor (a b : UInt8) : (a ^^^ b) <<< 1 = (a <<< 1) ^^^ (b <<< 1) := by
  apply UInt8.toBitVec_inj.mp
  simp [BitVec.shiftLeft_xor_distrib]
theorem u8_shr_xor (a b n : UInt8) : (a ^^^ b) >>> n = (a >>> n) ^^^ (b >>> n) := by
  apply UInt8.toBitVec_inj.mp
  simp [BitVec.ushiftRight_xor_distrib]
theorem u8_and_xor (a b c : UInt8) : (a ^^^ b) &&& c = (a &&& c) ^^^ (b &&& c) := by
  apply UInt8.toBitVec_inj.mp
  simp only [UInt8.toBitVec_and, UInt8.toBitVec_xor]
  ext i
  simp only [BitVec.getElem_and, BitVec.getElem_xor]
  generalize a.toBitVec[i] = x
  generalize b.toBitVec[i] = y
  generalize c.toBitVec[i] = z
  cases x <;> cases y <;> cases z <;> rfl
theorem tw_xor (a b : UInt8) : tw (a ^^^ b) = tw a ^^^ tw b := by
  unfold tw
  rw [u8_shl_xor, u8_shr_xor]
  have : (0x1b : UInt8) * ((a >>> 7) ^^^ (b >>> 7)) = ((0x1b : UInt8) * (a >>> 7)) ^^^ ((0x1b : UInt8) * (b >>> 7)) := by
    rcases top_cases a with h | h <;> rcases top_cases b with k | k <;> rw [h, k] <;> rfl
  rw [this]
  ac_rfl
theorem tw_zero : tw 0 = 0 := by decide
theorem mulN_acc : ∀ (n : Nat) (a b p : UInt8), mulN n a b p = p ^^^ mulN n a b 0
  | 0, a, b, p => by simp [mulN]
  | n + 1, a, b, p => by
    simp only [mulN]
    rw [mulN_acc n _ _ (p ^^^ _), mulN_acc n _ _ (0 ^^^ _)]
    simp only [UInt8.zero_xor]
    ac_rfl
theorem mulN_b0 : ∀ (n : Nat) (a p : UInt8), mulN n a 0 p = p
  | 0, _, _ => rfl
  | n + 1, a, p => by
    have : (0 : UInt8) >>> 1 = 0 := by decide
    have h2 : a * ((0 : UInt8) &&& 1) = 0 := by simp
    simp only [mulN, this, h2, UInt8.xor_zero]
    exact mulN_b0 n _ _
theorem mulN_left : ∀ (n : Nat) (a a' b : UInt8), mulN n (a ^^^ a') b 0 = mulN n a b 0 ^^^ mulN n a' b 0
  | 0, _, _, _ => by simp [mulN]
  | n + 1, a, a', b => by
    simp only [mulN]
    rw [mulN_acc n _ _ (0 ^^^ _), mulN_acc n (tw a) _ (0 ^^^ _), mulN_acc n (tw a') _ (0 ^^^ _), tw_xor, mulN_left n]
    have : (a ^^^ a') * (b &&& 1) = (a * (b &&& 1)) ^^^ (a' * (b &&& 1)) := by
      rcases bit_cases b with h | h <;> rw [h] <;> simp
    rw [this]
    simp only [UInt8.zero_xor]
    ac_rfl
theorem mulN_right : ∀ (n : Nat) (a b b' : UInt8), mulN n a (b ^^^ b') 0 = mulN n a b 0 ^^^ mulN n a b' 0
  | 0, _, _, _ => by simp [mulN]
  | n + 1, a, b, b' => by
    simp only [mulN]
    rw [mulN_acc n _ _ (0 ^^^ _), mulN_acc n (tw a) (b >>> 1) (0 ^^^ _), mulN_acc n (tw a) (b' >>> 1) (0 ^^^ _), u8_shr_xor, mulN_right n]
    have : a * ((b ^^^ b') &&& 1) = (a * (b &&& 1)) ^^^ (a * (b' &&& 1)) := by
      rw [u8_and_xor]
      rcases bit_cases b with h | h <;> rcases bit_cases b' with k | k <;> rw [h, k] <;> simp
    rw [this]
    simp only [UInt8.zero_xor]
    ac_rfl
theorem mul_left (a a' b : UInt8) : mul (a ^^^ a') b = mul a b ^^^ mul a' b := mulN_left 8 a a' b
theorem mul_right (a b b' : UInt8) : mul a (b ^^^ b') = mul a b ^^^ mul a b' := mulN_right 8 a b b'
theorem mul_zero (a : UInt8) : mul a 0 = 0 := mulN_b0 8 a 0
theorem zero_mul (a : UInt8) : mul 0 a = 0 := by
  have := mul_left 0 0 a
  simpa using this
theorem mul_comm (a b : UInt8) : mul a b = mul b a := by
  refine u8_span (fun a => mul a b = mul b a) (by rw [zero_mul, mul_zero]) (fun x y h k => by rw [mul_left, mul_right, h, k]) (fun i => ?_) a
  refine u8_span (fun b => mul (1 <<< UInt8.ofNat i.val) b = mul b (1 <<< UInt8.ofNat i.val)) (by rw [zero_mul, mul_zero]) (fun x y h k => by rw [mul_left, mul_right, h, k]) (fun j => ?_) b
  revert i j
  decide +kernel
theorem mul_assoc (a b c : UInt8) : mul (mul a b) c = mul a (mul b c) := by
  refine u8_span (fun a => mul (mul a b) c = mul a (mul b c)) (by simp only [zero_mul]) (fun x y h k => by rw [mul_left, mul_left, mul_left, h, k]) (fun i => ?_) a
  refine u8_span (fun b => mul (mul (1 <<< UInt8.ofNat i.val) b) c = mul (1 <<< UInt8.ofNat i.val) (mul b c)) (by simp only [zero_mul, mul_zero]) (fun x y h k => by rw [mul_right, mul_left, mul_left, mul_right, h, k]) (fun j => ?_) b
  refine u8_span (fun c => mul (mul (1 <<< UInt8.ofNat i.val) (1 <<< UInt8.ofNat j.val)) c = mul (1 <<< UInt8.ofNat i.val) (mul (1 <<< UInt8.ofNat j.val) c)) (by simp only [mul_zero]) (fun x y h k => by rw [mul_right, mul_right, mul_right, h, k]) (fun l => ?_) c
  revert i j l
  decide +kernel
theorem mul_one (a : UInt8) : mul a 1 = a := by
  have := u8_all (fun a => mul a 1 == a) (by decide +kernel) a
  simpa using this
/-- What undoes a byte: its power 254. -/
def sqN : Nat → UInt8 → UInt8 → UInt8
  | 0, _, c => c
  | n + 1, t, c => sqN n (mul t t) (mul c (mul t t))
def inv (a : UInt8) : UInt8 := sqN 7 a 1
theorem mul_inv (a : UInt8) (h : a ≠ 0) : mul a (inv a) = 1 := by
  have := u8_all (fun a => a == 0 || mul a (inv a) == 1) (by decide +kernel) a
  simpa [h] using this
theorem mul_eq_zero (a b : UInt8) : mul a b = 0 ↔ a = 0 ∨ b = 0 := by
  constructor
  · intro h
    by_cases ha : a = 0
    · exact .inl ha
    · right
      have h1 : mul (inv a) (mul a b) = b := by rw [← mul_assoc, mul_comm (inv a), mul_inv a ha, mul_comm, mul_one]
      rw [h, mul_zero] at h1
      exact h1.symm
  · rintro (rfl | rfl)
    · exact zero_mul b
    · exact mul_zero a
theorem mul_one_unique (a b : UInt8) (h : mul a b = 1) : a ≠ 0 ∧ b = inv a := by
  have ha : a ≠ 0 := by rintro rfl; rw [zero_mul] at h; cases h
  refine ⟨ha, ?_⟩
  have h1 : mul (inv a) (mul a b) = b := by rw [← mul_assoc, mul_comm (inv a), mul_inv a ha, mul_comm, mul_one]
  rw [h, mul_one] at h1
  exact h1.symm
/-- What is by 2 and by 3. -/
theorem mul_two (a : UInt8) : mul 2 a = tw a := by
  have := u8_all (fun a => mul 2 a == tw a) (by decide +kernel) a
  simpa using this
theorem mul_three (a : UInt8) : mul 3 a = tw a ^^^ a := by
  have := u8_all (fun a => mul 3 a == tw a ^^^ a) (by decide +kernel) a
  simpa using this
/-! ### boxes -/
def rl (q : UInt8) (k : UInt8) : UInt8 := (q <<< k) ||| (q >>> (8 - k))
def boxP (p : UInt8) : UInt8 := p ^^^ tw p
def boxQ (q : UInt8) : UInt8 :=
  let q := q ^^^ (q <<< 1)
  let q := q ^^^ (q <<< 2)
  let q := q ^^^ (q <<< 4)
  q ^^^ ((0x09 : UInt8) * (q >>> 7))
def boxA (q : UInt8) : UInt8 := q ^^^ rl q 1 ^^^ rl q 2 ^^^ rl q 3 ^^^ rl q 4 ^^^ 0x63
def boxN : Nat → UInt8 × UInt8 × List UInt8
  | 0 => (1, 1, (List.replicate 256 0).set 0 0x63)
  | n + 1 => let (p, q, l) := boxN n; (boxP p, boxQ q, l.set (boxP p).toNat (boxA (boxQ q)))
def boxT : List UInt8 := [99, 124, 119, 123, 242, 107, 111, 197, 48, 1, 103, 43, 254, 215, 171, 118, 202, 130, 201, 125, 250, 89, 71, 240, 173, 212, 162, 175, 156, 164, 114, 192, 183, 253, 147, 38, 54, 63, 247, 204, 52, 165, 229, 241, 113, 216, 49, 21, 4, 199, 35, 195, 24, 150, 5, 154, 7, 18, 128, 226, 235, 39, 178, 117, 9, 131, 44, 26, 27, 110, 90, 160, 82, 59, 214, 179, 41, 227, 47, 132, 83, 209, 0, 237, 32, 252, 177, 91, 106, 203, 190, 57, 74, 76, 88, 207, 208, 239, 170, 251, 67, 77, 51, 133, 69, 249, 2, 127, 80, 60, 159, 168, 81, 163, 64, 143, 146, 157, 56, 245, 188, 182, 218, 33, 16, 255, 243, 210, 205, 12, 19, 236, 95, 151, 68, 23, 196, 167, 126, 61, 100, 93, 25, 115, 96, 129, 79, 220, 34, 42, 144, 136, 70, 238, 184, 20, 222, 94, 11, 219, 224, 50, 58, 10, 73, 6, 36, 92, 194, 211, 172, 98, 145, 149, 228, 121, 231, 200, 55, 109, 141, 213, 78, 169, 108, 86, 244, 234, 101, 122, 174, 8, 186, 120, 37, 46, 28, 166, 180, 198, 232, 221, 116, 31, 75, 189, 139, 138, 112, 62, 181, 102, 72, 3, 246, 14, 97, 53, 87, 185, 134, 193, 29, 158, 225, 248, 152, 17, 105, 217, 142, 148, 155, 30, 135, 233, 206, 85, 40, 223, 140, 161, 137, 13, 191, 230, 66, 104, 65, 153, 45, 15, 176, 84, 187, 22]
theorem boxN_length : ∀ n, (boxN n).2.2.length = 256
  | 0 => by unfold boxN; rw [List.length_set, List.length_replicate]
  | n + 1 => by simp [boxN, boxN_length n]
theorem boxT_length : boxT.length = 256 := by decide +kernel
theorem boxN_all : (boxN 255).2.2 = boxT := by decide +kernel
def box (b : UInt8) : UInt8 := boxT.getD b.toNat 0
theorem boxT_get (b : UInt8) : boxT[b.toNat]? = some (box b) := by
  have h : b.toNat < boxT.length := by rw [boxT_length]; exact b.toNat_lt
  simp [box, List.getElem?_eq_getElem h]
/-- By definition. -/
def boxR (b : UInt8) : UInt8 := boxA (inv b)
theorem box_eq (b : UInt8) : box b = boxR b := by
  have h : boxT = (List.range 256).map fun n => boxR (UInt8.ofNat n) := by decide +kernel
  have h2 := boxT_get b
  rw [h] at h2
  have hb : b.toNat < 256 := b.toNat_lt
  simp [hb] at h2
  exact h2.symm
def unbox (c : UInt8) : UInt8 := UInt8.ofNat (boxT.idxOf c)
theorem unbox_box (b : UInt8) : unbox (box b) = b := by
  have := u8_all (fun b => unbox (box b) == b) (by decide +kernel) b
  simpa using this
theorem box_inj {a b : UInt8} (h : box a = box b) : a = b := by rw [← unbox_box a, h, unbox_box]
end Go.Proofs.Ytcchhfkmhbjdmaa
