/- Sealed texts: known answers. -/
import Derived.Test.YtcchhfkmhbjdmaaPg7
set_option linter.unusedVariables false
set_option linter.unusedSimpArgs false
namespace Go.Proofs.Ytcchhfkmhbjdmaa
def z32 : List UInt8 := List.replicate 32 0
def z12 : List UInt8 := List.replicate 12 0
def z16 : List UInt8 := List.replicate 16 0
def ka0 : List UInt8 := [0x53, 0x0f, 0x8a, 0xfb, 0xc7, 0x45, 0x36, 0xb9, 0xa9, 0x63, 0xb4, 0xf1, 0xc4, 0xcb, 0x73, 0x8b]
def ka1 : List UInt8 := [0xce, 0xa7, 0x40, 0x3d, 0x4d, 0x60, 0x6b, 0x6e, 0x07, 0x4e, 0xc5, 0xd3, 0xba, 0xf3, 0x9d, 0x18, 0xd0, 0xd1, 0xc8, 0xa7, 0x99, 0x99, 0x6b, 0xf0, 0x26, 0x5b, 0x98, 0xb5, 0xd4, 0x8a, 0xb9, 0x19]
def kc : List UInt8 := ka1.take 16
def kt : List UInt8 := ka1.drop 16
def w52 : List UInt8 := words z32 52
def h0 : List UInt8 := [0xdc, 0x95, 0xc0, 0x78, 0xa2, 0x40, 0x89, 0x89, 0xad, 0x48, 0xa2, 0x14, 0x92, 0x84, 0x20, 0x87]
set_option maxRecDepth 100000
theorem ka_h : press w52 z16 = h0 := by decide +kernel
theorem ka_c1 : press w52 (z12 ++ be4 1) = ka0 := by decide +kernel
theorem ka_c2 : press w52 (z12 ++ be4 2) = kc := by decide +kernel
theorem ka_h2 : hkey z32 = ⟨0xdc95c078a2408989, 0xad48a21492842087⟩ := by
  show loadL (press w52 z16) = _
  rw [ka_h]; decide +kernel
theorem ka_all1 : allL [] kc = kc ++ [0, 0, 0, 0, 0, 0, 0, 0, 0, 0, 0, 0, 0, 0, 0, 128] := by decide +kernel
theorem ka_all2 : allL [120] kc = 120 :: List.replicate 15 0 ++ kc ++ [0, 0, 0, 0, 0, 0, 0, 8, 0, 0, 0, 0, 0, 0, 0, 128] := by decide +kernel
def hk0 : W2 := ⟨0xdc95c078a2408989, 0xad48a21492842087⟩
/-- Is what is sealed taken? -/
def opensT (key nonce beside sealed : List UInt8) : Bool := decide (tagL key nonce beside (sealed.take (sealed.length - 16)) = sealed.drop (sealed.length - 16))
theorem ka_g0 : textL (ghF hk0 (allL [] []) 1) = z16 := by decide +kernel
theorem ka_g1 : turnL (textL (ghF hk0 (kc ++ [0, 0, 0, 0, 0, 0, 0, 0, 0, 0, 0, 0, 0, 0, 0, 128]) 2)) ka0 = kt := by decide +kernel
theorem ka_g2 : turnL (textL (ghF hk0 (120 :: List.replicate 15 0 ++ kc ++ [0, 0, 0, 0, 0, 0, 0, 8, 0, 0, 0, 0, 0, 0, 0, 128]) 3)) ka0 ≠ kt := by decide +kernel
theorem ka_ct1 : ctr (words z32 52) z12 1 = ka0 := ka_c1
theorem ka_ct2 : ctr (words z32 52) z12 2 = kc := ka_c2
theorem ka_tag0 : tagL z32 z12 [] [] = ka0 := by
  unfold tagL
  rw [ka_ct1, ka_h2, show (allL [] []).length / 16 = 1 by decide +kernel]
  have := ka_g0
  unfold hk0 at this
  rw [this]; decide +kernel
theorem ka_tag1 : tagL z32 z12 [] kc = kt := by
  unfold tagL
  rw [ka_ct1, ka_h2, show (allL [] kc).length / 16 = 2 by decide +kernel, ka_all1]
  exact ka_g1
theorem ka_tag2 : tagL z32 z12 [120] kc ≠ kt := by
  unfold tagL
  rw [ka_ct1, ka_h2, show (allL [120] kc).length / 16 = 3 by decide +kernel, ka_all2]
  exact ka_g2
theorem ka_body (t : List UInt8) (ht : t.length = 16) : bodyL (words z32 52) z12 t = xorG t kc := by
  rw [← bodyN_all _ _ _ 1 (by omega)]
  show [] ++ turnL (chunk t 0) (ctr (words z32 52) z12 2) = _
  rw [List.nil_append, turnL_xorG, ka_ct2]
  unfold chunk
  rw [Nat.mul_zero, List.drop_zero, List.take_of_length_le (by omega)]
theorem ka_seal0 : sealL z32 z12 [] [] = ka0 := by
  unfold sealL
  show bodyL _ _ [] ++ tagL _ _ _ (bodyL _ _ []) = _
  rw [show bodyL (words z32 52) z12 [] = [] from rfl, ka_tag0]; rfl
theorem ka_seal1 : sealL z32 z12 [] z16 = ka1 := by
  unfold sealL
  rw [ka_body z16 rfl, show xorG z16 kc = kc by decide +kernel, ka_tag1]; decide +kernel
theorem ka_len : ka1.length = 32 := rfl
theorem ka_open1 : opensT z32 z12 [] ka1 = true := by
  unfold opensT
  rw [ka_len, show ka1.take (32 - 16) = kc from rfl, show ka1.drop (32 - 16) = kt from rfl, ka_tag1]; exact decide_eq_true rfl
theorem ka_open2 : opensT z32 z12 [120] ka1 = false := by
  unfold opensT
  rw [ka_len, show ka1.take (32 - 16) = kc from rfl, show ka1.drop (32 - 16) = kt from rfl]; exact decide_eq_false ka_tag2
theorem ka_text : bodyL (words z32 52) z12 (ka1.take (ka1.length - 16)) = z16 := by
  rw [ka_len, show ka1.take (32 - 16) = kc from rfl, ka_body kc rfl]; decide +kernel
end Go.Proofs.Ytcchhfkmhbjdmaa
