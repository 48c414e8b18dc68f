/- Frames and the disk's representation. -/
import Derived.Test.YthlngbdbmnnnaaaProg
import Derived.Test.YthlngbdbmnnnaaaKm
import Derived.Test.YthlngbdbmnnnaaaL0
set_option linter.unusedVariables false
set_option linter.unusedSimpArgs false
namespace Go.Proofs.Ythlngbdbmnnnaaa
open Go.RowKit

def wcells (x : Wr) : List Value := .int .i64 x.place :: bcells x.data

structure DRep (F : Nat → Prop) (w : World) (g : Nat) (D : Dk) : Prop where
  ex : ∃ gl wv, w.heap[g]? = some (.cells #[.slice (some ⟨gl, 0, none⟩) (64 * D.n) (64 * D.n), wv, .int .i64 D.cutAt, .int .u64 D.keep, .int .i64 D.torn, .int .i64 D.count, .bool D.down] 85 (0, 0)) ∧
    w.heap[gl]? = some (.cells (bcells D.lasts).toArray 5 (0, 0)) ∧ w.ownsRow 0 89 65 wv D.wait.length (D.wait.flatMap wcells) ∧ F g ∧ F gl ∧ (∀ k, wv.ownBlock = some k → F k)
  len : D.lasts.length = 64 * D.n
  most : D.n ≤ 4096
  wf : ∀ x ∈ D.wait, 0 ≤ x.place ∧ x.place < D.n ∧ x.data.length = 64
  cnt : 0 ≤ D.count
  low : ∀ i, F i → i < w.heap.size

theorem ret_eq {k : IntKind} {a b : Int} (h : a = b) : Ending.returned (.int k b) = .returned (.int k a) := by rw [h]

/-- The cells of the disk's own block. -/
structure DCells (w : World) (g : Nat) (D : Dk) (gl : Nat) (wv : Value) : Prop where
  c0 : w.cell? ⟨g, 0, none⟩ = some (.slice (some ⟨gl, 0, none⟩) (64 * D.n) (64 * D.n))
  c1 : w.cell? ⟨g, 1, none⟩ = some wv
  c2 : w.cell? ⟨g, 2, none⟩ = some (.int .i64 D.cutAt)
  c3 : w.cell? ⟨g, 3, none⟩ = some (.int .u64 D.keep)
  c4 : w.cell? ⟨g, 4, none⟩ = some (.int .i64 D.torn)
  c5 : w.cell? ⟨g, 5, none⟩ = some (.int .i64 D.count)
  c6 : w.cell? ⟨g, 6, none⟩ = some (.bool D.down)
theorem dcells {w : World} {g : Nat} {D : Dk} {gl : Nat} {wv : Value} (h : w.heap[g]? = some (.cells #[.slice (some ⟨gl, 0, none⟩) (64 * D.n) (64 * D.n), wv, .int .i64 D.cutAt, .int .u64 D.keep, .int .i64 D.torn, .int .i64 D.count, .bool D.down] 85 (0, 0))) : DCells w g D gl wv := by
  constructor <;> (rw [cell_of_row w g _ _ _ _ h]; rfl)

theorem down_any {F : Nat → Prop} {w : World} {g : Nat} {D : Dk} (hR : DRep F w g D) :
    Calls Try.prog 26 #[.pointer (some ⟨g, 0, none⟩)] w fun e w' => e = .returned (.bool D.down) ∧ w = w' := by
  obtain ⟨gl, wv, hg, -⟩ := hR.ex
  have h := (dcells hg).c6
  clear hg hR
  go_enter Try.func26, Try.ntmps26
  go_wp2
  go_ret
  exact ⟨rfl, rfl⟩
theorem size_any {F : Nat → Prop} {w : World} {g : Nat} {D : Dk} (hR : DRep F w g D) :
    Calls Try.prog 27 #[.pointer (some ⟨g, 0, none⟩)] w fun e w' => e = .returned (.int .i64 (D.n : Int)) ∧ w = w' := by
  obtain ⟨gl, wv, hg, -⟩ := hR.ex
  have h := (dcells hg).c0
  have hm := hR.most
  clear hg hR
  go_enter Try.func27, Try.ntmps27
  go_wp2
  go_ret
  exact ⟨ret_eq (by omega), rfl⟩
theorem asked_any {F : Nat → Prop} {w : World} {g : Nat} {D : Dk} (hR : DRep F w g D) (p : Int) :
    Calls Try.prog 41 #[.pointer (some ⟨g, 0, none⟩), .int .i64 p] w fun e w' => e = .returned (.int .i64 (D.asked p)) ∧ w = w' := by
  have HR := Lib.hid hR
  obtain ⟨gl, wv, hg, -⟩ := hR.ex
  have h := (dcells hg).c6
  clear hg hR
  cases hd : D.down
  · rw [hd] at h
    by_cases h0 : p < 0
    · have hf : D.asked p = 1 := by simp [Dk.asked, hd, h0]
      have HF := Lib.hid hf
      clear hf hd
      go_enter Try.func41, Try.ntmps41
      go_wp2
      go_ret
      exact ⟨ret_eq HF.out, rfl⟩
    · by_cases h1 : (D.n : Int) ≤ p
      · have hf : D.asked p = 1 := by simp [Dk.asked, hd, h1]
        have HF := Lib.hid hf
        clear hf hd
        go_enter Try.func41, Try.ntmps41
        go_wp2_with (go_at_call 27; refine (size_any HR.out).mono ?_; rintro e w' ⟨rfl, rfl⟩)
        go_ret
        exact ⟨ret_eq HF.out, rfl⟩
      · have hf : D.asked p = 0 := by simp [Dk.asked, hd, h0, h1]
        have HF := Lib.hid hf
        clear hf hd
        go_enter Try.func41, Try.ntmps41
        go_wp2_with (go_at_call 27; refine (size_any HR.out).mono ?_; rintro e w' ⟨rfl, rfl⟩)
        go_ret
        exact ⟨ret_eq HF.out, rfl⟩
  · rw [hd] at h
    have hf : D.asked p = 7 := by simp [Dk.asked, hd]
    have HF := Lib.hid hf
    clear hf hd
    go_enter Try.func41, Try.ntmps41
    go_wp2
    go_ret
    exact ⟨ret_eq HF.out, rfl⟩
end Go.Proofs.Ythlngbdbmnnnaaa
