/- DiskPlays: what the reference's lists answer, beside the disk's model. -/
import Derived.Test.YthlngbdbmnnnaaaPDiskPlaysx4
import Derived.Test.YthlngbdbmnnnaaaKo
import Derived.Test.YthlngbdbmnnnaaaL0
set_option linter.unusedVariables false
set_option linter.unusedSimpArgs false
namespace Go.Proofs.Ythlngbdbmnnnaaa
open Go.RowKit Go.Proofs.YthlngbdbmnnnaaaW.PrintWords Go.Proofs.YthlngbdbmnnnaaaW.PrintLast Go.Proofs.YthlngbdbmnnnaaaW.PrintMore PDiskPlays
theorem str_append (a b : List UInt8) : str a ++ str b = str (a ++ b) := by
  apply ByteArray.ext
  simp [str]
theorem str_take (a : List UInt8) (n : Nat) : (str a).extract 0 n = str (a.take n) := by
  apply ByteArray.ext
  simp [str]
theorem str_drop (a : List UInt8) (n : Nat) : (str a).extract n (str a).size = str (a.drop n) := by
  apply ByteArray.ext
  simp [str, ByteArray.size]
  exact List.take_of_length_le (by simp)
theorem str_nil : (⟨#[]⟩ : ByteArray) = str [] := rfl
theorem fill_ref : ∀ (d : Nat) (l : List UInt8) (k : Nat), l.length + d = 64 → d < k → keyloftref08_fill.f k (str l) = some (str (Dk.fill l))
  | 0, l, k + 1, h, hk => by
    show keyloftref08_fill.l0 (k + 1) (str l) = _
    unfold keyloftref08_fill.l0
    rw [str_size, if_neg (by omega)]
    simp [Dk.fill, show 64 - l.length = 0 by omega]
  | d + 1, l, k + 1, h, hk => by
    show keyloftref08_fill.l0 (k + 1) (str l) = _
    unfold keyloftref08_fill.l0
    rw [str_size, if_pos (by omega), if_pos (by omega)]
    have := fill_ref d (l ++ [0]) k (by simp; omega) (by omega)
    rw [show (str l ++ (⟨#[0]⟩ : ByteArray)) = str (l ++ [0]) from str_append l [0]]
    refine this.trans ?_
    simp only [Dk.fill, List.append_assoc]
    congr 3
    rw [show 64 - l.length = (64 - (l ++ [0]).length) + 1 by simp; omega, List.replicate_succ]
    rfl
def secs (n : Nat) (L : List UInt8) : List ByteArray := (List.range n).map fun (p : Nat) => str ((L.drop (64 * p)).take 64)
theorem secs_length (n : Nat) (L : List UInt8) : (secs n L).length = n := by simp [secs]
theorem secs_get (n : Nat) (L : List UInt8) (p : Nat) (h : p < n) : (secs n L)[p]? = some (str ((L.drop (64 * p)).take 64)) := by simp [secs, h]
theorem secs_rd (n : Nat) (L : List UInt8) (p : Int) (h0 : 0 ≤ p) (h : p < n) : rdOf ByteArray.empty (secs n L) p = str ((L.drop (64 * p.toNat)).take 64) := by
  unfold rdOf
  rw [List.getD_eq_getElem?_getD, secs_get n L p.toNat (by omega)]; rfl
theorem secs_splice (n : Nat) (L : List UInt8) (p : Nat) (cs : List UInt8) (hp : p < n) (hL : L.length = 64 * n) (hc : cs.length ≤ 64) :
    secs n (splice L (64 * p) cs) = (secs n L).set p (str (cs ++ ((L.drop (64 * p)).take 64).drop cs.length)) := by
  apply List.ext_getElem?
  intro q
  by_cases hq : q < n
  · rw [secs_get _ _ _ hq, List.getElem?_set, secs_length]
    by_cases e : p = q
    · subst e
      rw [if_pos rfl, if_pos hp]
      congr 2
      apply List.ext_getElem?
      intro j
      rw [List.getElem?_take, List.getElem?_drop, splice_get _ _ _ (by omega), List.getElem?_append, List.getElem?_drop, List.getElem?_take, List.getElem?_drop]
      by_cases hj : j < 64
      · rw [if_pos hj]
        by_cases hc' : j < cs.length
        · rw [if_pos (by omega), if_pos hc', show 64 * p + j - 64 * p = j by omega]
        · rw [if_neg (by omega), if_neg hc', if_pos (by omega), show 64 * p + (cs.length + (j - cs.length)) = 64 * p + j by omega]
      · rw [if_neg hj, if_neg (by omega), if_neg (by omega)]
    · rw [if_neg e, secs_get _ _ _ hq]
      congr 2
      apply List.ext_getElem?
      intro j
      rw [List.getElem?_take, List.getElem?_drop, splice_get _ _ _ (by omega), List.getElem?_take, List.getElem?_drop]
      by_cases hj : j < 64
      · rw [if_pos hj, if_pos hj, if_neg (by omega)]
      · rw [if_neg hj, if_neg hj]
  · rw [List.getElem?_eq_none (by rw [secs_length]; omega), List.getElem?_eq_none (by simp [secs_length]; omega)]
def toS (x : Wr) : S94 := ⟨x.place, str x.data⟩
theorem toS_get (l : List Wr) (i : Nat) (x : Wr) (h : l[i]? = some x) : rd_T94 (l.map toS) (i : Int) = toS x := by
  unfold rd_T94
  rw [List.getD_eq_getElem?_getD, show ((i : Int)).toNat = i from rfl, List.getElem?_map, h]; rfl
theorem splice_nil (L : List UInt8) (o : Nat) : splice L o [] = L := by simp [splice]
theorem settle_off (f : Nat → Nat) : ∀ (l : List Wr) (i : Nat) (L : List UInt8), (∀ j, i ≤ j → f j = 0) → settle f i l L = L
  | [], _, _, _ => rfl
  | x :: l, i, L, h => by
    show settle f (i + 1) l _ = _
    rw [h i (Nat.le_refl _), List.take_zero, splice_nil]
    exact settle_off f l (i + 1) L (fun j hj => h j (by omega))
/-- What the reference holds beside a disk. -/
structure Wd (n m : Nat) (D : Dk) : Prop where
  nn : D.n = n
  L : D.lasts.length = 64 * n
  W : ∀ x ∈ D.wait, 0 ≤ x.place ∧ x.place < n ∧ x.data.length = 64
  len : D.wait.length ≤ m
  c0 : 0 ≤ D.count
  c1 : D.count ≤ m
  k0 : 0 ≤ D.keep
  k1 : D.keep ≤ 18446744073709551615
theorem sec_length (n : Nat) (L : List UInt8) (p : Nat) (hp : p < n) (hL : L.length = 64 * n) : ((L.drop (64 * p)).take 64).length = 64 := by simp; omega
theorem put_sec (n : Nat) (L : List UInt8) (p : Int) (x : List UInt8) (N : Nat) (h0 : 0 ≤ p) (hp : p < n) (hL : L.length = 64 * n) (hx : x.length = 64) (hN : N ≤ 64) :
    (secs n L).set p.toNat ((str x).extract 0 N ++ (rdOf ByteArray.empty (secs n L) p).extract N (rdOf ByteArray.empty (secs n L) p).size) = secs n (splice L (64 * p.toNat) (x.take N)) := by
  rw [secs_rd n L p h0 hp, str_take, str_drop, str_append, secs_splice n L p.toNat _ (by omega) hL (by simp; omega)]
  rw [show (x.take N).length = N by simp; omega]
theorem rd_size (n : Nat) (L : List UInt8) (p : Int) (h0 : 0 ≤ p) (hp : p < n) (hL : L.length = 64 * n) : (rdOf ByteArray.empty (secs n L) p).size = 64 := by
  rw [secs_rd n L p h0 hp, str_size, sec_length n L _ (by omega) hL]
theorem ext_size (n : Nat) (L : List UInt8) (p : Int) (x : List UInt8) (N : Nat) (h0 : 0 ≤ p) (hp : p < n) (hL : L.length = 64 * n) (hx : x.length = 64) (hN : N ≤ 64) :
    ((str x).extract 0 N).size + ((rdOf ByteArray.empty (secs n L) p).extract N (rdOf ByteArray.empty (secs n L) p).size).size ≤ 9223372036854775807 := by
  rw [secs_rd n L p h0 hp, str_take, str_drop, str_size, str_size]
  have := sec_length n L p.toNat (by omega) hL
  simp at this ⊢; omega
theorem wrap64_nat (i : Nat) (h : i ≤ 1000000) : wrap64 ((i : Int) + 1) = ((i + 1 : Nat) : Int) := by
  rw [IntWalk.wrap64_in _ (by omega)]; omega
theorem j2_step (n : Nat) (L : List UInt8) (x : Wr) (k : Nat) (keep torn : Int) (i : Int) (b : Bool) (LL0 : List ByteArray) (W : List S94) (a2 a3 a4 c : Int) (off : Bool) (N : Nat)
    (hp0 : 0 ≤ x.place) (hp1 : x.place < n) (hx : x.data.length = 64) (hL : L.length = 64 * n) (hb : b = true → torn < 64) (hN : N = if b = true then torn.toNat else 64) :
    keyloftref08_fail.j2 (k + 1) keep torn (secs n L) i 64 b LL0 W a2 a3 a4 c off (toS x).f0 (toS x).f1 = keyloftref08_fail.l0 k keep torn (secs n (splice L (64 * x.place.toNat) (x.data.take N))) (wrap64 (i + 1)) LL0 W a2 a3 a4 c off := by
  show keyloftref08_fail.j2 (k + 1) keep torn (secs n L) i 64 b LL0 W a2 a3 a4 c off x.place (str x.data) = _
  simp only [keyloftref08_fail.j2]
  have hs := rd_size n L x.place hp0 hp1 hL
  have hd : (str x.data).size = 64 := by rw [str_size, hx]
  have hl : ((secs n L).length : Int) = n := by rw [secs_length]
  have hN64 : N ≤ 64 := by
    rw [hN]; split
    · rename_i h; have := hb h; omega
    · omega
  have he := ext_size n L x.place x.data N hp0 hp1 hL hx hN64
  have hput := put_sec n L x.place x.data N hp0 hp1 hL hx hN64
  by_cases hbt : b = true
  · have ht := hb hbt
    rw [if_pos hbt] at hN
    rw [if_pos hbt]
    by_cases h0 : torn < 0
    · obtain rfl : N = 0 := by omega
      rw [if_pos h0, if_pos (by omega), if_pos (by omega), if_pos hp0, if_pos (by omega), if_pos (by omega), if_pos he, hput]
    · subst hN
      rw [if_neg h0, if_pos (by omega), if_pos (by omega), if_pos hp0, if_pos (by omega), if_pos (by omega), if_pos he, hput]
  · rw [if_neg hbt] at hN
    subst hN
    rw [if_neg hbt, if_neg (by decide), if_pos (by decide), if_pos (by omega), if_pos hp0, if_pos (by omega), if_pos (by omega)]
    rw [show (64 : Int).toNat = 64 from rfl, if_pos he, hput]
theorem shr_keep (keep : Int) (i : Nat) (h0 : 0 ≤ keep) (h : i < 64) : Int.tmod (shr .u64 keep (IntKind.u64.wrap (i : Int))) 2 = keep / 2 ^ i % 2 := by
  have e : IntKind.u64.wrap (i : Int) = i := by rw [IntKind.wrap_u64]; omega
  rw [e]
  unfold shr
  rw [show min ((i : Int)).toNat (IntKind.u64.bits) = i by simp [IntKind.bits]; omega]
  exact Int.tmod_eq_emod_of_nonneg (Int.ediv_nonneg h0 (Int.pow_nonneg (by omega)))
theorem fail_loop (keep torn : Int) (hk0 : 0 ≤ keep) (n : Nat) (W : List Wr) (hW : ∀ x ∈ W, 0 ≤ x.place ∧ x.place < n ∧ x.data.length = 64) (hm : W.length ≤ 100000) (LL0 : List ByteArray) (a2 a3 a4 c : Int) (off : Bool) :
    ∀ (d i k : Nat) (L : List UInt8), i + d = W.length → L.length = 64 * n → 3 * d + 3 ≤ k →
    keyloftref08_fail.l0 k keep torn (secs n L) (i : Int) LL0 (W.map toS) a2 a3 a4 c off = some (secs n (settle (crashN keep torn W.length) i (W.drop i) L), [], 0, 0, 0, c, true)
  | 0, i, k + 2, L, hi, hL, hk => by
    have hlen : ((W.map toS).length : Int) = i := by simp; omega
    simp only [keyloftref08_fail.l0, keyloftref08_fail.j1]
    rw [hlen, if_neg (by omega), if_neg (by decide), List.drop_of_length_le (by omega)]
    rfl
  | d + 1, i, k + 3, L, hi, hL, hk => by
    have hlen : ((W.map toS).length : Int) = W.length := by simp
    have hil : i < W.length := by omega
    have hg : W[i]? = some W[i] := List.getElem?_eq_getElem hil
    have hx := hW W[i] (List.getElem_mem hil)
    have hS : settle (crashN keep torn W.length) i (W.drop i) L = settle (crashN keep torn W.length) (i + 1) (W.drop (i + 1)) (splice L (64 * W[i].place.toNat) (W[i].data.take (crashN keep torn W.length i))) := by
      rw [List.drop_eq_getElem_cons hil]; rfl
    simp only [keyloftref08_fail.l0]
    rw [hlen, if_pos (by omega)]
    simp only [keyloftref08_fail.j1]
    by_cases h64 : i < 64
    · rw [decide_eq_true (by omega), if_pos rfl, if_pos (by omega), hlen, if_pos (by omega), if_pos (by rw [IntKind.wrap_u64]; omega), shr_keep keep i hk0 h64, toS_get W i _ hg, wrap64_nat i (by omega)]
      by_cases hz : keep / 2 ^ i % 2 = 0
      · rw [if_pos hz]
        have hc : crashN keep torn W.length i = 0 := by unfold crashN; rw [if_pos (.inr hz)]
        rw [fail_loop keep torn hk0 n W hW hm LL0 a2 a3 a4 c off d (i + 1) (k + 1) L (by omega) hL (by omega), hS, hc, List.take_zero, splice_nil]
      · rw [if_neg hz, IntWalk.wrap64_in _ (by omega)]
        have hw' : ∀ N, N ≤ 64 → (splice L (64 * W[i].place.toNat) (W[i].data.take N)).length = 64 * n := fun N hN => by
          rw [length_splice _ _ _ (by simp; omega)]; exact hL
        by_cases hl : (i : Int) = (W.length : Int) - 1
        · rw [if_pos hl, j2_step n L W[i] k keep torn i _ LL0 _ a2 a3 a4 c off _ hx.1 hx.2.1 hx.2.2 hL (fun h => by simpa using h) rfl, wrap64_nat i (by omega)]
          have hc : crashN keep torn W.length i = if decide (torn < 64) = true then torn.toNat else 64 := by
            unfold crashN
            rw [if_neg (by omega), if_pos (by omega)]
            by_cases ht : torn < 64
            · simp [ht]; omega
            · simp [ht]; omega
          rw [← hc, fail_loop keep torn hk0 n W hW hm LL0 a2 a3 a4 c off d (i + 1) k _ (by omega) (hw' _ (crashN_le _ _ _ _)) (by omega), hS]
        · rw [if_neg hl, j2_step n L W[i] k keep torn i _ LL0 _ a2 a3 a4 c off 64 hx.1 hx.2.1 hx.2.2 hL (fun h => by simp at h) rfl, wrap64_nat i (by omega)]
          have hc : crashN keep torn W.length i = 64 := by
            unfold crashN
            rw [if_neg (by omega), if_neg (by omega)]
          rw [fail_loop keep torn hk0 n W hW hm LL0 a2 a3 a4 c off d (i + 1) k _ (by omega) (hw' 64 (Nat.le_refl _)) (by omega), hS, hc]
    · rw [decide_eq_false (by omega), if_neg (by decide), settle_off _ _ _ _ (fun j hj => by unfold crashN; rw [if_pos (.inl (by omega))])]
theorem fail_ref (keep torn : Int) (hk0 : 0 ≤ keep) (n : Nat) (W : List Wr) (hW : ∀ x ∈ W, 0 ≤ x.place ∧ x.place < n ∧ x.data.length = 64) (hm : W.length ≤ 100000) (hn : n ≤ 100000) (L : List UInt8) (hL : L.length = 64 * n) (a2 a3 a4 c : Int) (off : Bool) (k : Nat) (hk : 3 * W.length + 3 ≤ k) :
    keyloftref08_fail.f k (secs n L) (W.map toS) a2 a3 a4 c off keep torn = some (secs n (settle (crashN keep torn W.length) 0 W L), [], 0, 0, 0, c, true) := by
  unfold keyloftref08_fail.f
  rw [Option.bind_some, if_pos (by rw [secs_length]; simp; omega), List.nil_append]
  exact fail_loop keep torn hk0 n W hW hm _ a2 a3 a4 c off W.length 0 k L (by omega) hL (by omega)
/-- All that the reference holds of a disk. -/
def tup (D : Dk) : List ByteArray × List S94 × Int × Int × Int × Int × Bool := (secs D.n D.lasts, D.wait.map toS, D.cutAt, D.keep, D.torn, D.count, D.down)
theorem counted_ref {n m : Nat} {D : Dk} (h : Wd n m D) (hm : m ≤ 100000) (hn : n ≤ 100000) (hd : D.down = false) (k : Nat) (hk : 3 * m + 3 ≤ k) :
    keyloftref08_counted.f k (secs D.n D.lasts) (D.wait.map toS) D.cutAt D.keep D.torn D.count D.down = some (secs D.n D.counted.lasts, D.counted.wait.map toS, D.counted.cutAt, D.counted.keep, D.counted.torn, D.counted.count, D.counted.down, D.failing) := by
  have h0 := h.c0
  have h1 := h.c1
  have hl := h.len
  have hw : wrap64 (D.count + 1) = D.count + 1 := IntWalk.wrap64_in _ (by omega)
  unfold keyloftref08_counted.f
  rw [hw]
  by_cases hc : D.cutAt = D.count + 1
  · rw [if_pos (by omega), if_pos hc, fail_ref D.keep D.torn h.k0 D.n D.wait (by rw [h.nn]; exact h.W) (by omega) (by rw [h.nn]; omega) D.lasts (by rw [h.nn]; exact h.L) _ _ _ _ _ _ (by omega)]
    simp [Dk.counted, Dk.failing, hc, Dk.crash, hd]
  · have : (if D.cutAt ≥ 1 then (if D.cutAt = D.count + 1 then ((keyloftref08_fail.f k (secs D.n D.lasts) (D.wait.map toS) D.cutAt D.keep D.torn (D.count + 1) D.down D.keep D.torn).bind fun bt128 => (some (bt128.1, bt128.2.1, bt128.2.2.1, bt128.2.2.2.1, bt128.2.2.2.2.1, bt128.2.2.2.2.2.1, bt128.2.2.2.2.2.2, true))) else (some (secs D.n D.lasts, D.wait.map toS, D.cutAt, D.keep, D.torn, D.count + 1, D.down, false))) else (some (secs D.n D.lasts, D.wait.map toS, D.cutAt, D.keep, D.torn, D.count + 1, D.down, false))) = some (secs D.n D.lasts, D.wait.map toS, D.cutAt, D.keep, D.torn, D.count + 1, D.down, false) := by
      rw [if_neg hc]; split <;> rfl
    refine this.trans ?_
    simp [Dk.counted, Dk.failing, hc]
theorem fill_length (l : List UInt8) (h : l.length ≤ 64) : (Dk.fill l).length = 64 := by simp [Dk.fill]; omega
theorem wd_push {n m : Nat} {D : Dk} (h : Wd n m D) (p : Int) (l : List UInt8) (h0 : 0 ≤ p) (h1 : p < n) (hl : l.length ≤ 64) : Wd n (m + 1) { D with wait := D.wait ++ [(⟨p, Dk.fill l⟩ : Wr)] } :=
  ⟨h.nn, h.L, fun x hx => by
    rcases List.mem_append.mp hx with hx | hx
    · exact h.W x hx
    · simp at hx; subst hx; exact ⟨h0, h1, fill_length l hl⟩, by have := h.len; simp; omega, h.c0, by have := h.c1; show D.count ≤ _; omega, h.k0, h.k1⟩
theorem wd_counted {n m : Nat} {D : Dk} (h : Wd n m D) : Wd n (m + 1) D.counted := by
  have h0 := h.c0
  have h1 := h.c1
  have h2 := h.len
  unfold Dk.counted
  by_cases hc : D.cutAt = D.count + 1
  · rw [if_pos hc]
    unfold Dk.crash
    by_cases hd : D.down = true
    · rw [if_pos hd]
      exact ⟨h.nn, h.L, h.W, by show D.wait.length ≤ _; omega, by show 0 ≤ D.count + 1; omega, by show D.count + 1 ≤ _; omega, h.k0, h.k1⟩
    · rw [if_neg hd]
      exact ⟨h.nn, settle_length _ n _ _ _ h.W h.L, fun x hx => by simp at hx, by simp, by show 0 ≤ D.count + 1; omega, by show D.count + 1 ≤ _; omega, by show (0 : Int) ≤ 0; omega, by show (0 : Int) ≤ _; omega⟩
  · rw [if_neg hc]
    exact ⟨h.nn, h.L, h.W, by show D.wait.length ≤ _; omega, by show 0 ≤ D.count + 1; omega, by show D.count + 1 ≤ _; omega, h.k0, h.k1⟩
theorem wd_mono {n m m' : Nat} {D : Dk} (h : Wd n m D) (hm : m ≤ m') : Wd n m' D := ⟨h.nn, h.L, h.W, Nat.le_trans h.len hm, h.c0, by have := h.c1; omega, h.k0, h.k1⟩
theorem asked_zero {D : Dk} {p : Int} (h : D.asked p = 0) : D.down = false ∧ 0 ≤ p ∧ p < D.n := by
  unfold Dk.asked at h
  by_cases hd : D.down = true
  · simp [hd] at h
  · by_cases hp : p < 0 ∨ (D.n : Int) ≤ p
    · simp [hd, hp] at h
    · exact ⟨by simpa using hd, by omega, by omega⟩
theorem put_ref {n m : Nat} {D : Dk} (h : Wd n m D) (hm : m < 100000) (hn : n ≤ 100000) (p : Int) (l : List UInt8) (k : Nat) (hk : 3 * m + 100 ≤ k) :
    keyloftref08_Put.f k (secs D.n D.lasts) (D.wait.map toS) D.cutAt D.keep D.torn D.count D.down p (str l) = some (secs D.n (D.write p l).lasts, (D.write p l).wait.map toS, (D.write p l).cutAt, (D.write p l).keep, (D.write p l).torn, (D.write p l).count, (D.write p l).down, D.writeE p l) := by
  have hl := h.len
  obtain ⟨k, rfl⟩ : ∃ j, k = j + 1 := ⟨k - 1, by omega⟩
  unfold keyloftref08_Put.f
  by_cases hd : D.down = true
  · rw [if_pos hd]
    have ha : D.asked p = 7 := by simp [Dk.asked, hd]
    simp [Dk.write, Dk.writeE, ha]
  · rw [if_neg hd]
    have hd' : D.down = false := by simpa using hd
    by_cases hp : p < 0 ∨ (D.n : Int) ≤ p
    · have ha : D.asked p = 1 := by simp [Dk.asked, hd, hp]
      have e : ∀ b, (if p < 0 then keyloftref08_Put.j0 (k + 1) p (str l) true (secs D.n D.lasts) (D.wait.map toS) D.cutAt D.keep D.torn D.count D.down else keyloftref08_Put.j0 (k + 1) p (str l) (decide (p ≥ ((secs D.n D.lasts).length : Int))) (secs D.n D.lasts) (D.wait.map toS) D.cutAt D.keep D.torn D.count D.down) = b ↔ keyloftref08_Put.j0 (k + 1) p (str l) true (secs D.n D.lasts) (D.wait.map toS) D.cutAt D.keep D.torn D.count D.down = b := fun b => by
        by_cases h0 : p < 0
        · rw [if_pos h0]
        · rw [if_neg h0, decide_eq_true (by rw [secs_length]; omega)]
      refine (e _).mpr ?_
      simp only [keyloftref08_Put.j0]
      rw [if_pos (by trivial)]
      simp [Dk.write, Dk.writeE, ha]
    · have ha : D.asked p = 0 := by simp [Dk.asked, hd, hp]
      rw [if_neg (by omega), decide_eq_false (by rw [secs_length]; omega)]
      simp only [keyloftref08_Put.j0]
      rw [if_neg (by decide), str_size]
      by_cases h64 : 64 < l.length
      · rw [if_pos (by omega)]
        simp [Dk.write, Dk.writeE, ha, h64]
      · rw [if_neg (by omega), Option.bind_some, if_pos (by simp; omega), Option.bind_some, fill_ref (64 - l.length) l k (by omega) (by omega), Option.bind_some, if_pos (by simp; omega)]
        have hW := wd_push h p l (by omega) (by have := h.nn; omega) (by omega)
        have hc := counted_ref hW (by omega) hn (by exact hd') k (by omega)
        rw [show ([] ++ D.wait.map toS) ++ [(⟨p, str (Dk.fill l)⟩ : S94)] = (D.wait ++ [(⟨p, Dk.fill l⟩ : Wr)]).map toS by simp [toS]]
        have hc' : keyloftref08_counted.f k (secs D.n D.lasts) ((D.wait ++ [(⟨p, Dk.fill l⟩ : Wr)]).map toS) D.cutAt D.keep D.torn D.count D.down = _ := hc
        rw [hc', Option.bind_some]
        have hf : ({ D with wait := D.wait ++ [(⟨p, Dk.fill l⟩ : Wr)] } : Dk).failing = D.failing := rfl
        rw [hf]
        by_cases hfl : D.failing = true
        · simp [hfl, Dk.write, Dk.writeE, ha, h64]
        · simp [hfl, Dk.write, Dk.writeE, ha, h64]
theorem wd_write {n m : Nat} {D : Dk} (h : Wd n m D) (p : Int) (l : List UInt8) : Wd n (m + 2) (D.write p l) := by
  unfold Dk.write
  by_cases ha : D.asked p = 0
  · have hz := asked_zero ha
    rw [if_neg (by simpa using ha)]
    by_cases h64 : 64 < l.length
    · rw [if_pos h64]; exact wd_mono h (by omega)
    · rw [if_neg h64]
      exact wd_counted (wd_push h p l hz.2.1 (by have := h.nn; omega) (by omega))
  · rw [if_pos ha]; exact wd_mono h (by omega)
theorem read_loop (p : Int) (LL : List ByteArray) (W : List Wr) (hm : W.length ≤ 100000) (a2 a3 a4 c : Int) (off : Bool) : ∀ (d i k : Nat) (s : List UInt8), i + d = W.length → d < k →
    keyloftref08_Read.l0 k p (str s) (i : Int) LL (W.map toS) a2 a3 a4 c off = some (str ((Dk.latest (W.drop i) p).getD s), 0)
  | 0, i, k + 1, s, hi, hk => by
    simp only [keyloftref08_Read.l0]
    rw [if_neg (by simp; omega), List.drop_of_length_le (by omega)]
    rfl
  | d + 1, i, k + 1, s, hi, hk => by
    have hil : i < W.length := by omega
    simp only [keyloftref08_Read.l0]
    rw [if_pos (by simp; omega), if_pos (by omega), toS_get W i _ (List.getElem?_eq_getElem hil), wrap64_nat i (by omega), List.drop_eq_getElem_cons hil]
    by_cases hp : W[i].place = p
    · rw [if_pos (by exact hp)]
      refine (read_loop p LL W hm a2 a3 a4 c off d (i + 1) k W[i].data (by omega) (by omega)).trans ?_
      simp only [Dk.latest, hp, if_true]
      cases Dk.latest (W.drop (i + 1)) p <;> rfl
    · rw [if_neg (by exact hp)]
      refine (read_loop p LL W hm a2 a3 a4 c off d (i + 1) k s (by omega) (by omega)).trans ?_
      simp only [Dk.latest, hp, if_false]
      cases Dk.latest (W.drop (i + 1)) p <;> rfl
theorem read_ref {n m : Nat} {D : Dk} (h : Wd n m D) (hm : m < 100000) (p : Int) (k : Nat) (hk : m + 10 ≤ k) :
    keyloftref08_Read.f k (secs D.n D.lasts) (D.wait.map toS) D.cutAt D.keep D.torn D.count D.down p = some (str (D.read p), D.asked p) := by
  have hl := h.len
  obtain ⟨k, rfl⟩ : ∃ j, k = j + 1 := ⟨k - 1, by omega⟩
  unfold keyloftref08_Read.f
  by_cases hd : D.down = true
  · rw [if_pos hd]
    have ha : D.asked p = 7 := by simp [Dk.asked, hd]
    simp [Dk.read, ha, str_nil]
  · rw [if_neg hd]
    by_cases hp : p < 0 ∨ (D.n : Int) ≤ p
    · have ha : D.asked p = 1 := by simp [Dk.asked, hd, hp]
      by_cases h0 : p < 0
      · rw [if_pos h0]
        simp [keyloftref08_Read.j0, Dk.read, ha, str_nil]
      · rw [if_neg h0, decide_eq_true (by rw [secs_length]; omega)]
        simp [keyloftref08_Read.j0, Dk.read, ha, str_nil]
    · have ha : D.asked p = 0 := by simp [Dk.asked, hd, hp]
      rw [if_neg (by omega), decide_eq_false (by rw [secs_length]; omega)]
      simp only [keyloftref08_Read.j0]
      rw [if_neg (by decide), if_pos (by omega), if_pos (by rw [secs_length]; omega), secs_rd D.n D.lasts p (by omega) (by omega)]
      refine (read_loop p _ D.wait (by omega) _ _ _ _ _ D.wait.length 0 k _ (by omega) (by omega)).trans ?_
      simp [Dk.read, ha, Dk.sector]
theorem flush_loop (n : Nat) (W : List Wr) (hW : ∀ x ∈ W, 0 ≤ x.place ∧ x.place < n ∧ x.data.length = 64) (hm : W.length ≤ 100000) (LL0 : List ByteArray) (a2 a3 a4 c : Int) (off : Bool) : ∀ (d i k : Nat) (L : List UInt8), i + d = W.length → L.length = 64 * n → d < k →
    keyloftref08_Flush.l0 k (secs n L) (i : Int) LL0 (W.map toS) a2 a3 a4 c off = some (secs n (settle (fun _ => 64) i (W.drop i) L), [], a2, a3, a4, c, off, 0)
  | 0, i, k + 1, L, hi, hL, hk => by
    simp only [keyloftref08_Flush.l0]
    rw [if_neg (by simp; omega), List.drop_of_length_le (by omega)]
    rfl
  | d + 1, i, k + 1, L, hi, hL, hk => by
    have hil : i < W.length := by omega
    have hx := hW W[i] (List.getElem_mem hil)
    simp only [keyloftref08_Flush.l0]
    have hg := toS_get W i _ (List.getElem?_eq_getElem hil)
    rw [if_pos (by simp; omega), if_pos (by omega), hg, if_pos (by exact hx.1), if_pos (by rw [secs_length]; exact hx.2.1), wrap64_nat i (by omega), List.drop_eq_getElem_cons hil]
    have hs := secs_splice n L W[i].place.toNat W[i].data (by omega) hL (by omega)
    rw [List.drop_of_length_le (by simp; omega), List.append_nil] at hs
    rw [show (secs n L).set ((toS W[i]).f0).toNat (toS W[i]).f1 = secs n (splice L (64 * W[i].place.toNat) W[i].data) from hs.symm]
    refine (flush_loop n W hW hm LL0 a2 a3 a4 c off d (i + 1) k _ (by omega) (by rw [length_splice _ _ _ (by omega)]; exact hL) (by omega)).trans ?_
    show _ = some (secs n (settle _ (i + 1) _ (splice L _ (W[i].data.take 64))), _)
    rw [List.take_of_length_le (by omega)]
theorem flush_ref {n m : Nat} {D : Dk} (h : Wd n m D) (hm : m < 100000) (hn : n ≤ 100000) (k : Nat) (hk : 3 * m + 100 ≤ k) :
    keyloftref08_Flush.f k (secs D.n D.lasts) (D.wait.map toS) D.cutAt D.keep D.torn D.count D.down = some (secs D.n D.flush.lasts, D.flush.wait.map toS, D.flush.cutAt, D.flush.keep, D.flush.torn, D.flush.count, D.flush.down, D.flushE) := by
  have hl := h.len
  unfold keyloftref08_Flush.f
  by_cases hd : D.down = true
  · rw [if_pos hd]
    simp [Dk.flush, Dk.flushE, hd]
  · rw [if_neg hd]
    have hd' : D.down = false := by simpa using hd
    rw [counted_ref h (by omega) hn hd' k (by omega), Option.bind_some]
    by_cases hf : D.failing = true
    · simp [hf, Dk.flush, Dk.flushE, hd]
    · have hc : ¬ D.cutAt = D.count + 1 := by simpa [Dk.failing] using hf
      have hcd : D.counted = { D with count := D.count + 1 } := by unfold Dk.counted; rw [if_neg hc]
      rw [if_neg (by simpa using hf), Option.bind_some, if_pos (by rw [secs_length]; simp; have := h.nn; omega), List.nil_append, hcd]
      refine (flush_loop D.n D.wait (by rw [h.nn]; exact h.W) (by omega) _ _ _ _ _ _ D.wait.length 0 k D.lasts (by omega) (by rw [h.nn]; exact h.L) (by omega)).trans ?_
      simp [Dk.flush, Dk.flushE, hd, hf, hcd]
theorem wd_flush {n m : Nat} {D : Dk} (h : Wd n m D) : Wd n (m + 1) D.flush := by
  unfold Dk.flush
  by_cases hd : D.down = true
  · rw [if_pos hd]; exact wd_mono h (by omega)
  · rw [if_neg hd]
    have hc := wd_counted h
    by_cases hf : D.failing = true
    · rw [if_pos hf]; exact hc
    · rw [if_neg hf]
      exact ⟨hc.nn, settle_length _ n _ _ _ h.W h.L, fun x hx => by simp at hx, by simp, hc.c0, hc.c1, hc.k0, hc.k1⟩
theorem crash_ref {n m : Nat} {D : Dk} (h : Wd n m D) (hm : m < 100000) (hn : n ≤ 100000) (keep torn : Int) (hk0 : 0 ≤ keep) (k : Nat) (hk : 3 * m + 100 ≤ k) :
    keyloftref08_Crash.f k (secs D.n D.lasts) (D.wait.map toS) D.cutAt D.keep D.torn D.count D.down keep torn = some (secs D.n (D.crash keep torn).lasts, (D.crash keep torn).wait.map toS, (D.crash keep torn).cutAt, (D.crash keep torn).keep, (D.crash keep torn).torn, (D.crash keep torn).count, (D.crash keep torn).down) := by
  have hl := h.len
  unfold keyloftref08_Crash.f
  by_cases hd : D.down = true
  · rw [if_pos hd]
    simp [Dk.crash, hd]
  · rw [if_neg hd, fail_ref keep torn hk0 D.n D.wait (by rw [h.nn]; exact h.W) (by omega) (by rw [h.nn]; omega) D.lasts (by rw [h.nn]; exact h.L) _ _ _ _ _ _ (by omega)]
    simp [Dk.crash, hd]
theorem wd_crash {n m : Nat} {D : Dk} (h : Wd n m D) (keep torn : Int) : Wd n m (D.crash keep torn) := by
  unfold Dk.crash
  by_cases hd : D.down = true
  · rw [if_pos hd]; exact h
  · rw [if_neg hd]
    exact ⟨h.nn, settle_length _ n _ _ _ h.W h.L, fun x hx => by simp at hx, by simp, h.c0, h.c1, by show (0 : Int) ≤ 0; omega, by show (0 : Int) ≤ _; omega⟩
theorem wd_arm {n m : Nat} {D : Dk} (h : Wd n m D) (a k t : Int) (hk0 : 0 ≤ k) (hk1 : k ≤ 18446744073709551615) : Wd n m (D.arm a k t) := by
  unfold Dk.arm
  by_cases ha : a < 1
  · rw [if_pos ha]; exact ⟨h.nn, h.L, h.W, h.len, by show (0 : Int) ≤ 0; omega, by show (0 : Int) ≤ _; omega, by show (0 : Int) ≤ 0; omega, by show (0 : Int) ≤ _; omega⟩
  · rw [if_neg ha]; exact ⟨h.nn, h.L, h.W, h.len, by show (0 : Int) ≤ 0; omega, by show (0 : Int) ≤ _; omega, hk0, hk1⟩
theorem wd_start {n m : Nat} {D : Dk} (h : Wd n m D) : Wd n m D.start := ⟨h.nn, h.L, h.W, h.len, h.c0, h.c1, h.k0, h.k1⟩
theorem wd_new (n : Nat) : Wd n 0 (Dk.new n) := ⟨rfl, by simp [Dk.new], fun x hx => by simp [Dk.new] at hx, by simp [Dk.new], by simp [Dk.new], by simp [Dk.new], by simp [Dk.new], by simp [Dk.new]⟩
theorem image_loop (n : Nat) (L : List UInt8) (hL : L.length = 64 * n) (hn : n ≤ 100000) (W : List S94) (a2 a3 a4 c : Int) (off : Bool) : ∀ (d i k : Nat), i + d = n → d < k →
    keyloftref08_Image.l0 k (str (L.take (64 * i))) (i : Int) (secs n L) W a2 a3 a4 c off = some (str L)
  | 0, i, k + 1, hi, hk => by
    simp only [keyloftref08_Image.l0]
    rw [if_neg (by rw [secs_length]; omega), List.take_of_length_le (by omega)]
  | d + 1, i, k + 1, hi, hk => by
    simp only [keyloftref08_Image.l0]
    have hs := secs_rd n L i (by omega) (by omega)
    have hl := sec_length n L i (by omega) hL
    rw [if_pos (by rw [secs_length]; omega), if_pos (by omega), hs, str_size, str_size, if_pos (by
      have e : ((i : Int)).toNat = i := rfl
      rw [e, hl]; simp; omega), str_append, wrap64_nat i (by omega)]
    rw [show L.take (64 * i) ++ (L.drop (64 * ((i : Int)).toNat)).take 64 = L.take (64 * (i + 1)) by
      rw [show 64 * (i + 1) = 64 * i + 64 by omega, List.take_add]; rfl]
    exact image_loop n L hL hn W a2 a3 a4 c off d (i + 1) k (by omega) (by omega)
theorem image_ref {n m : Nat} {D : Dk} (h : Wd n m D) (hn : n ≤ 100000) (k : Nat) (hk : n + 10 ≤ k) :
    keyloftref08_Image.f k (secs D.n D.lasts) (D.wait.map toS) D.cutAt D.keep D.torn D.count D.down = some (str D.lasts) := by
  unfold keyloftref08_Image.f
  have := image_loop D.n D.lasts (by rw [h.nn]; exact h.L) (by rw [h.nn]; omega) (D.wait.map toS) D.cutAt D.keep D.torn D.count D.down D.n 0 k (by omega) (by rw [h.nn]; omega)
  exact this
theorem new_loop (n : Nat) (hn : n ≤ 100000) : ∀ (d i k : Nat), i + d = n → d + 70 < k →
    keyloftref08_New.l0 k (n : Int) (i : Int) (List.replicate i (str (List.replicate 64 0))) 0 0 0 0 false = some (List.replicate n (str (List.replicate 64 0)), [], 0, 0, 0, 0, false)
  | 0, i, k + 1, hi, hk => by
    simp only [keyloftref08_New.l0]
    rw [if_neg (by omega), show i = n by omega]
  | d + 1, i, k + 1, hi, hk => by
    simp only [keyloftref08_New.l0]
    have hf : keyloftref08_fill.f k (⟨#[]⟩ : ByteArray) = some (str (List.replicate 64 0)) := fill_ref 64 [] k (by simp) (by omega)
    rw [if_pos (by omega), hf, Option.bind_some, if_pos (by simp; omega), wrap64_nat i (by omega)]
    rw [show List.replicate i (str (List.replicate 64 0)) ++ [str (List.replicate 64 0)] = List.replicate (i + 1) (str (List.replicate 64 0)) from (List.replicate_succ' ..).symm]
    exact new_loop n hn d (i + 1) k (by omega) (by omega)
theorem secs_zero (n : Nat) : secs n (List.replicate (64 * n) 0) = List.replicate n (str (List.replicate 64 0)) := by
  apply List.ext_getElem?
  intro p
  by_cases hp : p < n
  · rw [secs_get _ _ _ hp, List.getElem?_replicate, if_pos hp, List.drop_replicate, List.take_replicate, show min 64 (64 * n - 64 * p) = 64 by omega]
  · rw [List.getElem?_eq_none (by rw [secs_length]; omega), List.getElem?_eq_none (by simp; omega)]
theorem new_ref (n : Nat) (hn : n ≤ 100000) (k : Nat) (hk : n + 100 ≤ k) : keyloftref08_New.f k (n : Int) = some (secs n (Dk.new n).lasts, [], 0, 0, 0, 0, false) := by
  unfold keyloftref08_New.f
  rw [show (Dk.new n).lasts = List.replicate (64 * n) 0 from rfl, secs_zero]
  exact new_loop n hn n 0 k (by omega) (by omega)
theorem few_loop (l : List S33) : ∀ (d i k : Nat), i + d = 200 → d < k → ∃ b, keyloftlaw08_Few.l0 k l (i : Int) = some b ∧ (b = true → l.length ≤ 200)
  | 0, i, k + 1, hi, hk => by
    simp only [keyloftlaw08_Few.l0]
    by_cases h : (i : Int) < l.length
    · rw [if_pos h, if_pos (by omega)]; exact ⟨false, rfl, fun h => by simp at h⟩
    · rw [if_neg h]
      by_cases h2 : l.length ≤ 200
      · exact ⟨true, rfl, fun _ => h2⟩
      · exact ⟨true, rfl, fun _ => by omega⟩
  | d + 1, i, k + 1, hi, hk => by
    simp only [keyloftlaw08_Few.l0]
    by_cases h : (i : Int) < l.length
    · rw [if_pos h]
      by_cases h1 : (i : Int) ≥ 200
      · rw [if_pos h1]; exact ⟨false, rfl, fun h => by simp at h⟩
      · rw [if_neg h1, if_pos (by omega)]
        by_cases h2 : (((rd_T33 l i).f2).size : Int) > 300
        · rw [if_pos h2]; exact ⟨false, rfl, fun h => by simp at h⟩
        · rw [if_neg h2, wrap64_nat i (by omega)]
          exact few_loop l d (i + 1) k (by omega) (by omega)
    · rw [if_neg h]; exact ⟨true, rfl, fun _ => by omega⟩
theorem few_ref (l : List S33) : ∃ b, keyloftlaw08_Few.f 1000 l = some b ∧ (b = true → l.length ≤ 200) := few_loop l 200 0 1000 (by omega) (by omega)
end Go.Proofs.Ythlngbdbmnnnaaa
