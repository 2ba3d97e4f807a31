/- Segments: sizes, packed bits, and when a segment is valid. -/
import Derived.Test.YtajidgilfkineaaBm
import Derived.Test.YtajidgilfkineaaFsegmentHeader
import Derived.Test.YtajidgilfkineaaFref12Header
import Derived.Test.YtajidgilfkineaaFsegmentSame
import Derived.Test.YtajidgilfkineaaFref12Same
import Derived.Test.YtajidgilfkineaaFref02SameBytes
set_option linter.unusedVariables false
set_option linter.unusedSimpArgs false
namespace Go.Proofs.Ytajidgilfkineaa.Seg
open Go Ev Bm

/-! ### Sizes -/
def szGo : Nat → Int → List Int → List Int
  | 0, _, acc => acc
  | f + 1, n, acc => if n > 0 then szGo f (n / 128) ((n % 128 + 128) :: acc) else acc
/-- The bytes of a size. -/
def sz (n : Int) : List Int := szGo 5 (n / 128) [n % 128]
theorem szGo_len : ∀ f n acc, (szGo f n acc).length ≤ f + acc.length
  | 0, n, acc => by simp [szGo]
  | f + 1, n, acc => by
    simp only [szGo]
    split
    · have := szGo_len f (n / 128) ((n % 128 + 128) :: acc)
      simp at this
      omega
    · omega
theorem sz_len (n : Int) : (sz n).length ≤ 6 := szGo_len 5 _ _
theorem size_loop {fl : Nat} {b : List Int → Option Ans} : ∀ (f : Nat) (n : Int) (acc : List Int) (m : Nat), f < m → 0 ≤ n → n ≤ 2147483647 → n < 128 ^ f → acc.length + f ≤ 100 → iter (S_bits_Size_0 fl) m (n, acc) b = b (szGo f n acc)
  | 0, n, acc, m, hm, h0, h2, h1, hl => by
    obtain ⟨m, rfl⟩ : ∃ k, m = k + 1 := ⟨m - 1, by omega⟩
    have : n = 0 := by simp at h1; omega
    subst this
    simp only [iter, S_bits_Size_0, szGo]
    rw [dec_f (by omega)]
  | f + 1, n, acc, m, hm, h0, h2, h1, hl => by
    obtain ⟨m, rfl⟩ : ∃ k, m = k + 1 := ⟨m - 1, by omega⟩
    simp only [iter, S_bits_Size_0, szGo]
    by_cases hn : n > 0
    · have hq : n / 128 < 128 ^ f := by
        rw [Int.pow_succ] at h1
        exact Int.ediv_lt_of_lt_mul (by omega) h1
      rw [dec_t hn, if_pos hn, dec_t (by simp; omega)]
      have e1 : n.tmod 128 = n % 128 := Int.tmod_eq_emod_of_nonneg h0
      have e2 : n.tdiv 128 = n / 128 := Int.tdiv_eq_ediv_of_nonneg h0
      rw [e1, e2, wrap8 (x := n % 128) (by omega) (by omega), wrap8 (by omega) (by omega), List.singleton_append, wrap64 (by omega) (by omega)]
      exact size_loop f (n / 128) _ m (by omega) (by omega) (by omega) hq (by simp; omega)
    · rw [dec_f hn, if_neg hn]
theorem rsize_loop {fl : Nat} {b : List Int → Option Ans} : ∀ (f : Nat) (n : Int) (acc : List Int) (m : Nat), f < m → 0 ≤ n → n ≤ 2147483647 → n < 128 ^ f → acc.length + f ≤ 100 → iter (S_ref01_Size_0 fl) m (n, acc) b = b (szGo f n acc)
  | 0, n, acc, m, hm, h0, h2, h1, hl => by
    obtain ⟨m, rfl⟩ : ∃ k, m = k + 1 := ⟨m - 1, by omega⟩
    have : n = 0 := by simp at h1; omega
    subst this
    simp only [iter, S_ref01_Size_0, szGo]
    rw [dec_f (by omega)]
  | f + 1, n, acc, m, hm, h0, h2, h1, hl => by
    obtain ⟨m, rfl⟩ : ∃ k, m = k + 1 := ⟨m - 1, by omega⟩
    simp only [iter, S_ref01_Size_0, szGo]
    by_cases hn : n > 0
    · have hq : n / 128 < 128 ^ f := by
        rw [Int.pow_succ] at h1
        exact Int.ediv_lt_of_lt_mul (by omega) h1
      rw [dec_t hn, if_pos hn, dec_t (by simp; omega)]
      have e1 : n.tmod 128 = n % 128 := Int.tmod_eq_emod_of_nonneg h0
      have e2 : n.tdiv 128 = n / 128 := Int.tdiv_eq_ediv_of_nonneg h0
      rw [e1, e2, wrap64 (x := 128 + n % 128) (by omega) (by omega), wrap8 (by omega) (by omega), List.singleton_append, wrap64 (by omega) (by omega), Int.add_comm 128]
      exact rsize_loop f (n / 128) _ m (by omega) (by omega) (by omega) hq (by simp; omega)
    · rw [dec_f hn, if_neg hn]
/-- What Size returns. -/
def sizeR (n : Int) : Int × List Int := if 0 ≤ n ∧ n ≤ 2147483647 then (0, sz n) else (2, [])
theorem bsize {fl : Nat} (hfl : 9223372036854775808 ≤ fl) {n : Int} {K : Int × List Int → Option Ans} : F_bits_Size fl n K = K (sizeR n) := by
  unfold F_bits_Size sizeR
  by_cases h : 0 ≤ n ∧ n ≤ 2147483647
  · rw [dec_f (by omega), dec_f (by omega), if_pos h]
    unfold L_bits_Size_0
    have e1 : n.tmod 128 = n % 128 := Int.tmod_eq_emod_of_nonneg h.1
    have e2 : n.tdiv 128 = n / 128 := Int.tdiv_eq_ediv_of_nonneg h.1
    rw [e1, e2, wrap8 (by omega) (by omega), wrap64 (by omega) (by omega)]
    exact size_loop 5 (n / 128) _ fl (by omega) (by omega) (by omega) (by rw [show (128 : Int) ^ 5 = 34359738368 by decide]; omega) (by simp)
  · rw [if_neg h]
    by_cases h0 : n < 0
    · rw [dec_t h0]
    · rw [dec_f h0, dec_t (by omega)]
theorem rbsize {fl : Nat} (hfl : 9223372036854775808 ≤ fl) {n : Int} {K : Int × List Int → Option Ans} : F_ref01_Size fl n K = K (sizeR n) := by
  unfold F_ref01_Size sizeR
  by_cases h : 0 ≤ n ∧ n ≤ 2147483647
  · rw [dec_f (by omega), dec_f (by omega), if_pos h]
    unfold L_ref01_Size_0
    have e1 : n.tmod 128 = n % 128 := Int.tmod_eq_emod_of_nonneg h.1
    have e2 : n.tdiv 128 = n / 128 := Int.tdiv_eq_ediv_of_nonneg h.1
    rw [e1, e2, wrap8 (by omega) (by omega), wrap64 (by omega) (by omega)]
    exact rsize_loop 5 (n / 128) _ fl (by omega) (by omega) (by omega) (by rw [show (128 : Int) ^ 5 = 34359738368 by decide]; omega) (by simp)
  · rw [if_neg h]
    by_cases h0 : n < 0
    · rw [dec_t h0]
    · rw [dec_f h0, dec_t (by omega)]
theorem rsz {fl : Nat} (hfl : 9223372036854775808 ≤ fl) {n : Int} (h0 : 0 ≤ n) (h1 : n ≤ 2147483647) {K : List Int → Option Ans} : F_ref12_size fl n K = K (sz n) := by
  unfold F_ref12_size
  rw [rbsize hfl]
  unfold sizeR
  rw [if_pos ⟨h0, h1⟩]
theorem psz {fl : Nat} (hfl : 9223372036854775808 ≤ fl) {n : Int} {l : List Int} (h0 : 0 ≤ n) (h1 : n ≤ 2147483647) (hl : l.length ≤ 1000000) {K : List Int → Option Ans} : F_segment_Header_1_35f fl n l K = K (l ++ sz n) := by
  unfold F_segment_Header_1_35f
  have := sz_len n
  rw [bsize hfl]
  unfold sizeR
  rw [if_pos ⟨h0, h1⟩]
  dsimp only
  rw [dec_t (by omega)]

/-! ### Packed bits -/
def B8 (b0 b1 b2 b3 b4 b5 b6 b7 : Bool) : Int := b0.toNat * 128 + b1.toNat * 64 + b2.toNat * 32 + b3.toNat * 16 + b4.toNat * 8 + b5.toNat * 4 + b6.toNat * 2 + b7.toNat
theorem ior_step : ∀ (t : Fin 8) (b0 b1 b2 b3 b4 b5 b6 b7 : Bool),
    ior .u8 (B8 (b0 && decide (0 < t.val)) (b1 && decide (1 < t.val)) (b2 && decide (2 < t.val)) (b3 && decide (3 < t.val)) (b4 && decide (4 < t.val)) (b5 && decide (5 < t.val)) (b6 && decide (6 < t.val)) (b7 && decide (7 < t.val)))
      (ishl .u8 (([b0, b1, b2, b3, b4, b5, b6, b7].getD t.val false).toNat : Int) (7 - (t.val : Int)))
    = B8 (b0 && decide (0 < t.val + 1)) (b1 && decide (1 < t.val + 1)) (b2 && decide (2 < t.val + 1)) (b3 && decide (3 < t.val + 1)) (b4 && decide (4 < t.val + 1)) (b5 && decide (5 < t.val + 1)) (b6 && decide (6 < t.val + 1)) (b7 && decide (7 < t.val + 1)) := by
  decide +kernel
theorem add_step : ∀ (t : Fin 8) (b0 b1 b2 b3 b4 b5 b6 b7 : Bool),
    (if [b0, b1, b2, b3, b4, b5, b6, b7].getD t.val false = true then
      IntKind.u8.wrap (B8 (b0 && decide (0 < t.val)) (b1 && decide (1 < t.val)) (b2 && decide (2 < t.val)) (b3 && decide (3 < t.val)) (b4 && decide (4 < t.val)) (b5 && decide (5 < t.val)) (b6 && decide (6 < t.val)) (b7 && decide (7 < t.val)) + ishr .u8 128 (t.val : Int))
     else B8 (b0 && decide (0 < t.val)) (b1 && decide (1 < t.val)) (b2 && decide (2 < t.val)) (b3 && decide (3 < t.val)) (b4 && decide (4 < t.val)) (b5 && decide (5 < t.val)) (b6 && decide (6 < t.val)) (b7 && decide (7 < t.val)))
    = B8 (b0 && decide (0 < t.val + 1)) (b1 && decide (1 < t.val + 1)) (b2 && decide (2 < t.val + 1)) (b3 && decide (3 < t.val + 1)) (b4 && decide (4 < t.val + 1)) (b5 && decide (5 < t.val + 1)) (b6 && decide (6 < t.val + 1)) (b7 && decide (7 < t.val + 1)) := by
  decide +kernel
/-- Byte j of the first i bits. -/
def by8 (l : List Bool) (i j : Nat) : Int :=
  let g := fun t => l.getD (8 * j + t) false && decide (8 * j + t < i)
  B8 (g 0) (g 1) (g 2) (g 3) (g 4) (g 5) (g 6) (g 7)
def pk (l : List Bool) (i n : Nat) : List Int := (List.range n).map (by8 l i)
theorem pk_len (l : List Bool) (i n : Nat) : (pk l i n).length = n := by simp [pk]
theorem pk_zero (l : List Bool) (n : Nat) : pk l 0 n = List.replicate n 0 := by
  apply List.ext_getElem (by simp [pk])
  intro i h1 h2
  simp [pk, by8, B8]
theorem pk_get {l : List Bool} {i n j : Nat} (h : j < n) : (pk l i n).getD j 0 = by8 l i j := by
  rw [getD_lt (by rw [pk_len]; exact h)]
  simp [pk]
theorem pk_set {l : List Bool} {i n : Nat} (h : i / 8 < n) : (pk l i n).set (i / 8) (by8 l (i + 1) (i / 8)) = pk l (i + 1) n := by
  apply List.ext_getElem (by simp [pk])
  intro j h1 h2
  simp only [pk_len] at h2
  rw [List.getElem_set]
  split
  · rename_i e; subst e; simp [pk]
  · rename_i e
    simp only [pk, List.getElem_map, List.getElem_range, by8]
    have hd : ∀ t, t < 8 → (decide (8 * j + t < i)) = decide (8 * j + t < i + 1) := fun t ht => decide_eq_decide.2 (by omega)
    rw [hd 0 (by omega), hd 1 (by omega), hd 2 (by omega), hd 3 (by omega), hd 4 (by omega), hd 5 (by omega), hd 6 (by omega), hd 7 (by omega)]
theorem by8_lo {l : List Bool} {i m : Nat} (hm : m = i ∨ m = i + 1) : by8 l m (i / 8) = (let g := fun t => l.getD (8 * (i / 8) + t) false
    let u := i % 8 + (m - i)
    B8 (g 0 && decide (0 < u)) (g 1 && decide (1 < u)) (g 2 && decide (2 < u)) (g 3 && decide (3 < u)) (g 4 && decide (4 < u)) (g 5 && decide (5 < u)) (g 6 && decide (6 < u)) (g 7 && decide (7 < u))) := by
  have hd : ∀ t, decide (8 * (i / 8) + t < m) = decide (t < i % 8 + (m - i)) := fun t => decide_eq_decide.2 (by omega)
  simp only [by8, hd]
theorem get8 (l : List Bool) (a : Nat) : ∀ t, t < 8 → [l.getD (a + 0) false, l.getD (a + 1) false, l.getD (a + 2) false, l.getD (a + 3) false, l.getD (a + 4) false, l.getD (a + 5) false, l.getD (a + 6) false, l.getD (a + 7) false].getD t false = l.getD (a + t) false := by
  intro t ht
  match t, ht with
  | 0, _ => rfl
  | 1, _ => rfl
  | 2, _ => rfl
  | 3, _ => rfl
  | 4, _ => rfl
  | 5, _ => rfl
  | 6, _ => rfl
  | 7, _ => rfl
theorem by8_ior (l : List Bool) (i : Nat) : ior .u8 (by8 l i (i / 8)) (ishl .u8 ((l.getD i false).toNat : Int) (7 - ((i % 8 : Nat) : Int))) = by8 l (i + 1) (i / 8) := by
  have h := ior_step ⟨i % 8, by omega⟩ (l.getD (8 * (i / 8) + 0) false) (l.getD (8 * (i / 8) + 1) false) (l.getD (8 * (i / 8) + 2) false) (l.getD (8 * (i / 8) + 3) false) (l.getD (8 * (i / 8) + 4) false) (l.getD (8 * (i / 8) + 5) false) (l.getD (8 * (i / 8) + 6) false) (l.getD (8 * (i / 8) + 7) false)
  simp only at h
  rw [get8 l (8 * (i / 8)) (i % 8) (by omega), show 8 * (i / 8) + i % 8 = i by omega] at h
  rw [by8_lo (.inl rfl), by8_lo (i := i) (.inr rfl), Nat.sub_self, Nat.add_zero, show i + 1 - i = 1 by omega]
  exact h
theorem by8_add (l : List Bool) (i : Nat) : (if l.getD i false = true then IntKind.u8.wrap (by8 l i (i / 8) + ishr .u8 128 ((i % 8 : Nat) : Int)) else by8 l i (i / 8)) = by8 l (i + 1) (i / 8) := by
  have h := add_step ⟨i % 8, by omega⟩ (l.getD (8 * (i / 8) + 0) false) (l.getD (8 * (i / 8) + 1) false) (l.getD (8 * (i / 8) + 2) false) (l.getD (8 * (i / 8) + 3) false) (l.getD (8 * (i / 8) + 4) false) (l.getD (8 * (i / 8) + 5) false) (l.getD (8 * (i / 8) + 6) false) (l.getD (8 * (i / 8) + 7) false)
  simp only at h
  rw [get8 l (8 * (i / 8)) (i % 8) (by omega), show 8 * (i / 8) + i % 8 = i by omega] at h
  rw [by8_lo (.inl rfl), by8_lo (i := i) (.inr rfl), Nat.sub_self, Nat.add_zero, show i + 1 - i = 1 by omega]
  exact h

/-- The bits as bytes. -/
def bits (l : List Bool) : List Int := l.map fun b => (b.toNat : Int)
theorem bits_len (l : List Bool) : (bits l).length = l.length := by simp [bits]
theorem bits_get {l : List Bool} {i : Nat} (h : i < l.length) : (bits l).getD i 0 = ((l.getD i false).toNat : Int) := by
  rw [getD_lt (by rw [bits_len]; exact h), getD_lt h]
  simp [bits]
/-- The packed bits. -/
def packed (l : List Bool) : List Int := pk l l.length ((l.length + 7) / 8)
theorem packed_len (l : List Bool) : (packed l).length = (l.length + 7) / 8 := pk_len _ _ _
theorem tdiv8 (i : Nat) : (i : Int).tdiv 8 = ((i / 8 : Nat) : Int) := by rw [Int.tdiv_eq_ediv_of_nonneg (by omega)]; omega
theorem tmod8 (i : Nat) : (i : Int).tmod 8 = ((i % 8 : Nat) : Int) := by rw [Int.tmod_eq_emod_of_nonneg (by omega)]; omega
theorem up8 (n : Nat) (h : n ≤ 1000000000) : IntKind.i64.wrap ((IntKind.i64.wrap ((n : Int) + 7)).tdiv 8) = (((n + 7) / 8 : Nat) : Int) := by
  rw [wrap64 (x := (n : Int) + 7) (by omega) (by omega)]
  have := tdiv8 (n + 7)
  rw [show ((n + 7 : Nat) : Int) = (n : Int) + 7 by omega] at this
  rw [this]
  exact wrap64 (by omega) (by omega)
theorem pack {fl : Nat} (hfl : 9223372036854775808 ≤ fl) {l : List Bool} (hl : l.length ≤ 1000000000) {K : Int × List Int → Option Ans} : F_bits_Pack fl (bits l) K = K (0, packed l) := by
  unfold F_bits_Pack
  rw [bits_len, up8 _ hl, dec_t (by omega), Int.toNat_natCast]
  unfold L_bits_Pack_0 packed
  refine iter_seq (step := S_bits_Pack_0 fl) (fun i : Nat => (bits l, (l.length : Int), (i : Int), pk l i ((l.length + 7) / 8))) l.length (by simp only [pk_zero]; rfl) (fun i hi c => ?_) (fun c => ?_) (by omega)
  · have hb : ((l.getD i false).toNat : Int) ≤ 1 := by cases l.getD i false <;> simp
    simp (disch := first | omega | (simp only [bits_len, pk_len]; omega)) only [S_bits_Pack_0, dec_t, dec_f, tdiv8, tmod8, wrap64, Int.toNat_natCast, bits_get hi, pk_get, by8_ior, pk_set]
    rfl
  · simp (disch := omega) only [S_bits_Pack_0, dec_f]
end Go.Proofs.Ytajidgilfkineaa.Seg
