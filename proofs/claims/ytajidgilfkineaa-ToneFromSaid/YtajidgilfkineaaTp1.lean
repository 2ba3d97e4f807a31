/- Planes, as a list of lists. -/
import Derived.Test.YtajidgilfkineaaPu
import Derived.Test.YtajidgilfkineaaFlaw11Sane
set_option linter.unusedVariables false
set_option linter.unusedSimpArgs false
namespace Go.Proofs.Ytajidgilfkineaa.Tone
open Go Ev

theorem getD_mid {α : Type} (pre : List α) (x : α) (suf : List α) (d : α) : (pre ++ x :: suf).getD pre.length d = x := by simp

/-- Not a value of k bits. -/
def bad (k v : Int) : Bool := decide (v < 0) || decide (v ≥ 2 ^ k.toNat)
theorem f58 {fl : Nat} {v k : Int} {K : Bool × Int → Option Ans} (h0 : 0 ≤ k) (h : k ≤ 62) : F_tone_Planes_1_e21 fl v k K = K (bad k v, k) := by
  unfold F_tone_Planes_1_e21 bad
  by_cases hv : v < 0
  · rw [dec_t hv, decide_eq_true hv]; rfl
  · rw [dec_f hv, dec_f (by omega), decide_eq_false hv, ishl_one h0 h]; rfl

def ffind (p : Int → Bool) : List Int → Option Nat
  | [] => none
  | x :: r => bif p x then some 0 else (match ffind p r with | some j => some (j + 1) | none => none)
theorem ffind_any (p : Int → Bool) : ∀ l, (ffind p l).isSome = l.any p
  | [] => rfl
  | x :: r => by
    simp only [ffind, List.any_cons]
    cases hp : p x with
    | true => rfl
    | false =>
      simp only [cond_false, Bool.false_or]
      rw [← ffind_any p r]
      cases ffind p r <;> rfl

theorem idx_loop {fl : Nat} {k : Int} (h0 : 0 ≤ k) (h : k ≤ 62) {ret : Int × Int → Option Ans} {b : Int → Option Ans} : ∀ (suf pre : List Int) (n : Nat), suf.length < n → pre.length + suf.length < 4611686018427387904 →
    iter (S_slices_IndexFunc_int_int_69c_0 fl) n (pre ++ suf, ((pre.length + suf.length : Nat) : Int), (pre.length : Int), k) (ret, b) = match ffind (bad k) suf with | some j => ret ((pre.length : Int) + j, k) | none => b k
  | [], pre, n, hn, hl => by
    obtain ⟨m, rfl⟩ : ∃ m, n = m + 1 := ⟨n - 1, by simp at hn; omega⟩
    simp only [iter, S_slices_IndexFunc_int_int_69c_0]
    rw [dec_f (by simp)]
    rfl
  | x :: suf, pre, n, hn, hl => by
    obtain ⟨m, rfl⟩ : ∃ m, n = m + 1 := ⟨n - 1, by simp at hn; omega⟩
    simp only [List.length_cons] at hn hl
    simp only [iter, S_slices_IndexFunc_int_int_69c_0]
    rw [dec_t (by simp; omega), dec_t (by simp; omega), f58 h0 h, Int.toNat_natCast, getD_mid]
    simp only [ffind]
    cases hb : bad k x with
    | true => simp
    | false =>
      simp only [cond_false]
      have ih := idx_loop h0 h (ret := ret) (b := b) (fl := fl) suf (pre ++ [x]) m (by omega) (by simp; omega)
      rw [wrap64 (by omega) (by omega)]
      have e1 : (pre ++ [x]) ++ suf = pre ++ x :: suf := by simp
      have e2 : (((pre ++ [x]).length + suf.length : Nat) : Int) = ((pre.length + (x :: suf).length : Nat) : Int) := by simp; omega
      have e3 : (((pre ++ [x]).length : Nat) : Int) = (pre.length : Int) + 1 := by simp
      rw [e1, e2, e3] at ih
      rw [ih]
      cases ffind (bad k) suf with
      | none => rfl
      | some j => simp only []; congr 2; simp; omega

theorem f57 {k : Int} (h0 : 0 ≤ k) (h : k ≤ 62) {l : List Int} (hl : l.length < 4611686018427387904) {K : Bool × Int → Option Ans} : F_slices_ContainsFunc_int_int_69c fuel l k K = K (l.any (bad k), k) := by
  unfold F_slices_ContainsFunc_int_int_69c F_slices_IndexFunc_int_int_69c L_slices_IndexFunc_int_int_69c_0
  have := idx_loop h0 h (fl := fuel) (ret := fun v => match v with | (a, c) => K (decide (a ≥ 0), c)) (b := fun c => K (decide ((-1 : Int) ≥ 0), c)) l [] fuel (fuel_lt (by omega)) (by simpa using hl)
  simp only [List.nil_append, List.length_nil, Nat.zero_add, Int.natCast_zero] at this
  refine this.trans ?_
  rw [← ffind_any]
  cases ffind (bad k) l with
  | none => rfl
  | some j =>
    simp only [Option.isSome_some]
    rw [decide_eq_true (by omega)]

/-- Bit j of a value in Gray's code. -/
def gb (j : Nat) (v : Int) : Int := (v / 2 ^ j + v / 2 ^ (j + 1)) % 2
theorem gb_01 (j : Nat) (v : Int) : gb j v = 0 ∨ gb j v = 1 := by unfold gb; omega
theorem pow_pos' (j : Nat) : (0 : Int) < 2 ^ j := Int.pow_pos (by omega)
theorem div_le' {v : Int} (h : 0 ≤ v) (j : Nat) : 0 ≤ v / 2 ^ j ∧ v / 2 ^ j ≤ v :=
  ⟨Int.ediv_nonneg h (Int.le_of_lt (pow_pos' j)), Int.ediv_le_self _ h⟩
theorem gb_text {j v : Int} (h0 : 0 ≤ j) (h : j ≤ 7) (hv : 0 ≤ v) (hv' : v < 9223372036854775808) :
    IntKind.u8.wrap (iand .i64 (ixor .i64 (ishr .i64 v j) (ishr .i64 v (j + 1))) 1) = gb j.toNat v := by
  rw [ishr_eq h0 (by omega), ishr_eq (by omega) (by omega)]
  have a := div_le' hv j.toNat
  have b := div_le' hv (j + 1).toNat
  rw [gray_bit a.1 (by omega) b.1 (by omega)]
  have e : (j + 1).toNat = j.toNat + 1 := by omega
  rw [e]
  rw [e] at b
  unfold gb
  exact wrap8 (by omega) (by omega)

theorem plane_loop {fl : Nat} {vals out j b} (h0 : 0 ≤ j) (h : j ≤ 7) : ∀ (suf pre pl : List Int) (n : Nat), suf.length < n → pre.length + suf.length ≤ 17592186044416 → pl.length = pre.length → (∀ v ∈ suf, 0 ≤ v ∧ v < 9223372036854775808) →
    iter (S_tone_Planes_2 fl) n (vals, j, pre ++ suf, ((pre.length + suf.length : Nat) : Int), (pre.length : Int), out, pl) b = b (vals, j, out, pl ++ suf.map (gb j.toNat))
  | [], pre, pl, n, hn, hl, hp, hv => by
    obtain ⟨m, rfl⟩ : ∃ m, n = m + 1 := ⟨n - 1, by simp at hn; omega⟩
    simp only [iter, S_tone_Planes_2]
    rw [dec_f (by simp)]
    simp
  | x :: suf, pre, pl, n, hn, hl, hp, hv => by
    obtain ⟨m, rfl⟩ : ∃ m, n = m + 1 := ⟨n - 1, by simp at hn; omega⟩
    simp only [List.length_cons] at hn hl
    obtain ⟨hx0, hx1⟩ := hv x (by simp)
    simp only [iter, S_tone_Planes_2]
    rw [dec_t (by simp; omega), dec_t (by simp; omega), dec_f (by omega), wrap64 (by omega) (by omega), dec_f (by omega), Int.toNat_natCast, getD_mid, gb_text h0 h hx0 hx1, dec_t (by simp; omega)]
    have ih := plane_loop (fl := fl) (vals := vals) (out := out) (b := b) h0 h suf (pre ++ [x]) (pl ++ [gb j.toNat x]) m (by omega) (by simp; omega) (by simp [hp]) (fun v hv' => hv v (by simp [hv']))
    rw [wrap64 (by omega) (by omega)]
    have e1 : (pre ++ [x]) ++ suf = pre ++ x :: suf := by simp
    have e2 : (((pre ++ [x]).length + suf.length : Nat) : Int) = ((pre.length + (x :: suf).length : Nat) : Int) := by simp; omega
    have e3 : (((pre ++ [x]).length : Nat) : Int) = (pre.length : Int) + 1 := by simp
    rw [e1, e2, e3] at ih
    rw [ih]
    simp

/-- The planes, the highest first. -/
def plD (vals : List Int) : Nat → List (List Int)
  | 0 => []
  | t + 1 => vals.map (gb t) :: plD vals t
theorem plD_length (vals : List Int) : ∀ t, (plD vals t).length = t
  | 0 => rfl
  | t + 1 => by simp [plD, plD_length vals t]

theorem planes_loop {fl : Nat} (hfl : 17592186044416 < fl) {vals b} (hl : vals.length ≤ 17592186044416) (hv : ∀ v ∈ vals, 0 ≤ v ∧ v < 9223372036854775808) : ∀ (t : Nat) (out : List (List Int)) (n : Nat), t < n → t ≤ 8 → out.length + t ≤ 1000 →
    iter (S_tone_Planes_0 fl) n (vals, (t : Int) - 1, out) b = b (out ++ plD vals t)
  | 0, out, n, hn, ht, ho => by
    obtain ⟨m, rfl⟩ : ∃ m, n = m + 1 := ⟨n - 1, by omega⟩
    simp only [iter, S_tone_Planes_0]
    rw [dec_f (by omega)]
    simp [plD]
  | t + 1, out, n, hn, ht, ho => by
    obtain ⟨m, rfl⟩ : ∃ m, n = m + 1 := ⟨n - 1, by omega⟩
    simp only [iter, S_tone_Planes_0, L_tone_Planes_2]
    rw [dec_t (by omega)]
    have e : ((t + 1 : Nat) : Int) - 1 = t := by omega
    rw [e]
    have hp := fun b => plane_loop (fl := fl) (vals := vals) (out := out) (j := t) (b := b) (by omega) (by omega) vals [] [] fl (by omega) (by simpa using hl) rfl hv
    simp only [List.nil_append, List.length_nil, Nat.zero_add, Int.natCast_zero] at hp
    rw [hp]
    simp only
    rw [dec_t (by simp; omega), wrap64 (by omega) (by omega), planes_loop hfl hl hv t _ m (by omega) (by omega) (by simp; omega)]
    simp [plD]

theorem bad_iff {k v : Int} : bad k v = false ↔ 0 ≤ v ∧ v < 2 ^ k.toNat := by
  unfold bad
  rw [Bool.or_eq_false_iff, decide_eq_false_iff_not, decide_eq_false_iff_not]
  omega

theorem pow_le8 {k : Int} (h0 : 0 ≤ k) (h : k ≤ 8) : (2 : Int) ^ k.toNat ≤ 256 := by
  have := Nat.pow_le_pow_right (n := 2) (by omega) (show k.toNat ≤ 8 by omega)
  have h2 : (2 : Nat) ^ k.toNat ≤ 256 := this
  have h3 : (2 : Int) ^ k.toNat = ((2 ^ k.toNat : Nat) : Int) := by rw [Int.natCast_pow]; rfl
  rw [h3]
  omega

/-- What Planes returns. -/
def planes (vals : List Int) (k : Int) : Int × List (List Int) :=
  if k < 0 ∨ k > 8 ∨ vals.any (bad k) = true then (2, []) else (0, plD vals k.toNat)
theorem f16 {vals : List Int} {k : Int} (hl : vals.length ≤ 17592186044416) {K : Int × List (List Int) → Option Ans} : F_tone_Planes fuel vals k K = K (planes vals k) := by
  unfold F_tone_Planes planes
  by_cases h1 : k < 0
  · rw [dec_t h1, if_pos (.inl h1)]
  · rw [dec_f h1]
    by_cases h2 : k > 8
    · rw [dec_t h2, if_pos (.inr (.inl h2))]
    · rw [dec_f h2, f57 (by omega) (by omega) (by omega)]
      simp only
      cases h3 : vals.any (bad k) with
      | true => rw [if_pos (.inr (.inr rfl))]; rfl
      | false =>
        rw [if_neg (by simp; omega)]
        simp only [cond_false]
        unfold L_tone_Planes_0
        have hv : ∀ v ∈ vals, 0 ≤ v ∧ v < 9223372036854775808 := fun v hv => by
          have := bad_iff.1 (Bool.eq_false_iff.2 fun hb => by
            have := List.any_eq_false.1 h3 v hv
            exact this hb)
          have h8 := pow_le8 (k := k) (by omega) (by omega)
          omega
        have hp := planes_loop (fl := fuel) (fuel_lt (by omega)) (b := fun v => K (0, v)) hl hv k.toNat [] fuel (fuel_lt (by omega)) (by omega) (by simp; omega)
        rw [wrap64 (by omega) (by omega)]
        have e : ((k.toNat : Nat) : Int) = k := by omega
        rw [e] at hp
        simpa using hp

theorem f17 {K : Bool → Option Ans} : F_law11_Sane fuel K = K true := by
  unfold F_law11_Sane
  rw [f16 (by decide)]
  have : planes [0, 1, 2, 3] 2 = (0, [[0, 0, 1, 1], [0, 1, 1, 0]]) := by decide
  rw [this]
  simp only [show ([[0, 0, 1, 1], [0, 1, 1, 0]] : List (List Int)).getD (Int.toNat 0) [] = [0, 0, 1, 1] from rfl, show ([[0, 0, 1, 1], [0, 1, 1, 0]] : List (List Int)).getD (Int.toNat 1) [] = [0, 1, 1, 0] from rfl, beq_self_eq_true,
    show ((([[0, 0, 1, 1], [0, 1, 1, 0]] : List (List Int)).length : Int) == 2) = true from rfl, show decide ((0 : Int) ≤ 0 ∧ (0 : Int) < (([[0, 0, 1, 1], [0, 1, 1, 0]] : List (List Int)).length : Int)) = true from rfl,
    show decide ((0 : Int) ≤ 1 ∧ (1 : Int) < (([[0, 0, 1, 1], [0, 1, 1, 0]] : List (List Int)).length : Int)) = true from rfl, cond_true, both_same]
end Go.Proofs.Ytajidgilfkineaa.Tone
