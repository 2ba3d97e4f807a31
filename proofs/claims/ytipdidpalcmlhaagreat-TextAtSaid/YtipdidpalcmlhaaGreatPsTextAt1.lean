/- Laws of the typed texts that TextAt reaches, in plain Lean. No condition but what each theorem names. -/
import Derived.Test.YtipdidpalcmlhaaGreatEvO
import Derived.Test.YtipdidpalcmlhaaGreatFsTextAt3
import Derived.Test.YtipdidpalcmlhaaGreatFsTextAt1
import Derived.Test.YtipdidpalcmlhaaGreatFsTextAt2
import Derived.Test.YtipdidpalcmlhaaGreatFsTextAt4
import Derived.Test.YtipdidpalcmlhaaGreatEvS
set_option linter.unusedVariables false
set_option linter.unusedSimpArgs false
set_option linter.unusedSectionVars false
set_option linter.unusedVariables false
namespace Go.Proofs.YtipdidpalcmlhaaGreat.Ev
open Go

theorem cond_t {α : Sort _} {b : Bool} {x y : α} (h : b = true) : (bif b then x else y) = x := by rw [h]; rfl
theorem cond_f {α : Sort _} {b : Bool} {x y : α} (h : b = false) : (bif b then x else y) = y := by rw [h]; rfl
theorem dec_t {p : Prop} {i : Decidable p} {α : Sort _} {x y : α} (h : p) : (bif @decide p i then x else y) = x := cond_t (decide_eq_true h)
theorem dec_f {p : Prop} {i : Decidable p} {α : Sort _} {x y : α} (h : ¬p) : (bif @decide p i then x else y) = y := cond_f (decide_eq_false h)
theorem fuel_eq : fuel = 18446744073709551616 := rfl
/-! ### Numbers -/
theorem wrap64 {x : Int} (h1 : -9223372036854775808 ≤ x) (h2 : x ≤ 9223372036854775807) : IntKind.i64.wrap x = x := by
  simp [IntKind.wrap, IntKind.min, IntKind.max, IntKind.signed, IntKind.bits]
  omega
/-! ### Loops whose states are known -/
/-- A loop that goes through known states, up to the n-th one. -/
theorem iter_to {V B : Type} {step : V → (V → Option Ans) → B → Option Ans} {b : B} {r : Option Ans} (σ : Nat → V) (n : Nat)
    (h : ∀ i, i < n → ∀ c, step (σ i) c b = c (σ (i + 1))) (hn : ∀ c, step (σ n) c b = r) {m : Nat} (hm : n < m) : iter step m (σ 0) b = r := by
  have key : ∀ d i m, i + d = n → d < m → iter step m (σ i) b = r := by
    intro d
    induction d with
    | zero =>
      intro i m hi hm
      obtain ⟨m, rfl⟩ : ∃ k, m = k + 1 := ⟨m - 1, by omega⟩
      have : i = n := by omega
      subst this
      exact hn _
    | succ d ih =>
      intro i m hi hm
      obtain ⟨m, rfl⟩ : ∃ k, m = k + 1 := ⟨m - 1, by omega⟩
      simp only [iter]
      rw [h i (by omega)]
      exact ih (i + 1) m (by omega) (by omega)
  exact key n 0 m (by omega) hm
theorem iter_seq {V B : Type} {step : V → (V → Option Ans) → B → Option Ans} {b : B} {r : Option Ans} {v : V} {m : Nat} (σ : Nat → V) (n : Nat) (hv : v = σ 0)
    (h : ∀ i, i < n → ∀ c, step (σ i) c b = c (σ (i + 1))) (hn : ∀ c, step (σ n) c b = r) (hm : n < m) : iter step m v b = r := by
  rw [hv]
  exact iter_to σ n h hn hm
/-! ### Lists -/
theorem getD_lt {α : Type} {l : List α} {i : Nat} (h : i < l.length) (d : α) : l.getD i d = l[i] := by simp [h]
theorem getD_mem {α : Type} {l : List α} {i : Nat} (h : i < l.length) (d : α) : l.getD i d ∈ l := by rw [getD_lt h]; exact List.getElem_mem h
/-- The first of a list's members, in order, that is such a one: its place. -/
theorem all_or_first {α : Type} (p : α → Bool) (d : α) (l : List α) : l.all p = true ∨ ∃ n, n < l.length ∧ p (l.getD n d) = false ∧ ∀ i, i < n → p (l.getD i d) = true := by
  induction l with
  | nil => exact .inl rfl
  | cons x l ih =>
    cases hx : p x with
    | false => exact .inr ⟨0, by simp, by simpa using hx, fun i hi => by omega⟩
    | true =>
      rcases ih with ih | ⟨n, h1, h2, h3⟩
      · left; simp [hx, ih]
      · refine .inr ⟨n + 1, by simpa using h1, by simpa using h2, fun i hi => ?_⟩
        cases i with
        | zero => simpa using hx
        | succ i => simpa using h3 i (by omega)
theorem all_getD {α : Type} {p : α → Bool} {l : List α} (h : l.all p = true) (d : α) {i : Nat} (hi : i < l.length) : p (l.getD i d) = true :=
  List.all_eq_true.1 h _ (getD_mem hi d)
theorem not_all {α : Type} {p : α → Bool} {l : List α} {d : α} {n : Nat} (h : n < l.length) (hp : p (l.getD n d) = false) : l.all p = false := by
  rw [List.all_eq_false]
  exact ⟨_, getD_mem h d, by rw [hp]; simp⟩
end Go.Proofs.YtipdidpalcmlhaaGreat.Ev

set_option linter.unusedVariables false
set_option linter.unusedSimpArgs false
namespace Go.Proofs.YtipdidpalcmlhaaGreat.Bm
open Go Ev

theorem cd {α : Sort _} {p : Prop} {i : Decidable p} {x y : α} : (bif @decide p i then x else y) = @ite α p i x y := by by_cases h : p <;> simp [h]
theorem cb {α : Sort _} {a b : Int} {x y : α} : (bif a == b then x else y) = if a = b then x else y := by
  by_cases h : a = b
  · simp [h]
  · rw [if_neg h, cond_f (by simpa using h)]
theorem cn {α : Sort _} {a b : Int} {x y : α} : (bif a != b then x else y) = if a = b then y else x := by
  by_cases h : a = b
  · simp [h]
  · rw [if_neg h, cond_t (by simpa using h)]
theorem mul_le {w h a b : Int} (h0 : 0 ≤ w) (h1 : w ≤ a) (h2 : 0 ≤ h) (h3 : h ≤ b) : 0 ≤ w * h ∧ w * h ≤ a * b :=
  ⟨Int.mul_nonneg h0 h2, Int.mul_le_mul h1 h3 h2 (by omega)⟩

/-- Sides of a bitmap. -/
def fit (w h : Int) : Bool := decide (0 ≤ w ∧ 0 ≤ h ∧ w ≤ 200 ∧ h ≤ 200 ∧ w * h ≤ 8192)
theorem fit_iff {w h : Int} : fit w h = true ↔ 0 ≤ w ∧ 0 ≤ h ∧ w ≤ 200 ∧ h ≤ 200 ∧ w * h ≤ 8192 := by simp [fit]
theorem fits_ok {fl : Nat} {w h : Int} {K : Bool → Option Ans} : F_bitmap_fits fl w h K = K (fit w h) := by
  unfold F_bitmap_fits fit
  simp only [cd]
  split
  · split
    · split
      · split
        · have := mul_le (a := 200) (b := 200) (show 0 ≤ w by omega) (by omega) (show 0 ≤ h by omega) (by omega)
          rw [wrap64 (by omega) (by omega)]
          exact congrArg K (decide_eq_decide.2 (by omega))
        · exact congrArg K (decide_eq_false (by omega)).symm
      · exact congrArg K (decide_eq_false (by omega)).symm
    · exact congrArg K (decide_eq_false (by omega)).symm
  · exact congrArg K (decide_eq_false (by omega)).symm
/-- A bitmap. -/
def valid (w h : Int) (pix : List Int) : Bool := fit w h && decide ((pix.length : Int) = w * h) && pix.all fun x => decide (x ≤ 1)
theorem fit_mul {w h : Int} (hf : fit w h = true) : IntKind.i64.wrap (w * h) = w * h := by
  obtain ⟨h1, h2, h3, h4, h5⟩ := fit_iff.1 hf
  have := mul_le (a := 200) (b := 200) h1 h3 h2 h4
  exact wrap64 (by omega) (by omega)

theorem valid_ok {fl : Nat} (hfl : 9223372036854775808 ≤ fl) {w h : Int} {pix : List Int} {K : Bool → Option Ans} : F_bitmap_Valid fl w h pix K = K (valid w h pix) := by
  unfold F_bitmap_Valid
  rw [fits_ok]
  unfold valid
  cases hf : fit w h with
  | false => rfl
  | true =>
  rw [cond_f (b := !true) rfl, fit_mul hf, cn]
  obtain ⟨h1, h2, h3, h4, h5⟩ := fit_iff.1 hf
  split
  rotate_left
  · rename_i hne
    rw [decide_eq_false hne]
    rfl
  rename_i he
  rw [decide_eq_true he]
  simp only [Bool.true_and]
  unfold L_bitmap_Valid_0
  rcases all_or_first (fun x => decide (x ≤ 1)) 0 pix with ha | ⟨n, hn, hb, hi⟩
  · rw [ha]
    refine iter_seq (step := S_bitmap_Valid_0 fl) (fun i : Nat => (pix, (pix.length : Int), (i : Int))) pix.length rfl (fun i hi c => ?_) (fun c => ?_) (by omega)
    · have g := all_getD ha 0 hi
      simp only [decide_eq_true_eq] at g
      simp (disch := omega) only [S_bitmap_Valid_0, dec_t, dec_f, wrap64, Int.toNat_natCast]
      rfl
    · simp (disch := omega) only [S_bitmap_Valid_0, dec_f]
  · rw [not_all hn hb]
    refine iter_seq (step := S_bitmap_Valid_0 fl) (fun i : Nat => (pix, (pix.length : Int), (i : Int))) n rfl (fun i hin c => ?_) (fun c => ?_) (by omega)
    · have g := hi i hin
      simp only [decide_eq_true_eq] at g
      simp (disch := omega) only [S_bitmap_Valid_0, dec_t, dec_f, wrap64, Int.toNat_natCast]
      rfl
    · simp only [decide_eq_false_iff_not] at hb
      simp (disch := omega) only [S_bitmap_Valid_0, dec_t, Int.toNat_natCast]
/-- A place in a bitmap. -/
def ins (w h x y : Int) : Prop := 0 ≤ x ∧ 0 ≤ y ∧ x < w ∧ y < h
instance {w h x y : Int} : Decidable (ins w h x y) := by unfold ins; infer_instance
end Go.Proofs.YtipdidpalcmlhaaGreat.Bm

set_option linter.unusedVariables false
set_option linter.unusedSimpArgs false
namespace Go.Proofs.YtipdidpalcmlhaaGreat.Gen
open Go Ev Bm

def vr (t ax ay kd : Int) : Bool := decide (0 ≤ t ∧ t ≤ 3 ∧ (kd = 0 ∨ kd = 1) ∧ -8 ≤ ax ∧ ax ≤ 8 ∧ -8 ≤ ay ∧ ay ≤ 0 ∧ (ay < 0 ∨ ax < 0))
/-- The offsets of a template. -/
def tpl (t : Int) : List (Int × Int) :=
  if t = 0 then [(-1, -2), (0, -2), (1, -2), (-2, -1), (-1, -1), (0, -1), (1, -1), (2, -1), (-2, 0), (-1, 0)]
  else if t = 1 then [(-1, -2), (0, -2), (-1, -1), (0, -1), (1, -1), (-2, 0), (-1, 0)]
  else if t = 2 then [(-2, -1), (-1, -1), (0, -1), (1, -1), (2, -1), (-2, 0), (-1, 0)]
  else [(-1, -1), (0, -1), (1, -1), (-1, 0)]
/-- How many contexts a region takes. -/
def size (t : Int) : Int := 2 ^ ((tpl t).length + 1) + 1
/-! ### The context of a pixel -/
/-- A bitmap's pixels. -/
structure Pix (w h : Int) (p : List Int) : Prop where
  w0 : 0 ≤ w
  h0 : 0 ≤ h
  w1 : w ≤ 200
  h1 : h ≤ 200
  n : w * h ≤ 8192
  len : (p.length : Int) = w * h
  bit : ∀ v ∈ p, 0 ≤ v ∧ v ≤ 1
end Go.Proofs.YtipdidpalcmlhaaGreat.Gen

set_option linter.unusedVariables false
set_option linter.unusedSimpArgs false
namespace Go.Proofs.YtipdidpalcmlhaaGreat.Co
open Go Ev

/-- Whether both ends have the same highest byte. -/
def same (lo hi : Int) : Prop := lo / 16777216 = hi / 16777216
instance (lo hi : Int) : Decidable (same lo hi) := by unfold same; infer_instance
structure Rg (lo hi : Int) : Prop where
  l : 0 ≤ lo
  m : lo ≤ hi
  h : hi < 4294967296
/-! ### A stream of bytes, and its windows -/
end Go.Proofs.YtipdidpalcmlhaaGreat.Co

set_option linter.unusedVariables false
set_option linter.unusedSimpArgs false
namespace Go.Proofs.YtipdidpalcmlhaaGreat.Co
open Go Ev

def q : Nat → Int
  | 0 => 2048
  | k + 1 => q k - q k / 8
def most (kd : Int) : Int := if kd = 1 then 65536 else 64
def vst (kd s : Int) : Prop := 0 ≤ s ∧ s < most kd
/-- The state behind a bit. -/
def nx (kd s bit : Int) : Int :=
  if kd = 1 then
    (if bit = 0 then (if s / 256 = 255 then 256 * 128 + s % 256 / 2 else 256 * (s / 256 + 1) + s % 256)
     else (if s % 256 = 255 then 256 * (s / 256 / 2) + 128 else 256 * (s / 256) + (s % 256 + 1)))
  else if bit = s / 32 then 32 * (s / 32) + min (s % 32 + 1) 31
  else if s % 32 = 0 then 32 * bit
  else 32 * (s / 32) + (s % 32 - (1 + s % 32 / 4))
/-- An interval and its model's states. -/
structure Iv where
  st : List Int
  lo : Int
  hi : Int
structure Iv.Ok (kd : Int) (x : Iv) : Prop where
  k : kd = 0 ∨ kd = 1
  r : Rg x.lo x.hi
  d : ¬ same x.lo x.hi
  s : ∀ s ∈ x.st, vst kd s
/-! ### The end of a code -/
/-! ### What is got from any bytes -/
end Go.Proofs.YtipdidpalcmlhaaGreat.Co

set_option linter.unusedVariables false
set_option linter.unusedSimpArgs false
namespace Go.Proofs.YtipdidpalcmlhaaGreat.Co
open Go Ev

/-! ### Chances -/
end Go.Proofs.YtipdidpalcmlhaaGreat.Co

set_option linter.unusedVariables false
set_option linter.unusedSimpArgs false
namespace Go.Proofs.YtipdidpalcmlhaaGreat.Co
open Go Ev

/-! ### A new encoder -/
end Go.Proofs.YtipdidpalcmlhaaGreat.Co

set_option linter.unusedVariables false
set_option linter.unusedSimpArgs false
namespace Go.Proofs.YtipdidpalcmlhaaGreat.Co
open Go Ev

/-! ### Models -/
end Go.Proofs.YtipdidpalcmlhaaGreat.Co

set_option linter.unusedVariables false
set_option linter.unusedSimpArgs false
namespace Go.Proofs.YtipdidpalcmlhaaGreat.Co
open Go Ev

/-! ### The reference's encoder -/
end Go.Proofs.YtipdidpalcmlhaaGreat.Co

set_option linter.unusedVariables false
set_option linter.unusedSimpArgs false
namespace Go.Proofs.YtipdidpalcmlhaaGreat.Gen
open Go Ev Bm Co

/-- What is skipped has the region's sides, or none. -/
def Sk (w h : Int) (sp : List Int) : Prop := sp = [] ∨ (sp.length : Int) = w * h
/-! ### The events -/
section
variable (t ax ay base w h : Int) (ty : Bool) (p sp : List Int)
end
structure Reg (t ax ay kd base w h : Int) (p sp : List Int) (n : Nat) : Prop where
  v : vr t ax ay kd = true
  p : Pix w h p
  s : Sk w h sp
  b0 : 0 ≤ base
  b1 : base + size t ≤ (n : Int)
/-! ### The program puts them -/
end Go.Proofs.YtipdidpalcmlhaaGreat.Gen

set_option linter.unusedVariables false
set_option linter.unusedSimpArgs false
namespace Go.Proofs.YtipdidpalcmlhaaGreat.Tx
open Go Ev Bm Co

abbrev Bmp : Type := Int × Int × List Int
abbrev Item : Type := Int × Int × Int × Bool × Int × Int × Int × Int × List Int
/-- Whether options are right. -/
def ov (o0 o1 o3 o4 o5 o7 : Int) : Bool := decide ((o0 = 1 ∨ o0 = 2 ∨ o0 = 4 ∨ o0 = 8) ∧ 0 ≤ o1 ∧ o1 ≤ 3 ∧ -16 ≤ o3 ∧ o3 ≤ 16 ∧ 0 ≤ o4 ∧ o4 ≤ 4 ∧ (o5 = 0 ∨ o5 = 1) ∧ (o7 = 0 ∨ o7 = 1))
theorem ov_iff {o0 o1 o3 o4 o5 o7 : Int} : ov o0 o1 o3 o4 o5 o7 = true ↔ (o0 = 1 ∨ o0 = 2 ∨ o0 = 4 ∨ o0 = 8) ∧ 0 ≤ o1 ∧ o1 ≤ 3 ∧ -16 ≤ o3 ∧ o3 ≤ 16 ∧ 0 ≤ o4 ∧ o4 ≤ 4 ∧ (o5 = 0 ∨ o5 = 1) ∧ (o7 = 0 ∨ o7 = 1) := by simp [ov]
/-- Whether a bitmap may be a shape's. -/
def shp (b : Bmp) : Bool := valid b.1 b.2.1 b.2.2 && decide (1 ≤ b.1 ∧ b.1 ≤ 40 ∧ 1 ≤ b.2.1 ∧ b.2.1 ≤ 40)
def near (x m : Int) : Prop := -m ≤ x ∧ x ≤ m
instance (x m : Int) : Decidable (near x m) := by unfold near; infer_instance
def Item.pix (i : Item) : Bmp := (i.2.2.2.2.2.2.1, i.2.2.2.2.2.2.2.1, i.2.2.2.2.2.2.2.2)
/-- Whether an item may be one of a region of so many symbols. -/
def itm (rf : Bool) (n : Int) (i : Item) : Bool :=
  decide (0 ≤ i.1 ∧ i.1 < n ∧ near i.2.1 100000 ∧ near i.2.2.1 100000) &&
    (if i.2.2.2.1 = true then rf && decide (near i.2.2.2.2.1 200 ∧ near i.2.2.2.2.2.1 200)
     else decide (i.2.2.2.2.1 = 0 ∧ i.2.2.2.2.2.1 = 0 ∧ i.2.2.2.2.2.2.1 = 0 ∧ i.2.2.2.2.2.2.2.1 = 0 ∧ (i.2.2.2.2.2.2.2.2.length : Int) = 0))
def shpI (i : Item) : Bool := !i.2.2.2.1 || shp i.pix
/-- The error of options, symbols and items. -/
def bErr (o0 o1 o3 o4 o5 o7 : Int) (symbols : List Bmp) (l : List Item) : Int :=
  if ov o0 o1 o3 o4 o5 o7 = true then (if symbols.all shp = true then (if l.all shpI = true then 0 else 30) else 30) else 2
def rights (rf : Bool) (n : Int) (l : List Item) : Bool := decide (n ≤ 60) && decide ((l.length : Int) ≤ 300) && l.all (itm rf n)
section
variable {fl : Nat} (hfl : 9223372036854775808 ≤ fl)
include hfl
theorem has4 {x : Int} {K : Bool → Option Ans} : F_slices_Contains_int_int fl [1, 2, 4, 8] x K = K (decide (x = 1 ∨ x = 2 ∨ x = 4 ∨ x = 8)) := by
  obtain ⟨m, rfl⟩ : ∃ m, fl = m + 5 := ⟨fl - 5, by omega⟩
  unfold F_slices_Contains_int_int F_slices_Index_int_int L_slices_Index_int_int_0
  by_cases h1 : x = 1
  · subst h1; rfl
  by_cases h2 : x = 2
  · subst h2; rfl
  by_cases h4 : x = 4
  · subst h4; rfl
  by_cases h8 : x = 8
  · subst h8; rfl
  rw [decide_eq_false (by omega)]
  have e : ∀ (i : Nat) (c : List Int × Int × Int × Int → Option Ans) (b : (Int → Option Ans) × (Unit → Option Ans)), i < 4 → S_slices_Index_int_int_0 (m + 5) ([1, 2, 4, 8], x, 4, (i : Int)) c b = c ([1, 2, 4, 8], x, 4, ((i + 1 : Nat) : Int)) := by
    intro i c b hi
    obtain ⟨ret, b⟩ := b
    have hh : i = 0 ∨ i = 1 ∨ i = 2 ∨ i = 3 := by omega
    simp only [S_slices_Index_int_int_0]
    rw [dec_t (by omega), dec_t (show _ ∧ _ from ⟨by omega, by show (i : Int) < 4; omega⟩), Int.toNat_natCast]
    rcases hh with rfl | rfl | rfl | rfl
    · rw [cond_f (by simp [h1])]; rfl
    · rw [cond_f (by simp [h2])]; rfl
    · rw [cond_f (by simp [h4])]; rfl
    · rw [cond_f (by simp [h8])]; rfl
  refine iter_seq (step := S_slices_Index_int_int_0 (m + 5)) (fun i : Nat => ([1, 2, 4, 8], x, 4, (i : Int))) 4 rfl (fun i hi c => e i c _ hi) (fun c => ?_) (by omega)
  simp only [S_slices_Index_int_int_0]
  rw [dec_f (by omega)]
  rfl
theorem tvalid {o0 o1 o3 o4 o5 o7 : Int} {tu rf : Bool} {K : Bool → Option Ans} : F_text_Valid fl o0 o1 tu o3 o4 o5 rf o7 K = K (ov o0 o1 o3 o4 o5 o7) := by
  unfold F_text_Valid
  rw [has4 hfl]
  unfold ov
  by_cases h0 : o0 = 1 ∨ o0 = 2 ∨ o0 = 4 ∨ o0 = 8
  rotate_left
  · rw [decide_eq_false h0, cond_false]
    congr 1
    symm
    exact decide_eq_false (fun h => h0 h.1)
  rw [decide_eq_true h0, cond_true]
  by_cases h1 : 0 ≤ o1
  rotate_left
  · rw [dec_f (by omega), decide_eq_false (by omega)]
  by_cases h2 : o1 ≤ 3
  rotate_left
  · rw [dec_t (by omega), dec_f (by omega), decide_eq_false (by omega)]
  by_cases h3 : -16 ≤ o3
  rotate_left
  · rw [dec_t (by omega), dec_t (by omega), dec_f (by omega), decide_eq_false (by omega)]
  by_cases h4 : o3 ≤ 16
  rotate_left
  · rw [dec_t (by omega), dec_t (by omega), dec_t (by omega), dec_f (by omega), decide_eq_false (by omega)]
  by_cases h5 : 0 ≤ o4
  rotate_left
  · rw [dec_t (by omega), dec_t (by omega), dec_t (by omega), dec_t (by omega), dec_f (by omega), decide_eq_false (by omega)]
  by_cases h6 : o4 ≤ 4
  rotate_left
  · rw [dec_t (by omega), dec_t (by omega), dec_t (by omega), dec_t (by omega), dec_t (by omega), dec_f (by omega), decide_eq_false (by omega)]
  rw [dec_t (by omega), dec_t (by omega), dec_t (by omega), dec_t (by omega), dec_t (by omega), dec_t (by omega)]
  simp only [cb]
  have e7 : (o7 == 1) = decide (o7 = 1) := rfl
  rw [e7]
  repeat' split
  all_goals congr 1
  all_goals first | (rw [decide_eq_true (by omega)]) | (rw [decide_eq_false (by omega)]) | skip
  all_goals first | (rw [decide_eq_decide]; omega) | (symm; rw [decide_eq_true_iff]; omega) | (symm; rw [decide_eq_false_iff_not]; omega) | skip
theorem isShape_ok {w h : Int} {p : List Int} {K : Bool → Option Ans} : F_text_isShape fl w h p K = K (shp (w, h, p)) := by
  unfold F_text_isShape shp
  dsimp only
  rw [valid_ok hfl]
  cases valid w h p with
  | false => rfl
  | true =>
    rw [cond_true]
    by_cases h1 : w ≥ 1
    rotate_left
    · rw [dec_f h1, decide_eq_false (by omega)]; rfl
    rw [dec_t h1]
    by_cases h2 : w ≤ 40
    rotate_left
    · rw [dec_f h2, decide_eq_false (by omega)]; rfl
    rw [dec_t h2]
    by_cases h3 : h ≥ 1
    rotate_left
    · rw [dec_f h3, decide_eq_false (by omega)]; rfl
    rw [dec_t h3, Bool.true_and]
    congr 1
    exact decide_eq_decide.2 (by omega)
theorem bm_loop {l : List Bmp} (hl : l.length ≤ 1000000000000000) {K : Bool → Option Ans} : F_slices_ContainsFunc_api_Bitmap_api_Bitmap_261 fl l K = K (!l.all shp) := by
  unfold F_slices_ContainsFunc_api_Bitmap_api_Bitmap_261 F_slices_IndexFunc_api_Bitmap_api_Bitmap_261 L_slices_IndexFunc_api_Bitmap_api_Bitmap_261_0
  have st : ∀ i : Nat, i < l.length → ∀ c ret b, S_slices_IndexFunc_api_Bitmap_api_Bitmap_261_0 fl (l, (l.length : Int), (i : Int)) c (ret, b) = if shp (l.getD i (0, 0, [])) = true then c (l, (l.length : Int), ((i + 1 : Nat) : Int)) else ret (i : Int) := by
    intro i hi c ret b
    simp only [S_slices_IndexFunc_api_Bitmap_api_Bitmap_261_0, F_text_begun_1]
    rw [dec_t (by omega), dec_t (by omega), Int.toNat_natCast, isShape_ok hfl]
    try dsimp only
    rw [show ((l.getD i (0, 0, [])).fst, (l.getD i (0, 0, [])).snd.fst, (l.getD i (0, 0, [])).snd.snd) = l.getD i (0, 0, []) from rfl, wrap64 (by omega) (by omega)]
    cases shp (l.getD i (0, 0, [])) <;> rfl
  rcases all_or_first shp (0, 0, []) l with ha | ⟨n, hn, hb, hi⟩
  · rw [ha]
    refine iter_to (step := S_slices_IndexFunc_api_Bitmap_api_Bitmap_261_0 fl) (fun i : Nat => (l, (l.length : Int), (i : Int))) l.length (fun i hi c => by rw [st i hi, if_pos (all_getD ha _ hi)]) (fun c => ?_) (by omega)
    simp only [S_slices_IndexFunc_api_Bitmap_api_Bitmap_261_0]
    rw [dec_f (by omega)]
    rfl
  · rw [not_all hn hb]
    refine iter_to (step := S_slices_IndexFunc_api_Bitmap_api_Bitmap_261_0 fl) (fun i : Nat => (l, (l.length : Int), (i : Int))) n (fun i hi' c => by rw [st i (by omega), if_pos (hi i hi')]) (fun c => ?_) (by omega)
    rw [st n hn, if_neg (by rw [hb]; simp)]
    show K (decide ((n : Int) ≥ 0)) = K true
    rw [decide_eq_true (by omega)]
theorem it_loop {l : List Item} (hl : l.length ≤ 1000000000000000) {K : Bool → Option Ans} : F_slices_ContainsFunc_api_Item_api_Item_177 fl l K = K (!l.all shpI) := by
  unfold F_slices_ContainsFunc_api_Item_api_Item_177 F_slices_IndexFunc_api_Item_api_Item_177 L_slices_IndexFunc_api_Item_api_Item_177_0
  have st : ∀ i : Nat, i < l.length → ∀ c ret b, S_slices_IndexFunc_api_Item_api_Item_177_0 fl (l, (l.length : Int), (i : Int)) c (ret, b) = if shpI (l.getD i (0, 0, 0, false, 0, 0, 0, 0, [])) = true then c (l, (l.length : Int), ((i + 1 : Nat) : Int)) else ret (i : Int) := by
    intro i hi c ret b
    simp only [S_slices_IndexFunc_api_Item_api_Item_177_0, F_text_begun_2]
    rw [dec_t (by omega), dec_t (by omega), Int.toNat_natCast, isShape_ok hfl, wrap64 (by omega) (by omega)]
    generalize l.getD i (0, 0, 0, false, 0, 0, 0, 0, []) = it
    unfold shpI Item.pix
    cases it.2.2.2.1 with
    | false => rfl
    | true =>
      rw [cond_true]
      cases shp (it.2.2.2.2.2.2.1, it.2.2.2.2.2.2.2.1, it.2.2.2.2.2.2.2.2) <;> rfl
  rcases all_or_first shpI (0, 0, 0, false, 0, 0, 0, 0, []) l with ha | ⟨n, hn, hb, hi⟩
  · rw [ha]
    refine iter_to (step := S_slices_IndexFunc_api_Item_api_Item_177_0 fl) (fun i : Nat => (l, (l.length : Int), (i : Int))) l.length (fun i hi c => by rw [st i hi, if_pos (all_getD ha _ hi)]) (fun c => ?_) (by omega)
    simp only [S_slices_IndexFunc_api_Item_api_Item_177_0]
    rw [dec_f (by omega)]
    rfl
  · rw [not_all hn hb]
    refine iter_to (step := S_slices_IndexFunc_api_Item_api_Item_177_0 fl) (fun i : Nat => (l, (l.length : Int), (i : Int))) n (fun i hi' c => by rw [st i (by omega), if_pos (hi i hi')]) (fun c => ?_) (by omega)
    rw [st n hn, if_neg (by rw [hb]; simp)]
    show K (decide ((n : Int) ≥ 0)) = K true
    rw [decide_eq_true (by omega)]
theorem begun_ok {o0 o1 o3 o4 o5 o7 : Int} {tu rf : Bool} {symbols : List Bmp} {l : List Item} (hs : symbols.length ≤ 1000000000000000) (hl : l.length ≤ 1000000000000000) {K : Int → Option Ans} :
    F_text_begun fl o0 o1 tu o3 o4 o5 rf o7 symbols l K = K (bErr o0 o1 o3 o4 o5 o7 symbols l) := by
  unfold F_text_begun bErr
  rw [tvalid hfl]
  cases ov o0 o1 o3 o4 o5 o7 with
  | false => rfl
  | true =>
    rw [cond_f (b := !true) rfl, bm_loop hfl hs]
    cases symbols.all shp with
    | false => rfl
    | true =>
      rw [cond_f (b := !true) rfl, it_loop hfl hl]
      cases l.all shpI <;> rfl
end
theorem near_ok {fl : Nat} {x m : Int} (h0 : 0 ≤ m) (h1 : m ≤ 1000000) {K : Bool → Option Ans} : F_text_near fl x m K = K (decide (near x m)) := by
  unfold F_text_near near
  rw [wrap64 (x := 0 - m) (by omega) (by omega)]
  by_cases h : x ≥ 0 - m
  · rw [dec_t h]
    congr 1
    exact decide_eq_decide.2 (by omega)
  · rw [dec_f h]
    congr 1
    symm
    exact decide_eq_false (by omega)
theorem rightItem_ok {fl : Nat} {o0 o1 o3 o4 o5 o7 n : Int} {tu rf : Bool} {i : Item} {K : Bool → Option Ans} :
    F_text_rightItem fl o0 o1 tu o3 o4 o5 rf o7 n i.1 i.2.1 i.2.2.1 i.2.2.2.1 i.2.2.2.2.1 i.2.2.2.2.2.1 i.2.2.2.2.2.2.1 i.2.2.2.2.2.2.2.1 i.2.2.2.2.2.2.2.2 K = K (itm rf n i) := by
  obtain ⟨a, s, t, r, dx, dy, w, h, p⟩ := i
  unfold F_text_rightItem itm
  dsimp only
  by_cases h1 : a < 0
  · rw [dec_t h1, decide_eq_false (by omega)]; rfl
  rw [dec_f h1]
  by_cases h2 : a ≥ n
  · rw [dec_t h2, decide_eq_false (by omega)]; rfl
  rw [dec_f h2, near_ok (by omega) (by omega)]
  by_cases h3 : near s 100000
  rotate_left
  · rw [decide_eq_false h3, decide_eq_false (fun h => h3 h.2.2.1)]; rfl
  rw [decide_eq_true h3, cond_f (b := !true) rfl, near_ok (by omega) (by omega)]
  by_cases h4 : near t 100000
  rotate_left
  · rw [decide_eq_false h4, decide_eq_false (fun h => h4 h.2.2.2)]; rfl
  rw [decide_eq_true h4, cond_f (b := !true) rfl, decide_eq_true (show 0 ≤ a ∧ a < n ∧ near s 100000 ∧ near t 100000 from ⟨by omega, by omega, h3, h4⟩), Bool.true_and]
  cases r with
  | false =>
    rw [cond_t (b := !false) rfl, if_neg (by simp)]
    simp only [cb]
    have e : ((p.length : Int) == 0) = decide ((p.length : Int) = 0) := rfl
    rw [e]
    repeat' split
    all_goals congr 1
    · exact decide_eq_decide.2 (by omega)
    all_goals rw [decide_eq_false (by omega)]
  | true =>
    rw [cond_f (b := !true) rfl, if_pos rfl]
    cases rf with
    | false => rfl
    | true =>
      rw [cond_true, near_ok (by omega) (by omega)]
      by_cases h5 : near dx 200
      · rw [decide_eq_true h5, cond_true, near_ok (by omega) (by omega), Bool.true_and]
        congr 1
        exact decide_eq_decide.2 ⟨fun h => ⟨h5, h⟩, fun h => h.2⟩
      · rw [decide_eq_false h5, decide_eq_false (fun h => h5 h.1)]; rfl
section
variable {fl : Nat} (hfl : 9223372036854775808 ≤ fl)
include hfl
theorem right_ok {o0 o1 o3 o4 o5 o7 n : Int} {tu rf : Bool} {l : List Item} {K : Bool → Option Ans} : F_text_right fl o0 o1 tu o3 o4 o5 rf o7 n l K = K (rights rf n l) := by
  unfold F_text_right rights
  by_cases h1 : n ≤ 60
  rotate_left
  · rw [dec_f h1, decide_eq_false h1]; rfl
  rw [dec_t h1, decide_eq_true h1]
  by_cases h2 : (l.length : Int) ≤ 300
  rotate_left
  · rw [dec_f h2, decide_eq_false h2]; rfl
  rw [dec_t h2, decide_eq_true h2]
  unfold F_slices_ContainsFunc_api_Item_api_Item_766 F_slices_IndexFunc_api_Item_api_Item_766 L_slices_IndexFunc_api_Item_api_Item_766_0
  have st : ∀ i : Nat, i < l.length → ∀ c ret b, S_slices_IndexFunc_api_Item_api_Item_766_0 fl (l, (l.length : Int), (i : Int), o0, o1, tu, o3, o4, o5, rf, o7, n) c (ret, b) = if itm rf n (l.getD i (0, 0, 0, false, 0, 0, 0, 0, [])) = true then c (l, (l.length : Int), ((i + 1 : Nat) : Int), o0, o1, tu, o3, o4, o5, rf, o7, n) else ret ((i : Int), o0, o1, tu, o3, o4, o5, rf, o7, n) := by
    intro i hi c ret b
    simp only [S_slices_IndexFunc_api_Item_api_Item_766_0, F_text_right_1_e36]
    rw [dec_t (by omega), dec_t (by omega), Int.toNat_natCast, rightItem_ok]
    try dsimp only
    rw [wrap64 (by omega) (by omega)]
    cases itm rf n (l.getD i (0, 0, 0, false, 0, 0, 0, 0, [])) <;> rfl
  rcases all_or_first (itm rf n) (0, 0, 0, false, 0, 0, 0, 0, []) l with ha | ⟨j, hn, hb, hi⟩
  · rw [ha]
    refine iter_to (step := S_slices_IndexFunc_api_Item_api_Item_766_0 fl) (fun i : Nat => (l, (l.length : Int), (i : Int), o0, o1, tu, o3, o4, o5, rf, o7, n)) l.length (fun i hi c => by rw [st i hi, if_pos (all_getD ha _ hi)]) (fun c => ?_) (by omega)
    simp only [S_slices_IndexFunc_api_Item_api_Item_766_0]
    rw [dec_f (by omega)]
    rfl
  · rw [not_all hn hb]
    refine iter_to (step := S_slices_IndexFunc_api_Item_api_Item_766_0 fl) (fun i : Nat => (l, (l.length : Int), (i : Int), o0, o1, tu, o3, o4, o5, rf, o7, n)) j (fun i hi' c => by rw [st i (by omega), if_pos (hi i hi')]) (fun c => ?_) (by omega)
    rw [st j hn, if_neg (by rw [hb]; simp)]
    show K (!decide ((j : Int) ≥ 0)) = K (true && true && false)
    rw [decide_eq_true (by omega)]
    rfl
end
end Go.Proofs.YtipdidpalcmlhaaGreat.Tx

set_option linter.unusedVariables false
set_option linter.unusedSimpArgs false
namespace Go.Proofs.YtipdidpalcmlhaaGreat.Tx
open Go Ev Bm Co

theorem rsize_ok {fl : Nat} {w h : Int} {K : Bool → Option Ans} : F_ref06_IsSize fl w h K = K (fit w h) := by
  unfold F_ref06_IsSize fit
  by_cases h1 : w ≥ 0
  rotate_left
  · rw [dec_f h1, decide_eq_false (by omega)]
  by_cases h2 : w ≤ 200
  rotate_left
  · rw [dec_t h1, dec_f h2, decide_eq_false (by omega)]
  by_cases h3 : h ≥ 0
  rotate_left
  · rw [dec_t h1, dec_t h2, dec_f h3, decide_eq_false (by omega)]
  by_cases h4 : h ≤ 200
  rotate_left
  · rw [dec_t h1, dec_t h2, dec_t h3, dec_f h4, decide_eq_false (by omega)]
  rw [dec_t h1, dec_t h2, dec_t h3, dec_t h4]
  obtain ⟨q1, q2⟩ := mul_le (a := 200) (b := 200) h1 h2 h3 h4
  rw [wrap64 (by omega) (by omega)]
  congr 1
  exact decide_eq_decide.2 (by omega)
section
variable {fl : Nat} (hfl : 9223372036854775808 ≤ fl)
include hfl
theorem rrow_ok {p : List Int} (hp : p.length ≤ 1000000000000000) {K : Bool → Option Ans} : F_ref06_IsRow fl p K = K (p.all fun x => decide (x ≤ 1)) := by
  unfold F_ref06_IsRow L_ref06_IsRow_0
  rcases all_or_first (fun x : Int => decide (x ≤ 1)) 0 p with ha | ⟨n, hn, hb, hi⟩
  · rw [ha]
    refine iter_to (step := S_ref06_IsRow_0 fl) (fun i : Nat => (p, (p.length : Int), (i : Int))) p.length (fun i hi c => ?_) (fun c => ?_) (by omega)
    · have := of_decide_eq_true (all_getD ha 0 hi)
      simp only [S_ref06_IsRow_0]
      rw [dec_t (by omega), dec_t (by omega), Int.toNat_natCast, dec_f (by omega), wrap64 (by omega) (by omega)]
      rfl
    · simp only [S_ref06_IsRow_0]
      rw [dec_f (by omega)]
  · rw [not_all hn hb]
    refine iter_to (step := S_ref06_IsRow_0 fl) (fun i : Nat => (p, (p.length : Int), (i : Int))) n (fun i hi' c => ?_) (fun c => ?_) (by omega)
    · have := of_decide_eq_true (hi i hi')
      simp only [S_ref06_IsRow_0]
      rw [dec_t (by omega), dec_t (by omega), Int.toNat_natCast, dec_f (by omega), wrap64 (by omega) (by omega)]
      rfl
    · have := of_decide_eq_false hb
      simp only [S_ref06_IsRow_0]
      rw [dec_t (by omega), dec_t (by omega), Int.toNat_natCast, dec_t (by omega)]
theorem rbitmap_ok {w h : Int} {p : List Int} {K : Bool → Option Ans} : F_ref06_IsBitmap fl w h p K = K (valid w h p) := by
  unfold F_ref06_IsBitmap valid
  rw [rsize_ok]
  cases hf : fit w h with
  | false => rfl
  | true =>
    have hm := fit_iff.1 hf
    rw [cond_true, fit_mul hf, Bool.true_and]
    by_cases hl : (p.length : Int) = w * h
    · rw [cond_t (by simp [hl]), rrow_ok hfl (by omega), decide_eq_true hl, Bool.true_and]
    · rw [cond_f (by simp [hl]), decide_eq_false hl, Bool.false_and]
theorem rshape_ok {w h : Int} {p : List Int} {K : Bool → Option Ans} : F_ref10_IsShape fl w h p K = K (shp (w, h, p)) := by
  unfold F_ref10_IsShape shp
  dsimp only
  rw [rbitmap_ok hfl]
  cases valid w h p with
  | false => rfl
  | true =>
    rw [cond_true]
    by_cases h1 : w ≥ 1
    rotate_left
    · rw [dec_f h1, decide_eq_false (by omega)]; rfl
    rw [dec_t h1]
    by_cases h2 : w ≤ 40
    rotate_left
    · rw [dec_f h2, decide_eq_false (by omega)]; rfl
    rw [dec_t h2]
    by_cases h3 : h ≥ 1
    rotate_left
    · rw [dec_f h3, decide_eq_false (by omega)]; rfl
    rw [dec_t h3, Bool.true_and]
    congr 1
    exact decide_eq_decide.2 (by omega)
end
theorem rvalid {fl : Nat} {o0 o1 o3 o4 o5 o7 : Int} {tu rf : Bool} {K : Bool → Option Ans} : F_ref10_Valid fl o0 o1 tu o3 o4 o5 rf o7 K = K (ov o0 o1 o3 o4 o5 o7) := by
  unfold F_ref10_Valid ov
  simp only [cn, cd]
  have rest : (if o1 ≥ 0 then if o1 ≤ 3 then if o3 ≥ -16 then if o3 ≤ 16 then if o4 ≥ 0 then if o4 ≤ 4 then if o5 ≥ 0 then if o5 ≤ 1 then if o7 ≥ 0 then K (decide (o7 ≤ 1)) else K false else K false else K false else K false else K false else K false else K false else K false else K false) = K (decide (0 ≤ o1 ∧ o1 ≤ 3 ∧ -16 ≤ o3 ∧ o3 ≤ 16 ∧ 0 ≤ o4 ∧ o4 ≤ 4 ∧ (o5 = 0 ∨ o5 = 1) ∧ (o7 = 0 ∨ o7 = 1))) := by
    by_cases h1 : o1 ≥ 0
    rotate_left
    · rw [if_neg h1, decide_eq_false (by omega)]
    by_cases h2 : o1 ≤ 3
    rotate_left
    · rw [if_pos h1, if_neg h2, decide_eq_false (by omega)]
    by_cases h3 : o3 ≥ -16
    rotate_left
    · rw [if_pos h1, if_pos h2, if_neg h3, decide_eq_false (by omega)]
    by_cases h4 : o3 ≤ 16
    rotate_left
    · rw [if_pos h1, if_pos h2, if_pos h3, if_neg h4, decide_eq_false (by omega)]
    by_cases h5 : o4 ≥ 0
    rotate_left
    · rw [if_pos h1, if_pos h2, if_pos h3, if_pos h4, if_neg h5, decide_eq_false (by omega)]
    by_cases h6 : o4 ≤ 4
    rotate_left
    · rw [if_pos h1, if_pos h2, if_pos h3, if_pos h4, if_pos h5, if_neg h6, decide_eq_false (by omega)]
    by_cases h7 : o5 ≥ 0
    rotate_left
    · rw [if_pos h1, if_pos h2, if_pos h3, if_pos h4, if_pos h5, if_pos h6, if_neg h7, decide_eq_false (by omega)]
    by_cases h8 : o5 ≤ 1
    rotate_left
    · rw [if_pos h1, if_pos h2, if_pos h3, if_pos h4, if_pos h5, if_pos h6, if_pos h7, if_neg h8, decide_eq_false (by omega)]
    by_cases h9 : o7 ≥ 0
    rotate_left
    · rw [if_pos h1, if_pos h2, if_pos h3, if_pos h4, if_pos h5, if_pos h6, if_pos h7, if_pos h8, if_neg h9, decide_eq_false (by omega)]
    rw [if_pos h1, if_pos h2, if_pos h3, if_pos h4, if_pos h5, if_pos h6, if_pos h7, if_pos h8, if_pos h9]
    exact congrArg K (decide_eq_decide.2 (by omega))
  rw [rest]
  by_cases a1 : o0 = 1
  · rw [if_pos a1]
    exact congrArg K (decide_eq_decide.2 (by omega))
  by_cases a2 : o0 = 2
  · rw [if_neg a1, if_pos a2]
    exact congrArg K (decide_eq_decide.2 (by omega))
  by_cases a3 : o0 = 4
  · rw [if_neg a1, if_neg a2, if_pos a3]
    exact congrArg K (decide_eq_decide.2 (by omega))
  by_cases a4 : o0 = 8
  · rw [if_neg a1, if_neg a2, if_neg a3, if_pos a4]
    exact congrArg K (decide_eq_decide.2 (by omega))
  rw [if_neg a1, if_neg a2, if_neg a3, if_neg a4]
  exact congrArg K (decide_eq_false (by omega)).symm
theorem shift_ok {fl : Nat} {x : Int} {K : Bool → Option Ans} : F_ref10_isShift fl x K = K (decide (near x 100000)) := by
  unfold F_ref10_isShift near
  by_cases h : x ≥ -100000
  · rw [dec_t h]
    congr 1
    exact decide_eq_decide.2 (by omega)
  · rw [dec_f h]
    congr 1
    symm
    exact decide_eq_false (by omega)
section
variable {fl : Nat} (hfl : 9223372036854775808 ≤ fl)
include hfl
end
end Go.Proofs.YtipdidpalcmlhaaGreat.Tx

set_option linter.unusedVariables false
set_option linter.unusedSimpArgs false
namespace Go.Proofs.YtipdidpalcmlhaaGreat.Tx
open Go Ev Bm Co

/-- The bitmap that an item stands for. -/
def bof (symbols : List Bmp) (i : Item) : Bmp := if i.2.2.2.1 = true then i.pix else symbols.getD i.1.toNat (0, 0, [])
def cor (o1 : Int) (b : Bmp) : Int × Int := (if o1 % 2 = 1 then b.1 - 1 else 0, if 2 ≤ o1 then b.2.1 - 1 else 0)
/-- Where its first pixel lies. -/
def plc (o1 : Int) (tu : Bool) (b : Bmp) (i : Item) : Int × Int := if tu = true then (i.2.2.1 - (cor o1 b).1, i.2.1 - (cor o1 b).2) else (i.2.1 - (cor o1 b).1, i.2.2.1 - (cor o1 b).2)
theorem shp_iff {b : Bmp} : shp b = true ↔ valid b.1 b.2.1 b.2.2 = true ∧ 1 ≤ b.1 ∧ b.1 ≤ 40 ∧ 1 ≤ b.2.1 ∧ b.2.1 ≤ 40 := by
  unfold shp
  rw [Bool.and_eq_true, decide_eq_true_eq]
/-- An item of a region: its bitmap is a shape, its corner is near. -/
structure IOk (symbols : List Bmp) (i : Item) : Prop where
  b : shp (bof symbols i) = true
  x : i.2.2.2.1 = true ∨ (0 ≤ i.1 ∧ i.1 < (symbols.length : Int))
  s : near i.2.1 100000
  t : near i.2.2.1 100000
theorem iok {rf : Bool} {symbols : List Bmp} {i : Item} (hs : symbols.all shp = true) (hp : shpI i = true) (h : itm rf (symbols.length : Int) i = true) : IOk symbols i := by
  unfold itm at h
  rw [Bool.and_eq_true, decide_eq_true_eq] at h
  obtain ⟨⟨h1, h2, h3, h4⟩, h5⟩ := h
  refine ⟨?_, .inr ⟨h1, h2⟩, h3, h4⟩
  unfold bof
  unfold shpI at hp
  split
  · rename_i hr
    rw [hr] at hp
    exact hp
  · exact all_getD hs _ (by omega)
theorem cor_near {o1 : Int} {b : Bmp} (hb : shp b = true) : 0 ≤ (cor o1 b).1 ∧ (cor o1 b).1 ≤ 39 ∧ 0 ≤ (cor o1 b).2 ∧ (cor o1 b).2 ≤ 39 := by
  have := shp_iff.1 hb
  unfold cor
  dsimp only
  repeat' split
  all_goals omega
theorem drawn_ok {fl : Nat} {symbols : List Bmp} {i : Item} (h : IOk symbols i) {K : Bmp → Option Ans} : F_text_drawn fl symbols i.1 i.2.1 i.2.2.1 i.2.2.2.1 i.2.2.2.2.1 i.2.2.2.2.2.1 i.2.2.2.2.2.2.1 i.2.2.2.2.2.2.2.1 i.2.2.2.2.2.2.2.2 K = K (bof symbols i) := by
  unfold F_text_drawn bof Item.pix
  cases hr : i.2.2.2.1 with
  | true => rfl
  | false =>
    have := h.x
    rw [hr] at this
    rw [cond_false, dec_t (by simpa using this), if_neg (by simp)]
theorem corner_ok {fl : Nat} {o0 o1 o3 o4 o5 o7 : Int} {tu rf : Bool} {b : Bmp} (h0 : 0 ≤ o1) (h3 : o1 ≤ 3) (hb : shp b = true) {K : Int × Int → Option Ans} : F_text_corner fl o0 o1 tu o3 o4 o5 rf o7 b.1 b.2.1 b.2.2 K = K (cor o1 b) := by
  obtain ⟨_, b1, b2, b3, b4⟩ := shp_iff.1 hb
  unfold F_text_corner cor
  rw [wrap64 (x := b.1 - 1) (by omega) (by omega), wrap64 (x := b.2.1 - 1) (by omega) (by omega)]
  have : o1 = 0 ∨ o1 = 1 ∨ o1 = 2 ∨ o1 = 3 := by omega
  rcases this with rfl | rfl | rfl | rfl <;> rfl
theorem place_ok {fl : Nat} {o0 o1 o3 o4 o5 o7 : Int} {tu rf : Bool} {symbols : List Bmp} {i : Item} (h0 : 0 ≤ o1) (h3 : o1 ≤ 3) (h : IOk symbols i) {K : Int × Int → Option Ans} :
    F_text_place fl o0 o1 tu o3 o4 o5 rf o7 symbols i.1 i.2.1 i.2.2.1 i.2.2.2.1 i.2.2.2.2.1 i.2.2.2.2.2.1 i.2.2.2.2.2.2.1 i.2.2.2.2.2.2.2.1 i.2.2.2.2.2.2.2.2 K = K (plc o1 tu (bof symbols i) i) := by
  have c := cor_near (o1 := o1) h.b
  obtain ⟨s1, s2⟩ := h.s
  obtain ⟨t1, t2⟩ := h.t
  unfold F_text_place plc
  cases tu with
  | true =>
    rw [cond_true, if_pos rfl, drawn_ok h]
    try dsimp only
    rw [corner_ok h0 h3 h.b, wrap64 (by omega) (by omega), wrap64 (by omega) (by omega)]
  | false =>
    rw [cond_false, if_neg (by simp), drawn_ok h]
    try dsimp only
    rw [corner_ok h0 h3 h.b, wrap64 (by omega) (by omega), wrap64 (by omega) (by omega)]
/-- What Place answers. -/
def placeE (o0 o1 o3 o4 o5 o7 : Int) (tu rf : Bool) (symbols : List Bmp) (i : Item) : Int × Int × Int :=
  if bErr o0 o1 o3 o4 o5 o7 symbols [i] = 0 then (if rights rf (symbols.length : Int) [i] = true then ((plc o1 tu (bof symbols i) i).1, (plc o1 tu (bof symbols i) i).2, 0) else (0, 0, 2)) else (0, 0, bErr o0 o1 o3 o4 o5 o7 symbols [i])
theorem bErr_iff {o0 o1 o3 o4 o5 o7 : Int} {symbols : List Bmp} {l : List Item} : bErr o0 o1 o3 o4 o5 o7 symbols l = 0 ↔ ov o0 o1 o3 o4 o5 o7 = true ∧ symbols.all shp = true ∧ l.all shpI = true := by
  unfold bErr
  cases ov o0 o1 o3 o4 o5 o7 <;> cases symbols.all shp <;> cases l.all shpI <;> simp
theorem rights_iff {rf : Bool} {n : Int} {l : List Item} : rights rf n l = true ↔ n ≤ 60 ∧ (l.length : Int) ≤ 300 ∧ l.all (itm rf n) = true := by
  unfold rights
  simp only [Bool.and_eq_true, decide_eq_true_eq, and_assoc]
section
variable {fl : Nat} (hfl : 9223372036854775808 ≤ fl)
include hfl
theorem tPlace {o0 o1 o3 o4 o5 o7 : Int} {tu rf : Bool} {symbols : List Bmp} (hs : symbols.length ≤ 1000000000000000) (i : Item) {K : Int × Int × Int → Option Ans} :
    F_text_Place fl o0 o1 tu o3 o4 o5 rf o7 symbols i.1 i.2.1 i.2.2.1 i.2.2.2.1 i.2.2.2.2.1 i.2.2.2.2.2.1 i.2.2.2.2.2.2.1 i.2.2.2.2.2.2.2.1 i.2.2.2.2.2.2.2.2 K = K (placeE o0 o1 o3 o4 o5 o7 tu rf symbols i) := by
  unfold F_text_Place placeE
  rw [show ([(i.1, i.2.1, i.2.2.1, i.2.2.2.1, i.2.2.2.2.1, i.2.2.2.2.2.1, i.2.2.2.2.2.2.1, i.2.2.2.2.2.2.2.1, i.2.2.2.2.2.2.2.2)] : List Item) = [i] from rfl, begun_ok hfl hs (by simp)]
  try dsimp only
  rw [cn]
  by_cases he : bErr o0 o1 o3 o4 o5 o7 symbols [i] = 0
  rotate_left
  · rw [if_neg he, if_neg he]
  rw [if_pos he, if_pos he, right_ok hfl]
  try dsimp only
  cases hr : rights rf (symbols.length : Int) [i] with
  | false => rfl
  | true =>
    obtain ⟨e1, e2, e3⟩ := bErr_iff.1 he
    obtain ⟨r1, r2, r3⟩ := rights_iff.1 hr
    have hi : IOk symbols i := iok e2 (by simpa using e3) (by simpa using r3)
    have o := ov_iff.1 e1
    rw [cond_f (b := !true) rfl, if_pos rfl, place_ok o.2.1 o.2.2.1 hi]
end
end Go.Proofs.YtipdidpalcmlhaaGreat.Tx

set_option linter.unusedVariables false
set_option linter.unusedSimpArgs false
namespace Go.Proofs.YtipdidpalcmlhaaGreat.Tx
open Go Ev Bm Co

def atI (o1 : Int) (tu : Bool) (b : Bmp) (a x y : Int) : Item := if tu = true then (a, y + (cor o1 b).2, x + (cor o1 b).1, false, 0, 0, 0, 0, []) else (a, x + (cor o1 b).1, y + (cor o1 b).2, false, 0, 0, 0, 0, [])
abbrev atK (K : Int × Int × Int × Bool × Int × Int × Int × Int × Int × List Int → Option Ans) (e : Int) (i : Item) : Option Ans := K (i.1, i.2.1, i.2.2.1, i.2.2.2.1, i.2.2.2.2.1, i.2.2.2.2.2.1, i.2.2.2.2.2.2.1, i.2.2.2.2.2.2.2.1, e, i.2.2.2.2.2.2.2.2)
/-- The error of At. -/
def atE (o0 o1 o3 o4 o5 o7 : Int) (tu rf : Bool) (b : Bmp) (a x y : Int) : Int :=
  if ov o0 o1 o3 o4 o5 o7 = true then (if shp b = true then (if near x 200000 ∧ near y 200000 ∧ itm rf 60 (atI o1 tu b a x y) = true then 0 else 2) else 30) else 2
def atR (o0 o1 o3 o4 o5 o7 : Int) (tu rf : Bool) (b : Bmp) (a x y : Int) : Item := if atE o0 o1 o3 o4 o5 o7 tu rf b a x y = 0 then atI o1 tu b a x y else (0, 0, 0, false, 0, 0, 0, 0, [])
section
variable {fl : Nat} (hfl : 9223372036854775808 ≤ fl)
include hfl
theorem tAt {o0 o1 o3 o4 o5 o7 : Int} {tu rf : Bool} {b : Bmp} {a x y : Int} {K : Int × Int × Int × Bool × Int × Int × Int × Int × Int × List Int → Option Ans} :
    F_text_At fl o0 o1 tu o3 o4 o5 rf o7 b.1 b.2.1 b.2.2 a x y K = atK K (atE o0 o1 o3 o4 o5 o7 tu rf b a x y) (atR o0 o1 o3 o4 o5 o7 tu rf b a x y) := by
  unfold F_text_At atR atE
  rw [show ([(b.1, b.2.1, b.2.2)] : List Bmp) = [b] from rfl, begun_ok hfl (by simp) (by simp)]
  unfold bErr
  cases ho : ov o0 o1 o3 o4 o5 o7 with
  | false => rfl
  | true =>
    rw [if_pos rfl, if_pos rfl]
    cases hb : shp b with
    | false =>
      rw [if_neg (by simp [hb]), if_neg (by simp)]
      rfl
    | true =>
      have o := ov_iff.1 ho
      have c := cor_near (o1 := o1) hb
      rw [if_pos (by simp [hb]), if_pos (show ([] : List Item).all shpI = true from rfl), if_pos rfl]
      try dsimp only
      rw [cond_f (by rfl), corner_ok o.2.1 o.2.2.1 hb]
      try dsimp only
      rw [near_ok (by omega) (by omega)]
      by_cases h1 : near x 200000
      rotate_left
      · rw [decide_eq_false h1, cond_t (by rfl), if_neg (fun h => h1 h.1), if_neg (by simp)]
      rw [decide_eq_true h1, cond_f (by rfl), near_ok (by omega) (by omega)]
      by_cases h2 : near y 200000
      rotate_left
      · rw [decide_eq_false h2, cond_t (by rfl), if_neg (fun h => h2 h.2.1), if_neg (by simp)]
      obtain ⟨x1, x2⟩ := h1
      obtain ⟨y1, y2⟩ := h2
      rw [decide_eq_true (show near y 200000 from ⟨y1, y2⟩), cond_f (by rfl), wrap64 (x := y + (cor o1 b).2) (by omega) (by omega), wrap64 (x := x + (cor o1 b).1) (by omega) (by omega)]
      cases tu with
      | true =>
        have e : atI o1 true b a x y = (a, y + (cor o1 b).2, x + (cor o1 b).1, false, 0, 0, 0, 0, []) := rfl
        have hr := fun K => rightItem_ok (fl := fl) (o0 := o0) (o1 := o1) (o3 := o3) (o4 := o4) (o5 := o5) (o7 := o7) (n := 60) (tu := true) (rf := rf) (i := (a, y + (cor o1 b).2, x + (cor o1 b).1, false, 0, 0, 0, 0, [])) (K := K)
        try dsimp only at hr
        rw [cond_true, hr, e]
        cases hi : itm rf 60 (a, y + (cor o1 b).2, x + (cor o1 b).1, false, 0, 0, 0, 0, []) with
        | false => rw [cond_t (by rfl), if_neg (by simp), if_neg (by simp)]
        | true => rw [cond_f (by rfl), if_pos ⟨⟨x1, x2⟩, ⟨y1, y2⟩, rfl⟩, if_pos rfl]
      | false =>
        have e : atI o1 false b a x y = (a, x + (cor o1 b).1, y + (cor o1 b).2, false, 0, 0, 0, 0, []) := rfl
        have hr := fun K => rightItem_ok (fl := fl) (o0 := o0) (o1 := o1) (o3 := o3) (o4 := o4) (o5 := o5) (o7 := o7) (n := 60) (tu := false) (rf := rf) (i := (a, x + (cor o1 b).1, y + (cor o1 b).2, false, 0, 0, 0, 0, [])) (K := K)
        try dsimp only at hr
        rw [cond_false, hr, e]
        cases hi : itm rf 60 (a, x + (cor o1 b).1, y + (cor o1 b).2, false, 0, 0, 0, 0, []) with
        | false => rw [cond_t (by rfl), if_neg (by simp), if_neg (by simp)]
        | true => rw [cond_f (by rfl), if_pos ⟨⟨x1, x2⟩, ⟨y1, y2⟩, rfl⟩, if_pos rfl]
theorem rAt {o0 o1 o3 o4 o5 o7 : Int} {tu rf : Bool} {b : Bmp} {a x y : Int} {K : Int × Int × Int × Bool × Int × Int × Int × Int × Int × List Int → Option Ans} :
    F_ref10_At fl o0 o1 tu o3 o4 o5 rf o7 b.1 b.2.1 b.2.2 a x y K = atK K (atE o0 o1 o3 o4 o5 o7 tu rf b a x y) (atR o0 o1 o3 o4 o5 o7 tu rf b a x y) := by
  unfold F_ref10_At atR atE
  rw [rvalid]
  cases ho : ov o0 o1 o3 o4 o5 o7 with
  | false => rfl
  | true =>
    rw [if_pos rfl]
    try dsimp only
    rw [cond_f (by rfl), rshape_ok hfl, show (b.1, b.2.1, b.2.2) = b from rfl]
    cases hb : shp b with
    | false => rfl
    | true =>
      rw [if_pos rfl]
      try dsimp only
      rw [cond_f (by rfl)]
      have o := ov_iff.1 ho
      obtain ⟨_, b1, b2, b3, b4⟩ := shp_iff.1 hb
      by_cases h1 : x < -200000
      · rw [dec_t h1, if_neg (fun h => by have := h.1.1; omega), if_neg (by simp)]
      rw [dec_f h1]
      by_cases h2 : x > 200000
      · rw [dec_t h2, if_neg (fun h => by have := h.1.2; omega), if_neg (by simp)]
      rw [dec_f h2]
      by_cases h3 : y < -200000
      · rw [dec_t h3, if_neg (fun h => by have := h.2.1.1; omega), if_neg (by simp)]
      rw [dec_f h3]
      by_cases h4 : y > 200000
      · rw [dec_t h4, if_neg (fun h => by have := h.2.1.2; omega), if_neg (by simp)]
      rw [dec_f h4]
      have nx : near x 200000 := ⟨by omega, by omega⟩
      have ny : near y 200000 := ⟨by omega, by omega⟩
      have im : ∀ s t : Int, itm rf 60 (a, s, t, false, 0, 0, 0, 0, []) = (decide (0 ≤ a ∧ a < 60) && decide (near s 100000) && decide (near t 100000)) := by
        intro s t
        have : itm rf 60 (a, s, t, false, 0, 0, 0, 0, []) = (decide (0 ≤ a ∧ a < 60 ∧ near s 100000 ∧ near t 100000) && true) := rfl
        rw [this, Bool.and_true]
        by_cases q1 : near s 100000 <;> by_cases q2 : near t 100000 <;> simp [q1, q2]
      have ia : itm rf 60 (atI o1 tu b a x y) = true → 0 ≤ a ∧ a < 60 := by
        intro h
        have e : ∀ s t, itm rf 60 (a, s, t, false, 0, 0, 0, 0, []) = true → 0 ≤ a ∧ a < 60 := by
          intro s t h
          rw [im] at h
          simp only [Bool.and_eq_true, decide_eq_true_eq] at h
          exact h.1.1
        unfold atI at h
        cases tu
        · exact e _ _ h
        · exact e _ _ h
      by_cases h5 : a < 0
      · rw [dec_t h5]
        have : ¬ itm rf 60 (atI o1 tu b a x y) = true := by
          intro h
          have := ia h
          omega
        rw [if_neg (fun h => this h.2.2), if_neg (by simp)]
      rw [dec_f h5]
      by_cases h6 : a ≥ 60
      · rw [dec_t h6]
        have : ¬ itm rf 60 (atI o1 tu b a x y) = true := by
          intro h
          have := ia h
          omega
        rw [if_neg (fun h => this h.2.2), if_neg (by simp)]
      rw [dec_f h6]
      rw [wrap64 (x := b.1 - 1) (by omega) (by omega), wrap64 (x := b.2.1 - 1) (by omega) (by omega), wrap64 (x := x + (b.1 - 1)) (by omega) (by omega), wrap64 (x := y + (b.2.1 - 1)) (by omega) (by omega)]
      have fin : ∀ s t : Int, (F_ref10_isShift fl s fun y21 => bif !y21 then K (0, 0, 0, false, 0, 0, 0, 0, 2, []) else F_ref10_isShift fl t fun y26 => bif !y26 then K (0, 0, 0, false, 0, 0, 0, 0, 2, []) else K (a, s, t, false, 0, 0, 0, 0, 0, []))
          = atK K (if near x 200000 ∧ near y 200000 ∧ itm rf 60 (a, s, t, false, 0, 0, 0, 0, []) = true then 0 else 2) (if (if near x 200000 ∧ near y 200000 ∧ itm rf 60 (a, s, t, false, 0, 0, 0, 0, []) = true then (0 : Int) else 2) = 0 then (a, s, t, false, 0, 0, 0, 0, []) else (0, 0, 0, false, 0, 0, 0, 0, [])) := by
        intro s t
        rw [shift_ok, im, decide_eq_true (show 0 ≤ a ∧ a < 60 by omega), Bool.true_and]
        by_cases q1 : near s 100000
        rotate_left
        · rw [decide_eq_false q1, cond_t (by rfl), if_neg (by simp), if_neg (by simp)]
        rw [decide_eq_true q1, cond_f (by rfl), shift_ok, Bool.true_and]
        by_cases q2 : near t 100000
        rotate_left
        · rw [decide_eq_false q2, cond_t (by rfl), if_neg (by simp), if_neg (by simp)]
        rw [decide_eq_true q2, cond_f (by rfl), if_pos ⟨nx, ny, rfl⟩, if_pos rfl]
      have z1 : x + 0 = x := Int.add_zero _
      have z2 : y + 0 = y := Int.add_zero _
      have e1 : (0 : Int).tmod 2 = 0 := rfl
      have e2 : (1 : Int).tmod 2 = 1 := rfl
      have e3 : (2 : Int).tmod 2 = 0 := rfl
      have e4 : (3 : Int).tmod 2 = 1 := rfl
      have o13 : o1 = 0 ∨ o1 = 1 ∨ o1 = 2 ∨ o1 = 3 := by omega
      rcases o13 with rfl | rfl | rfl | rfl
      · rw [cond_f (b := (0 : Int).tmod 2 == 1) rfl, dec_f (by omega)]
        cases tu
        · have e : atI 0 false b a x y = (a, x, y, false, 0, 0, 0, 0, []) := by simp [atI, cor]
          rw [cond_false, e]
          exact fin _ _
        · have e : atI 0 true b a x y = (a, y, x, false, 0, 0, 0, 0, []) := by simp [atI, cor]
          rw [cond_true, e]
          exact fin _ _
      · rw [cond_t (b := (1 : Int).tmod 2 == 1) rfl, dec_f (by omega)]
        cases tu
        · have e : atI 1 false b a x y = (a, x + (b.1 - 1), y, false, 0, 0, 0, 0, []) := by simp [atI, cor]
          rw [cond_false, e]
          exact fin _ _
        · have e : atI 1 true b a x y = (a, y, x + (b.1 - 1), false, 0, 0, 0, 0, []) := by simp [atI, cor]
          rw [cond_true, e]
          exact fin _ _
      · rw [cond_f (b := (2 : Int).tmod 2 == 1) rfl, dec_t (by omega)]
        cases tu
        · have e : atI 2 false b a x y = (a, x, y + (b.2.1 - 1), false, 0, 0, 0, 0, []) := by simp [atI, cor]
          rw [cond_false, e]
          exact fin _ _
        · have e : atI 2 true b a x y = (a, y + (b.2.1 - 1), x, false, 0, 0, 0, 0, []) := by simp [atI, cor]
          rw [cond_true, e]
          exact fin _ _
      · rw [cond_t (b := (3 : Int).tmod 2 == 1) rfl, dec_t (by omega)]
        cases tu
        · have e : atI 3 false b a x y = (a, x + (b.1 - 1), y + (b.2.1 - 1), false, 0, 0, 0, 0, []) := by simp [atI, cor]
          rw [cond_false, e]
          exact fin _ _
        · have e : atI 3 true b a x y = (a, y + (b.2.1 - 1), x + (b.1 - 1), false, 0, 0, 0, 0, []) := by simp [atI, cor]
          rw [cond_true, e]
          exact fin _ _
end
end Go.Proofs.YtipdidpalcmlhaaGreat.Tx

set_option linter.unusedVariables false
set_option linter.unusedSimpArgs false
namespace Go.Proofs.YtipdidpalcmlhaaGreat.Tx
open Go Ev Bm

section
variable {fl : Nat} (hfl : 9223372036854775808 ≤ fl)
include hfl
theorem sameB {w h : Int} {p : List Int} (hl : p.length ≤ 1000000000000000) {K : Bool → Option Ans} : F_ref06_SameBitmap fl w h p w h p K = K true := by
  unfold F_ref06_SameBitmap
  rw [cond_f (by simp), cond_f (by simp), cond_f (by simp)]
  unfold L_ref06_SameBitmap_0
  refine iter_seq (step := S_ref06_SameBitmap_0 fl) (fun i : Nat => ((p.length : Int), (i : Int), w, h, p, w, h, p)) p.length rfl (fun i hi c => ?_) (fun c => ?_) (by omega)
  · simp only [S_ref06_SameBitmap_0]
    rw [dec_t (by omega), dec_t (by omega), dec_t (by omega), cond_f (by simp), wrap64 (by omega) (by omega)]
    rfl
  · simp only [S_ref06_SameBitmap_0]
    rw [dec_f (by omega)]
theorem awake {K : Bool → Option Ans} : F_law10_Awake fl K = K true := rfl
end
end Go.Proofs.YtipdidpalcmlhaaGreat.Tx

set_option linter.unusedVariables false
set_option linter.unusedSimpArgs false
namespace Go.Proofs.YtipdidpalcmlhaaGreat.PureTextAt
open Go Ev Bm Gen Tx
theorem at_place {o0 o1 o3 o4 o5 o7 : Int} {tu rf : Bool} {b : Tx.Bmp} {a x y : Int} (h : atE o0 o1 o3 o4 o5 o7 tu rf b a x y = 0) :
    (0 ≤ a ∧ a < 60) ∧ atR o0 o1 o3 o4 o5 o7 tu rf b a x y = atI o1 tu b a x y ∧ placeE o0 o1 o3 o4 o5 o7 tu rf (List.replicate (a + 1).toNat b) (atI o1 tu b a x y) = (x, y, 0) := by
  have hR : atR o0 o1 o3 o4 o5 o7 tu rf b a x y = atI o1 tu b a x y := by unfold atR; rw [if_pos h]
  unfold atE at h
  split at h
  rotate_left
  · exact absurd h (by decide)
  rename_i ho
  split at h
  rotate_left
  · exact absurd h (by decide)
  rename_i hb
  split at h
  rotate_left
  · exact absurd h (by decide)
  rename_i hi
  obtain ⟨_, _, hi⟩ := hi
  have hf : (atI o1 tu b a x y).2.2.2.1 = false ∧ (atI o1 tu b a x y).1 = a := by unfold atI; cases tu <;> exact ⟨rfl, rfl⟩
  have hi' := hi
  unfold itm at hi'
  rw [hf.1, hf.2, Bool.and_eq_true, decide_eq_true_eq] at hi'
  obtain ⟨⟨a0, a1, a2, a3⟩, a4⟩ := hi'
  refine ⟨⟨a0, a1⟩, hR, ?_⟩
  have hbe : bErr o0 o1 o3 o4 o5 o7 (List.replicate (a + 1).toNat b) [atI o1 tu b a x y] = 0 := by
    rw [bErr_iff]
    refine ⟨ho, ?_, ?_⟩
    · rw [List.all_eq_true]
      intro z hz
      rw [(List.mem_replicate.1 hz).2]
      exact hb
    · simp [shpI, hf.1]
  have hri : rights rf ((List.replicate (a + 1).toNat b).length : Int) [atI o1 tu b a x y] = true := by
    rw [rights_iff, List.length_replicate]
    refine ⟨by omega, by simp, ?_⟩
    rw [List.all_cons, List.all_nil, Bool.and_true]
    unfold itm
    rw [hf.1, hf.2, Bool.and_eq_true, decide_eq_true_eq]
    exact ⟨⟨a0, by omega, a2, a3⟩, a4⟩
  unfold placeE
  rw [if_pos hbe, if_pos hri]
  have hbo : bof (List.replicate (a + 1).toNat b) (atI o1 tu b a x y) = b := by
    unfold bof
    rw [hf.1, hf.2, if_neg (by simp), List.getD_eq_getElem?_getD, List.getElem?_replicate, if_pos (by omega)]
    rfl
  rw [hbo]
  unfold plc atI
  cases tu with
  | true =>
    rw [if_pos rfl, if_pos rfl]
    refine Prod.ext ?_ (Prod.ext ?_ rfl)
    · show x + (cor o1 b).1 - (cor o1 b).1 = x
      omega
    · show y + (cor o1 b).2 - (cor o1 b).2 = y
      omega
  | false =>
    rw [if_neg (by simp), if_neg (by simp)]
    refine Prod.ext ?_ (Prod.ext ?_ rfl)
    · show x + (cor o1 b).1 - (cor o1 b).1 = x
      omega
    · show y + (cor o1 b).2 - (cor o1 b).2 = y
      omega
theorem pure_fl {fl : Nat} (hfl : 9223372036854775808 ≤ fl) (o0 o1 : Int) (tu : Bool) (o3 o4 o5 : Int) (rf : Bool) (o7 : Int) (b : Tx.Bmp) (a x y : Int) (K : Bool → Option Ans) :
    F_law10_TextAt fl o0 o1 tu o3 o4 o5 rf o7 b.1 b.2.1 b.2.2 a x y K = K true := by
  unfold F_law10_TextAt
  rw [tAt hfl]
  dsimp only [atK]
  rw [rAt hfl]
  dsimp only [atK]
  rw [cn, if_pos rfl]
  generalize hi : atR o0 o1 o3 o4 o5 o7 tu rf b a x y = it
  unfold F_ref10_SameItem
  have hp : it.2.2.2.2.2.2.2.2.length ≤ 1000000000000000 := by
    rw [← hi]
    unfold atR atI
    split
    · cases tu <;> simp
    · simp
  rw [cond_t (by simp), cond_t (by simp), cond_t (by simp), cond_t (by simp), cond_t (by simp), cond_t (by simp), sameB hfl hp]
  try dsimp only
  rw [cond_f (b := !true) rfl, cn]
  by_cases he : atE o0 o1 o3 o4 o5 o7 tu rf b a x y = 0
  rotate_left
  · rw [if_neg he, awake hfl]
  rw [if_pos he]
  obtain ⟨⟨a0, a1⟩, hR, hP⟩ := at_place he
  unfold L_law10_TextAt_0
  refine iter_seq (step := S_law10_TextAt_0 fl) (fun i : Nat => (x, y, a + 1, (i : Int), o0, o1, tu, o3, o4, o5, rf, o7, b.1, b.2.1, b.2.2, it.1, it.2.1, it.2.2.1, it.2.2.2.1, it.2.2.2.2.1, it.2.2.2.2.2.1, it.2.2.2.2.2.2.1, it.2.2.2.2.2.2.2.1, List.replicate i b, it.2.2.2.2.2.2.2.2)) (a + 1).toNat (by rw [wrap64 (by omega) (by omega)]; rfl) (fun i hi c => ?_) (fun c => ?_) (by omega)
  · simp only [S_law10_TextAt_0]
    rw [dec_t (by omega), dec_t (by rw [List.length_replicate]; omega), wrap64 (by omega) (by omega), show (b.1, b.2.1, b.2.2) = b from rfl, ← List.replicate_succ']
    rfl
  · simp only [S_law10_TextAt_0]
    rw [dec_f (by omega)]
    try dsimp only
    rw [tPlace hfl (by rw [List.length_replicate]; omega) it, ← hi, hR, hP]
    try dsimp only
    rw [cond_t (by rfl), cond_t (by simp), cond_t (by simp), awake hfl]
theorem pure (o0 o1 : Int) (tu : Bool) (o3 o4 o5 : Int) (rf : Bool) (o7 : Int) (w h : Int) (p : List Int) (a x y : Int) (K : Bool → Option Ans)
    (g0 : given (.pair (.int .i64) (.pair (.int .i64) (.pair .bool (.pair (.int .i64) (.pair (.int .i64) (.pair (.int .i64) (.pair .bool (.int .i64)))))))) (o0, o1, tu, o3, o4, o5, rf, o7))
    (g1 : given (.pair (.int .i64) (.pair (.int .i64) (.sl (.int .u8)))) (w, h, p))
    (g2 : (Lit.int .i64 a).wf = true) (g3 : (Lit.int .i64 x).wf = true) (g4 : (Lit.int .i64 y).wf = true) :
    F_law10_TextAt fuel o0 o1 tu o3 o4 o5 rf o7 w h p a x y K = K true :=
  pure_fl (by rw [fuel_eq]; omega) o0 o1 tu o3 o4 o5 rf o7 (w, h, p) a x y K
end Go.Proofs.YtipdidpalcmlhaaGreat.PureTextAt

