/- Laws of the typed texts that TextOne reaches, in plain Lean. No condition but what each theorem names. -/
import Derived.Test.YtipdidpalcmlhaaGreatEvO
import Derived.Test.YtipdidpalcmlhaaGreatFsTextOne3
import Derived.Test.YtipdidpalcmlhaaGreatFsTextOne1
import Derived.Test.YtipdidpalcmlhaaGreatFsTextOne2
import Derived.Test.YtipdidpalcmlhaaGreatFsTextOne4
import Derived.Test.YtipdidpalcmlhaaGreatEvS
set_option linter.unusedVariables false
set_option linter.unusedSimpArgs false
set_option linter.unusedSectionVars false
set_option linter.unusedVariables false
namespace Go.Proofs.YtipdidpalcmlhaaGreat.Ev
open Go

theorem cond_t {α : Sort _} {b : Bool} {x y : α} (h : b = true) : (bif b then x else y) = x := by rw [h]; rfl
theorem cond_f {α : Sort _} {b : Bool} {x y : α} (h : b = false) : (bif b then x else y) = y := by rw [h]; rfl
theorem dec_t {p : Prop} {i : Decidable p} {α : Sort _} {x y : α} (h : p) : (bif @decide p i then x else y) = x := cond_t (decide_eq_true h)
theorem dec_f {p : Prop} {i : Decidable p} {α : Sort _} {x y : α} (h : ¬p) : (bif @decide p i then x else y) = y := cond_f (decide_eq_false h)
theorem both_same (x : Option Ans) : both x x = x := by
  unfold both
  cases x with
  | none => rfl
  | some u => rfl

theorem fuel_eq : fuel = 18446744073709551616 := rfl
/-! ### Numbers -/
theorem wrap64 {x : Int} (h1 : -9223372036854775808 ≤ x) (h2 : x ≤ 9223372036854775807) : IntKind.i64.wrap x = x := by
  simp [IntKind.wrap, IntKind.min, IntKind.max, IntKind.signed, IntKind.bits]
  omega
theorem wrap8 {x : Int} (h1 : 0 ≤ x) (h2 : x ≤ 255) : IntKind.u8.wrap x = x := by
  simp [IntKind.wrap, IntKind.min, IntKind.max, IntKind.signed, IntKind.bits]
  omega
/-! ### Loops whose states are known -/
/-- A loop that goes through known states, up to the n-th one. -/
theorem iter_to {V B : Type} {step : V → (V → Option Ans) → B → Option Ans} {b : B} {r : Option Ans} (σ : Nat → V) (n : Nat)
    (h : ∀ i, i < n → ∀ c, step (σ i) c b = c (σ (i + 1))) (hn : ∀ c, step (σ n) c b = r) {m : Nat} (hm : n < m) : iter step m (σ 0) b = r := by
  have key : ∀ d i m, i + d = n → d < m → iter step m (σ i) b = r := by
    intro d
    induction d with
    | zero =>
      intro i m hi hm
      obtain ⟨m, rfl⟩ : ∃ k, m = k + 1 := ⟨m - 1, by omega⟩
      have : i = n := by omega
      subst this
      exact hn _
    | succ d ih =>
      intro i m hi hm
      obtain ⟨m, rfl⟩ : ∃ k, m = k + 1 := ⟨m - 1, by omega⟩
      simp only [iter]
      rw [h i (by omega)]
      exact ih (i + 1) m (by omega) (by omega)
  exact key n 0 m (by omega) hm
theorem iter_seq {V B : Type} {step : V → (V → Option Ans) → B → Option Ans} {b : B} {r : Option Ans} {v : V} {m : Nat} (σ : Nat → V) (n : Nat) (hv : v = σ 0)
    (h : ∀ i, i < n → ∀ c, step (σ i) c b = c (σ (i + 1))) (hn : ∀ c, step (σ n) c b = r) (hm : n < m) : iter step m v b = r := by
  rw [hv]
  exact iter_to σ n h hn hm
/-! ### Lists -/
theorem getD_lt {α : Type} {l : List α} {i : Nat} (h : i < l.length) (d : α) : l.getD i d = l[i] := by simp [h]
theorem getD_mem {α : Type} {l : List α} {i : Nat} (h : i < l.length) (d : α) : l.getD i d ∈ l := by rw [getD_lt h]; exact List.getElem_mem h
/-- The first of a list's members, in order, that is such a one: its place. -/
theorem all_or_first {α : Type} (p : α → Bool) (d : α) (l : List α) : l.all p = true ∨ ∃ n, n < l.length ∧ p (l.getD n d) = false ∧ ∀ i, i < n → p (l.getD i d) = true := by
  induction l with
  | nil => exact .inl rfl
  | cons x l ih =>
    cases hx : p x with
    | false => exact .inr ⟨0, by simp, by simpa using hx, fun i hi => by omega⟩
    | true =>
      rcases ih with ih | ⟨n, h1, h2, h3⟩
      · left; simp [hx, ih]
      · refine .inr ⟨n + 1, by simpa using h1, by simpa using h2, fun i hi => ?_⟩
        cases i with
        | zero => simpa using hx
        | succ i => simpa using h3 i (by omega)
theorem all_getD {α : Type} {p : α → Bool} {l : List α} (h : l.all p = true) (d : α) {i : Nat} (hi : i < l.length) : p (l.getD i d) = true :=
  List.all_eq_true.1 h _ (getD_mem hi d)
theorem not_all {α : Type} {p : α → Bool} {l : List α} {d : α} {n : Nat} (h : n < l.length) (hp : p (l.getD n d) = false) : l.all p = false := by
  rw [List.all_eq_false]
  exact ⟨_, getD_mem h d, by rw [hp]; simp⟩
end Go.Proofs.YtipdidpalcmlhaaGreat.Ev

set_option linter.unusedVariables false
set_option linter.unusedSimpArgs false
namespace Go.Proofs.YtipdidpalcmlhaaGreat.Bm
open Go Ev

theorem cd {α : Sort _} {p : Prop} {i : Decidable p} {x y : α} : (bif @decide p i then x else y) = @ite α p i x y := by by_cases h : p <;> simp [h]
theorem cb {α : Sort _} {a b : Int} {x y : α} : (bif a == b then x else y) = if a = b then x else y := by
  by_cases h : a = b
  · simp [h]
  · rw [if_neg h, cond_f (by simpa using h)]
theorem cn {α : Sort _} {a b : Int} {x y : α} : (bif a != b then x else y) = if a = b then y else x := by
  by_cases h : a = b
  · simp [h]
  · rw [if_neg h, cond_t (by simpa using h)]
theorem mul_le {w h a b : Int} (h0 : 0 ≤ w) (h1 : w ≤ a) (h2 : 0 ≤ h) (h3 : h ≤ b) : 0 ≤ w * h ∧ w * h ≤ a * b :=
  ⟨Int.mul_nonneg h0 h2, Int.mul_le_mul h1 h3 h2 (by omega)⟩

/-- Sides of a bitmap. -/
def fit (w h : Int) : Bool := decide (0 ≤ w ∧ 0 ≤ h ∧ w ≤ 200 ∧ h ≤ 200 ∧ w * h ≤ 8192)
theorem fit_iff {w h : Int} : fit w h = true ↔ 0 ≤ w ∧ 0 ≤ h ∧ w ≤ 200 ∧ h ≤ 200 ∧ w * h ≤ 8192 := by simp [fit]
theorem fits_ok {fl : Nat} {w h : Int} {K : Bool → Option Ans} : F_bitmap_fits fl w h K = K (fit w h) := by
  unfold F_bitmap_fits fit
  simp only [cd]
  split
  · split
    · split
      · split
        · have := mul_le (a := 200) (b := 200) (show 0 ≤ w by omega) (by omega) (show 0 ≤ h by omega) (by omega)
          rw [wrap64 (by omega) (by omega)]
          exact congrArg K (decide_eq_decide.2 (by omega))
        · exact congrArg K (decide_eq_false (by omega)).symm
      · exact congrArg K (decide_eq_false (by omega)).symm
    · exact congrArg K (decide_eq_false (by omega)).symm
  · exact congrArg K (decide_eq_false (by omega)).symm
/-- A bitmap. -/
def valid (w h : Int) (pix : List Int) : Bool := fit w h && decide ((pix.length : Int) = w * h) && pix.all fun x => decide (x ≤ 1)
theorem valid_iff {w h : Int} {pix : List Int} : valid w h pix = true ↔ (0 ≤ w ∧ 0 ≤ h ∧ w ≤ 200 ∧ h ≤ 200 ∧ w * h ≤ 8192) ∧ (pix.length : Int) = w * h ∧ ∀ x ∈ pix, x ≤ 1 := by
  unfold valid
  rw [Bool.and_eq_true, Bool.and_eq_true, fit_iff, decide_eq_true_eq, List.all_eq_true]
  simp [and_assoc]
theorem fit_mul {w h : Int} (hf : fit w h = true) : IntKind.i64.wrap (w * h) = w * h := by
  obtain ⟨h1, h2, h3, h4, h5⟩ := fit_iff.1 hf
  have := mul_le (a := 200) (b := 200) h1 h3 h2 h4
  exact wrap64 (by omega) (by omega)

theorem valid_ok {fl : Nat} (hfl : 9223372036854775808 ≤ fl) {w h : Int} {pix : List Int} {K : Bool → Option Ans} : F_bitmap_Valid fl w h pix K = K (valid w h pix) := by
  unfold F_bitmap_Valid
  rw [fits_ok]
  unfold valid
  cases hf : fit w h with
  | false => rfl
  | true =>
  rw [cond_f (b := !true) rfl, fit_mul hf, cn]
  obtain ⟨h1, h2, h3, h4, h5⟩ := fit_iff.1 hf
  split
  rotate_left
  · rename_i hne
    rw [decide_eq_false hne]
    rfl
  rename_i he
  rw [decide_eq_true he]
  simp only [Bool.true_and]
  unfold L_bitmap_Valid_0
  rcases all_or_first (fun x => decide (x ≤ 1)) 0 pix with ha | ⟨n, hn, hb, hi⟩
  · rw [ha]
    refine iter_seq (step := S_bitmap_Valid_0 fl) (fun i : Nat => (pix, (pix.length : Int), (i : Int))) pix.length rfl (fun i hi c => ?_) (fun c => ?_) (by omega)
    · have g := all_getD ha 0 hi
      simp only [decide_eq_true_eq] at g
      simp (disch := omega) only [S_bitmap_Valid_0, dec_t, dec_f, wrap64, Int.toNat_natCast]
      rfl
    · simp (disch := omega) only [S_bitmap_Valid_0, dec_f]
  · rw [not_all hn hb]
    refine iter_seq (step := S_bitmap_Valid_0 fl) (fun i : Nat => (pix, (pix.length : Int), (i : Int))) n rfl (fun i hin c => ?_) (fun c => ?_) (by omega)
    · have g := hi i hin
      simp only [decide_eq_true_eq] at g
      simp (disch := omega) only [S_bitmap_Valid_0, dec_t, dec_f, wrap64, Int.toNat_natCast]
      rfl
    · simp only [decide_eq_false_iff_not] at hb
      simp (disch := omega) only [S_bitmap_Valid_0, dec_t, Int.toNat_natCast]
/-- A place in a bitmap. -/
def ins (w h x y : Int) : Prop := 0 ≤ x ∧ 0 ≤ y ∧ x < w ∧ y < h
instance {w h x y : Int} : Decidable (ins w h x y) := by unfold ins; infer_instance
/-- A pixel, white outside. -/
def px (w h : Int) (pix : List Int) (x y : Int) : Int := if ins w h x y then pix.getD (y * w + x).toNat 0 else 0
theorem place {w h x y : Int} (hi : ins w h x y) : 0 ≤ y * w + x ∧ y * w + x < w * h := by
  obtain ⟨h1, h2, h3, h4⟩ := hi
  have a : 0 ≤ y * w := Int.mul_nonneg h2 (by omega)
  have b : (y + 1) * w ≤ h * w := Int.mul_le_mul_of_nonneg_right (by omega) (by omega)
  rw [Int.add_mul, Int.one_mul, Int.mul_comm h w] at b
  omega
theorem place_y {w h x y : Int} (hi : ins w h x y) : 0 ≤ y * w ∧ y * w < w * h := by
  obtain ⟨h1, h2, h3, h4⟩ := hi
  have a : 0 ≤ y * w := Int.mul_nonneg h2 (by omega)
  have b : (y + 1) * w ≤ h * w := Int.mul_le_mul_of_nonneg_right (by omega) (by omega)
  rw [Int.add_mul, Int.one_mul, Int.mul_comm h w] at b
  omega
theorem px_01 {w h : Int} {pix : List Int} (h0 : ∀ v ∈ pix, 0 ≤ v ∧ v ≤ 1) (x y : Int) : 0 ≤ px w h pix x y ∧ px w h pix x y ≤ 1 := by
  unfold px
  split
  · by_cases hl : (y * w + x).toNat < pix.length
    · exact h0 _ (getD_mem hl 0)
    · rw [List.getD_eq_getElem?_getD, List.getElem?_eq_none (by omega)]
      simp
  · omega
end Go.Proofs.YtipdidpalcmlhaaGreat.Bm

set_option linter.unusedVariables false
set_option linter.unusedSimpArgs false
namespace Go.Proofs.YtipdidpalcmlhaaGreat.Gen
open Go Ev Bm

def vr (t ax ay kd : Int) : Bool := decide (0 ≤ t ∧ t ≤ 3 ∧ (kd = 0 ∨ kd = 1) ∧ -8 ≤ ax ∧ ax ≤ 8 ∧ -8 ≤ ay ∧ ay ≤ 0 ∧ (ay < 0 ∨ ax < 0))
/-- The offsets of a template. -/
def tpl (t : Int) : List (Int × Int) :=
  if t = 0 then [(-1, -2), (0, -2), (1, -2), (-2, -1), (-1, -1), (0, -1), (1, -1), (2, -1), (-2, 0), (-1, 0)]
  else if t = 1 then [(-1, -2), (0, -2), (-1, -1), (0, -1), (1, -1), (-2, 0), (-1, 0)]
  else if t = 2 then [(-2, -1), (-1, -1), (0, -1), (1, -1), (2, -1), (-2, 0), (-1, 0)]
  else [(-1, -1), (0, -1), (1, -1), (-1, 0)]
/-- How many contexts a region takes. -/
def size (t : Int) : Int := 2 ^ ((tpl t).length + 1) + 1
/-! ### The context of a pixel -/
/-- A bitmap's pixels. -/
structure Pix (w h : Int) (p : List Int) : Prop where
  w0 : 0 ≤ w
  h0 : 0 ≤ h
  w1 : w ≤ 200
  h1 : h ≤ 200
  n : w * h ≤ 8192
  len : (p.length : Int) = w * h
  bit : ∀ v ∈ p, 0 ≤ v ∧ v ≤ 1
theorem pix_of {w h : Int} {p : List Int} (hv : valid w h p = true) (h0 : ∀ v ∈ p, 0 ≤ v) : Pix w h p := by
  obtain ⟨⟨a, b, c, d, e⟩, f, g⟩ := valid_iff.1 hv
  exact ⟨a, b, c, d, e, f, fun v hv => ⟨h0 v hv, g v hv⟩⟩
end Go.Proofs.YtipdidpalcmlhaaGreat.Gen

set_option linter.unusedVariables false
set_option linter.unusedSimpArgs false
namespace Go.Proofs.YtipdidpalcmlhaaGreat.Co
open Go Ev

/-- Whether both ends have the same highest byte. -/
def same (lo hi : Int) : Prop := lo / 16777216 = hi / 16777216
instance (lo hi : Int) : Decidable (same lo hi) := by unfold same; infer_instance
structure Rg (lo hi : Int) : Prop where
  l : 0 ≤ lo
  m : lo ≤ hi
  h : hi < 4294967296
/-! ### A stream of bytes, and its windows -/
end Go.Proofs.YtipdidpalcmlhaaGreat.Co

set_option linter.unusedVariables false
set_option linter.unusedSimpArgs false
namespace Go.Proofs.YtipdidpalcmlhaaGreat.Co
open Go Ev

def q : Nat → Int
  | 0 => 2048
  | k + 1 => q k - q k / 8
/-- How likely a 1 is. -/
def pr (kd s : Int) : Int :=
  if kd = 1 then min (max ((2 * (s % 256) + 1) * 4096 / (2 * (s / 256) + 2 * (s % 256) + 2)) 1) 4095
  else if 32 ≤ s then 4096 - q (s - 32).toNat else q s.toNat
def most (kd : Int) : Int := if kd = 1 then 65536 else 64
def vst (kd s : Int) : Prop := 0 ≤ s ∧ s < most kd
/-- An interval and its model's states. -/
structure Iv where
  st : List Int
  lo : Int
  hi : Int
structure Iv.Ok (kd : Int) (x : Iv) : Prop where
  k : kd = 0 ∨ kd = 1
  r : Rg x.lo x.hi
  d : ¬ same x.lo x.hi
  s : ∀ s ∈ x.st, vst kd s
/-! ### The end of a code -/
/-! ### What is got from any bytes -/
end Go.Proofs.YtipdidpalcmlhaaGreat.Co

set_option linter.unusedVariables false
set_option linter.unusedSimpArgs false
namespace Go.Proofs.YtipdidpalcmlhaaGreat.Co
open Go Ev

/-! ### Chances -/
end Go.Proofs.YtipdidpalcmlhaaGreat.Co

set_option linter.unusedVariables false
set_option linter.unusedSimpArgs false
namespace Go.Proofs.YtipdidpalcmlhaaGreat.Co
open Go Ev

/-! ### A new encoder -/
end Go.Proofs.YtipdidpalcmlhaaGreat.Co

set_option linter.unusedVariables false
set_option linter.unusedSimpArgs false
namespace Go.Proofs.YtipdidpalcmlhaaGreat.Co
open Go Ev

/-! ### Models -/
end Go.Proofs.YtipdidpalcmlhaaGreat.Co

set_option linter.unusedVariables false
set_option linter.unusedSimpArgs false
namespace Go.Proofs.YtipdidpalcmlhaaGreat.Co
open Go Ev

/-! ### The reference's encoder -/
end Go.Proofs.YtipdidpalcmlhaaGreat.Co

set_option linter.unusedVariables false
set_option linter.unusedSimpArgs false
namespace Go.Proofs.YtipdidpalcmlhaaGreat.Gen
open Go Ev Bm Co

/-- What is skipped has the region's sides, or none. -/
def Sk (w h : Int) (sp : List Int) : Prop := sp = [] ∨ (sp.length : Int) = w * h
/-! ### The events -/
section
variable (t ax ay base w h : Int) (ty : Bool) (p sp : List Int)
end
structure Reg (t ax ay kd base w h : Int) (p sp : List Int) (n : Nat) : Prop where
  v : vr t ax ay kd = true
  p : Pix w h p
  s : Sk w h sp
  b0 : 0 ≤ base
  b1 : base + size t ≤ (n : Int)
/-! ### The program puts them -/
end Go.Proofs.YtipdidpalcmlhaaGreat.Gen

set_option linter.unusedVariables false
set_option linter.unusedSimpArgs false
namespace Go.Proofs.YtipdidpalcmlhaaGreat.Tx
open Go Ev Bm Co

abbrev Bmp : Type := Int × Int × List Int
abbrev Item : Type := Int × Int × Int × Bool × Int × Int × Int × Int × List Int
/-- Whether options are right. -/
def ov (o0 o1 o3 o4 o5 o7 : Int) : Bool := decide ((o0 = 1 ∨ o0 = 2 ∨ o0 = 4 ∨ o0 = 8) ∧ 0 ≤ o1 ∧ o1 ≤ 3 ∧ -16 ≤ o3 ∧ o3 ≤ 16 ∧ 0 ≤ o4 ∧ o4 ≤ 4 ∧ (o5 = 0 ∨ o5 = 1) ∧ (o7 = 0 ∨ o7 = 1))
theorem ov_iff {o0 o1 o3 o4 o5 o7 : Int} : ov o0 o1 o3 o4 o5 o7 = true ↔ (o0 = 1 ∨ o0 = 2 ∨ o0 = 4 ∨ o0 = 8) ∧ 0 ≤ o1 ∧ o1 ≤ 3 ∧ -16 ≤ o3 ∧ o3 ≤ 16 ∧ 0 ≤ o4 ∧ o4 ≤ 4 ∧ (o5 = 0 ∨ o5 = 1) ∧ (o7 = 0 ∨ o7 = 1) := by simp [ov]
/-- Whether a bitmap may be a shape's. -/
def shp (b : Bmp) : Bool := valid b.1 b.2.1 b.2.2 && decide (1 ≤ b.1 ∧ b.1 ≤ 40 ∧ 1 ≤ b.2.1 ∧ b.2.1 ≤ 40)
def near (x m : Int) : Prop := -m ≤ x ∧ x ≤ m
instance (x m : Int) : Decidable (near x m) := by unfold near; infer_instance
def Item.pix (i : Item) : Bmp := (i.2.2.2.2.2.2.1, i.2.2.2.2.2.2.2.1, i.2.2.2.2.2.2.2.2)
/-- Whether an item may be one of a region of so many symbols. -/
def itm (rf : Bool) (n : Int) (i : Item) : Bool :=
  decide (0 ≤ i.1 ∧ i.1 < n ∧ near i.2.1 100000 ∧ near i.2.2.1 100000) &&
    (if i.2.2.2.1 = true then rf && decide (near i.2.2.2.2.1 200 ∧ near i.2.2.2.2.2.1 200)
     else decide (i.2.2.2.2.1 = 0 ∧ i.2.2.2.2.2.1 = 0 ∧ i.2.2.2.2.2.2.1 = 0 ∧ i.2.2.2.2.2.2.2.1 = 0 ∧ (i.2.2.2.2.2.2.2.2.length : Int) = 0))
def shpI (i : Item) : Bool := !i.2.2.2.1 || shp i.pix
/-- The error of options, symbols and items. -/
def bErr (o0 o1 o3 o4 o5 o7 : Int) (symbols : List Bmp) (l : List Item) : Int :=
  if ov o0 o1 o3 o4 o5 o7 = true then (if symbols.all shp = true then (if l.all shpI = true then 0 else 30) else 30) else 2
def rights (rf : Bool) (n : Int) (l : List Item) : Bool := decide (n ≤ 60) && decide ((l.length : Int) ≤ 300) && l.all (itm rf n)
section
variable {fl : Nat} (hfl : 9223372036854775808 ≤ fl)
include hfl
theorem has4 {x : Int} {K : Bool → Option Ans} : F_slices_Contains_int_int fl [1, 2, 4, 8] x K = K (decide (x = 1 ∨ x = 2 ∨ x = 4 ∨ x = 8)) := by
  obtain ⟨m, rfl⟩ : ∃ m, fl = m + 5 := ⟨fl - 5, by omega⟩
  unfold F_slices_Contains_int_int F_slices_Index_int_int L_slices_Index_int_int_0
  by_cases h1 : x = 1
  · subst h1; rfl
  by_cases h2 : x = 2
  · subst h2; rfl
  by_cases h4 : x = 4
  · subst h4; rfl
  by_cases h8 : x = 8
  · subst h8; rfl
  rw [decide_eq_false (by omega)]
  have e : ∀ (i : Nat) (c : List Int × Int × Int × Int → Option Ans) (b : (Int → Option Ans) × (Unit → Option Ans)), i < 4 → S_slices_Index_int_int_0 (m + 5) ([1, 2, 4, 8], x, 4, (i : Int)) c b = c ([1, 2, 4, 8], x, 4, ((i + 1 : Nat) : Int)) := by
    intro i c b hi
    obtain ⟨ret, b⟩ := b
    have hh : i = 0 ∨ i = 1 ∨ i = 2 ∨ i = 3 := by omega
    simp only [S_slices_Index_int_int_0]
    rw [dec_t (by omega), dec_t (show _ ∧ _ from ⟨by omega, by show (i : Int) < 4; omega⟩), Int.toNat_natCast]
    rcases hh with rfl | rfl | rfl | rfl
    · rw [cond_f (by simp [h1])]; rfl
    · rw [cond_f (by simp [h2])]; rfl
    · rw [cond_f (by simp [h4])]; rfl
    · rw [cond_f (by simp [h8])]; rfl
  refine iter_seq (step := S_slices_Index_int_int_0 (m + 5)) (fun i : Nat => ([1, 2, 4, 8], x, 4, (i : Int))) 4 rfl (fun i hi c => e i c _ hi) (fun c => ?_) (by omega)
  simp only [S_slices_Index_int_int_0]
  rw [dec_f (by omega)]
  rfl
theorem tvalid {o0 o1 o3 o4 o5 o7 : Int} {tu rf : Bool} {K : Bool → Option Ans} : F_text_Valid fl o0 o1 tu o3 o4 o5 rf o7 K = K (ov o0 o1 o3 o4 o5 o7) := by
  unfold F_text_Valid
  rw [has4 hfl]
  unfold ov
  by_cases h0 : o0 = 1 ∨ o0 = 2 ∨ o0 = 4 ∨ o0 = 8
  rotate_left
  · rw [decide_eq_false h0, cond_false]
    congr 1
    symm
    exact decide_eq_false (fun h => h0 h.1)
  rw [decide_eq_true h0, cond_true]
  by_cases h1 : 0 ≤ o1
  rotate_left
  · rw [dec_f (by omega), decide_eq_false (by omega)]
  by_cases h2 : o1 ≤ 3
  rotate_left
  · rw [dec_t (by omega), dec_f (by omega), decide_eq_false (by omega)]
  by_cases h3 : -16 ≤ o3
  rotate_left
  · rw [dec_t (by omega), dec_t (by omega), dec_f (by omega), decide_eq_false (by omega)]
  by_cases h4 : o3 ≤ 16
  rotate_left
  · rw [dec_t (by omega), dec_t (by omega), dec_t (by omega), dec_f (by omega), decide_eq_false (by omega)]
  by_cases h5 : 0 ≤ o4
  rotate_left
  · rw [dec_t (by omega), dec_t (by omega), dec_t (by omega), dec_t (by omega), dec_f (by omega), decide_eq_false (by omega)]
  by_cases h6 : o4 ≤ 4
  rotate_left
  · rw [dec_t (by omega), dec_t (by omega), dec_t (by omega), dec_t (by omega), dec_t (by omega), dec_f (by omega), decide_eq_false (by omega)]
  rw [dec_t (by omega), dec_t (by omega), dec_t (by omega), dec_t (by omega), dec_t (by omega), dec_t (by omega)]
  simp only [cb]
  have e7 : (o7 == 1) = decide (o7 = 1) := rfl
  rw [e7]
  repeat' split
  all_goals congr 1
  all_goals first | (rw [decide_eq_true (by omega)]) | (rw [decide_eq_false (by omega)]) | skip
  all_goals first | (rw [decide_eq_decide]; omega) | (symm; rw [decide_eq_true_iff]; omega) | (symm; rw [decide_eq_false_iff_not]; omega) | skip
theorem isShape_ok {w h : Int} {p : List Int} {K : Bool → Option Ans} : F_text_isShape fl w h p K = K (shp (w, h, p)) := by
  unfold F_text_isShape shp
  dsimp only
  rw [valid_ok hfl]
  cases valid w h p with
  | false => rfl
  | true =>
    rw [cond_true]
    by_cases h1 : w ≥ 1
    rotate_left
    · rw [dec_f h1, decide_eq_false (by omega)]; rfl
    rw [dec_t h1]
    by_cases h2 : w ≤ 40
    rotate_left
    · rw [dec_f h2, decide_eq_false (by omega)]; rfl
    rw [dec_t h2]
    by_cases h3 : h ≥ 1
    rotate_left
    · rw [dec_f h3, decide_eq_false (by omega)]; rfl
    rw [dec_t h3, Bool.true_and]
    congr 1
    exact decide_eq_decide.2 (by omega)
theorem bm_loop {l : List Bmp} (hl : l.length ≤ 1000000000000000) {K : Bool → Option Ans} : F_slices_ContainsFunc_api_Bitmap_api_Bitmap_261 fl l K = K (!l.all shp) := by
  unfold F_slices_ContainsFunc_api_Bitmap_api_Bitmap_261 F_slices_IndexFunc_api_Bitmap_api_Bitmap_261 L_slices_IndexFunc_api_Bitmap_api_Bitmap_261_0
  have st : ∀ i : Nat, i < l.length → ∀ c ret b, S_slices_IndexFunc_api_Bitmap_api_Bitmap_261_0 fl (l, (l.length : Int), (i : Int)) c (ret, b) = if shp (l.getD i (0, 0, [])) = true then c (l, (l.length : Int), ((i + 1 : Nat) : Int)) else ret (i : Int) := by
    intro i hi c ret b
    simp only [S_slices_IndexFunc_api_Bitmap_api_Bitmap_261_0, F_text_begun_1]
    rw [dec_t (by omega), dec_t (by omega), Int.toNat_natCast, isShape_ok hfl]
    try dsimp only
    rw [show ((l.getD i (0, 0, [])).fst, (l.getD i (0, 0, [])).snd.fst, (l.getD i (0, 0, [])).snd.snd) = l.getD i (0, 0, []) from rfl, wrap64 (by omega) (by omega)]
    cases shp (l.getD i (0, 0, [])) <;> rfl
  rcases all_or_first shp (0, 0, []) l with ha | ⟨n, hn, hb, hi⟩
  · rw [ha]
    refine iter_to (step := S_slices_IndexFunc_api_Bitmap_api_Bitmap_261_0 fl) (fun i : Nat => (l, (l.length : Int), (i : Int))) l.length (fun i hi c => by rw [st i hi, if_pos (all_getD ha _ hi)]) (fun c => ?_) (by omega)
    simp only [S_slices_IndexFunc_api_Bitmap_api_Bitmap_261_0]
    rw [dec_f (by omega)]
    rfl
  · rw [not_all hn hb]
    refine iter_to (step := S_slices_IndexFunc_api_Bitmap_api_Bitmap_261_0 fl) (fun i : Nat => (l, (l.length : Int), (i : Int))) n (fun i hi' c => by rw [st i (by omega), if_pos (hi i hi')]) (fun c => ?_) (by omega)
    rw [st n hn, if_neg (by rw [hb]; simp)]
    show K (decide ((n : Int) ≥ 0)) = K true
    rw [decide_eq_true (by omega)]
theorem it_loop {l : List Item} (hl : l.length ≤ 1000000000000000) {K : Bool → Option Ans} : F_slices_ContainsFunc_api_Item_api_Item_177 fl l K = K (!l.all shpI) := by
  unfold F_slices_ContainsFunc_api_Item_api_Item_177 F_slices_IndexFunc_api_Item_api_Item_177 L_slices_IndexFunc_api_Item_api_Item_177_0
  have st : ∀ i : Nat, i < l.length → ∀ c ret b, S_slices_IndexFunc_api_Item_api_Item_177_0 fl (l, (l.length : Int), (i : Int)) c (ret, b) = if shpI (l.getD i (0, 0, 0, false, 0, 0, 0, 0, [])) = true then c (l, (l.length : Int), ((i + 1 : Nat) : Int)) else ret (i : Int) := by
    intro i hi c ret b
    simp only [S_slices_IndexFunc_api_Item_api_Item_177_0, F_text_begun_2]
    rw [dec_t (by omega), dec_t (by omega), Int.toNat_natCast, isShape_ok hfl, wrap64 (by omega) (by omega)]
    generalize l.getD i (0, 0, 0, false, 0, 0, 0, 0, []) = it
    unfold shpI Item.pix
    cases it.2.2.2.1 with
    | false => rfl
    | true =>
      rw [cond_true]
      cases shp (it.2.2.2.2.2.2.1, it.2.2.2.2.2.2.2.1, it.2.2.2.2.2.2.2.2) <;> rfl
  rcases all_or_first shpI (0, 0, 0, false, 0, 0, 0, 0, []) l with ha | ⟨n, hn, hb, hi⟩
  · rw [ha]
    refine iter_to (step := S_slices_IndexFunc_api_Item_api_Item_177_0 fl) (fun i : Nat => (l, (l.length : Int), (i : Int))) l.length (fun i hi c => by rw [st i hi, if_pos (all_getD ha _ hi)]) (fun c => ?_) (by omega)
    simp only [S_slices_IndexFunc_api_Item_api_Item_177_0]
    rw [dec_f (by omega)]
    rfl
  · rw [not_all hn hb]
    refine iter_to (step := S_slices_IndexFunc_api_Item_api_Item_177_0 fl) (fun i : Nat => (l, (l.length : Int), (i : Int))) n (fun i hi' c => by rw [st i (by omega), if_pos (hi i hi')]) (fun c => ?_) (by omega)
    rw [st n hn, if_neg (by rw [hb]; simp)]
    show K (decide ((n : Int) ≥ 0)) = K true
    rw [decide_eq_true (by omega)]
theorem begun_ok {o0 o1 o3 o4 o5 o7 : Int} {tu rf : Bool} {symbols : List Bmp} {l : List Item} (hs : symbols.length ≤ 1000000000000000) (hl : l.length ≤ 1000000000000000) {K : Int → Option Ans} :
    F_text_begun fl o0 o1 tu o3 o4 o5 rf o7 symbols l K = K (bErr o0 o1 o3 o4 o5 o7 symbols l) := by
  unfold F_text_begun bErr
  rw [tvalid hfl]
  cases ov o0 o1 o3 o4 o5 o7 with
  | false => rfl
  | true =>
    rw [cond_f (b := !true) rfl, bm_loop hfl hs]
    cases symbols.all shp with
    | false => rfl
    | true =>
      rw [cond_f (b := !true) rfl, it_loop hfl hl]
      cases l.all shpI <;> rfl
end
theorem near_ok {fl : Nat} {x m : Int} (h0 : 0 ≤ m) (h1 : m ≤ 1000000) {K : Bool → Option Ans} : F_text_near fl x m K = K (decide (near x m)) := by
  unfold F_text_near near
  rw [wrap64 (x := 0 - m) (by omega) (by omega)]
  by_cases h : x ≥ 0 - m
  · rw [dec_t h]
    congr 1
    exact decide_eq_decide.2 (by omega)
  · rw [dec_f h]
    congr 1
    symm
    exact decide_eq_false (by omega)
theorem rightItem_ok {fl : Nat} {o0 o1 o3 o4 o5 o7 n : Int} {tu rf : Bool} {i : Item} {K : Bool → Option Ans} :
    F_text_rightItem fl o0 o1 tu o3 o4 o5 rf o7 n i.1 i.2.1 i.2.2.1 i.2.2.2.1 i.2.2.2.2.1 i.2.2.2.2.2.1 i.2.2.2.2.2.2.1 i.2.2.2.2.2.2.2.1 i.2.2.2.2.2.2.2.2 K = K (itm rf n i) := by
  obtain ⟨a, s, t, r, dx, dy, w, h, p⟩ := i
  unfold F_text_rightItem itm
  dsimp only
  by_cases h1 : a < 0
  · rw [dec_t h1, decide_eq_false (by omega)]; rfl
  rw [dec_f h1]
  by_cases h2 : a ≥ n
  · rw [dec_t h2, decide_eq_false (by omega)]; rfl
  rw [dec_f h2, near_ok (by omega) (by omega)]
  by_cases h3 : near s 100000
  rotate_left
  · rw [decide_eq_false h3, decide_eq_false (fun h => h3 h.2.2.1)]; rfl
  rw [decide_eq_true h3, cond_f (b := !true) rfl, near_ok (by omega) (by omega)]
  by_cases h4 : near t 100000
  rotate_left
  · rw [decide_eq_false h4, decide_eq_false (fun h => h4 h.2.2.2)]; rfl
  rw [decide_eq_true h4, cond_f (b := !true) rfl, decide_eq_true (show 0 ≤ a ∧ a < n ∧ near s 100000 ∧ near t 100000 from ⟨by omega, by omega, h3, h4⟩), Bool.true_and]
  cases r with
  | false =>
    rw [cond_t (b := !false) rfl, if_neg (by simp)]
    simp only [cb]
    have e : ((p.length : Int) == 0) = decide ((p.length : Int) = 0) := rfl
    rw [e]
    repeat' split
    all_goals congr 1
    · exact decide_eq_decide.2 (by omega)
    all_goals rw [decide_eq_false (by omega)]
  | true =>
    rw [cond_f (b := !true) rfl, if_pos rfl]
    cases rf with
    | false => rfl
    | true =>
      rw [cond_true, near_ok (by omega) (by omega)]
      by_cases h5 : near dx 200
      · rw [decide_eq_true h5, cond_true, near_ok (by omega) (by omega), Bool.true_and]
        congr 1
        exact decide_eq_decide.2 ⟨fun h => ⟨h5, h⟩, fun h => h.2⟩
      · rw [decide_eq_false h5, decide_eq_false (fun h => h5 h.1)]; rfl
section
variable {fl : Nat} (hfl : 9223372036854775808 ≤ fl)
include hfl
theorem right_ok {o0 o1 o3 o4 o5 o7 n : Int} {tu rf : Bool} {l : List Item} {K : Bool → Option Ans} : F_text_right fl o0 o1 tu o3 o4 o5 rf o7 n l K = K (rights rf n l) := by
  unfold F_text_right rights
  by_cases h1 : n ≤ 60
  rotate_left
  · rw [dec_f h1, decide_eq_false h1]; rfl
  rw [dec_t h1, decide_eq_true h1]
  by_cases h2 : (l.length : Int) ≤ 300
  rotate_left
  · rw [dec_f h2, decide_eq_false h2]; rfl
  rw [dec_t h2, decide_eq_true h2]
  unfold F_slices_ContainsFunc_api_Item_api_Item_766 F_slices_IndexFunc_api_Item_api_Item_766 L_slices_IndexFunc_api_Item_api_Item_766_0
  have st : ∀ i : Nat, i < l.length → ∀ c ret b, S_slices_IndexFunc_api_Item_api_Item_766_0 fl (l, (l.length : Int), (i : Int), o0, o1, tu, o3, o4, o5, rf, o7, n) c (ret, b) = if itm rf n (l.getD i (0, 0, 0, false, 0, 0, 0, 0, [])) = true then c (l, (l.length : Int), ((i + 1 : Nat) : Int), o0, o1, tu, o3, o4, o5, rf, o7, n) else ret ((i : Int), o0, o1, tu, o3, o4, o5, rf, o7, n) := by
    intro i hi c ret b
    simp only [S_slices_IndexFunc_api_Item_api_Item_766_0, F_text_right_1_e36]
    rw [dec_t (by omega), dec_t (by omega), Int.toNat_natCast, rightItem_ok]
    try dsimp only
    rw [wrap64 (by omega) (by omega)]
    cases itm rf n (l.getD i (0, 0, 0, false, 0, 0, 0, 0, [])) <;> rfl
  rcases all_or_first (itm rf n) (0, 0, 0, false, 0, 0, 0, 0, []) l with ha | ⟨j, hn, hb, hi⟩
  · rw [ha]
    refine iter_to (step := S_slices_IndexFunc_api_Item_api_Item_766_0 fl) (fun i : Nat => (l, (l.length : Int), (i : Int), o0, o1, tu, o3, o4, o5, rf, o7, n)) l.length (fun i hi c => by rw [st i hi, if_pos (all_getD ha _ hi)]) (fun c => ?_) (by omega)
    simp only [S_slices_IndexFunc_api_Item_api_Item_766_0]
    rw [dec_f (by omega)]
    rfl
  · rw [not_all hn hb]
    refine iter_to (step := S_slices_IndexFunc_api_Item_api_Item_766_0 fl) (fun i : Nat => (l, (l.length : Int), (i : Int), o0, o1, tu, o3, o4, o5, rf, o7, n)) j (fun i hi' c => by rw [st i (by omega), if_pos (hi i hi')]) (fun c => ?_) (by omega)
    rw [st j hn, if_neg (by rw [hb]; simp)]
    show K (!decide ((j : Int) ≥ 0)) = K (true && true && false)
    rw [decide_eq_true (by omega)]
    rfl
end
end Go.Proofs.YtipdidpalcmlhaaGreat.Tx

set_option linter.unusedVariables false
set_option linter.unusedSimpArgs false
namespace Go.Proofs.YtipdidpalcmlhaaGreat.Tx
open Go Ev Bm Co

theorem rsize_ok {fl : Nat} {w h : Int} {K : Bool → Option Ans} : F_ref06_IsSize fl w h K = K (fit w h) := by
  unfold F_ref06_IsSize fit
  by_cases h1 : w ≥ 0
  rotate_left
  · rw [dec_f h1, decide_eq_false (by omega)]
  by_cases h2 : w ≤ 200
  rotate_left
  · rw [dec_t h1, dec_f h2, decide_eq_false (by omega)]
  by_cases h3 : h ≥ 0
  rotate_left
  · rw [dec_t h1, dec_t h2, dec_f h3, decide_eq_false (by omega)]
  by_cases h4 : h ≤ 200
  rotate_left
  · rw [dec_t h1, dec_t h2, dec_t h3, dec_f h4, decide_eq_false (by omega)]
  rw [dec_t h1, dec_t h2, dec_t h3, dec_t h4]
  obtain ⟨q1, q2⟩ := mul_le (a := 200) (b := 200) h1 h2 h3 h4
  rw [wrap64 (by omega) (by omega)]
  congr 1
  exact decide_eq_decide.2 (by omega)
section
variable {fl : Nat} (hfl : 9223372036854775808 ≤ fl)
include hfl
theorem rrow_ok {p : List Int} (hp : p.length ≤ 1000000000000000) {K : Bool → Option Ans} : F_ref06_IsRow fl p K = K (p.all fun x => decide (x ≤ 1)) := by
  unfold F_ref06_IsRow L_ref06_IsRow_0
  rcases all_or_first (fun x : Int => decide (x ≤ 1)) 0 p with ha | ⟨n, hn, hb, hi⟩
  · rw [ha]
    refine iter_to (step := S_ref06_IsRow_0 fl) (fun i : Nat => (p, (p.length : Int), (i : Int))) p.length (fun i hi c => ?_) (fun c => ?_) (by omega)
    · have := of_decide_eq_true (all_getD ha 0 hi)
      simp only [S_ref06_IsRow_0]
      rw [dec_t (by omega), dec_t (by omega), Int.toNat_natCast, dec_f (by omega), wrap64 (by omega) (by omega)]
      rfl
    · simp only [S_ref06_IsRow_0]
      rw [dec_f (by omega)]
  · rw [not_all hn hb]
    refine iter_to (step := S_ref06_IsRow_0 fl) (fun i : Nat => (p, (p.length : Int), (i : Int))) n (fun i hi' c => ?_) (fun c => ?_) (by omega)
    · have := of_decide_eq_true (hi i hi')
      simp only [S_ref06_IsRow_0]
      rw [dec_t (by omega), dec_t (by omega), Int.toNat_natCast, dec_f (by omega), wrap64 (by omega) (by omega)]
      rfl
    · have := of_decide_eq_false hb
      simp only [S_ref06_IsRow_0]
      rw [dec_t (by omega), dec_t (by omega), Int.toNat_natCast, dec_t (by omega)]
theorem rbitmap_ok {w h : Int} {p : List Int} {K : Bool → Option Ans} : F_ref06_IsBitmap fl w h p K = K (valid w h p) := by
  unfold F_ref06_IsBitmap valid
  rw [rsize_ok]
  cases hf : fit w h with
  | false => rfl
  | true =>
    have hm := fit_iff.1 hf
    rw [cond_true, fit_mul hf, Bool.true_and]
    by_cases hl : (p.length : Int) = w * h
    · rw [cond_t (by simp [hl]), rrow_ok hfl (by omega), decide_eq_true hl, Bool.true_and]
    · rw [cond_f (by simp [hl]), decide_eq_false hl, Bool.false_and]
theorem rshape_ok {w h : Int} {p : List Int} {K : Bool → Option Ans} : F_ref10_IsShape fl w h p K = K (shp (w, h, p)) := by
  unfold F_ref10_IsShape shp
  dsimp only
  rw [rbitmap_ok hfl]
  cases valid w h p with
  | false => rfl
  | true =>
    rw [cond_true]
    by_cases h1 : w ≥ 1
    rotate_left
    · rw [dec_f h1, decide_eq_false (by omega)]; rfl
    rw [dec_t h1]
    by_cases h2 : w ≤ 40
    rotate_left
    · rw [dec_f h2, decide_eq_false (by omega)]; rfl
    rw [dec_t h2]
    by_cases h3 : h ≥ 1
    rotate_left
    · rw [dec_f h3, decide_eq_false (by omega)]; rfl
    rw [dec_t h3, Bool.true_and]
    congr 1
    exact decide_eq_decide.2 (by omega)
end
theorem rvalid {fl : Nat} {o0 o1 o3 o4 o5 o7 : Int} {tu rf : Bool} {K : Bool → Option Ans} : F_ref10_Valid fl o0 o1 tu o3 o4 o5 rf o7 K = K (ov o0 o1 o3 o4 o5 o7) := by
  unfold F_ref10_Valid ov
  simp only [cn, cd]
  have rest : (if o1 ≥ 0 then if o1 ≤ 3 then if o3 ≥ -16 then if o3 ≤ 16 then if o4 ≥ 0 then if o4 ≤ 4 then if o5 ≥ 0 then if o5 ≤ 1 then if o7 ≥ 0 then K (decide (o7 ≤ 1)) else K false else K false else K false else K false else K false else K false else K false else K false else K false) = K (decide (0 ≤ o1 ∧ o1 ≤ 3 ∧ -16 ≤ o3 ∧ o3 ≤ 16 ∧ 0 ≤ o4 ∧ o4 ≤ 4 ∧ (o5 = 0 ∨ o5 = 1) ∧ (o7 = 0 ∨ o7 = 1))) := by
    by_cases h1 : o1 ≥ 0
    rotate_left
    · rw [if_neg h1, decide_eq_false (by omega)]
    by_cases h2 : o1 ≤ 3
    rotate_left
    · rw [if_pos h1, if_neg h2, decide_eq_false (by omega)]
    by_cases h3 : o3 ≥ -16
    rotate_left
    · rw [if_pos h1, if_pos h2, if_neg h3, decide_eq_false (by omega)]
    by_cases h4 : o3 ≤ 16
    rotate_left
    · rw [if_pos h1, if_pos h2, if_pos h3, if_neg h4, decide_eq_false (by omega)]
    by_cases h5 : o4 ≥ 0
    rotate_left
    · rw [if_pos h1, if_pos h2, if_pos h3, if_pos h4, if_neg h5, decide_eq_false (by omega)]
    by_cases h6 : o4 ≤ 4
    rotate_left
    · rw [if_pos h1, if_pos h2, if_pos h3, if_pos h4, if_pos h5, if_neg h6, decide_eq_false (by omega)]
    by_cases h7 : o5 ≥ 0
    rotate_left
    · rw [if_pos h1, if_pos h2, if_pos h3, if_pos h4, if_pos h5, if_pos h6, if_neg h7, decide_eq_false (by omega)]
    by_cases h8 : o5 ≤ 1
    rotate_left
    · rw [if_pos h1, if_pos h2, if_pos h3, if_pos h4, if_pos h5, if_pos h6, if_pos h7, if_neg h8, decide_eq_false (by omega)]
    by_cases h9 : o7 ≥ 0
    rotate_left
    · rw [if_pos h1, if_pos h2, if_pos h3, if_pos h4, if_pos h5, if_pos h6, if_pos h7, if_pos h8, if_neg h9, decide_eq_false (by omega)]
    rw [if_pos h1, if_pos h2, if_pos h3, if_pos h4, if_pos h5, if_pos h6, if_pos h7, if_pos h8, if_pos h9]
    exact congrArg K (decide_eq_decide.2 (by omega))
  rw [rest]
  by_cases a1 : o0 = 1
  · rw [if_pos a1]
    exact congrArg K (decide_eq_decide.2 (by omega))
  by_cases a2 : o0 = 2
  · rw [if_neg a1, if_pos a2]
    exact congrArg K (decide_eq_decide.2 (by omega))
  by_cases a3 : o0 = 4
  · rw [if_neg a1, if_neg a2, if_pos a3]
    exact congrArg K (decide_eq_decide.2 (by omega))
  by_cases a4 : o0 = 8
  · rw [if_neg a1, if_neg a2, if_neg a3, if_pos a4]
    exact congrArg K (decide_eq_decide.2 (by omega))
  rw [if_neg a1, if_neg a2, if_neg a3, if_neg a4]
  exact congrArg K (decide_eq_false (by omega)).symm
section
variable {fl : Nat} (hfl : 9223372036854775808 ≤ fl)
include hfl
end
end Go.Proofs.YtipdidpalcmlhaaGreat.Tx

set_option linter.unusedVariables false
set_option linter.unusedSimpArgs false
namespace Go.Proofs.YtipdidpalcmlhaaGreat.Tx
open Go Ev Bm Co

/-- The bitmap that an item stands for. -/
def bof (symbols : List Bmp) (i : Item) : Bmp := if i.2.2.2.1 = true then i.pix else symbols.getD i.1.toNat (0, 0, [])
def cor (o1 : Int) (b : Bmp) : Int × Int := (if o1 % 2 = 1 then b.1 - 1 else 0, if 2 ≤ o1 then b.2.1 - 1 else 0)
/-- Where its first pixel lies. -/
def plc (o1 : Int) (tu : Bool) (b : Bmp) (i : Item) : Int × Int := if tu = true then (i.2.2.1 - (cor o1 b).1, i.2.1 - (cor o1 b).2) else (i.2.1 - (cor o1 b).1, i.2.2.1 - (cor o1 b).2)
theorem shp_iff {b : Bmp} : shp b = true ↔ valid b.1 b.2.1 b.2.2 = true ∧ 1 ≤ b.1 ∧ b.1 ≤ 40 ∧ 1 ≤ b.2.1 ∧ b.2.1 ≤ 40 := by
  unfold shp
  rw [Bool.and_eq_true, decide_eq_true_eq]
/-- An item of a region: its bitmap is a shape, its corner is near. -/
structure IOk (symbols : List Bmp) (i : Item) : Prop where
  b : shp (bof symbols i) = true
  x : i.2.2.2.1 = true ∨ (0 ≤ i.1 ∧ i.1 < (symbols.length : Int))
  s : near i.2.1 100000
  t : near i.2.2.1 100000
theorem iok {rf : Bool} {symbols : List Bmp} {i : Item} (hs : symbols.all shp = true) (hp : shpI i = true) (h : itm rf (symbols.length : Int) i = true) : IOk symbols i := by
  unfold itm at h
  rw [Bool.and_eq_true, decide_eq_true_eq] at h
  obtain ⟨⟨h1, h2, h3, h4⟩, h5⟩ := h
  refine ⟨?_, .inr ⟨h1, h2⟩, h3, h4⟩
  unfold bof
  unfold shpI at hp
  split
  · rename_i hr
    rw [hr] at hp
    exact hp
  · exact all_getD hs _ (by omega)
theorem cor_near {o1 : Int} {b : Bmp} (hb : shp b = true) : 0 ≤ (cor o1 b).1 ∧ (cor o1 b).1 ≤ 39 ∧ 0 ≤ (cor o1 b).2 ∧ (cor o1 b).2 ≤ 39 := by
  have := shp_iff.1 hb
  unfold cor
  dsimp only
  repeat' split
  all_goals omega
theorem drawn_ok {fl : Nat} {symbols : List Bmp} {i : Item} (h : IOk symbols i) {K : Bmp → Option Ans} : F_text_drawn fl symbols i.1 i.2.1 i.2.2.1 i.2.2.2.1 i.2.2.2.2.1 i.2.2.2.2.2.1 i.2.2.2.2.2.2.1 i.2.2.2.2.2.2.2.1 i.2.2.2.2.2.2.2.2 K = K (bof symbols i) := by
  unfold F_text_drawn bof Item.pix
  cases hr : i.2.2.2.1 with
  | true => rfl
  | false =>
    have := h.x
    rw [hr] at this
    rw [cond_false, dec_t (by simpa using this), if_neg (by simp)]
theorem corner_ok {fl : Nat} {o0 o1 o3 o4 o5 o7 : Int} {tu rf : Bool} {b : Bmp} (h0 : 0 ≤ o1) (h3 : o1 ≤ 3) (hb : shp b = true) {K : Int × Int → Option Ans} : F_text_corner fl o0 o1 tu o3 o4 o5 rf o7 b.1 b.2.1 b.2.2 K = K (cor o1 b) := by
  obtain ⟨_, b1, b2, b3, b4⟩ := shp_iff.1 hb
  unfold F_text_corner cor
  rw [wrap64 (x := b.1 - 1) (by omega) (by omega), wrap64 (x := b.2.1 - 1) (by omega) (by omega)]
  have : o1 = 0 ∨ o1 = 1 ∨ o1 = 2 ∨ o1 = 3 := by omega
  rcases this with rfl | rfl | rfl | rfl <;> rfl
theorem place_ok {fl : Nat} {o0 o1 o3 o4 o5 o7 : Int} {tu rf : Bool} {symbols : List Bmp} {i : Item} (h0 : 0 ≤ o1) (h3 : o1 ≤ 3) (h : IOk symbols i) {K : Int × Int → Option Ans} :
    F_text_place fl o0 o1 tu o3 o4 o5 rf o7 symbols i.1 i.2.1 i.2.2.1 i.2.2.2.1 i.2.2.2.2.1 i.2.2.2.2.2.1 i.2.2.2.2.2.2.1 i.2.2.2.2.2.2.2.1 i.2.2.2.2.2.2.2.2 K = K (plc o1 tu (bof symbols i) i) := by
  have c := cor_near (o1 := o1) h.b
  obtain ⟨s1, s2⟩ := h.s
  obtain ⟨t1, t2⟩ := h.t
  unfold F_text_place plc
  cases tu with
  | true =>
    rw [cond_true, if_pos rfl, drawn_ok h]
    try dsimp only
    rw [corner_ok h0 h3 h.b, wrap64 (by omega) (by omega), wrap64 (by omega) (by omega)]
  | false =>
    rw [cond_false, if_neg (by simp), drawn_ok h]
    try dsimp only
    rw [corner_ok h0 h3 h.b, wrap64 (by omega) (by omega), wrap64 (by omega) (by omega)]
theorem bErr_iff {o0 o1 o3 o4 o5 o7 : Int} {symbols : List Bmp} {l : List Item} : bErr o0 o1 o3 o4 o5 o7 symbols l = 0 ↔ ov o0 o1 o3 o4 o5 o7 = true ∧ symbols.all shp = true ∧ l.all shpI = true := by
  unfold bErr
  cases ov o0 o1 o3 o4 o5 o7 <;> cases symbols.all shp <;> cases l.all shpI <;> simp
theorem rights_iff {rf : Bool} {n : Int} {l : List Item} : rights rf n l = true ↔ n ≤ 60 ∧ (l.length : Int) ≤ 300 ∧ l.all (itm rf n) = true := by
  unfold rights
  simp only [Bool.and_eq_true, decide_eq_true_eq, and_assoc]
section
variable {fl : Nat} (hfl : 9223372036854775808 ≤ fl)
include hfl
end
end Go.Proofs.YtipdidpalcmlhaaGreat.Tx

set_option linter.unusedVariables false
set_option linter.unusedSimpArgs false
namespace Go.Proofs.YtipdidpalcmlhaaGreat.Tx
open Go Ev Bm Co

def atI (o1 : Int) (tu : Bool) (b : Bmp) (a x y : Int) : Item := if tu = true then (a, y + (cor o1 b).2, x + (cor o1 b).1, false, 0, 0, 0, 0, []) else (a, x + (cor o1 b).1, y + (cor o1 b).2, false, 0, 0, 0, 0, [])
abbrev atK (K : Int × Int × Int × Bool × Int × Int × Int × Int × Int × List Int → Option Ans) (e : Int) (i : Item) : Option Ans := K (i.1, i.2.1, i.2.2.1, i.2.2.2.1, i.2.2.2.2.1, i.2.2.2.2.2.1, i.2.2.2.2.2.2.1, i.2.2.2.2.2.2.2.1, e, i.2.2.2.2.2.2.2.2)
/-- The error of At. -/
def atE (o0 o1 o3 o4 o5 o7 : Int) (tu rf : Bool) (b : Bmp) (a x y : Int) : Int :=
  if ov o0 o1 o3 o4 o5 o7 = true then (if shp b = true then (if near x 200000 ∧ near y 200000 ∧ itm rf 60 (atI o1 tu b a x y) = true then 0 else 2) else 30) else 2
def atR (o0 o1 o3 o4 o5 o7 : Int) (tu rf : Bool) (b : Bmp) (a x y : Int) : Item := if atE o0 o1 o3 o4 o5 o7 tu rf b a x y = 0 then atI o1 tu b a x y else (0, 0, 0, false, 0, 0, 0, 0, [])
section
variable {fl : Nat} (hfl : 9223372036854775808 ≤ fl)
include hfl
theorem tAt {o0 o1 o3 o4 o5 o7 : Int} {tu rf : Bool} {b : Bmp} {a x y : Int} {K : Int × Int × Int × Bool × Int × Int × Int × Int × Int × List Int → Option Ans} :
    F_text_At fl o0 o1 tu o3 o4 o5 rf o7 b.1 b.2.1 b.2.2 a x y K = atK K (atE o0 o1 o3 o4 o5 o7 tu rf b a x y) (atR o0 o1 o3 o4 o5 o7 tu rf b a x y) := by
  unfold F_text_At atR atE
  rw [show ([(b.1, b.2.1, b.2.2)] : List Bmp) = [b] from rfl, begun_ok hfl (by simp) (by simp)]
  unfold bErr
  cases ho : ov o0 o1 o3 o4 o5 o7 with
  | false => rfl
  | true =>
    rw [if_pos rfl, if_pos rfl]
    cases hb : shp b with
    | false =>
      rw [if_neg (by simp [hb]), if_neg (by simp)]
      rfl
    | true =>
      have o := ov_iff.1 ho
      have c := cor_near (o1 := o1) hb
      rw [if_pos (by simp [hb]), if_pos (show ([] : List Item).all shpI = true from rfl), if_pos rfl]
      try dsimp only
      rw [cond_f (by rfl), corner_ok o.2.1 o.2.2.1 hb]
      try dsimp only
      rw [near_ok (by omega) (by omega)]
      by_cases h1 : near x 200000
      rotate_left
      · rw [decide_eq_false h1, cond_t (by rfl), if_neg (fun h => h1 h.1), if_neg (by simp)]
      rw [decide_eq_true h1, cond_f (by rfl), near_ok (by omega) (by omega)]
      by_cases h2 : near y 200000
      rotate_left
      · rw [decide_eq_false h2, cond_t (by rfl), if_neg (fun h => h2 h.2.1), if_neg (by simp)]
      obtain ⟨x1, x2⟩ := h1
      obtain ⟨y1, y2⟩ := h2
      rw [decide_eq_true (show near y 200000 from ⟨y1, y2⟩), cond_f (by rfl), wrap64 (x := y + (cor o1 b).2) (by omega) (by omega), wrap64 (x := x + (cor o1 b).1) (by omega) (by omega)]
      cases tu with
      | true =>
        have e : atI o1 true b a x y = (a, y + (cor o1 b).2, x + (cor o1 b).1, false, 0, 0, 0, 0, []) := rfl
        have hr := fun K => rightItem_ok (fl := fl) (o0 := o0) (o1 := o1) (o3 := o3) (o4 := o4) (o5 := o5) (o7 := o7) (n := 60) (tu := true) (rf := rf) (i := (a, y + (cor o1 b).2, x + (cor o1 b).1, false, 0, 0, 0, 0, [])) (K := K)
        try dsimp only at hr
        rw [cond_true, hr, e]
        cases hi : itm rf 60 (a, y + (cor o1 b).2, x + (cor o1 b).1, false, 0, 0, 0, 0, []) with
        | false => rw [cond_t (by rfl), if_neg (by simp), if_neg (by simp)]
        | true => rw [cond_f (by rfl), if_pos ⟨⟨x1, x2⟩, ⟨y1, y2⟩, rfl⟩, if_pos rfl]
      | false =>
        have e : atI o1 false b a x y = (a, x + (cor o1 b).1, y + (cor o1 b).2, false, 0, 0, 0, 0, []) := rfl
        have hr := fun K => rightItem_ok (fl := fl) (o0 := o0) (o1 := o1) (o3 := o3) (o4 := o4) (o5 := o5) (o7 := o7) (n := 60) (tu := false) (rf := rf) (i := (a, x + (cor o1 b).1, y + (cor o1 b).2, false, 0, 0, 0, 0, [])) (K := K)
        try dsimp only at hr
        rw [cond_false, hr, e]
        cases hi : itm rf 60 (a, x + (cor o1 b).1, y + (cor o1 b).2, false, 0, 0, 0, 0, []) with
        | false => rw [cond_t (by rfl), if_neg (by simp), if_neg (by simp)]
        | true => rw [cond_f (by rfl), if_pos ⟨⟨x1, x2⟩, ⟨y1, y2⟩, rfl⟩, if_pos rfl]
end
end Go.Proofs.YtipdidpalcmlhaaGreat.Tx

set_option linter.unusedVariables false
set_option linter.unusedSimpArgs false
namespace Go.Proofs.YtipdidpalcmlhaaGreat.Ton
open Go Ev Bm Gen

theorem bat {fl : Nat} {w h : Int} {p : List Int} (hp : Pix w h p) {x y : Int} {K : Int → Option Ans} : F_bitmap_at fl w h p x y K = K (px w h p x y) := by
  have hl := hp.len
  have hn := hp.n
  unfold F_bitmap_at px
  simp only [cd]
  by_cases hi : ins w h x y
  · have hq := place hi
    have hy := place_y hi
    rw [if_pos hi]
    obtain ⟨h1, h2, h3, h4⟩ := hi
    rw [if_neg (by omega), if_neg (by omega), if_neg (by omega), if_neg (by omega), wrap64 (x := y * w) (by omega) (by omega), wrap64 (x := y * w + x) (by omega) (by omega), if_pos (by omega)]
  · rw [if_neg hi]
    unfold ins at hi
    repeat' split
    all_goals first | rfl | omega
def cmb (op d s : Int) : Int := if op = 0 then s else if op = 1 then max d s else if op = 2 then min d s else if op = 3 then (d + s) % 2 else (d + s + 1) % 2
theorem cmb_01 {op d s : Int} (hd : d = 0 ∨ d = 1) (hs : s = 0 ∨ s = 1) : 0 ≤ cmb op d s ∧ cmb op d s ≤ 1 := by
  unfold cmb
  repeat' split
  all_goals omega
theorem combine_ok {fl : Nat} {op d s : Int} (ho : 0 ≤ op ∧ op ≤ 4) (hd : d = 0 ∨ d = 1) (hs : s = 0 ∨ s = 1) {K : Int → Option Ans} : F_bitmap_combine fl d s op K = K (cmb op d s) := by
  have : op = 0 ∨ op = 1 ∨ op = 2 ∨ op = 3 ∨ op = 4 := by omega
  rcases this with rfl | rfl | rfl | rfl | rfl <;> rcases hd with rfl | rfl <;> rcases hs with rfl | rfl <;> rfl
section
variable (W H x y op w h : Int) (q : List Int)
def drPx (j i : Nat) (p : List Int) : List Int :=
  if ins W H (x + i) (y + j) then p.set ((y + j) * W + (x + i)).toNat (cmb op (p.getD ((y + j) * W + (x + i)).toNat 0) (px w h q (i : Int) (j : Int))) else p
def drRow (j : Nat) (p : List Int) : Nat → List Int
  | 0 => p
  | i + 1 => drPx W H x y op w h q j i (drRow j p i)
def drAll (p : List Int) : Nat → List Int
  | 0 => p
  | j + 1 => drRow W H x y op w h q j (drAll p j) w.toNat
end
theorem getD_b {p : List Int} (h0 : ∀ v ∈ p, 0 ≤ v ∧ v ≤ 1) (i : Nat) : p.getD i 0 = 0 ∨ p.getD i 0 = 1 := by
  by_cases hi : i < p.length
  · have := h0 _ (getD_mem hi 0)
    omega
  · rw [List.getD_eq_getElem?_getD, List.getElem?_eq_none (by omega)]
    exact .inl rfl
section
variable {W H x y op w h : Int} {p q : List Int}
theorem px_b (hq : Pix w h q) (i j : Int) : px w h q i j = 0 ∨ px w h q i j = 1 := by
  have := px_01 (w := w) (h := h) hq.bit i j
  omega
theorem drPx_pix (hp : Pix W H p) (hq : Pix w h q) (j i : Nat) : Pix W H (drPx W H x y op w h q j i p) := by
  unfold drPx
  split
  · have hc := cmb_01 (op := op) (getD_b hp.bit ((y + j) * W + (x + i)).toNat) (px_b hq (i : Int) (j : Int))
    exact ⟨hp.w0, hp.h0, hp.w1, hp.h1, hp.n, by rw [List.length_set]; exact hp.len, fun v hv => by
      rcases List.mem_or_eq_of_mem_set hv with hv | rfl
      · exact hp.bit v hv
      · exact hc⟩
  · exact hp
theorem drRow_pix (hp : Pix W H p) (hq : Pix w h q) (j : Nat) : ∀ n, Pix W H (drRow W H x y op w h q j p n)
  | 0 => hp
  | n + 1 => drPx_pix (drRow_pix hp hq j n) hq j n
theorem drAll_pix (hp : Pix W H p) (hq : Pix w h q) : ∀ n, Pix W H (drAll W H x y op w h q p n)
  | 0 => hp
  | n + 1 => drRow_pix (drAll_pix hp hq n) hq n _
/-- Where no pixel falls onto the bitmap, it stays. -/
theorem drAll_off (ho : ∀ i j : Nat, (i : Int) < w → (j : Int) < h → ¬ ins W H (x + i) (y + j)) : ∀ n : Nat, (n : Int) ≤ h → drAll W H x y op w h q p n = p
  | 0, _ => rfl
  | n + 1, hn => by
    unfold drAll
    rw [drAll_off ho n (by omega)]
    have : ∀ m : Nat, (m : Int) ≤ w → drRow W H x y op w h q n p m = p := by
      intro m
      induction m with
      | zero => intro _; rfl
      | succ m ih =>
        intro hm
        unfold drRow drPx
        rw [ih (by omega), if_neg (ho m n (by omega) (by omega))]
    by_cases hw : 0 ≤ w
    · exact this _ (by omega)
    · rw [show w.toNat = 0 by omega]
      rfl
theorem clone_b {fl : Nat} {p : List Int} (hp : p.length ≤ 1000000) {K : List Int → Option Ans} : F_bytes_Clone fl p K = K p := by
  unfold F_bytes_Clone
  by_cases h0 : (p.length : Int) = 0
  · have : p = [] := List.length_eq_zero_iff.1 (by omega)
    subst this
    rw [dec_t h0, dec_t (by simp)]
    exact both_same _
  · rw [dec_f h0, dec_t (by omega), List.nil_append]
theorem draw_row {fl : Nat} (hfl : 9223372036854775808 ≤ fl) (hq : Pix w h q) (ho : 0 ≤ op ∧ op ≤ 4) (hx : -100000 ≤ x ∧ x ≤ 100000) (hy : -100000 ≤ y ∧ y ≤ 100000) {j : Nat} (hj : (j : Int) < h) {o1 o2 : Int} {o3 o4 p : List Int} {o5 o6 : Int} (hp : Pix W H p) {K} :
    L_bitmap_Draw_3 fl (x, y, op, (j : Int), h, (j : Int), w, 0, W, H, o3, w, h, q, o1, o2, o5, o6, o4, p) K = K (x, y, op, h, (j : Int), W, H, o3, w, h, q, o1, o2, o5, o6, o4, drRow W H x y op w h q j p w.toNat) := by
  have hw0 := hq.w0; have hw1 := hq.w1; have hh0 := hq.h0; have hh1 := hq.h1
  have hW1 := hp.w1; have hH1 := hp.h1; have hn := hp.n
  unfold L_bitmap_Draw_3
  refine iter_to (step := S_bitmap_Draw_3 fl) (fun i : Nat => (x, y, op, (j : Int), h, (j : Int), w, (i : Int), W, H, o3, w, h, q, o1, o2, o5, o6, o4, drRow W H x y op w h q j p i)) w.toNat (fun i hi c => ?_) (fun c => ?_) (by omega)
  · have hpi := drRow_pix (x := x) (y := y) (op := op) hp hq j i
    have hlen := hpi.len
    simp only [S_bitmap_Draw_3, both_same]
    rw [dec_t (by omega), wrap64 (x := x + (i : Int)) (by omega) (by omega), wrap64 (x := y + (j : Int)) (by omega) (by omega), wrap64 (x := (i : Int) + 1) (by omega) (by omega)]
    have e : drRow W H x y op w h q j p (i + 1) = drPx W H x y op w h q j i (drRow W H x y op w h q j p i) := rfl
    rw [show ((i + 1 : Nat) : Int) = (i : Int) + 1 from rfl, e]
    unfold drPx
    by_cases hin : ins W H (x + i) (y + j)
    · have h1 := place hin
      have h2 := place_y hin
      rw [if_pos hin]
      obtain ⟨a, b, d, f⟩ := hin
      rw [dec_t a, dec_t b, dec_t d, dec_t f, wrap64 (x := (y + (j : Int)) * W) (by omega) (by omega), wrap64 (x := (y + (j : Int)) * W + (x + (i : Int))) (by omega) (by omega), dec_t (by omega), bat hq, combine_ok ho (getD_b hpi.bit _) (px_b hq _ _)]
    · rw [if_neg hin]
      unfold ins at hin
      by_cases a : x + (i : Int) ≥ 0
      · rw [dec_t a]
        by_cases b : y + (j : Int) ≥ 0
        · rw [dec_t b]
          by_cases d : x + (i : Int) < W
          · rw [dec_t d, dec_f (by omega)]
          · rw [dec_f d]
        · rw [dec_f b]
      · rw [dec_f a]
  · simp only [S_bitmap_Draw_3]
    rw [dec_f (by omega)]
theorem draw_ok {fl : Nat} (hfl : 9223372036854775808 ≤ fl) (hp : Pix W H p) (hq : Pix w h q) (ho : 0 ≤ op ∧ op ≤ 4) (hx : -100000 ≤ x ∧ x ≤ 100000) (hy : -100000 ≤ y ∧ y ≤ 100000) {K : Int × Int × Int × List Int → Option Ans} :
    F_bitmap_Draw fl W H p w h q x y op K = K (W, H, 0, drAll W H x y op w h q p h.toNat) := by
  have v1 : valid W H p = true := valid_iff.2 ⟨⟨hp.w0, hp.h0, hp.w1, hp.h1, hp.n⟩, hp.len, fun v hv => (hp.bit v hv).2⟩
  have v2 : valid w h q = true := valid_iff.2 ⟨⟨hq.w0, hq.h0, hq.w1, hq.h1, hq.n⟩, hq.len, fun v hv => (hq.bit v hv).2⟩
  have hh0 := hq.h0; have hh1 := hq.h1; have hn := hp.n; have hlen := hp.len
  have hsh1 : decide ((bif decide (y < x) then y else x) ≥ -100000) = true := decide_eq_true (by simp only [cd]; split <;> omega)
  have hsh2 : decide ((bif decide (y > x) then y else x) ≤ 100000) = true := decide_eq_true (by simp only [cd]; split <;> omega)
  unfold F_bitmap_Draw F_bitmap_isShift F_bitmap_clone
  dsimp only
  rw [valid_ok hfl, v1, cond_f (b := !true) rfl, valid_ok hfl, v2, cond_f (b := !true) rfl, dec_f (by omega), dec_f (by omega), hsh1, hsh2, cond_t rfl]
  try dsimp only
  rw [cond_f (b := !true) rfl, clone_b (by omega)]
  try dsimp only
  unfold L_bitmap_Draw_1
  refine iter_to (step := S_bitmap_Draw_1 fl) (fun j : Nat => (x, y, op, h, (j : Int), W, H, p, w, h, q, 0, 0, W, H, [], drAll W H x y op w h q p j)) h.toNat (fun j hj c => ?_) (fun c => ?_) (by omega)
  · simp only [S_bitmap_Draw_1]
    rw [dec_t (by omega), draw_row hfl hq ho hx hy (by omega) (drAll_pix hp hq j)]
    dsimp only
    rw [wrap64 (by omega) (by omega)]
    rfl
  · simp only [S_bitmap_Draw_1]
    rw [dec_f (by omega)]
end
end Go.Proofs.YtipdidpalcmlhaaGreat.Ton

set_option linter.unusedVariables false
set_option linter.unusedSimpArgs false
namespace Go.Proofs.YtipdidpalcmlhaaGreat.Ton
open Go Ev Bm Gen

/-! ### Patterns -/
abbrev Bmp := Int × Int × List Int
/-! ### New bitmaps -/
theorem replicate_set (n i : Nat) : (List.replicate n (0 : Int)).set i 0 = List.replicate n 0 := by
  apply List.ext_getElem (by simp)
  intro j h1 h2
  simp [List.getElem_set]
theorem bnew0 {fl : Nat} (hfl : 9223372036854775808 ≤ fl) {w h : Int} (hf : fit w h = true) {K : Int × Int × Int × List Int → Option Ans} : F_bitmap_New fl w h 0 K = K (w, h, 0, List.replicate (w * h).toNat 0) := by
  obtain ⟨f1, f2, f3, f4, f5⟩ := fit_iff.1 hf
  have hm := Int.mul_nonneg f1 f2
  unfold F_bitmap_New F_bitmap_blank
  rw [dec_f (by omega), dec_f (by omega), cond_f (b := (0 : Int) != 0) rfl, fits_ok, hf, cond_f (b := !true) rfl, wrap64 (x := w * h) (by omega) (by omega), dec_t (by refine ⟨by omega, ?_, by omega, by omega⟩; first | rfl | trivial)]
  dsimp only
  unfold L_bitmap_New_0
  refine iter_seq (step := S_bitmap_New_0 fl) (fun i : Nat => (0, 0, ((List.replicate (w * h).toNat (0 : Int)).length : Int), (i : Int), 0, 0, w, h, [], List.replicate (w * h).toNat 0)) (w * h).toNat rfl (fun i hi c => ?_) (fun c => ?_) (by omega)
  · simp only [S_bitmap_New_0, List.length_replicate]
    rw [dec_t (by omega), dec_t (by omega), wrap64 (by omega) (by omega), wrap8 (by omega) (by omega), replicate_set]
    rfl
  · simp only [S_bitmap_New_0, List.length_replicate]
    rw [dec_f (by omega)]
theorem bnew_bad {fl : Nat} (hfl : 9223372036854775808 ≤ fl) {w h : Int} (hf : fit w h = false) : ∃ e : Int, e ≠ 0 ∧ ∀ K : Int × Int × Int × List Int → Option Ans, F_bitmap_New fl w h 0 K = K (0, 0, e, []) := by
  unfold F_bitmap_New F_bitmap_blank
  by_cases h1 : w < 0
  · exact ⟨2, by omega, fun K => by rw [dec_t h1]⟩
  by_cases h2 : h < 0
  · exact ⟨2, by omega, fun K => by rw [dec_f h1, dec_t h2]⟩
  refine ⟨4, by omega, fun K => ?_⟩
  rw [dec_f h1, dec_f h2, cond_f (b := (0 : Int) != 0) rfl, fits_ok, hf, cond_t (b := !false) rfl]
  dsimp only
  unfold L_bitmap_New_0
  refine iter_to (step := S_bitmap_New_0 fl) (fun i : Nat => (0, 4, (([] : List Int).length : Int), (i : Int), 0, 0, 0, 0, [], [])) 0 (fun i hi c => by omega) (fun c => ?_) (by omega)
  · simp only [S_bitmap_New_0]
    rw [dec_f (by simp)]
/-! ### The first error -/
end Go.Proofs.YtipdidpalcmlhaaGreat.Ton

set_option linter.unusedVariables false
set_option linter.unusedSimpArgs false
namespace Go.Proofs.YtipdidpalcmlhaaGreat.Tx
open Go Ev Bm Co Gen Ton

theorem shp_pixB {b : Bmp} (hb : shp b = true) (hz : ∀ v ∈ b.2.2, 0 ≤ v) : Gen.Pix b.1 b.2.1 b.2.2 := pix_of (shp_iff.1 hb).1 hz
section
variable {W H x y op w h : Int} {p q : List Int}
theorem draw_far {fl : Nat} (hfl : 9223372036854775808 ≤ fl) (hp : Gen.Pix W H p) (hq : Gen.Pix w h q) (ho : 0 ≤ op ∧ op ≤ 4) (hf : ¬ (-100000 ≤ x ∧ x ≤ 100000 ∧ -100000 ≤ y ∧ y ≤ 100000)) {K : Int × Int × Int × List Int → Option Ans} :
    F_bitmap_Draw fl W H p w h q x y op K = K (0, 0, 2, []) := by
  have v1 : valid W H p = true := valid_iff.2 ⟨⟨hp.w0, hp.h0, hp.w1, hp.h1, hp.n⟩, hp.len, fun v hv => (hp.bit v hv).2⟩
  have v2 : valid w h q = true := valid_iff.2 ⟨⟨hq.w0, hq.h0, hq.w1, hq.h1, hq.n⟩, hq.len, fun v hv => (hq.bit v hv).2⟩
  unfold F_bitmap_Draw F_bitmap_isShift
  rw [valid_ok hfl, v1, cond_f (b := !true) rfl, valid_ok hfl, v2, cond_f (b := !true) rfl, dec_f (by omega), dec_f (by omega)]
  by_cases h1 : (bif decide (y < x) then y else x) ≥ -100000
  · rw [dec_t h1]
    have h2 : ¬ (bif decide (y > x) then y else x) ≤ 100000 := by
      simp only [cd] at h1 ⊢
      split at h1 <;> split <;> omega
    rw [decide_eq_false h2]
    rfl
  · rw [dec_f h1]
    rfl
variable {symbols : List Bmp} {l : List Item} {n i o0 o1 o3 o5 o7 z1 z2 z3 z4 : Int} {tu rf : Bool} {zs : List Int}
end
/-- What is drawn, item by item. -/
def rndT (o1 op : Int) (tu : Bool) (symbols : List Bmp) (l : List Item) (W H : Int) : Nat → List Int
  | 0 => List.replicate (W * H).toNat 0
  | i + 1 =>
    let it := l.getD i (0, 0, 0, false, 0, 0, 0, 0, [])
    let b := bof symbols it
    drAll W H (plc o1 tu b it).1 (plc o1 tu b it).2 op b.1 b.2.1 b.2.2 (rndT o1 op tu symbols l W H i) b.2.1.toNat
/-- All items are right, and their bitmaps hold bits. -/
structure Its (symbols : List Bmp) (l : List Item) : Prop where
  s : symbols.all shp = true
  i : ∀ i ∈ l, IOk symbols i
  z : ∀ b ∈ symbols, ∀ v ∈ b.2.2, 0 ≤ v
  zi : ∀ i ∈ l, ∀ v ∈ i.2.2.2.2.2.2.2.2, 0 ≤ v
theorem Its.pix {symbols : List Bmp} {l : List Item} (h : Its symbols l) {i : Item} (hi : i ∈ l) : Gen.Pix (bof symbols i).1 (bof symbols i).2.1 (bof symbols i).2.2 := by
  refine shp_pixB (h.i i hi).b (fun v hv => ?_)
  unfold bof at hv
  split at hv
  · exact h.zi i hi v hv
  · rename_i hr
    rcases (h.i i hi).x with hx | hx
    · exact absurd hx hr
    · exact h.z _ (getD_mem (by omega) _) v hv
section
variable {fl : Nat} (hfl : 9223372036854775808 ≤ fl)
variable {symbols : List Bmp} {l : List Item} {o0 o1 o3 op o5 o7 W H : Int} {tu rf : Bool}
theorem pix_zero (hf : fit W H = true) : Gen.Pix W H (List.replicate (W * H).toNat 0) := by
  obtain ⟨f1, f2, f3, f4, f5⟩ := fit_iff.1 hf
  have hm := Int.mul_nonneg f1 f2
  exact ⟨f1, f2, f3, f4, f5, by rw [List.length_replicate]; omega, fun v hv => by have := (List.mem_replicate.1 hv).2; omega⟩
theorem rndT_pix (h : Its symbols l) (hf : fit W H = true) : ∀ i, i ≤ l.length → Gen.Pix W H (rndT o1 op tu symbols l W H i)
  | 0, _ => pix_zero hf
  | i + 1, hi => drAll_pix (rndT_pix h hf i (by omega)) (h.pix (getD_mem (by omega) _)) _
theorem plc_rg {b : Bmp} {i : Item} (hb : shp b = true) (hs : near i.2.1 100000) (ht : near i.2.2.1 100000) : -100039 ≤ (plc o1 tu b i).1 ∧ (plc o1 tu b i).1 ≤ 100000 ∧ -100039 ≤ (plc o1 tu b i).2 ∧ (plc o1 tu b i).2 ≤ 100000 := by
  have c := cor_near (o1 := o1) hb
  obtain ⟨s1, s2⟩ := hs
  obtain ⟨t1, t2⟩ := ht
  unfold plc
  cases tu with
  | true => rw [if_pos rfl]; dsimp only; omega
  | false => rw [if_neg (by simp)]; dsimp only; omega
include hfl
theorem t_loop (h : Its symbols l) (hl : l.length ≤ 1000000) (hf : fit W H = true) (ho : ov o0 o1 o3 op o5 o7 = true) {b : Int × Int × Int × Int × List Int × List Int → Option Ans} :
    L_text_Render_1 fl (symbols, l, (l.length : Int), 0, o0, o1, tu, o3, op, o5, rf, o7, 0, 0, W, H, [], List.replicate (W * H).toNat 0) b = b (0, 0, W, H, [], rndT o1 op tu symbols l W H l.length) := by
  have o := ov_iff.1 ho
  unfold L_text_Render_1
  refine iter_seq (step := S_text_Render_1 fl) (fun i : Nat => (symbols, l, (l.length : Int), (i : Int), o0, o1, tu, o3, op, o5, rf, o7, 0, 0, W, H, [], rndT o1 op tu symbols l W H i)) l.length rfl (fun i hi c => ?_) (fun c => ?_) (by omega)
  · have hm := getD_mem hi (0, 0, 0, false, 0, 0, 0, 0, [])
    have hio := h.i _ hm
    have hq := h.pix hm
    have hp := rndT_pix (o1 := o1) (op := op) (tu := tu) h hf i (by omega)
    have pr := plc_rg (o1 := o1) (tu := tu) hio.b hio.s hio.t
    simp only [S_text_Render_1]
    rw [dec_t (by omega), dec_t (by omega), Int.toNat_natCast, place_ok o.2.1 o.2.2.1 hio]
    try dsimp only
    rw [drawn_ok hio]
    try dsimp only
    rw [drawn_ok hio]
    try dsimp only
    simp only [both_same]
    rw [wrap64 (by omega) (by omega)]
    have er : rndT o1 op tu symbols l W H (i + 1) = drAll W H (plc o1 tu (bof symbols (l.getD i (0, 0, 0, false, 0, 0, 0, 0, []))) (l.getD i (0, 0, 0, false, 0, 0, 0, 0, []))).1 (plc o1 tu (bof symbols (l.getD i (0, 0, 0, false, 0, 0, 0, 0, []))) (l.getD i (0, 0, 0, false, 0, 0, 0, 0, []))).2 op (bof symbols (l.getD i (0, 0, 0, false, 0, 0, 0, 0, []))).1 (bof symbols (l.getD i (0, 0, 0, false, 0, 0, 0, 0, []))).2.1 (bof symbols (l.getD i (0, 0, 0, false, 0, 0, 0, 0, []))).2.2 (rndT o1 op tu symbols l W H i) (bof symbols (l.getD i (0, 0, 0, false, 0, 0, 0, 0, []))).2.1.toNat := rfl
    rw [er]
    generalize rndT o1 op tu symbols l W H i = P at *
    generalize plc o1 tu (bof symbols (l.getD i (0, 0, 0, false, 0, 0, 0, 0, []))) (l.getD i (0, 0, 0, false, 0, 0, 0, 0, [])) = xy at *
    have hsb := shp_iff.1 hio.b
    generalize bof symbols (l.getD i (0, 0, 0, false, 0, 0, 0, 0, [])) = b' at *
    by_cases nf : -100000 ≤ xy.1 ∧ xy.1 ≤ 100000 ∧ -100000 ≤ xy.2 ∧ xy.2 ≤ 100000
    · rw [draw_ok hfl hp hq ⟨o.2.2.2.2.2.1, o.2.2.2.2.2.2.1⟩ ⟨nf.1, nf.2.1⟩ nf.2.2]
      try dsimp only
      rw [cond_t (by rfl)]
      rfl
    · rw [draw_far hfl hp hq ⟨o.2.2.2.2.2.1, o.2.2.2.2.2.2.1⟩ nf]
      try dsimp only
      obtain ⟨f1, f2, f3, f4, f5⟩ := fit_iff.1 hf
      have hoff : drAll W H xy.1 xy.2 op b'.1 b'.2.1 b'.2.2 P b'.2.1.toNat = P := drAll_off (fun a d ha hd hin => by
        obtain ⟨i1, i2, i3, i4⟩ := hin
        omega) _ (by omega)
      rw [cond_f (by rfl), hoff]
      rfl
  · simp only [S_text_Render_1]
    rw [dec_f (by omega)]
end
/-- What Render answers. -/
def rndE (o0 o1 o3 op o5 o7 : Int) (tu rf : Bool) (symbols : List Bmp) (l : List Item) (W H : Int) : Int × Int × Int × List Int :=
  if bErr o0 o1 o3 op o5 o7 symbols l = 0 then (if fit W H = true then (if rights rf (symbols.length : Int) l = true then (W, H, 0, rndT o1 op tu symbols l W H l.length) else (0, 0, 2, [])) else (0, 0, 30, [])) else (0, 0, bErr o0 o1 o3 op o5 o7 symbols l, [])
section
variable {fl : Nat} (hfl : 9223372036854775808 ≤ fl)
variable {symbols : List Bmp} {l : List Item} {o0 o1 o3 op o5 o7 W H : Int} {tu rf : Bool}
theorem its_of (hz : ∀ b ∈ symbols, ∀ v ∈ b.2.2, 0 ≤ v) (hzi : ∀ i ∈ l, ∀ v ∈ i.2.2.2.2.2.2.2.2, 0 ≤ v) (he : bErr o0 o1 o3 op o5 o7 symbols l = 0) (hr : rights rf (symbols.length : Int) l = true) : Its symbols l := by
  obtain ⟨e1, e2, e3⟩ := bErr_iff.1 he
  obtain ⟨r1, r2, r3⟩ := rights_iff.1 hr
  rw [List.all_eq_true] at e3 r3
  exact ⟨e2, fun i hi => iok e2 (e3 i hi) (r3 i hi), hz, hzi⟩
include hfl
theorem tRender (hs : symbols.length ≤ 1000000000000000) (hl : l.length ≤ 1000000) (hz : ∀ b ∈ symbols, ∀ v ∈ b.2.2, 0 ≤ v) (hzi : ∀ i ∈ l, ∀ v ∈ i.2.2.2.2.2.2.2.2, 0 ≤ v) {K : Int × Int × Int × List Int → Option Ans} :
    F_text_Render fl o0 o1 tu o3 op o5 rf o7 symbols l W H K = K (rndE o0 o1 o3 op o5 o7 tu rf symbols l W H) := by
  unfold F_text_Render rndE
  rw [begun_ok hfl hs (by omega)]
  try dsimp only
  rw [cn]
  by_cases he : bErr o0 o1 o3 op o5 o7 symbols l = 0
  rotate_left
  · rw [if_neg he, if_neg he]
  rw [if_pos he, if_pos he]
  cases hf : fit W H with
  | false =>
    obtain ⟨e, e1, e2⟩ := bnew_bad hfl hf
    rw [e2, if_neg (by simp)]
    try dsimp only
    rw [cond_t (by simp [e1])]
  | true =>
    rw [bnew0 hfl hf, if_pos rfl]
    try dsimp only
    rw [cond_f (by rfl), right_ok hfl]
    try dsimp only
    cases hr : rights rf (symbols.length : Int) l with
    | false => rfl
    | true =>
      have h := its_of hz hzi he hr
      rw [cond_f (by rfl), if_pos rfl, t_loop hfl h hl hf (bErr_iff.1 he).1]
end
end Go.Proofs.YtipdidpalcmlhaaGreat.Tx

set_option linter.unusedVariables false
set_option linter.unusedSimpArgs false
namespace Go.Proofs.YtipdidpalcmlhaaGreat.Tx
open Go Ev Bm

section
variable {fl : Nat} (hfl : 9223372036854775808 ≤ fl)
include hfl
theorem awake {K : Bool → Option Ans} : F_law10_Awake fl K = K true := rfl
end
end Go.Proofs.YtipdidpalcmlhaaGreat.Tx

set_option linter.unusedVariables false
set_option linter.unusedSimpArgs false
namespace Go.Proofs.YtipdidpalcmlhaaGreat.PureTextOne
open Go Ev Bm Gen Ton Tx
theorem rpix_ok {fl : Nat} {w h : Int} {p : List Int} (hp : Gen.Pix w h p) {x y : Int} {K : Int → Option Ans} : F_ref06_Pix fl w h p x y K = K (px w h p x y) := by
  have hl := hp.len
  have hn := hp.n
  unfold F_ref06_Pix px
  by_cases h1 : x < 0
  · rw [dec_t h1, if_neg (fun hi => by have := hi.1; omega)]
  rw [dec_f h1]
  by_cases h2 : y < 0
  · rw [dec_t h2, if_neg (fun hi => by have := hi.2.1; omega)]
  rw [dec_f h2]
  by_cases h3 : x ≥ w
  · rw [dec_t h3, if_neg (fun hi => by have := hi.2.2.1; omega)]
  rw [dec_f h3]
  by_cases h4 : y ≥ h
  · rw [dec_t h4, if_neg (fun hi => by have := hi.2.2.2; omega)]
  rw [dec_f h4]
  have hi : ins w h x y := ⟨by omega, by omega, by omega, by omega⟩
  have h5 := place hi
  have h6 := place_y hi
  rw [if_pos hi, wrap64 (x := y * w) (by omega) (by omega), wrap64 (x := y * w + x) (by omega) (by omega), dec_t (by omega)]
/-- A pixel behind one that is set. -/
theorem px_set {W H : Int} {p : List Int} (hl : (p.length : Int) = W * H) {x y u v c : Int} (hi : ins W H x y) (hj : ins W H u v) : px W H (p.set (y * W + x).toNat c) u v = if u = x ∧ v = y then c else px W H p u v := by
  have h1 := place hi
  have h2 := place hj
  unfold px
  rw [if_pos hj, if_pos hj]
  by_cases he : u = x ∧ v = y
  · obtain ⟨rfl, rfl⟩ := he
    rw [if_pos ⟨rfl, rfl⟩, List.getD_eq_getElem?_getD, List.getElem?_set_self (by omega)]
    rfl
  · rw [if_neg he, List.getD_eq_getElem?_getD, List.getD_eq_getElem?_getD, List.getElem?_set_ne]
    intro hh
    apply he
    have hh' : y * W + x = v * W + u := by omega
    obtain ⟨a1, a2, a3, a4⟩ := hi
    obtain ⟨b1, b2, b3, b4⟩ := hj
    have e1 : (y * W + x) % W = x := by rw [Int.add_comm, Int.add_mul_emod_self_right]; exact Int.emod_eq_of_lt a1 a3
    have e2 : (v * W + u) % W = u := by rw [Int.add_comm, Int.add_mul_emod_self_right]; exact Int.emod_eq_of_lt b1 b3
    have e3 : (y * W + x) / W = y := by rw [Int.add_comm, Int.add_mul_ediv_right _ _ (by omega), Int.ediv_eq_zero_of_lt a1 a3]; omega
    have e4 : (v * W + u) / W = v := by rw [Int.add_comm, Int.add_mul_ediv_right _ _ (by omega), Int.ediv_eq_zero_of_lt b1 b3]; omega
    rw [hh'] at e1 e3
    omega
section
variable {x y w h : Int} {q : List Int}
/-- The pixels of one that is drawn by Or into white, where it fits. -/
theorem one_row (hq : Gen.Pix w h q) (hx : 0 ≤ x ∧ x + w ≤ 80) (hy : 0 ≤ y ∧ y + h ≤ 80) {j : Nat} (hj : (j : Int) < h) {p : List Int} (hp : Gen.Pix 80 80 p) (h0 : ∀ u v, v = y + j → px 80 80 p u v = 0) : ∀ n : Nat, (n : Int) ≤ w → ∀ u v, ins 80 80 u v → px 80 80 (drRow 80 80 x y 1 w h q j p n) u v = if v = y + j ∧ x ≤ u ∧ u < x + n then px w h q (u - x) (v - y) else px 80 80 p u v
  | 0, _, u, v, _ => by
    rw [if_neg (by omega)]
    rfl
  | n + 1, hn, u, v, hi => by
    have ih := one_row hq hx hy hj hp h0 n (by omega)
    have hpi := drRow_pix (x := x) (y := y) (op := 1) (n := n) hp hq j
    have hin : ins 80 80 (x + n) (y + j) := ⟨by omega, by omega, by omega, by omega⟩
    show px 80 80 (drPx 80 80 x y 1 w h q j n (drRow 80 80 x y 1 w h q j p n)) u v = _
    unfold drPx
    rw [if_pos hin, px_set hpi.len hin hi]
    by_cases he : u = x + n ∧ v = y + j
    · obtain ⟨rfl, rfl⟩ := he
      rw [if_pos ⟨rfl, rfl⟩, if_pos ⟨rfl, by omega, by omega⟩]
      have e0 := ih (x + n) (y + j) hin
      rw [if_neg (by omega), h0 _ _ rfl] at e0
      have e1 : (drRow 80 80 x y 1 w h q j p n).getD ((y + (j : Int)) * 80 + (x + (n : Int))).toNat 0 = 0 := by
        unfold px at e0
        rw [if_pos hin] at e0
        exact e0
      rw [e1, show x + (n : Int) - x = n by omega, show y + (j : Int) - y = j by omega]
      rcases px_b hq (n : Int) (j : Int) with e | e <;> rw [e] <;> rfl
    · rw [if_neg he, ih u v hi]
      by_cases h1 : v = y + j ∧ x ≤ u ∧ u < x + n
      · rw [if_pos h1, if_pos ⟨h1.1, h1.2.1, by omega⟩]
      · rw [if_neg h1, if_neg (fun h2 => by omega)]
theorem one_all (hq : Gen.Pix w h q) (hx : 0 ≤ x ∧ x + w ≤ 80) (hy : 0 ≤ y ∧ y + h ≤ 80) : ∀ n : Nat, (n : Int) ≤ h → Gen.Pix 80 80 (drAll 80 80 x y 1 w h q (List.replicate 6400 0) n) ∧ ∀ u v, ins 80 80 u v → px 80 80 (drAll 80 80 x y 1 w h q (List.replicate 6400 0) n) u v = if y ≤ v ∧ v < y + n ∧ x ≤ u ∧ u < x + w then px w h q (u - x) (v - y) else 0
  | 0, _ => by
    refine ⟨Tx.pix_zero (W := 80) (H := 80) (by decide), fun u v hi => ?_⟩
    rw [if_neg (by omega)]
    have h2 := place hi
    show px 80 80 (List.replicate 6400 0) u v = 0
    unfold px
    rw [if_pos hi, List.getD_eq_getElem?_getD, List.getElem?_replicate, if_pos (by omega)]
    rfl
  | n + 1, hn => by
    obtain ⟨hp, ih⟩ := one_all hq hx hy n (by omega)
    refine ⟨drRow_pix hp hq n _, fun u v hi => ?_⟩
    have hw := hq.w0
    have h0 : ∀ u v, v = y + (n : Int) → px 80 80 (drAll 80 80 x y 1 w h q (List.replicate 6400 0) n) u v = 0 := by
      intro u v hv
      by_cases hi : ins 80 80 u v
      · rw [ih u v hi, if_neg (by omega)]
      · unfold px
        rw [if_neg hi]
    have e := one_row hq hx hy (j := n) (by omega) hp h0 w.toNat (by omega) u v hi
    show px 80 80 (drRow 80 80 x y 1 w h q n (drAll 80 80 x y 1 w h q (List.replicate 6400 0) n) w.toNat) u v = _
    rw [e, ih u v hi]
    by_cases h1 : v = y + n ∧ x ≤ u ∧ u < x + (w.toNat : Int)
    · rw [if_pos h1, if_pos (by omega)]
    · rw [if_neg h1]
      by_cases h2 : y ≤ v ∧ v < y + n ∧ x ≤ u ∧ u < x + w
      · rw [if_pos h2, if_pos (by omega)]
      · rw [if_neg h2, if_neg (by omega)]
end
theorem pure_fl {fl : Nat} (hfl : 9223372036854775808 ≤ fl) (o0 o1 : Int) (tu : Bool) (o3 o4 o5 : Int) (rf : Bool) (o7 : Int) (b : Tx.Bmp) (x y : Int) (K : Bool → Option Ans) (hz : ∀ v ∈ b.2.2, 0 ≤ v) (hx : 0 ≤ x ∧ x ≤ 255) (hy : 0 ≤ y ∧ y ≤ 255) :
    F_law10_TextOne fl o0 o1 tu o3 o4 o5 rf o7 b.1 b.2.1 b.2.2 x y K = K true := by
  unfold F_law10_TextOne
  rw [Tx.rvalid]
  try dsimp only
  cases ho : ov o0 o1 o3 1 o5 o7 with
  | false => rw [cond_t (b := !false) rfl, awake hfl]
  | true =>
    rw [cond_f (b := !true) rfl, rshape_ok hfl, show (b.1, b.2.1, b.2.2) = b from rfl]
    try dsimp only
    cases hb : shp b with
    | false => rw [cond_t (b := !false) rfl, awake hfl]
    | true =>
      have mx : 0 ≤ x.tmod 40 ∧ x.tmod 40 < 40 := by rw [Int.tmod_eq_emod_of_nonneg hx.1]; omega
      have my : 0 ≤ y.tmod 40 ∧ y.tmod 40 < 40 := by rw [Int.tmod_eq_emod_of_nonneg hy.1]; omega
      rw [cond_f (b := !true) rfl, tAt hfl, wrap64 (x := x.tmod 40) (by omega) (by omega), wrap64 (x := y.tmod 40) (by omega) (by omega)]
      generalize x.tmod 40 = X at *
      generalize y.tmod 40 = Y at *
      have c := cor_near (o1 := o1) hb
      have hsi := shp_iff.1 hb
      have hq := shp_pixB hb hz
      have o := ov_iff.1 ho
      have hit : itm rf 60 (atI o1 tu b 0 X Y) = true := by
        unfold atI itm
        cases tu
        · rw [if_neg (by simp)]
          simp [near]
          omega
        · rw [if_pos rfl]
          simp [near]
          omega
      have he : atE o0 o1 o3 1 o5 o7 tu rf b 0 X Y = 0 := by
        unfold atE
        rw [if_pos ho, if_pos hb, if_pos ⟨⟨by omega, by omega⟩, ⟨by omega, by omega⟩, hit⟩]
      have hR : atR o0 o1 o3 1 o5 o7 tu rf b 0 X Y = atI o1 tu b 0 X Y := by unfold atR; rw [if_pos he]
      rw [he, hR]
      dsimp only [atK]
      have hf : (atI o1 tu b 0 X Y).2.2.2.1 = false ∧ (atI o1 tu b 0 X Y).1 = 0 := by unfold atI; cases tu <;> exact ⟨rfl, rfl⟩
      have hnil : (atI o1 tu b 0 X Y).2.2.2.2.2.2.2.2 = [] := by unfold atI; cases tu <;> rfl
      have hpl : plc o1 tu b (atI o1 tu b 0 X Y) = (X, Y) := by
        unfold plc atI
        cases tu with
        | true =>
          rw [if_pos rfl, if_pos rfl]
          exact Prod.ext (show X + (cor o1 b).1 - (cor o1 b).1 = X by omega) (show Y + (cor o1 b).2 - (cor o1 b).2 = Y by omega)
        | false =>
          rw [if_neg (by simp), if_neg (by simp)]
          exact Prod.ext (show X + (cor o1 b).1 - (cor o1 b).1 = X by omega) (show Y + (cor o1 b).2 - (cor o1 b).2 = Y by omega)
      have hi60 := hit
      generalize atI o1 tu b 0 X Y = it at *
      rw [cond_f (by rfl), show ([(b.1, b.2.1, b.2.2)] : List Tx.Bmp) = [b] from rfl, show ([(it.1, it.2.1, it.2.2.1, it.2.2.2.1, it.2.2.2.2.1, it.2.2.2.2.2.1, it.2.2.2.2.2.2.1, it.2.2.2.2.2.2.2.1, it.2.2.2.2.2.2.2.2)] : List Tx.Item) = [it] from rfl, tRender hfl (by simp) (by simp) (fun a ha => by rw [List.mem_singleton.1 ha]; exact hz) (fun a ha v hv => by rw [List.mem_singleton.1 ha, hnil] at hv; cases hv)]
      have hbo : bof [b] it = b := by
        unfold bof
        rw [hf.1, hf.2, if_neg (by simp)]
        rfl
      have hE : rndE o0 o1 o3 1 o5 o7 tu rf [b] [it] 80 80 = (80, 80, 0, drAll 80 80 X Y 1 b.1 b.2.1 b.2.2 (List.replicate 6400 0) b.2.1.toNat) := by
        unfold rndE
        rw [if_pos (bErr_iff.2 ⟨ho, by simp [hb], by simp [shpI, hf.1]⟩), if_pos (by decide), if_pos]
        · show ((80 : Int), (80 : Int), (0 : Int), rndT o1 1 tu [b] [it] 80 80 1) = _
          unfold rndT
          dsimp only
          rw [show ([it] : List Tx.Item).getD 0 (0, 0, 0, false, 0, 0, 0, 0, []) = it from rfl, hbo, hpl]
          rfl
        · rw [rights_iff]
          refine ⟨by simp, by simp, ?_⟩
          rw [List.all_cons, List.all_nil, Bool.and_true]
          unfold itm at hi60 ⊢
          rw [hf.1, hf.2] at hi60 ⊢
          rw [Bool.and_eq_true, decide_eq_true_eq] at hi60 ⊢
          obtain ⟨⟨q1, q2, q3, q4⟩, q5⟩ := hi60
          exact ⟨⟨q1, by simp, q3, q4⟩, q5⟩
      rw [hE]
      try dsimp only
      rw [cond_f (by rfl), cond_f (by rfl), cond_f (by rfl)]
      obtain ⟨hP, hpx⟩ := one_all (x := X) (y := Y) hq (by omega) (by omega) b.2.1.toNat (by omega)
      generalize drAll 80 80 X Y 1 b.1 b.2.1 b.2.2 (List.replicate 6400 0) b.2.1.toNat = P at *
      have key : ∀ u v : Nat, u < 80 → v < 80 → px 80 80 P u v = px b.1 b.2.1 b.2.2 ((u : Int) - X) ((v : Int) - Y) := by
        intro u v hu hv
        rw [hpx u v ⟨by omega, by omega, by omega, by omega⟩]
        by_cases hh : Y ≤ (v : Int) ∧ (v : Int) < Y + b.2.1.toNat ∧ X ≤ (u : Int) ∧ (u : Int) < X + b.1
        · rw [if_pos hh]
        · rw [if_neg hh]
          unfold px
          rw [if_neg (fun hi => hh (by obtain ⟨i1, i2, i3, i4⟩ := hi; omega))]
      unfold L_law10_TextOne_0
      refine iter_seq (step := S_law10_TextOne_0 fl) (fun v : Nat => (X, Y, (v : Int), b.1, b.2.1, b.2.2, 80, 80, P)) 80 rfl (fun v hv c => ?_) (fun c => ?_) (by omega)
      · simp only [S_law10_TextOne_0]
        rw [dec_t (by omega)]
        unfold L_law10_TextOne_2
        refine iter_seq (step := S_law10_TextOne_2 fl) (fun u : Nat => (X, Y, (v : Int), (v : Int), (u : Int), b.1, b.2.1, b.2.2, 80, 80, P)) 80 rfl (fun u hu c => ?_) (fun c => ?_) (by omega)
        · simp only [S_law10_TextOne_2]
          rw [dec_t (by omega), rpix_ok hP]
          try dsimp only
          rw [rpix_ok hq, wrap64 (x := X) (by omega) (by omega), wrap64 (x := Y) (by omega) (by omega), wrap64 (x := (u : Int) - X) (by omega) (by omega), wrap64 (x := (v : Int) - Y) (by omega) (by omega), key u v hu hv]
          try dsimp only
          rw [cond_f (by simp), wrap64 (by omega) (by omega)]
          rfl
        · simp only [S_law10_TextOne_2]
          rw [dec_f (by omega)]
          try dsimp only
          rw [wrap64 (by omega) (by omega)]
          rfl
      · simp only [S_law10_TextOne_0]
        rw [dec_f (by omega)]
        try dsimp only
        rw [awake hfl]
theorem wf8 {u : Int} (h : (Lit.int .u8 u).wf = true) : 0 ≤ u ∧ u ≤ 255 := by
  simp [Lit.wf, IntKind.min, IntKind.max, IntKind.signed, IntKind.bits] at h
  omega
theorem pure (o0 o1 : Int) (tu : Bool) (o3 o4 o5 : Int) (rf : Bool) (o7 : Int) (w h : Int) (p : List Int) (x y : Int) (K : Bool → Option Ans)
    (g0 : given (.pair (.int .i64) (.pair (.int .i64) (.pair .bool (.pair (.int .i64) (.pair (.int .i64) (.pair (.int .i64) (.pair .bool (.int .i64)))))))) (o0, o1, tu, o3, o4, o5, rf, o7))
    (g1 : given (.pair (.int .i64) (.pair (.int .i64) (.sl (.int .u8)))) (w, h, p))
    (g2 : (Lit.int .u8 x).wf = true) (g3 : (Lit.int .u8 y).wf = true) :
    F_law10_TextOne fuel o0 o1 tu o3 o4 o5 rf o7 w h p x y K = K true := by
  obtain ⟨_, _, _, h3⟩ := g1
  exact pure_fl (by rw [fuel_eq]; omega) o0 o1 tu o3 o4 o5 rf o7 (w, h, p) x y K (fun u hu => (wf8 (h3 u hu)).1) (wf8 g2) (wf8 g3)
end Go.Proofs.YtipdidpalcmlhaaGreat.PureTextOne

