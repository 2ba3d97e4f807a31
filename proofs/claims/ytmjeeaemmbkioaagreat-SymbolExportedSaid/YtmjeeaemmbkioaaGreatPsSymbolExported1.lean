/- Laws of the typed texts that SymbolExported reaches, in plain Lean. No condition but what each theorem names. -/
import Derived.Test.YtmjeeaemmbkioaaGreatEvO
import Derived.Test.YtmjeeaemmbkioaaGreatFsSymbolExported3
import Derived.Test.YtmjeeaemmbkioaaGreatFsSymbolExported4
import Derived.Test.YtmjeeaemmbkioaaGreatFsSymbolExported2
import Derived.Test.YtmjeeaemmbkioaaGreatFsSymbolExported1
import Derived.Test.YtmjeeaemmbkioaaGreatEvS
set_option linter.unusedVariables false
set_option linter.unusedSimpArgs false
set_option linter.unusedSectionVars false
set_option linter.unusedVariables false
namespace Go.Proofs.YtmjeeaemmbkioaaGreat.Ev
open Go

theorem cond_t {α : Sort _} {b : Bool} {x y : α} (h : b = true) : (bif b then x else y) = x := by rw [h]; rfl
theorem cond_f {α : Sort _} {b : Bool} {x y : α} (h : b = false) : (bif b then x else y) = y := by rw [h]; rfl
theorem dec_t {p : Prop} {i : Decidable p} {α : Sort _} {x y : α} (h : p) : (bif @decide p i then x else y) = x := cond_t (decide_eq_true h)
theorem dec_f {p : Prop} {i : Decidable p} {α : Sort _} {x y : α} (h : ¬p) : (bif @decide p i then x else y) = y := cond_f (decide_eq_false h)
theorem both_same (x : Option Ans) : both x x = x := by
  unfold both
  cases x with
  | none => rfl
  | some u => rfl

theorem fuel_eq : fuel = 18446744073709551616 := rfl
/-! ### Numbers -/
theorem wrap64 {x : Int} (h1 : -9223372036854775808 ≤ x) (h2 : x ≤ 9223372036854775807) : IntKind.i64.wrap x = x := by
  simp [IntKind.wrap, IntKind.min, IntKind.max, IntKind.signed, IntKind.bits]
  omega
/-! ### Loops whose states are known -/
/-- A loop that goes through known states, up to the n-th one. -/
theorem iter_to {V B : Type} {step : V → (V → Option Ans) → B → Option Ans} {b : B} {r : Option Ans} (σ : Nat → V) (n : Nat)
    (h : ∀ i, i < n → ∀ c, step (σ i) c b = c (σ (i + 1))) (hn : ∀ c, step (σ n) c b = r) {m : Nat} (hm : n < m) : iter step m (σ 0) b = r := by
  have key : ∀ d i m, i + d = n → d < m → iter step m (σ i) b = r := by
    intro d
    induction d with
    | zero =>
      intro i m hi hm
      obtain ⟨m, rfl⟩ : ∃ k, m = k + 1 := ⟨m - 1, by omega⟩
      have : i = n := by omega
      subst this
      exact hn _
    | succ d ih =>
      intro i m hi hm
      obtain ⟨m, rfl⟩ : ∃ k, m = k + 1 := ⟨m - 1, by omega⟩
      simp only [iter]
      rw [h i (by omega)]
      exact ih (i + 1) m (by omega) (by omega)
  exact key n 0 m (by omega) hm
theorem iter_seq {V B : Type} {step : V → (V → Option Ans) → B → Option Ans} {b : B} {r : Option Ans} {v : V} {m : Nat} (σ : Nat → V) (n : Nat) (hv : v = σ 0)
    (h : ∀ i, i < n → ∀ c, step (σ i) c b = c (σ (i + 1))) (hn : ∀ c, step (σ n) c b = r) (hm : n < m) : iter step m v b = r := by
  rw [hv]
  exact iter_to σ n h hn hm
/-! ### Lists -/
theorem getD_lt {α : Type} {l : List α} {i : Nat} (h : i < l.length) (d : α) : l.getD i d = l[i] := by simp [h]
theorem getD_mem {α : Type} {l : List α} {i : Nat} (h : i < l.length) (d : α) : l.getD i d ∈ l := by rw [getD_lt h]; exact List.getElem_mem h
/-- The first of a list's members, in order, that is such a one: its place. -/
theorem all_or_first {α : Type} (p : α → Bool) (d : α) (l : List α) : l.all p = true ∨ ∃ n, n < l.length ∧ p (l.getD n d) = false ∧ ∀ i, i < n → p (l.getD i d) = true := by
  induction l with
  | nil => exact .inl rfl
  | cons x l ih =>
    cases hx : p x with
    | false => exact .inr ⟨0, by simp, by simpa using hx, fun i hi => by omega⟩
    | true =>
      rcases ih with ih | ⟨n, h1, h2, h3⟩
      · left; simp [hx, ih]
      · refine .inr ⟨n + 1, by simpa using h1, by simpa using h2, fun i hi => ?_⟩
        cases i with
        | zero => simpa using hx
        | succ i => simpa using h3 i (by omega)
theorem all_getD {α : Type} {p : α → Bool} {l : List α} (h : l.all p = true) (d : α) {i : Nat} (hi : i < l.length) : p (l.getD i d) = true :=
  List.all_eq_true.1 h _ (getD_mem hi d)
theorem not_all {α : Type} {p : α → Bool} {l : List α} {d : α} {n : Nat} (h : n < l.length) (hp : p (l.getD n d) = false) : l.all p = false := by
  rw [List.all_eq_false]
  exact ⟨_, getD_mem h d, by rw [hp]; simp⟩
/-- All numbers below n, or the first that is not such a one. -/
theorem nat_or_first (P : Nat → Prop) [DecidablePred P] : ∀ n, (∀ i, i < n → P i) ∨ ∃ k, k < n ∧ ¬ P k ∧ ∀ i, i < k → P i
  | 0 => .inl fun i h => by omega
  | n + 1 => by
    rcases nat_or_first P n with h | ⟨k, h1, h2, h3⟩
    · by_cases hn : P n
      · left
        intro i hi
        rcases Nat.lt_or_ge i n with h' | h'
        · exact h i h'
        · have : i = n := by omega
          subst this; exact hn
      · exact .inr ⟨n, by omega, hn, h⟩
    · exact .inr ⟨k, by omega, h2, h3⟩
end Go.Proofs.YtmjeeaemmbkioaaGreat.Ev

set_option linter.unusedVariables false
set_option linter.unusedSimpArgs false
namespace Go.Proofs.YtmjeeaemmbkioaaGreat.Bm
open Go Ev

theorem cd {α : Sort _} {p : Prop} {i : Decidable p} {x y : α} : (bif @decide p i then x else y) = @ite α p i x y := by by_cases h : p <;> simp [h]
theorem cb {α : Sort _} {a b : Int} {x y : α} : (bif a == b then x else y) = if a = b then x else y := by
  by_cases h : a = b
  · simp [h]
  · rw [if_neg h, cond_f (by simpa using h)]
theorem cn {α : Sort _} {a b : Int} {x y : α} : (bif a != b then x else y) = if a = b then y else x := by
  by_cases h : a = b
  · simp [h]
  · rw [if_neg h, cond_t (by simpa using h)]
theorem mul_le {w h a b : Int} (h0 : 0 ≤ w) (h1 : w ≤ a) (h2 : 0 ≤ h) (h3 : h ≤ b) : 0 ≤ w * h ∧ w * h ≤ a * b :=
  ⟨Int.mul_nonneg h0 h2, Int.mul_le_mul h1 h3 h2 (by omega)⟩

/-- Sides of a bitmap. -/
def fit (w h : Int) : Bool := decide (0 ≤ w ∧ 0 ≤ h ∧ w ≤ 200 ∧ h ≤ 200 ∧ w * h ≤ 8192)
theorem fit_iff {w h : Int} : fit w h = true ↔ 0 ≤ w ∧ 0 ≤ h ∧ w ≤ 200 ∧ h ≤ 200 ∧ w * h ≤ 8192 := by simp [fit]
theorem fits_ok {fl : Nat} {w h : Int} {K : Bool → Option Ans} : F_bitmap_fits fl w h K = K (fit w h) := by
  unfold F_bitmap_fits fit
  simp only [cd]
  split
  · split
    · split
      · split
        · have := mul_le (a := 200) (b := 200) (show 0 ≤ w by omega) (by omega) (show 0 ≤ h by omega) (by omega)
          rw [wrap64 (by omega) (by omega)]
          exact congrArg K (decide_eq_decide.2 (by omega))
        · exact congrArg K (decide_eq_false (by omega)).symm
      · exact congrArg K (decide_eq_false (by omega)).symm
    · exact congrArg K (decide_eq_false (by omega)).symm
  · exact congrArg K (decide_eq_false (by omega)).symm
theorem sides_ok {fl : Nat} {w h : Int} {K : Bool → Option Ans} : F_ref05_Sides fl w h K = K (fit w h) := by
  unfold F_ref05_Sides fit
  simp only [cd]
  split
  · split
    · split
      · split
        · have := mul_le (a := 200) (b := 200) (show 0 ≤ w by omega) (by omega) (show 0 ≤ h by omega) (by omega)
          rw [wrap64 (by omega) (by omega)]
          exact congrArg K (decide_eq_decide.2 (by omega))
        · exact congrArg K (decide_eq_false (by omega)).symm
      · exact congrArg K (decide_eq_false (by omega)).symm
    · exact congrArg K (decide_eq_false (by omega)).symm
  · exact congrArg K (decide_eq_false (by omega)).symm

/-- A bitmap. -/
def valid (w h : Int) (pix : List Int) : Bool := fit w h && decide ((pix.length : Int) = w * h) && pix.all fun x => decide (x ≤ 1)
theorem valid_iff {w h : Int} {pix : List Int} : valid w h pix = true ↔ (0 ≤ w ∧ 0 ≤ h ∧ w ≤ 200 ∧ h ≤ 200 ∧ w * h ≤ 8192) ∧ (pix.length : Int) = w * h ∧ ∀ x ∈ pix, x ≤ 1 := by
  unfold valid
  rw [Bool.and_eq_true, Bool.and_eq_true, fit_iff, decide_eq_true_eq, List.all_eq_true]
  simp [and_assoc]
theorem fit_mul {w h : Int} (hf : fit w h = true) : IntKind.i64.wrap (w * h) = w * h := by
  obtain ⟨h1, h2, h3, h4, h5⟩ := fit_iff.1 hf
  have := mul_le (a := 200) (b := 200) h1 h3 h2 h4
  exact wrap64 (by omega) (by omega)

theorem valid_ok {fl : Nat} (hfl : 9223372036854775808 ≤ fl) {w h : Int} {pix : List Int} {K : Bool → Option Ans} : F_bitmap_Valid fl w h pix K = K (valid w h pix) := by
  unfold F_bitmap_Valid
  rw [fits_ok]
  unfold valid
  cases hf : fit w h with
  | false => rfl
  | true =>
  rw [cond_f (b := !true) rfl, fit_mul hf, cn]
  obtain ⟨h1, h2, h3, h4, h5⟩ := fit_iff.1 hf
  split
  rotate_left
  · rename_i hne
    rw [decide_eq_false hne]
    rfl
  rename_i he
  rw [decide_eq_true he]
  simp only [Bool.true_and]
  unfold L_bitmap_Valid_0
  rcases all_or_first (fun x => decide (x ≤ 1)) 0 pix with ha | ⟨n, hn, hb, hi⟩
  · rw [ha]
    refine iter_seq (step := S_bitmap_Valid_0 fl) (fun i : Nat => (pix, (pix.length : Int), (i : Int))) pix.length rfl (fun i hi c => ?_) (fun c => ?_) (by omega)
    · have g := all_getD ha 0 hi
      simp only [decide_eq_true_eq] at g
      simp (disch := omega) only [S_bitmap_Valid_0, dec_t, dec_f, wrap64, Int.toNat_natCast]
      rfl
    · simp (disch := omega) only [S_bitmap_Valid_0, dec_f]
  · rw [not_all hn hb]
    refine iter_seq (step := S_bitmap_Valid_0 fl) (fun i : Nat => (pix, (pix.length : Int), (i : Int))) n rfl (fun i hin c => ?_) (fun c => ?_) (by omega)
    · have g := hi i hin
      simp only [decide_eq_true_eq] at g
      simp (disch := omega) only [S_bitmap_Valid_0, dec_t, dec_f, wrap64, Int.toNat_natCast]
      rfl
    · simp only [decide_eq_false_iff_not] at hb
      simp (disch := omega) only [S_bitmap_Valid_0, dec_t, Int.toNat_natCast]
theorem rvalid_ok {fl : Nat} (hfl : 9223372036854775808 ≤ fl) {w h : Int} {pix : List Int} {K : Bool → Option Ans} : F_ref05_Valid fl w h pix K = K (valid w h pix) := by
  unfold F_ref05_Valid
  rw [sides_ok]
  unfold valid
  cases hf : fit w h with
  | false => rfl
  | true =>
  rw [cond_f (b := !true) rfl, fit_mul hf, cn]
  obtain ⟨h1, h2, h3, h4, h5⟩ := fit_iff.1 hf
  split
  rotate_left
  · rename_i hne
    rw [decide_eq_false hne]
    rfl
  rename_i he
  rw [decide_eq_true he]
  simp only [Bool.true_and]
  unfold L_ref05_Valid_0
  rcases all_or_first (fun x => decide (x ≤ 1)) 0 pix with ha | ⟨n, hn, hb, hi⟩
  · rw [ha]
    refine iter_seq (step := S_ref05_Valid_0 fl) (fun i : Nat => ((i : Int), w, h, pix)) pix.length rfl (fun i hi c => ?_) (fun c => ?_) (by omega)
    · have g := all_getD ha 0 hi
      simp only [decide_eq_true_eq] at g
      simp (disch := omega) only [S_ref05_Valid_0, dec_t, dec_f, wrap64, Int.toNat_natCast]
      rfl
    · simp (disch := omega) only [S_ref05_Valid_0, dec_f]
  · rw [not_all hn hb]
    refine iter_seq (step := S_ref05_Valid_0 fl) (fun i : Nat => ((i : Int), w, h, pix)) n rfl (fun i hin c => ?_) (fun c => ?_) (by omega)
    · have g := hi i hin
      simp only [decide_eq_true_eq] at g
      simp (disch := omega) only [S_ref05_Valid_0, dec_t, dec_f, wrap64, Int.toNat_natCast]
      rfl
    · simp only [decide_eq_false_iff_not] at hb
      simp (disch := omega) only [S_ref05_Valid_0, dec_t, Int.toNat_natCast]

/-- A place in a bitmap. -/
def ins (w h x y : Int) : Prop := 0 ≤ x ∧ 0 ≤ y ∧ x < w ∧ y < h
instance {w h x y : Int} : Decidable (ins w h x y) := by unfold ins; infer_instance
end Go.Proofs.YtmjeeaemmbkioaaGreat.Bm

set_option linter.unusedVariables false
set_option linter.unusedSimpArgs false
namespace Go.Proofs.YtmjeeaemmbkioaaGreat.Di
open Go Ev Bm

abbrev Bmp : Type := Int × Int × List Int
/-- Whether a bitmap may be a shape's. -/
def shp (b : Bmp) : Bool := valid b.1 b.2.1 b.2.2 && decide (1 ≤ b.1 ∧ b.1 ≤ 40 ∧ 1 ≤ b.2.1 ∧ b.2.1 ≤ 40)
section
variable {fl : Nat} (hfl : 9223372036854775808 ≤ fl)
include hfl
theorem isShape_ok {w h : Int} {p : List Int} {K : Bool → Option Ans} : F_symbol_isShape fl w h p K = K (shp (w, h, p)) := by
  unfold F_symbol_isShape shp
  dsimp only
  rw [valid_ok hfl]
  cases valid w h p with
  | false => rfl
  | true =>
    rw [cond_true]
    by_cases h1 : w ≥ 1
    rotate_left
    · rw [dec_f h1, decide_eq_false (by omega)]; rfl
    rw [dec_t h1]
    by_cases h2 : w ≤ 40
    rotate_left
    · rw [dec_f h2, decide_eq_false (by omega)]; rfl
    rw [dec_t h2]
    by_cases h3 : h ≥ 1
    rotate_left
    · rw [dec_f h3, decide_eq_false (by omega)]; rfl
    rw [dec_t h3, Bool.true_and]
    congr 1
    exact decide_eq_decide.2 (by omega)
theorem rshape_ok {w h : Int} {p : List Int} {K : Bool → Option Ans} : F_ref09_IsShape fl w h p K = K (shp (w, h, p)) := by
  unfold F_ref09_IsShape shp
  dsimp only
  rw [rvalid_ok hfl]
  cases valid w h p with
  | false => rfl
  | true =>
    rw [cond_true]
    by_cases h1 : w ≥ 1
    rotate_left
    · rw [dec_f h1, decide_eq_false (by omega)]; rfl
    rw [dec_t h1]
    by_cases h3 : h ≥ 1
    rotate_left
    · rw [dec_f h3, decide_eq_false (by omega)]; rfl
    rw [dec_t h3]
    by_cases h2 : w ≤ 40
    rotate_left
    · rw [dec_f h2, decide_eq_false (by omega)]; rfl
    rw [dec_t h2, Bool.true_and]
    congr 1
    exact decide_eq_decide.2 (by omega)
end
end Go.Proofs.YtmjeeaemmbkioaaGreat.Di

set_option linter.unusedVariables false
set_option linter.unusedSimpArgs false
namespace Go.Proofs.YtmjeeaemmbkioaaGreat.Gen
open Go Ev Bm

def vr (t ax ay kd : Int) : Bool := decide (0 ≤ t ∧ t ≤ 3 ∧ (kd = 0 ∨ kd = 1) ∧ -8 ≤ ax ∧ ax ≤ 8 ∧ -8 ≤ ay ∧ ay ≤ 0 ∧ (ay < 0 ∨ ax < 0))
/-- The offsets of a template. -/
def tpl (t : Int) : List (Int × Int) :=
  if t = 0 then [(-1, -2), (0, -2), (1, -2), (-2, -1), (-1, -1), (0, -1), (1, -1), (2, -1), (-2, 0), (-1, 0)]
  else if t = 1 then [(-1, -2), (0, -2), (-1, -1), (0, -1), (1, -1), (-2, 0), (-1, 0)]
  else if t = 2 then [(-2, -1), (-1, -1), (0, -1), (1, -1), (2, -1), (-2, 0), (-1, 0)]
  else [(-1, -1), (0, -1), (1, -1), (-1, 0)]
/-- How many contexts a region takes. -/
def size (t : Int) : Int := 2 ^ ((tpl t).length + 1) + 1
/-! ### The context of a pixel -/
/-- A bitmap's pixels. -/
structure Pix (w h : Int) (p : List Int) : Prop where
  w0 : 0 ≤ w
  h0 : 0 ≤ h
  w1 : w ≤ 200
  h1 : h ≤ 200
  n : w * h ≤ 8192
  len : (p.length : Int) = w * h
  bit : ∀ v ∈ p, 0 ≤ v ∧ v ≤ 1
end Go.Proofs.YtmjeeaemmbkioaaGreat.Gen

set_option linter.unusedVariables false
set_option linter.unusedSimpArgs false
namespace Go.Proofs.YtmjeeaemmbkioaaGreat.Co
open Go Ev

/-- Where the interval is cut. -/
def mid (lo hi p : Int) : Int := lo + (hi - lo) / 4096 * p + (hi - lo) % 4096 * p / 4096
theorem mid_in {lo hi p : Int} (h : lo < hi) (h1 : 1 ≤ p) (h2 : p ≤ 4095) : lo ≤ mid lo hi p ∧ mid lo hi p < hi := by
  unfold mid
  have hr : 1 ≤ hi - lo := by omega
  have e := Int.emod_add_mul_ediv (hi - lo) 4096
  have b0 : 0 ≤ (hi - lo) % 4096 := Int.emod_nonneg _ (by omega)
  have b1 : (hi - lo) % 4096 < 4096 := Int.emod_lt_of_pos _ (by omega)
  have a0 : 0 ≤ (hi - lo) / 4096 := Int.ediv_nonneg (by omega) (by omega)
  generalize (hi - lo) % 4096 = b at *
  generalize (hi - lo) / 4096 = a at *
  have m1 : 0 ≤ a * p := Int.mul_nonneg a0 (by omega)
  have m2 : a * p ≤ a * 4095 := Int.mul_le_mul_of_nonneg_left h2 a0
  have m3 : 0 ≤ b * p := Int.mul_nonneg b0 (by omega)
  have m4 : b * p ≤ b * 4095 := Int.mul_le_mul_of_nonneg_left h2 b0
  generalize a * p = x at *
  generalize b * p = y at *
  omega
/-- Whether both ends have the same highest byte. -/
def same (lo hi : Int) : Prop := lo / 16777216 = hi / 16777216
instance (lo hi : Int) : Decidable (same lo hi) := by unfold same; infer_instance
def nl (lo : Int) : Int := lo % 16777216 * 256
def nh (hi : Int) : Int := hi % 16777216 * 256 + 255
structure Rg (lo hi : Int) : Prop where
  l : 0 ≤ lo
  m : lo ≤ hi
  h : hi < 4294967296
theorem Rg.next {lo hi : Int} (h : Rg lo hi) (hs : same lo hi) : Rg (nl lo) (nh hi) := by
  obtain ⟨a, b, c⟩ := h
  unfold same at hs
  unfold nl nh
  constructor <;> omega
/-- The interval behind its shifts: how many, and the ends. -/
def nrm : Nat → Int → Int → Nat × Int × Int
  | 0, lo, hi => (0, lo, hi)
  | n + 1, lo, hi => if same lo hi then ((nrm n (nl lo) (nh hi)).1 + 1, (nrm n (nl lo) (nh hi)).2) else (0, lo, hi)
theorem nrm_rg : ∀ (n : Nat) {lo hi : Int}, Rg lo hi → Rg (nrm n lo hi).2.1 (nrm n lo hi).2.2
  | 0, _, _, h => h
  | n + 1, lo, hi, h => by
    unfold nrm
    split
    · rename_i hs
      exact nrm_rg n (h.next hs)
    · exact h
theorem nrm_same {n : Nat} {lo hi : Int} (h : same lo hi) : (nrm (n + 1) lo hi).2 = (nrm n (nl lo) (nh hi)).2 := by
  rw [nrm, if_pos h]
theorem nrm_diff {n : Nat} {lo hi : Int} (h : ¬ same lo hi) : (nrm (n + 1) lo hi).2 = (lo, hi) := by
  rw [nrm, if_neg h]
theorem ends4 {lo hi : Int} (h : Rg lo hi) (h1 : lo = 0) (h2 : hi = 4294967295) {n : Nat} : ¬ same (nrm (n + 1) lo hi).2.1 (nrm (n + 1) lo hi).2.2 := by
  have hs : ¬ same lo hi := by unfold same; omega
  rw [nrm_diff hs]
  exact hs
theorem ends3 {lo hi : Int} (h : Rg lo hi) (h1 : lo % 16777216 = 0) (h2 : hi % 16777216 = 16777215) : ¬ same (nrm 2 lo hi).2.1 (nrm 2 lo hi).2.2 := by
  by_cases hs : same lo hi
  · rw [nrm_same hs]
    exact ends4 (h.next hs) (by unfold nl; omega) (by unfold nh; omega)
  · rw [nrm_diff hs]
    exact hs
theorem ends2 {lo hi : Int} (h : Rg lo hi) (h1 : lo % 65536 = 0) (h2 : hi % 65536 = 65535) : ¬ same (nrm 3 lo hi).2.1 (nrm 3 lo hi).2.2 := by
  by_cases hs : same lo hi
  · rw [nrm_same hs]
    exact ends3 (h.next hs) (by unfold nl; omega) (by unfold nh; omega)
  · rw [nrm_diff hs]
    exact hs
theorem ends1 {lo hi : Int} (h : Rg lo hi) (h1 : lo % 256 = 0) (h2 : hi % 256 = 255) : ¬ same (nrm 4 lo hi).2.1 (nrm 4 lo hi).2.2 := by
  by_cases hs : same lo hi
  · rw [nrm_same hs]
    exact ends2 (h.next hs) (by unfold nl; omega) (by unfold nh; omega)
  · rw [nrm_diff hs]
    exact hs
/-- Four shifts are always enough. -/
theorem nrm_ends {lo hi : Int} (h : Rg lo hi) : ¬ same (nrm 5 lo hi).2.1 (nrm 5 lo hi).2.2 := by
  by_cases hs : same lo hi
  · rw [nrm_same hs]
    exact ends1 (h.next hs) (by unfold nl; omega) (by unfold nh; omega)
  · rw [nrm_diff hs]
    exact hs
theorem lt_of {lo hi : Int} (h : Rg lo hi) (hs : ¬ same lo hi) : lo < hi := by
  obtain ⟨a, b, c⟩ := h
  unfold same at hs
  omega
/-! ### A stream of bytes, and its windows -/
def win (S : Nat → Int) (n : Nat) : Int := S n * 16777216 + S (n + 1) * 65536 + S (n + 2) * 256 + S (n + 3)
end Go.Proofs.YtmjeeaemmbkioaaGreat.Co

set_option linter.unusedVariables false
set_option linter.unusedSimpArgs false
namespace Go.Proofs.YtmjeeaemmbkioaaGreat.Co
open Go Ev

def q : Nat → Int
  | 0 => 2048
  | k + 1 => q k - q k / 8
theorem q_rg : ∀ k : Fin 32, 1 ≤ q k.val ∧ q k.val ≤ 2048 := by decide
/-- How likely a 1 is. -/
def pr (kd s : Int) : Int :=
  if kd = 1 then min (max ((2 * (s % 256) + 1) * 4096 / (2 * (s / 256) + 2 * (s % 256) + 2)) 1) 4095
  else if 32 ≤ s then 4096 - q (s - 32).toNat else q s.toNat
def most (kd : Int) : Int := if kd = 1 then 65536 else 64
def vst (kd s : Int) : Prop := 0 ≤ s ∧ s < most kd
theorem pr_rg {kd s : Int} (hk : kd = 0 ∨ kd = 1) (h : vst kd s) : 1 ≤ pr kd s ∧ pr kd s ≤ 4095 := by
  unfold vst most at h
  unfold pr
  by_cases h1 : kd = 1
  · rw [if_pos h1]
    omega
  · rw [if_neg h1] at h ⊢
    split
    · have := q_rg ⟨(s - 32).toNat, by omega⟩
      simp only at this
      omega
    · have := q_rg ⟨s.toNat, by omega⟩
      simp only at this
      omega
/-- The state behind a bit. -/
def nx (kd s bit : Int) : Int :=
  if kd = 1 then
    (if bit = 0 then (if s / 256 = 255 then 256 * 128 + s % 256 / 2 else 256 * (s / 256 + 1) + s % 256)
     else (if s % 256 = 255 then 256 * (s / 256 / 2) + 128 else 256 * (s / 256) + (s % 256 + 1)))
  else if bit = s / 32 then 32 * (s / 32) + min (s % 32 + 1) 31
  else if s % 32 = 0 then 32 * bit
  else 32 * (s / 32) + (s % 32 - (1 + s % 32 / 4))
theorem nx_rg {kd s bit : Int} (hk : kd = 0 ∨ kd = 1) (h : vst kd s) (hb : bit = 0 ∨ bit = 1) : vst kd (nx kd s bit) := by
  unfold vst most at *
  unfold nx
  by_cases h1 : kd = 1
  · rw [if_pos h1] at h ⊢
    rw [if_pos h1]
    split <;> split <;> omega
  · rw [if_neg h1] at h ⊢
    rw [if_neg h1]
    split
    · omega
    · split <;> omega

/-- An interval and its model's states. -/
structure Iv where
  st : List Int
  lo : Int
  hi : Int
structure Iv.Ok (kd : Int) (x : Iv) : Prop where
  k : kd = 0 ∨ kd = 1
  r : Rg x.lo x.hi
  d : ¬ same x.lo x.hi
  s : ∀ s ∈ x.st, vst kd s
def Iv.mid (kd : Int) (x : Iv) (c : Int) : Int := Co.mid x.lo x.hi (pr kd (x.st.getD c.toNat 0))
def Iv.clo (kd : Int) (x : Iv) (c b : Int) : Int := if b = 1 then x.lo else x.mid kd c + 1
def Iv.chi (kd : Int) (x : Iv) (c b : Int) : Int := if b = 1 then x.mid kd c else x.hi
def Iv.many (kd : Int) (x : Iv) (c b : Int) : Nat := (nrm 5 (x.clo kd c b) (x.chi kd c b)).1
def Iv.next (kd : Int) (x : Iv) (c b : Int) : Iv :=
  ⟨x.st.set c.toNat (nx kd (x.st.getD c.toNat 0) b), (nrm 5 (x.clo kd c b) (x.chi kd c b)).2.1, (nrm 5 (x.clo kd c b) (x.chi kd c b)).2.2⟩
theorem Iv.Ok.get {kd : Int} {x : Iv} (h : x.Ok kd) {c : Int} (h0 : 0 ≤ c) (h1 : c < x.st.length) : vst kd (x.st.getD c.toNat 0) := h.s _ (getD_mem (by omega) 0)
theorem Iv.Ok.mid_in {kd : Int} {x : Iv} (h : x.Ok kd) {c : Int} (h0 : 0 ≤ c) (h1 : c < x.st.length) : x.lo ≤ x.mid kd c ∧ x.mid kd c < x.hi := by
  obtain ⟨a, b⟩ := pr_rg h.k (h.get h0 h1)
  exact Co.mid_in (lt_of h.r h.d) a b
theorem Iv.Ok.cut {kd : Int} {x : Iv} (h : x.Ok kd) {c b : Int} (h0 : 0 ≤ c) (h1 : c < x.st.length) : Rg (x.clo kd c b) (x.chi kd c b) := by
  have hm := h.mid_in h0 h1
  obtain ⟨a, b, c⟩ := h.r
  unfold Iv.clo Iv.chi
  split <;> constructor <;> omega
theorem Iv.Ok.next {kd : Int} {x : Iv} (h : x.Ok kd) {c b : Int} (h0 : 0 ≤ c) (h1 : c < x.st.length) (hb : b = 0 ∨ b = 1) : (x.next kd c b).Ok kd := by
  refine ⟨h.k, nrm_rg 5 (h.cut h0 h1), nrm_ends (h.cut h0 h1), fun s hs => ?_⟩
  rcases List.mem_or_eq_of_mem_set hs with hs | rfl
  · exact h.s s hs
  · exact nx_rg h.k (h.get h0 h1) hb

def Evs (n : Nat) (l : List (Int × Int)) : Prop := ∀ e ∈ l, 0 ≤ e.1 ∧ e.1 < (n : Int) ∧ (e.2 = 0 ∨ e.2 = 1)
/-- The bit that is read. -/
def bitOf (kd : Int) (S : Nat → Int) (x : Iv) (n : Nat) (c : Int) : Int := if win S n ≤ x.mid kd c then 1 else 0
/-! ### The end of a code -/
def strm (code : List Int) (n : Nat) : Int := code.getD n 0
/-! ### What is got from any bytes -/
def get (kd : Int) (code : List Int) (x : Iv) (k : Nat) (c : Int) : Option (Int × Iv × Nat) :=
  if code.length < k + x.many kd c (bitOf kd (strm code) x k c) then none
  else some (bitOf kd (strm code) x k c, x.next kd c (bitOf kd (strm code) x k c), k + x.many kd c (bitOf kd (strm code) x k c))
end Go.Proofs.YtmjeeaemmbkioaaGreat.Co

set_option linter.unusedVariables false
set_option linter.unusedSimpArgs false
namespace Go.Proofs.YtmjeeaemmbkioaaGreat.Co
open Go Ev

/-! ### Chances -/
theorem tdiv_e {x k : Int} (h : 0 ≤ x) : x.tdiv k = x / k := Int.tdiv_eq_ediv_of_nonneg h
theorem tmod_e {x k : Int} (h : 0 ≤ x) : x.tmod k = x % k := Int.tmod_eq_emod_of_nonneg h
theorem next {fl : Nat} {kd s b : Int} (hk : kd = 0 ∨ kd = 1) (h : vst kd s) (hb : b = 0 ∨ b = 1) {K : Int → Option Ans} : F_coder_next fl kd s b K = K (nx kd s b) := by
  obtain ⟨h0, h1⟩ := h
  unfold F_coder_next nx
  rw [tdiv_e h0, tdiv_e h0, tmod_e h0, tmod_e h0]
  rcases hk with rfl | rfl
  · have h1 : s < 64 := h1
    rw [cond_f (b := (0 : Int) == 1) rfl, if_neg (by decide)]
    have a0 : 0 ≤ s / 32 := by omega
    have a1 : s / 32 ≤ 1 := by omega
    have b0 : 0 ≤ s % 32 := by omega
    have b1 : s % 32 ≤ 31 := by omega
    generalize s / 32 = m at *
    generalize s % 32 = k at *
    have t4 : k.tdiv 4 = k / 4 := tdiv_e b0
    rw [wrap64 (x := m) (by omega) (by omega), t4, wrap64 (x := k + 1) (by omega) (by omega), wrap64 (x := 32 * m) (by omega) (by omega)]
    rw [Bm.cb, Bm.cb]
    by_cases c1 : b = m
    · rw [if_pos c1, if_pos c1]
      by_cases c2 : 31 < k + 1
      · rw [dec_t c2, wrap64 (by omega) (by omega), Int.min_eq_right (by omega)]
      · rw [dec_f c2, wrap64 (by omega) (by omega), Int.min_eq_left (by omega)]
    · rw [if_neg c1, if_neg c1]
      by_cases c2 : k = 0
      · rw [if_pos c2, if_pos c2, wrap64 (x := 32 * b) (by omega) (by omega), wrap64 (by omega) (by omega), c2, Int.add_zero]
      · rw [if_neg c2, if_neg c2, wrap64 (x := k / 4) (by omega) (by omega), wrap64 (x := 1 + k / 4) (by omega) (by omega), wrap64 (x := k - (1 + k / 4)) (by omega) (by omega), wrap64 (by omega) (by omega)]
  · have h1 : s < 65536 := h1
    rw [cond_t (b := (1 : Int) == 1) rfl, if_pos rfl]
    have a0 : 0 ≤ s / 256 := by omega
    have a1 : s / 256 ≤ 255 := by omega
    have b0 : 0 ≤ s % 256 := by omega
    have b1 : s % 256 ≤ 255 := by omega
    generalize s / 256 = m at *
    generalize s % 256 = k at *
    have t2 : k.tdiv 2 = k / 2 := tdiv_e b0
    have t3 : m.tdiv 2 = m / 2 := tdiv_e a0
    have w1 : IntKind.i64.wrap m = m := wrap64 (by omega) (by omega)
    have w2 : IntKind.i64.wrap (m / 2) = m / 2 := wrap64 (by omega) (by omega)
    have w3 : IntKind.i64.wrap (k / 2) = k / 2 := wrap64 (by omega) (by omega)
    rw [w1, t2, t3, w2, w3]
    rcases hb with rfl | rfl
    · rw [dec_t (p := (0 : Int) ≤ 0 ∧ (0 : Int) < ((2 : Nat) : Int)) (by decide), dec_t (p := (0 : Int) = ((0 : Nat) : Int)) rfl, if_pos rfl, Bm.cb]
      by_cases c1 : m = 255
      · rw [if_pos c1, if_pos c1]
        simp (disch := decide) only [dec_t]
        rw [wrap64 (x := m / 2 + 1) (by omega) (by omega), wrap64 (x := 256 * (m / 2 + 1)) (by omega) (by omega), wrap64 (by omega) (by omega)]
        congr 1
        omega
      · rw [if_neg c1, if_neg c1]
        simp (disch := decide) only [dec_t]
        rw [wrap64 (x := m + 1) (by omega) (by omega), wrap64 (x := 256 * (m + 1)) (by omega) (by omega), wrap64 (by omega) (by omega)]
    · rw [dec_t (p := (0 : Int) ≤ 1 ∧ (1 : Int) < ((2 : Nat) : Int)) (by decide), dec_f (p := (1 : Int) = ((0 : Nat) : Int)) (by decide), dec_t (p := (1 : Int) = ((1 : Nat) : Int)) rfl, if_neg (by decide), Bm.cb]
      by_cases c1 : k = 255
      · rw [if_pos c1, if_pos c1]
        simp (disch := decide) only [dec_t, dec_f]
        rw [wrap64 (x := k / 2 + 1) (by omega) (by omega), wrap64 (x := 256 * (m / 2)) (by omega) (by omega), wrap64 (by omega) (by omega)]
        congr 1
        omega
      · rw [if_neg c1, if_neg c1]
        simp (disch := decide) only [dec_t, dec_f]
        rw [wrap64 (x := k + 1) (by omega) (by omega), wrap64 (x := 256 * m) (by omega) (by omega), wrap64 (by omega) (by omega)]
end Go.Proofs.YtmjeeaemmbkioaaGreat.Co

set_option linter.unusedVariables false
set_option linter.unusedSimpArgs false
namespace Go.Proofs.YtmjeeaemmbkioaaGreat.Co
open Go Ev

/-! ### A new encoder -/
end Go.Proofs.YtmjeeaemmbkioaaGreat.Co

set_option linter.unusedVariables false
set_option linter.unusedSimpArgs false
namespace Go.Proofs.YtmjeeaemmbkioaaGreat.Co
open Go Ev

/-! ### Models -/
end Go.Proofs.YtmjeeaemmbkioaaGreat.Co

set_option linter.unusedVariables false
set_option linter.unusedSimpArgs false
namespace Go.Proofs.YtmjeeaemmbkioaaGreat.Co
open Go Ev

/-! ### A new decoder -/
/-! ### The reference's decoder -/
end Go.Proofs.YtmjeeaemmbkioaaGreat.Co

set_option linter.unusedVariables false
set_option linter.unusedSimpArgs false
namespace Go.Proofs.YtmjeeaemmbkioaaGreat.Co
open Go Ev

/-! ### The reference's encoder -/
end Go.Proofs.YtmjeeaemmbkioaaGreat.Co

set_option linter.unusedVariables false
set_option linter.unusedSimpArgs false
namespace Go.Proofs.YtmjeeaemmbkioaaGreat.Dc
open Go Ev Bm Co

inductive Dec (α : Type) where
  | ret (a : α)
  | bad (e : Int)
  | get (c : Int) (k : Int → Dec α)
/-- A decoder's state: whether all went well, its interval, how many bytes were taken. -/
structure S where
  ok : Bool
  x : Iv
  k : Nat
/-- All contexts are such of a model of n, and what it comes to is such a one. -/
def Dec.All {α : Type} (n : Nat) (P : α → Prop) : Dec α → Prop
  | .ret a => P a
  | .bad e => e = 3
  | .get c k => (0 ≤ c ∧ c < (n : Int)) ∧ ∀ b, b = 0 ∨ b = 1 → (k b).All n P
theorem Dec.All.mono {α : Type} {n : Nat} {P Q : α → Prop} (h : ∀ a, P a → Q a) : ∀ (d : Dec α), d.All n P → d.All n Q
  | .ret a, hd => h a hd
  | .bad _, hd => hd
  | .get c k, hd => ⟨hd.1, fun b hb => Dec.All.mono h (k b) (hd.2 b hb)⟩
/-- What holds of a decoder that has gone well so far. -/
structure St (kx : Int) (code : List Int) (n : Nat) (s : S) : Prop where
  ok : s.ok = true
  x : s.x.Ok kx
  sl : s.x.st.length = n
  k : s.k ≤ code.length
end Go.Proofs.YtmjeeaemmbkioaaGreat.Dc

set_option linter.unusedVariables false
set_option linter.unusedSimpArgs false
namespace Go.Proofs.YtmjeeaemmbkioaaGreat.Dc
open Go Ev Bm Co

/-! ### Ids -/
end Go.Proofs.YtmjeeaemmbkioaaGreat.Dc

set_option linter.unusedVariables false
set_option linter.unusedSimpArgs false
namespace Go.Proofs.YtmjeeaemmbkioaaGreat.Dc
open Go Ev Bm Co

section
variable {fl : Nat} (hfl : 9223372036854775808 ≤ fl)
include hfl
end
theorem Evs.nil (n : Nat) : Evs n [] := fun e he => by cases he
section
variable {fl : Nat} (hfl : 9223372036854775808 ≤ fl)
include hfl
end
end Go.Proofs.YtmjeeaemmbkioaaGreat.Dc

set_option linter.unusedVariables false
set_option linter.unusedSimpArgs false
namespace Go.Proofs.YtmjeeaemmbkioaaGreat.Gen
open Go Ev Bm Co

/-- What is skipped has the region's sides, or none. -/
def Sk (w h : Int) (sp : List Int) : Prop := sp = [] ∨ (sp.length : Int) = w * h
/-! ### The events -/
section
variable (t ax ay base w h : Int) (ty : Bool) (p sp : List Int)
end
structure Reg (t ax ay kd base w h : Int) (p sp : List Int) (n : Nat) : Prop where
  v : vr t ax ay kd = true
  p : Pix w h p
  s : Sk w h sp
  b0 : 0 ≤ base
  b1 : base + size t ≤ (n : Int)
/-! ### The program puts them -/
end Go.Proofs.YtmjeeaemmbkioaaGreat.Gen

set_option linter.unusedVariables false
set_option linter.unusedSimpArgs false
namespace Go.Proofs.YtmjeeaemmbkioaaGreat.Rf
open Go Ev Bm Co Gen Dc

structure RR (t dx dy kd w h : Int) (p : List Int) (rw rh : Int) (rp : List Int) : Prop where
  t : t = 0 ∨ t = 1
  k : kd = 0 ∨ kd = 1
  x : -200 ≤ dx ∧ dx ≤ 200
  y : -200 ≤ dy ∧ dy ≤ 200
  p : Pix w h p
  r : Pix rw rh rp
section
variable {fl : Nat} (hfl : 9223372036854775808 ≤ fl) {t dx dy kd w h : Int} {p : List Int} {rw rh : Int} {rp : List Int} {ty : Bool}
include hfl
end
section
variable (t dx dy base w h : Int) (p : List Int) (rw rh : Int) (rp : List Int)
end
section
variable {t dx dy base w h kd : Int} {p : List Int} {rw rh : Int} {rp : List Int} {n : Nat}
end
section
variable {fl : Nat} (hfl : 9223372036854775808 ≤ fl) {t dx dy base w h kd : Int} {p : List Int} {rw rh : Int} {rp : List Int}
include hfl
end
end Go.Proofs.YtmjeeaemmbkioaaGreat.Rf

set_option linter.unusedVariables false
set_option linter.unusedSimpArgs false
namespace Go.Proofs.YtmjeeaemmbkioaaGreat.Di
open Go Ev Bm Gen Rf

end Go.Proofs.YtmjeeaemmbkioaaGreat.Di

set_option linter.unusedVariables false
set_option linter.unusedSimpArgs false
set_option maxHeartbeats 1000000
namespace Go.Proofs.YtmjeeaemmbkioaaGreat.Di
open Go Ev Bm Gen

abbrev Sh : Type := Bmp × Int
def dS : Sh := ((0, 0, []), 0)
def shpS (s : Sh) : Bool := shp s.1
/-- Whether a shape may stand at its place. -/
def okAt (old : Nat) (l : List Sh) (i : Nat) : Prop := -1 ≤ (l.getD i dS).2 ∧ (l.getD i dS).2 < (old : Int) + (i : Int) ∧ (i = 0 ∨ (l.getD (i - 1) dS).1.2.1 ≤ (l.getD i dS).1.2.1)
theorem okAt_mk {old : Nat} {l : List Sh} {i : Nat} (h1 : -1 ≤ (l.getD i dS).2) (h2 : (l.getD i dS).2 < (old : Int) + (i : Int)) (h3 : i = 0 ∨ (l.getD (i - 1) dS).1.2.1 ≤ (l.getD i dS).1.2.1) : okAt old l i := And.intro h1 (And.intro h2 h3)
theorem okAt_get {old : Nat} {l : List Sh} {i : Nat} (h : okAt old l i) : -1 ≤ (l.getD i dS).2 ∧ (l.getD i dS).2 < (old : Int) + (i : Int) ∧ (i = 0 ∨ (l.getD (i - 1) dS).1.2.1 ≤ (l.getD i dS).1.2.1) := h
instance (old : Nat) (l : List Sh) (i : Nat) : Decidable (okAt old l i) := by unfold okAt; infer_instance
/-- The error of new shapes. -/
def rsErr (old : List Bmp) (l : List Sh) : Int := if l.all shpS = true then (if (List.range l.length).all (fun i => decide (okAt old.length l i)) = true then (if old.length + l.length > 60 then 2 else 0) else 2) else 30
theorem range_all {n : Nat} {p : Nat → Bool} (h : ∀ i, i < n → p i = true) : (List.range n).all p = true := List.all_eq_true.2 fun i hi => h i (List.mem_range.1 hi)
theorem range_not {n k : Nat} {p : Nat → Bool} (hk : k < n) (h : p k = false) : (List.range n).all p = false := by
  rw [List.all_eq_false]
  exact ⟨k, List.mem_range.2 hk, by rw [h]; simp⟩
theorem sane {fl : Nat} {K : Bool → Option Ans} : F_law09_Sane fl K = K true := rfl
theorem cloneB {fl : Nat} {p : List Int} (hp : p.length ≤ 140737488351232) {K : List Int → Option Ans} : F_slices_Clone_byte_byte fl p K = K p := by
  unfold F_slices_Clone_byte_byte
  rw [dec_t (p := (0 + p.length) * 1 ≤ 140737488355328 ∧ 0 + p.length ≤ 140737488355328) (by omega), List.nil_append]
  by_cases h : (p.length : Int) = 0
  · have : p = [] := List.eq_nil_of_length_eq_zero (by omega)
    subst this
    rw [dec_t h, both_same]
  · rw [dec_f h]
theorem cloneM {fl : Nat} {p : List Bmp} (hp : p.length ≤ 1000000) {K : List Bmp → Option Ans} : F_slices_Clone_api_Bitmap_api_Bitmap fl p K = K p := by
  unfold F_slices_Clone_api_Bitmap_api_Bitmap
  rw [dec_t (p := (0 + p.length) * 40 ≤ 140737488355328 ∧ 0 + p.length ≤ 140737488355328) (by omega), List.nil_append]
  by_cases h : (p.length : Int) = 0
  · have : p = [] := List.eq_nil_of_length_eq_zero (by omega)
    subst this
    rw [dec_t h, both_same]
  · rw [dec_f h]
/-- The bitmaps with flags, of the first n. -/
def exN (all : List Bmp) (ex : List Bool) : Nat → List Bmp
  | 0 => []
  | n + 1 => exN all ex n ++ (if ex.getD n false = true then [all.getD n (0, 0, [])] else [])
theorem exN_len (all : List Bmp) (ex : List Bool) : ∀ n, (exN all ex n).length ≤ n
  | 0 => Nat.le_refl _
  | n + 1 => by
    have := exN_len all ex n
    unfold exN
    rw [List.length_append]
    split
    · simp only [List.length_cons, List.length_nil]; omega
    · simp only [List.length_nil]; omega
/-- What is exported, or the error. -/
def xErr (old : List Bmp) (l : List Sh) (ex : List Bool) : Int := if old.all shp = true then (if rsErr old l = 0 then (if ex.length = old.length + l.length then 0 else 2) else rsErr old l) else 30
def xRes (old : List Bmp) (l : List Sh) (ex : List Bool) : Int × List Bmp := if xErr old l ex = 0 then (0, exN (old ++ l.map (·.1)) ex ex.length) else (xErr old l ex, [])
theorem rs_parts {old : List Bmp} {l : List Sh} (h : rsErr old l = 0) : l.all shpS = true ∧ (∀ i, i < l.length → okAt old.length l i) ∧ old.length + l.length ≤ 60 := by
  unfold rsErr at h
  split at h
  · rename_i h1
    split at h
    · rename_i h2
      split at h
      · omega
      · exact ⟨h1, fun i hi => of_decide_eq_true (List.all_eq_true.1 h2 i (List.mem_range.2 hi)), by omega⟩
    · omega
  · omega
theorem take_snoc {α : Type} {l : List α} {d : α} {i : Nat} (hi : i < l.length) : l.take i ++ [l.getD i d] = l.take (i + 1) := by
  rw [List.getD_eq_getElem?_getD, List.getElem?_eq_getElem hi, Option.getD_some, List.take_succ_eq_append_getElem hi]
section
variable {fl : Nat} (hfl : 9223372036854775808 ≤ fl)
include hfl
theorem has_exp {l : List Bmp} (hl : l.length ≤ 1000000000000000) {K : Bool → Option Ans} : F_slices_ContainsFunc_api_Bitmap_api_Bitmap_ace fl l K = K (!l.all shp) := by
  unfold F_slices_ContainsFunc_api_Bitmap_api_Bitmap_ace F_slices_IndexFunc_api_Bitmap_api_Bitmap_ace L_slices_IndexFunc_api_Bitmap_api_Bitmap_ace_0
  have st : ∀ i : Nat, i < l.length → ∀ c ret b, S_slices_IndexFunc_api_Bitmap_api_Bitmap_ace_0 fl (l, (l.length : Int), (i : Int)) c (ret, b) = if shp (l.getD i (0, 0, [])) = true then c (l, (l.length : Int), ((i + 1 : Nat) : Int)) else ret (i : Int) := by
    intro i hi c ret b
    simp only [S_slices_IndexFunc_api_Bitmap_api_Bitmap_ace_0, F_symbol_Exported_1]
    rw [dec_t (by omega), dec_t (by omega), Int.toNat_natCast, isShape_ok hfl]
    try dsimp only
    rw [show ((l.getD i (0, 0, [])).fst, (l.getD i (0, 0, [])).snd.fst, (l.getD i (0, 0, [])).snd.snd) = l.getD i (0, 0, []) from rfl, wrap64 (by omega) (by omega)]
    cases shp (l.getD i (0, 0, [])) <;> rfl
  rcases all_or_first shp (0, 0, []) l with ha | ⟨n, hn, hb, hi⟩
  · rw [ha]
    refine iter_to (step := S_slices_IndexFunc_api_Bitmap_api_Bitmap_ace_0 fl) (fun i : Nat => (l, (l.length : Int), (i : Int))) l.length (fun i hi c => by rw [st i hi, if_pos (all_getD ha _ hi)]) (fun c => ?_) (by omega)
    simp only [S_slices_IndexFunc_api_Bitmap_api_Bitmap_ace_0]
    rw [dec_f (by omega)]
    rfl
  · rw [not_all hn hb]
    refine iter_to (step := S_slices_IndexFunc_api_Bitmap_api_Bitmap_ace_0 fl) (fun i : Nat => (l, (l.length : Int), (i : Int))) n (fun i hi' c => by rw [st i (by omega), if_pos (hi i hi')]) (fun c => ?_) (by omega)
    rw [st n hn, if_neg (by rw [hb]; simp)]
    show K (decide ((n : Int) ≥ 0)) = K true
    rw [decide_eq_true (by omega)]
theorem rs_ok {old : List Bmp} {l : List Sh} (ho : old.length ≤ 1000000000000000) (hl : l.length ≤ 1000000000000000) {K : Int → Option Ans} : F_symbol_rightShapes fl old l K = K (rsErr old l) := by
  have st : ∀ i : Nat, i < l.length → ∀ c ret b, S_symbol_rightShapes_0 fl (old, l, l, (l.length : Int), (i : Int)) c (ret, b) = if shpS (l.getD i dS) = true then c (old, l, l, (l.length : Int), ((i + 1 : Nat) : Int)) else ret 30 := by
    intro i hi c ret b
    simp only [S_symbol_rightShapes_0]
    rw [dec_t (by omega), dec_t (by omega), Int.toNat_natCast, isShape_ok hfl]
    try dsimp only
    have e : shp ((l.getD i ((0, 0, []), 0)).fst.fst, (l.getD i ((0, 0, []), 0)).fst.snd.fst, (l.getD i ((0, 0, []), 0)).fst.snd.snd) = shpS (l.getD i dS) := rfl
    rw [e, wrap64 (by omega) (by omega)]
    cases shpS (l.getD i dS) <;> rfl
  have st2 : ∀ i : Nat, i < l.length → ∀ c ret b, S_symbol_rightShapes_2 fl (old, l, l, (l.length : Int), (i : Int)) c (ret, b) = if okAt old.length l i then c (old, l, l, (l.length : Int), ((i + 1 : Nat) : Int)) else ret 2 := by
    intro i hi c ret b
    have e : (l.getD i ((0, 0, []), 0)) = l.getD i dS := rfl
    simp only [S_symbol_rightShapes_2, Int.toNat_natCast, e]
    rw [dec_t (by omega), dec_t (by omega), wrap64 (x := (old.length : Int) + (i : Int)) (by omega) (by omega), wrap64 (x := (i : Int) + 1) (by omega) (by omega)]
    by_cases h1 : (l.getD i dS).snd < -1
    · rw [dec_t h1, if_neg (fun k => by have k := okAt_get k; omega)]
    rw [dec_f h1]
    by_cases h2 : (l.getD i dS).snd ≥ (old.length : Int) + (i : Int)
    · rw [dec_t h2, if_neg (fun k => by have k := okAt_get k; omega)]
    rw [dec_f h2]
    by_cases h3 : (i : Int) > 0
    · have e2 : IntKind.i64.wrap ((i : Int) - 1) = ((i - 1 : Nat) : Int) := by rw [wrap64 (by omega) (by omega)]; omega
      have e3 : (l.getD (i - 1) ((0, 0, []), 0)) = l.getD (i - 1) dS := rfl
      rw [dec_t h3, e2, dec_t (by omega), Int.toNat_natCast, e3]
      by_cases h4 : (l.getD i dS).fst.snd.fst < (l.getD (i - 1) dS).fst.snd.fst
      · rw [dec_t h4, if_neg (fun k => by have k := okAt_get k; omega)]
      · rw [dec_f h4, if_pos (okAt_mk (by omega) (by omega) (.inr (by omega)))]
        rfl
    · rw [dec_f h3, if_pos (okAt_mk (by omega) (by omega) (.inl (by omega)))]
      rfl
  unfold F_symbol_rightShapes rsErr L_symbol_rightShapes_0
  rcases all_or_first shpS dS l with ha | ⟨n, hn, hb, hi⟩
  rotate_left
  · rw [show l.all shpS = false from not_all hn hb, if_neg (by simp)]
    refine iter_to (step := S_symbol_rightShapes_0 fl) (fun i : Nat => (old, l, l, (l.length : Int), (i : Int))) n (fun i hi' c => by rw [st i (by omega), if_pos (hi i hi')]) (fun c => ?_) (by omega)
    rw [st n hn, if_neg (by rw [hb]; simp)]
  · rw [if_pos ha]
    refine iter_to (step := S_symbol_rightShapes_0 fl) (fun i : Nat => (old, l, l, (l.length : Int), (i : Int))) l.length (fun i hi c => by rw [st i hi, if_pos (all_getD ha _ hi)]) (fun c => ?_) (by omega)
    simp only [S_symbol_rightShapes_0]
    rw [dec_f (by omega)]
    unfold L_symbol_rightShapes_2
    rcases nat_or_first (fun i => okAt old.length l i) l.length with ha | ⟨n, hn, hb, hi⟩
    · rw [if_pos (range_all (fun i hi => decide_eq_true (ha i hi)))]
      refine iter_to (step := S_symbol_rightShapes_2 fl) (fun i : Nat => (old, l, l, (l.length : Int), (i : Int))) l.length (fun i hi c => by rw [st2 i hi, if_pos (ha i hi)]) (fun c => ?_) (by omega)
      simp only [S_symbol_rightShapes_2]
      rw [dec_f (by omega), wrap64 (by omega) (by omega)]
      by_cases h : old.length + l.length > 60
      · rw [dec_t (by omega), if_pos h]
      · rw [dec_f (by omega), if_neg h]
    · rw [if_neg (by rw [range_not hn (decide_eq_false hb)]; simp)]
      refine iter_to (step := S_symbol_rightShapes_2 fl) (fun i : Nat => (old, l, l, (l.length : Int), (i : Int))) n (fun i hi' c => by rw [st2 i (by omega), if_pos (hi i hi')]) (fun c => ?_) (by omega)
      rw [st2 n hn, if_neg hb]
theorem rrs_ok {old : List Bmp} {l : List Sh} {ex : List Bool} (ho : old.length ≤ 1000000000000000) (hl : l.length ≤ 1000000000000000) {K : Int → Option Ans} : F_ref09_shapes fl old l ex K = K (if rsErr old l = 0 then (if ex.length = old.length + l.length then 0 else 2) else rsErr old l) := by
  have st : ∀ i : Nat, i < l.length → ∀ c ret b, S_ref09_shapes_0 fl (old, l, ex, (i : Int)) c (ret, b) = if shpS (l.getD i dS) = true then c (old, l, ex, ((i + 1 : Nat) : Int)) else ret 30 := by
    intro i hi c ret b
    simp only [S_ref09_shapes_0]
    rw [dec_t (by omega), dec_t (by omega), Int.toNat_natCast, rshape_ok hfl]
    try dsimp only
    have e : shp ((l.getD i ((0, 0, []), 0)).fst.fst, (l.getD i ((0, 0, []), 0)).fst.snd.fst, (l.getD i ((0, 0, []), 0)).fst.snd.snd) = shpS (l.getD i dS) := rfl
    rw [e, wrap64 (by omega) (by omega)]
    cases shpS (l.getD i dS) <;> rfl
  have st2 : ∀ i : Nat, i < l.length → ∀ c ret b, S_ref09_shapes_2 fl (old, l, ex, (i : Int)) c (ret, b) = if okAt old.length l i then c (old, l, ex, ((i + 1 : Nat) : Int)) else ret 2 := by
    intro i hi c ret b
    have e : (l.getD i ((0, 0, []), 0)) = l.getD i dS := rfl
    simp only [S_ref09_shapes_2, Int.toNat_natCast, e]
    rw [dec_t (by omega), dec_t (by omega), wrap64 (x := (old.length : Int) + (i : Int)) (by omega) (by omega), wrap64 (x := (i : Int) + 1) (by omega) (by omega)]
    by_cases h1 : (l.getD i dS).snd < -1
    · rw [dec_t h1, if_neg (fun k => by have k := okAt_get k; omega)]
    rw [dec_f h1, dec_t (by omega)]
    by_cases h2 : (l.getD i dS).snd ≥ (old.length : Int) + (i : Int)
    · rw [dec_t h2, if_neg (fun k => by have k := okAt_get k; omega)]
    rw [dec_f h2]
    by_cases h3 : (i : Int) > 0
    · have e2 : IntKind.i64.wrap ((i : Int) - 1) = ((i - 1 : Nat) : Int) := by rw [wrap64 (by omega) (by omega)]; omega
      have e3 : (l.getD (i - 1) ((0, 0, []), 0)) = l.getD (i - 1) dS := rfl
      rw [dec_t h3, e2, dec_t (by omega), dec_t (by omega), Int.toNat_natCast, e3]
      by_cases h4 : (l.getD i dS).fst.snd.fst < (l.getD (i - 1) dS).fst.snd.fst
      · rw [dec_t h4, if_neg (fun k => by have k := okAt_get k; omega)]
      · rw [dec_f h4, if_pos (okAt_mk (by omega) (by omega) (.inr (by omega)))]
        rfl
    · rw [dec_f h3, if_pos (okAt_mk (by omega) (by omega) (.inl (by omega)))]
      rfl
  unfold F_ref09_shapes L_ref09_shapes_0
  rcases all_or_first shpS dS l with ha | ⟨n, hn, hb, hi⟩
  rotate_left
  · have he : rsErr old l = 30 := by unfold rsErr; rw [show l.all shpS = false from not_all hn hb, if_neg (by simp)]
    rw [he, if_neg (by omega)]
    refine iter_to (step := S_ref09_shapes_0 fl) (fun i : Nat => (old, l, ex, (i : Int))) n (fun i hi' c => by rw [st i (by omega), if_pos (hi i hi')]) (fun c => ?_) (by omega)
    rw [st n hn, if_neg (by rw [hb]; simp)]
  · refine iter_to (step := S_ref09_shapes_0 fl) (fun i : Nat => (old, l, ex, (i : Int))) l.length (fun i hi c => by rw [st i hi, if_pos (all_getD ha _ hi)]) (fun c => ?_) (by omega)
    simp only [S_ref09_shapes_0]
    rw [dec_f (by omega)]
    unfold L_ref09_shapes_2
    rcases nat_or_first (fun i => okAt old.length l i) l.length with hb | ⟨n, hn, hb, hi⟩
    · refine iter_to (step := S_ref09_shapes_2 fl) (fun i : Nat => (old, l, ex, (i : Int))) l.length (fun i hi c => by rw [st2 i hi, if_pos (hb i hi)]) (fun c => ?_) (by omega)
      simp only [S_ref09_shapes_2]
      rw [dec_f (by omega), wrap64 (by omega) (by omega)]
      by_cases h : old.length + l.length > 60
      · have he : rsErr old l = 2 := by unfold rsErr; rw [if_pos ha, if_pos (range_all (fun i hi => decide_eq_true (hb i hi))), if_pos h]
        rw [dec_t (by omega), he, if_neg (by omega)]
      · have he : rsErr old l = 0 := by unfold rsErr; rw [if_pos ha, if_pos (range_all (fun i hi => decide_eq_true (hb i hi))), if_neg h]
        rw [dec_f (by omega), he, if_pos rfl, cn]
        by_cases hx : (ex.length : Int) = (old.length : Int) + (l.length : Int)
        · rw [if_pos hx, if_pos (by omega)]
        · rw [if_neg hx, if_neg (by omega)]
    · have he : rsErr old l = 2 := by unfold rsErr; rw [if_pos ha, if_neg (by rw [range_not hn (decide_eq_false hb)]; simp)]
      rw [he, if_neg (by omega)]
      refine iter_to (step := S_ref09_shapes_2 fl) (fun i : Nat => (old, l, ex, (i : Int))) n (fun i hi' c => by rw [st2 i (by omega), if_pos (hi i hi')]) (fun c => ?_) (by omega)
      rw [st2 n hn, if_neg hb]
theorem all_loop1 {old : List Bmp} {l : List Sh} {ex : List Bool} (h : old.length + l.length ≤ 60) {b} : L_symbol_Exported_0 fl (ex, l, (l.length : Int), 0, old) b = b (ex, old ++ l.map (·.1)) := by
  unfold L_symbol_Exported_0
  refine iter_seq (step := S_symbol_Exported_0 fl) (fun i : Nat => (ex, l, (l.length : Int), (i : Int), old ++ (l.take i).map (·.1))) l.length (by simp) (fun i hi c => ?_) (fun c => ?_) (by omega)
  · simp only [S_symbol_Exported_0]
    rw [dec_t (by omega), dec_t (by omega), dec_t (by simp only [List.length_append, List.length_map, List.length_take]; omega), wrap64 (by omega) (by omega), ← take_snoc (d := ((0, 0, []), 0)) hi, List.map_append, ← List.append_assoc]
    rfl
  · simp only [S_symbol_Exported_0]
    rw [dec_f (by omega), List.take_length]
theorem rall_loop {old : List Bmp} {l : List Sh} (h : old.length + l.length ≤ 60) {K : List Bmp → Option Ans} : F_ref09_all fl old l K = K (old ++ l.map (·.1)) := by
  unfold F_ref09_all L_ref09_all_0
  rw [dec_t (by omega)]
  refine iter_seq (step := S_ref09_all_0 fl) (fun i : Nat => (l, (i : Int), old ++ (l.take i).map (·.1))) l.length (by simp) (fun i hi c => ?_) (fun c => ?_) (by omega)
  · simp only [S_ref09_all_0]
    rw [dec_t (by omega), dec_t (by omega), dec_t (by simp only [List.length_append, List.length_map, List.length_take]; omega), wrap64 (by omega) (by omega), ← take_snoc (d := ((0, 0, []), 0)) hi, List.map_append, ← List.append_assoc]
    rfl
  · simp only [S_ref09_all_0]
    rw [dec_f (by omega), List.take_length]
theorem shp_len {b : Bmp} (h : shp b = true) : b.2.2.length ≤ 8192 := by
  unfold shp at h
  rw [Bool.and_eq_true] at h
  obtain ⟨⟨_, _, _, _, h5⟩, h6, _⟩ := valid_iff.1 h.1
  omega
theorem xall {old : List Bmp} {l : List Sh} (h1 : old.all shp = true) (h2 : l.all shpS = true) : ∀ b ∈ old ++ l.map (·.1), shp b = true := fun b hb => by
  rcases List.mem_append.1 hb with hb | hb
  · exact List.all_eq_true.1 h1 b hb
  · obtain ⟨s, hs, rfl⟩ := List.mem_map.1 hb
    exact List.all_eq_true.1 h2 s hs
theorem sexp {old : List Bmp} {l : List Sh} {ex : List Bool} (ho : old.length ≤ 1000000000000000) (hl : l.length ≤ 1000000000000000) {K : Int × List Bmp → Option Ans} : F_symbol_Exported fl old l ex K = K (xRes old l ex) := by
  unfold F_symbol_Exported xRes xErr
  rw [has_exp hfl ho]
  cases h : old.all shp with
  | false =>
    rw [cond_t (b := !false) rfl]
    rfl
  | true =>
  rw [cond_f (b := !true) rfl, rs_ok hfl ho hl, if_pos rfl]
  by_cases he : rsErr old l = 0
  rotate_left
  · rw [cond_t (by simpa using he), if_neg he, if_neg he]
  obtain ⟨r1, r2, r3⟩ := rs_parts he
  rw [cond_f (by simp [he]), if_pos he, wrap64 (by omega) (by omega), cn]
  by_cases hx : ex.length = old.length + l.length
  rotate_left
  · rw [if_neg (by omega), if_neg hx, if_neg (by omega)]
  rw [if_pos (by omega), if_pos hx, if_pos rfl, cloneM (by omega)]
  try dsimp only
  rw [all_loop1 hfl r3]
  try dsimp only
  have hA := xall hfl h r1
  have hlen : (old ++ l.map (·.1)).length = ex.length := by rw [hx]; simp
  generalize old ++ l.map (·.1) = all at hA hlen ⊢
  unfold L_symbol_Exported_2
  refine iter_seq (step := S_symbol_Exported_2 fl) (fun i : Nat => (ex, (ex.length : Int), (i : Int), all, exN all ex i)) ex.length rfl (fun i hi c => ?_) (fun c => ?_) (by omega)
  · have hm := exN_len all ex i
    simp only [S_symbol_Exported_2, Int.toNat_natCast]
    rw [dec_t (by omega), dec_t (by omega), wrap64 (by omega) (by omega)]
    show _ = c (ex, (ex.length : Int), ((i + 1 : Nat) : Int), all, exN all ex i ++ (if ex.getD i false = true then [all.getD i (0, 0, [])] else []))
    cases hb : ex.getD i false with
    | false => rw [cond_false, if_neg (by simp), List.append_nil]; rfl
    | true =>
      have hs := shp_len hfl (hA _ (getD_mem (show i < all.length by omega) (0, 0, [])))
      unfold F_symbol_own
      rw [cond_true, if_pos rfl, dec_t (by omega), cloneB (by omega)]
      try dsimp only
      rw [dec_t (by omega)]
      rfl
  · simp only [S_symbol_Exported_2]
    rw [dec_f (by omega)]
theorem rexp {old : List Bmp} {l : List Sh} {ex : List Bool} (ho : old.length ≤ 1000000000000000) (hl : l.length ≤ 1000000000000000) {K : Int × List Bmp → Option Ans} : F_ref09_Exported fl old l ex K = K (xRes old l ex) := by
  have st : ∀ i : Nat, i < old.length → ∀ c ret b, S_ref09_Exported_0 fl (old, l, ex, (i : Int)) c (ret, b) = if shp (old.getD i (0, 0, [])) = true then c (old, l, ex, ((i + 1 : Nat) : Int)) else ret (30, []) := by
    intro i hi c ret b
    simp only [S_ref09_Exported_0]
    rw [dec_t (by omega), dec_t (by omega), Int.toNat_natCast, rshape_ok hfl]
    try dsimp only
    rw [show ((old.getD i (0, 0, [])).fst, (old.getD i (0, 0, [])).snd.fst, (old.getD i (0, 0, [])).snd.snd) = old.getD i (0, 0, []) from rfl, wrap64 (by omega) (by omega)]
    cases shp (old.getD i (0, 0, [])) <;> rfl
  unfold F_ref09_Exported xRes xErr L_ref09_Exported_0
  rcases all_or_first shp (0, 0, []) old with ha | ⟨n, hn, hb, hi⟩
  rotate_left
  · rw [show old.all shp = false from not_all hn hb]
    refine iter_to (step := S_ref09_Exported_0 fl) (fun i : Nat => (old, l, ex, (i : Int))) n (fun i hi' c => by rw [st i (by omega), if_pos (hi i hi')]) (fun c => ?_) (by omega)
    rw [st n hn, if_neg (by rw [hb]; simp)]
    rfl
  · rw [if_pos ha]
    refine iter_to (step := S_ref09_Exported_0 fl) (fun i : Nat => (old, l, ex, (i : Int))) old.length (fun i hi c => by rw [st i hi, if_pos (all_getD ha _ hi)]) (fun c => ?_) (by omega)
    simp only [S_ref09_Exported_0]
    rw [dec_f (by omega), rrs_ok hfl ho hl]
    by_cases he : rsErr old l = 0
    rotate_left
    · rw [if_neg he, if_neg he, cond_t (by simpa using he)]
    obtain ⟨r1, r2, r3⟩ := rs_parts he
    rw [if_pos he]
    by_cases hx : ex.length = old.length + l.length
    rotate_left
    · rw [if_neg hx, cond_t (by rfl), if_neg (by omega)]
    rw [if_pos hx, cond_f (by rfl), if_pos rfl, rall_loop hfl r3]
    try dsimp only
    have hA := xall hfl ha r1
    have hlen : (old ++ l.map (·.1)).length = ex.length := by rw [hx]; simp
    generalize old ++ l.map (·.1) = all at hA hlen ⊢
    unfold L_ref09_Exported_2
    refine iter_seq (step := S_ref09_Exported_2 fl) (fun i : Nat => (ex, (i : Int), all, exN all ex i)) ex.length rfl (fun i hi c => ?_) (fun c => ?_) (by omega)
    · have hm := exN_len all ex i
      simp only [S_ref09_Exported_2, Int.toNat_natCast]
      rw [dec_t (by omega), dec_t (by omega), wrap64 (by omega) (by omega)]
      show _ = c (ex, ((i + 1 : Nat) : Int), all, exN all ex i ++ (if ex.getD i false = true then [all.getD i (0, 0, [])] else []))
      cases hb : ex.getD i false with
      | false => rw [cond_false, if_neg (by simp), List.append_nil]; rfl
      | true =>
        rw [cond_true, if_pos rfl, dec_t (by omega), dec_t (by omega)]
        rfl
    · simp only [S_ref09_Exported_2]
      rw [dec_f (by omega)]
theorem same_bs {l : List Bmp} (hl : l.length ≤ 1000000000000000) {K : Bool → Option Ans} : F_ref09_SameBitmaps fl l l K = K true := by
  unfold F_ref09_SameBitmaps L_ref09_SameBitmaps_0
  rw [cond_f (by simp)]
  refine iter_seq (step := S_ref09_SameBitmaps_0 fl) (fun i : Nat => (l, l, (i : Int))) l.length rfl (fun i hi c => ?_) (fun c => ?_) (by omega)
  · simp only [S_ref09_SameBitmaps_0, F_ref05_Same]
    rw [dec_t (by omega), dec_t (by omega), dec_t (by omega), cond_t (by simp), cond_t (by simp), cond_f (by simp), wrap64 (by omega) (by omega)]
    rfl
  · simp only [S_ref09_SameBitmaps_0]
    rw [dec_f (by omega)]
end
end Go.Proofs.YtmjeeaemmbkioaaGreat.Di

set_option linter.unusedVariables false
set_option linter.unusedSimpArgs false
namespace Go.Proofs.YtmjeeaemmbkioaaGreat.PureSymbolExported
open Go Ev Bm Di
theorem large_ok {fl : Nat} (hfl : 9223372036854775808 ≤ fl) {t ax ay : Int} {ty : Bool} {kd tm kk : Int} {st : List Int} {old : List Bmp} {l : List Sh} {ex : List Bool} (ho : old.length ≤ 1000000000000000) (hl : l.length ≤ 1000000000000000) :
    ∃ b : Bool, ∀ K, F_law09_Large fl t ax ay ty kd tm kk st old l ex K = K b := by
  unfold F_law09_Large
  obtain ⟨s, hs0, hs⟩ : ∃ s : Nat → Int, s 0 = 0 ∧ ∀ i, s (i + 1) = IntKind.i64.wrap (s i + ((old.getD i (0, 0, [])).snd.snd.length : Int)) :=
    ⟨fun i => Nat.rec (motive := fun _ => Int) 0 (fun i a => IntKind.i64.wrap (a + ((old.getD i (0, 0, [])).snd.snd.length : Int))) i, rfl, fun i => rfl⟩
  have h1 : ∀ b, L_law09_Large_0 fl (0, 0, t, ax, ay, ty, kd, tm, kk, st, old, l, ex) b = b (s old.length, t, ax, ay, ty, kd, tm, kk, st, old, l, ex) := fun b => by
    unfold L_law09_Large_0
    refine iter_seq (step := S_law09_Large_0 fl) (fun i : Nat => (s i, (i : Int), t, ax, ay, ty, kd, tm, kk, st, old, l, ex)) old.length (by rw [hs0]; rfl) (fun i hi c => ?_) (fun c => ?_) (by omega)
    · simp only [S_law09_Large_0, Int.toNat_natCast]
      rw [dec_t (by omega), dec_t (by omega), wrap64 (x := (i : Int) + 1) (by omega) (by omega), hs]
      rfl
    · simp only [S_law09_Large_0]
      rw [dec_f (by omega)]
  obtain ⟨u, hu0, hu⟩ : ∃ u : Nat → Int, u 0 = s old.length ∧ ∀ i, u (i + 1) = IntKind.i64.wrap (u i + ((l.getD i ((0, 0, []), 0)).fst.snd.snd.length : Int)) :=
    ⟨fun i => Nat.rec (motive := fun _ => Int) (s old.length) (fun i a => IntKind.i64.wrap (a + ((l.getD i ((0, 0, []), 0)).fst.snd.snd.length : Int))) i, rfl, fun i => rfl⟩
  have h2 : ∀ b, L_law09_Large_2 fl (s old.length, 0, t, ax, ay, ty, kd, tm, kk, st, old, l, ex) b = b (u l.length, t, ax, ay, ty, kd, tm, kk, st, old, l, ex) := fun b => by
    unfold L_law09_Large_2
    refine iter_seq (step := S_law09_Large_2 fl) (fun i : Nat => (u i, (i : Int), t, ax, ay, ty, kd, tm, kk, st, old, l, ex)) l.length (by rw [hu0]; rfl) (fun i hi c => ?_) (fun c => ?_) (by omega)
    · simp only [S_law09_Large_2, Int.toNat_natCast]
      rw [dec_t (by omega), dec_t (by omega), wrap64 (x := (i : Int) + 1) (by omega) (by omega), hu]
      rfl
    · simp only [S_law09_Large_2]
      rw [dec_f (by omega)]
  simp only [h1, h2]
  generalize u l.length = n
  by_cases c1 : n > 900
  · exact ⟨true, fun K => by rw [dec_t c1]⟩
  by_cases c2 : IntKind.i64.wrap ((old.length : Int) + (l.length : Int)) > 70
  · exact ⟨true, fun K => by rw [dec_f c1, dec_t c2]⟩
  by_cases c3 : (ex.length : Int) > 200
  · exact ⟨true, fun K => by rw [dec_f c1, dec_f c2, dec_t c3]⟩
  · exact ⟨decide ((st.length : Int) > 9000), fun K => by rw [dec_f c1, dec_f c2, dec_f c3]⟩
theorem pure_fl {fl : Nat} (hfl : 9223372036854775808 ≤ fl) (t ax ay : Int) (ty : Bool) (kd tm kk : Int) (st : List Int) (old : List Bmp) (l : List Sh) (ex : List Bool) (ho : old.length ≤ 1000000000000000) (hl : l.length ≤ 1000000000000000) (K : Bool → Option Ans) :
    F_law09_SymbolExported fl t ax ay ty kd tm kk st old l ex K = K true := by
  unfold F_law09_SymbolExported
  obtain ⟨b, hb⟩ := large_ok hfl (t := t) (ax := ax) (ay := ay) (ty := ty) (kd := kd) (tm := tm) (kk := kk) (st := st) (ex := ex) ho hl
  rw [hb]
  cases b with
  | true => rw [cond_true, sane]
  | false =>
    rw [cond_false, sexp hfl ho hl]
    try dsimp only
    rw [rexp hfl ho hl]
    try dsimp only
    have hx : (xRes old l ex).2.length ≤ 1000000000000000 := by
      unfold xRes
      split
      · rename_i h
        have := exN_len (old ++ l.map (·.1)) ex ex.length
        have hex : ex.length ≤ 60 := by
          unfold xErr at h
          split at h
          · split at h
            · rename_i h2
              split at h
              · have := (rs_parts h2).2.2
                omega
              · omega
            · rename_i h2
              exact absurd h h2
          · omega
        show (exN (old ++ l.map (·.1)) ex ex.length).length ≤ _
        omega
      · exact Nat.zero_le _
    rw [cond_t (by simp), same_bs hfl hx]
    try dsimp only
    rw [cond_true, sane]
theorem pure (t ax ay : Int) (ty : Bool) (kd tm kk : Int) (st : List Int) (old : List Bmp) (l : List Sh) (ex : List Bool) (K : Bool → Option Ans)
    (g0 : given (.pair (.pair (.pair (.int .i64) (.pair (.pair (.int .i64) (.int .i64)) (.pair .bool (.int .i64)))) (.int .i64)) (.pair (.pair (.int .i64) (.sl (.int .i64))) (.pair (.sl (.pair (.int .i64) (.pair (.int .i64) (.sl (.int .u8))))) (.pair (.sl (.pair (.pair (.int .i64) (.pair (.int .i64) (.sl (.int .u8)))) (.int .i64))) (.sl .bool))))) (((t, ((ax, ay), (ty, kd))), tm), ((kk, st), (old, (l, ex))))) :
    F_law09_SymbolExported fuel t ax ay ty kd tm kk st old l ex K = K true := by
  obtain ⟨_, _, ⟨h1, _⟩, ⟨h2, _⟩, _⟩ := g0
  have h1 : old.length * 40 ≤ 140737488351232 := h1
  have h2 : l.length * 48 ≤ 140737488351232 := h2
  exact pure_fl (by rw [fuel_eq]; omega) t ax ay ty kd tm kk st old l ex (by omega) (by omega) K
end Go.Proofs.YtmjeeaemmbkioaaGreat.PureSymbolExported

