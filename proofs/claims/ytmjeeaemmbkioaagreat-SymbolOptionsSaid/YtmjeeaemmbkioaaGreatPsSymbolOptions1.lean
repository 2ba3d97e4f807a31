/- Laws of the typed texts that SymbolOptions reaches, in plain Lean. No condition but what each theorem names. -/
import Derived.Test.YtmjeeaemmbkioaaGreatEvO
import Derived.Test.YtmjeeaemmbkioaaGreatFsSymbolOptions3
import Derived.Test.YtmjeeaemmbkioaaGreatFsSymbolOptions2
import Derived.Test.YtmjeeaemmbkioaaGreatFsSymbolOptions1
import Derived.Test.YtmjeeaemmbkioaaGreatEvS
set_option linter.unusedVariables false
set_option linter.unusedSimpArgs false
set_option linter.unusedSectionVars false
set_option linter.unusedVariables false
namespace Go.Proofs.YtmjeeaemmbkioaaGreat.Ev
open Go

theorem cond_t {α : Sort _} {b : Bool} {x y : α} (h : b = true) : (bif b then x else y) = x := by rw [h]; rfl
theorem cond_f {α : Sort _} {b : Bool} {x y : α} (h : b = false) : (bif b then x else y) = y := by rw [h]; rfl
theorem dec_t {p : Prop} {i : Decidable p} {α : Sort _} {x y : α} (h : p) : (bif @decide p i then x else y) = x := cond_t (decide_eq_true h)
theorem dec_f {p : Prop} {i : Decidable p} {α : Sort _} {x y : α} (h : ¬p) : (bif @decide p i then x else y) = y := cond_f (decide_eq_false h)
theorem both_same (x : Option Ans) : both x x = x := by
  unfold both
  cases x with
  | none => rfl
  | some u => rfl

/-! ### Numbers -/
theorem wrap64 {x : Int} (h1 : -9223372036854775808 ≤ x) (h2 : x ≤ 9223372036854775807) : IntKind.i64.wrap x = x := by
  simp [IntKind.wrap, IntKind.min, IntKind.max, IntKind.signed, IntKind.bits]
  omega
theorem ishl_one {y : Int} (h0 : 0 ≤ y) (h : y ≤ 62) : ishl .i64 1 y = 2 ^ y.toNat := by
  unfold ishl
  have hb : min y.toNat IntKind.i64.bits = y.toNat := by
    have : IntKind.i64.bits = 64 := rfl
    rw [this]
    omega
  rw [hb, Int.one_mul]
  have h1 : (2 : Int) ^ y.toNat ≤ 2 ^ 62 := by
    have := Nat.pow_le_pow_right (n := 2) (by omega) (show y.toNat ≤ 62 by omega)
    exact_mod_cast this
  have h2 : (0 : Int) < 2 ^ y.toNat := Int.pow_pos (by omega)
  exact wrap64 (by omega) (by omega)
/-! ### Loops whose states are known -/
/-! ### Lists -/
theorem getD_lt {α : Type} {l : List α} {i : Nat} (h : i < l.length) (d : α) : l.getD i d = l[i] := by simp [h]
theorem getD_mem {α : Type} {l : List α} {i : Nat} (h : i < l.length) (d : α) : l.getD i d ∈ l := by rw [getD_lt h]; exact List.getElem_mem h
end Go.Proofs.YtmjeeaemmbkioaaGreat.Ev

set_option linter.unusedVariables false
set_option linter.unusedSimpArgs false
namespace Go.Proofs.YtmjeeaemmbkioaaGreat.Bm
open Go Ev

theorem cd {α : Sort _} {p : Prop} {i : Decidable p} {x y : α} : (bif @decide p i then x else y) = @ite α p i x y := by by_cases h : p <;> simp [h]
theorem cb {α : Sort _} {a b : Int} {x y : α} : (bif a == b then x else y) = if a = b then x else y := by
  by_cases h : a = b
  · simp [h]
  · rw [if_neg h, cond_f (by simpa using h)]
/-- A place in a bitmap. -/
def ins (w h x y : Int) : Prop := 0 ≤ x ∧ 0 ≤ y ∧ x < w ∧ y < h
instance {w h x y : Int} : Decidable (ins w h x y) := by unfold ins; infer_instance
end Go.Proofs.YtmjeeaemmbkioaaGreat.Bm

set_option linter.unusedVariables false
set_option linter.unusedSimpArgs false
namespace Go.Proofs.YtmjeeaemmbkioaaGreat.Di
open Go Ev Bm

abbrev Bmp : Type := Int × Int × List Int
section
variable {fl : Nat} (hfl : 9223372036854775808 ≤ fl)
include hfl
end
end Go.Proofs.YtmjeeaemmbkioaaGreat.Di

set_option linter.unusedVariables false
set_option linter.unusedSimpArgs false
namespace Go.Proofs.YtmjeeaemmbkioaaGreat.Gen
open Go Ev Bm

def vr (t ax ay kd : Int) : Bool := decide (0 ≤ t ∧ t ≤ 3 ∧ (kd = 0 ∨ kd = 1) ∧ -8 ≤ ax ∧ ax ≤ 8 ∧ -8 ≤ ay ∧ ay ≤ 0 ∧ (ay < 0 ∨ ax < 0))
theorem gvalid {fl : Nat} {t ax ay kd : Int} {ty : Bool} {K : Bool → Option Ans} : F_generic_Valid fl t ax ay ty kd K = K (vr t ax ay kd) := by
  unfold F_generic_Valid vr
  simp only [cd, cb]
  repeat' split
  all_goals first
    | exact congrArg K (decide_eq_true (by omega)).symm
    | exact congrArg K (decide_eq_false (by omega)).symm
    | exact congrArg K (decide_eq_decide.2 (by omega))
theorem rvalid {fl : Nat} {t ax ay kd : Int} {ty : Bool} {K : Bool → Option Ans} : F_ref07_Valid fl t ax ay ty kd K = K (vr t ax ay kd) := by
  unfold F_ref07_Valid vr
  simp only [cd, cb]
  repeat' split
  all_goals first
    | exact congrArg K (decide_eq_true (by omega)).symm
    | exact congrArg K (decide_eq_false (by omega)).symm
    | exact congrArg K (decide_eq_decide.2 (by omega))

/-- The offsets of a template. -/
def tpl (t : Int) : List (Int × Int) :=
  if t = 0 then [(-1, -2), (0, -2), (1, -2), (-2, -1), (-1, -1), (0, -1), (1, -1), (2, -1), (-2, 0), (-1, 0)]
  else if t = 1 then [(-1, -2), (0, -2), (-1, -1), (0, -1), (1, -1), (-2, 0), (-1, 0)]
  else if t = 2 then [(-2, -1), (-1, -1), (0, -1), (1, -1), (2, -1), (-2, 0), (-1, 0)]
  else [(-1, -1), (0, -1), (1, -1), (-1, 0)]
theorem gpixels {fl : Nat} {t : Int} {K : List (Int × Int) → Option Ans} : F_generic_pixels fl t K = K (tpl t) := by
  unfold F_generic_pixels tpl
  simp only [cb, apply_ite K]
theorem rtemplate {fl : Nat} {t : Int} {K : List (Int × Int) → Option Ans} : F_ref07_template fl t K = K (tpl t) := by
  unfold F_ref07_template tpl
  simp only [cb, apply_ite K]
theorem tpl_len (t : Int) : (tpl t).length ≤ 10 := by
  unfold tpl
  repeat' split
  all_goals simp
/-- All offsets of a context. -/
def around (t ax ay : Int) : List (Int × Int) := tpl t ++ [(ax, ay)]
theorem around_len (t ax ay : Int) : (around t ax ay).length = (tpl t).length + 1 := by simp [around]
theorem rpixels {fl : Nat} {t ax ay kd : Int} {ty : Bool} {K : List (Int × Int) → Option Ans} : F_ref07_pixels fl t ax ay ty kd K = K (around t ax ay) := by
  have := tpl_len t
  unfold F_ref07_pixels around
  simp only [rtemplate]
  rw [dec_t (by simp; omega)]
  simp only [both_same]

/-- How many contexts a region takes. -/
def size (t : Int) : Int := 2 ^ ((tpl t).length + 1) + 1
theorem size_eq {t : Int} : size t = 2048 + 1 ∨ size t = 256 + 1 ∨ size t = 32 + 1 := by
  unfold size tpl
  repeat' split
  all_goals decide
theorem ishl_two {n : Nat} (h : n ≤ 60) : ishl .i64 2 (n : Int) = 2 ^ (n + 1) := by
  unfold ishl
  have hb : min (n : Int).toNat IntKind.i64.bits = n := by
    have : IntKind.i64.bits = 64 := rfl
    rw [this]
    omega
  rw [hb]
  have e : (2 : Int) * 2 ^ n = 2 ^ (n + 1) := by rw [Int.pow_succ]; omega
  rw [e]
  have h1 : (2 : Int) ^ (n + 1) ≤ 2 ^ 61 := by
    have := Nat.pow_le_pow_right (n := 2) (by omega) (show n + 1 ≤ 61 by omega)
    exact_mod_cast this
  have h2 : (0 : Int) < 2 ^ (n + 1) := Int.pow_pos (by omega)
  exact wrap64 (by omega) (by omega)
/-- What Size returns. -/
def sizeR (t ax ay kd : Int) : Int × Int := if vr t ax ay kd = true then (size t, 0) else (0, 2)
theorem gcontexts {fl : Nat} {t ax ay kd : Int} {ty : Bool} {K : Int → Option Ans} : F_generic_contexts fl t ax ay ty kd K = K (size t - 1) := by
  have := tpl_len t
  unfold F_generic_contexts
  rw [gpixels, ishl_two (by omega)]
  unfold size
  rw [Int.add_sub_cancel]
theorem gsize {fl : Nat} {t ax ay kd : Int} {ty : Bool} {K : Int × Int → Option Ans} : F_generic_Size fl t ax ay ty kd K = K (sizeR t ax ay kd) := by
  unfold F_generic_Size sizeR
  rw [gvalid]
  cases h : vr t ax ay kd with
  | false => rfl
  | true =>
    rw [cond_f (b := !true) rfl, gcontexts, if_pos rfl]
    have := size_eq (t := t)
    rw [wrap64 (by omega) (by omega), Int.sub_add_cancel]
theorem rsize {fl : Nat} {t ax ay kd : Int} {ty : Bool} {K : Int × Int → Option Ans} : F_ref07_Size fl t ax ay ty kd K = K (sizeR t ax ay kd) := by
  unfold F_ref07_Size sizeR
  rw [rvalid]
  cases h : vr t ax ay kd with
  | false => rfl
  | true =>
    have hl := tpl_len t
    have := size_eq (t := t)
    rw [cond_f (b := !true) rfl, rpixels, if_pos rfl, around_len, ishl_one (by omega) (by omega), Int.toNat_natCast]
    unfold size at this ⊢
    rw [wrap64 (by omega) (by omega)]

/-! ### The context of a pixel -/
/-- A bitmap's pixels. -/
structure Pix (w h : Int) (p : List Int) : Prop where
  w0 : 0 ≤ w
  h0 : 0 ≤ h
  w1 : w ≤ 200
  h1 : h ≤ 200
  n : w * h ≤ 8192
  len : (p.length : Int) = w * h
  bit : ∀ v ∈ p, 0 ≤ v ∧ v ≤ 1
end Go.Proofs.YtmjeeaemmbkioaaGreat.Gen

set_option linter.unusedVariables false
set_option linter.unusedSimpArgs false
namespace Go.Proofs.YtmjeeaemmbkioaaGreat.Co
open Go Ev

/-- Where the interval is cut. -/
def mid (lo hi p : Int) : Int := lo + (hi - lo) / 4096 * p + (hi - lo) % 4096 * p / 4096
theorem mid_in {lo hi p : Int} (h : lo < hi) (h1 : 1 ≤ p) (h2 : p ≤ 4095) : lo ≤ mid lo hi p ∧ mid lo hi p < hi := by
  unfold mid
  have hr : 1 ≤ hi - lo := by omega
  have e := Int.emod_add_mul_ediv (hi - lo) 4096
  have b0 : 0 ≤ (hi - lo) % 4096 := Int.emod_nonneg _ (by omega)
  have b1 : (hi - lo) % 4096 < 4096 := Int.emod_lt_of_pos _ (by omega)
  have a0 : 0 ≤ (hi - lo) / 4096 := Int.ediv_nonneg (by omega) (by omega)
  generalize (hi - lo) % 4096 = b at *
  generalize (hi - lo) / 4096 = a at *
  have m1 : 0 ≤ a * p := Int.mul_nonneg a0 (by omega)
  have m2 : a * p ≤ a * 4095 := Int.mul_le_mul_of_nonneg_left h2 a0
  have m3 : 0 ≤ b * p := Int.mul_nonneg b0 (by omega)
  have m4 : b * p ≤ b * 4095 := Int.mul_le_mul_of_nonneg_left h2 b0
  generalize a * p = x at *
  generalize b * p = y at *
  omega
/-- Whether both ends have the same highest byte. -/
def same (lo hi : Int) : Prop := lo / 16777216 = hi / 16777216
instance (lo hi : Int) : Decidable (same lo hi) := by unfold same; infer_instance
def nl (lo : Int) : Int := lo % 16777216 * 256
def nh (hi : Int) : Int := hi % 16777216 * 256 + 255
structure Rg (lo hi : Int) : Prop where
  l : 0 ≤ lo
  m : lo ≤ hi
  h : hi < 4294967296
theorem Rg.next {lo hi : Int} (h : Rg lo hi) (hs : same lo hi) : Rg (nl lo) (nh hi) := by
  obtain ⟨a, b, c⟩ := h
  unfold same at hs
  unfold nl nh
  constructor <;> omega
/-- The interval behind its shifts: how many, and the ends. -/
def nrm : Nat → Int → Int → Nat × Int × Int
  | 0, lo, hi => (0, lo, hi)
  | n + 1, lo, hi => if same lo hi then ((nrm n (nl lo) (nh hi)).1 + 1, (nrm n (nl lo) (nh hi)).2) else (0, lo, hi)
theorem nrm_rg : ∀ (n : Nat) {lo hi : Int}, Rg lo hi → Rg (nrm n lo hi).2.1 (nrm n lo hi).2.2
  | 0, _, _, h => h
  | n + 1, lo, hi, h => by
    unfold nrm
    split
    · rename_i hs
      exact nrm_rg n (h.next hs)
    · exact h
theorem nrm_same {n : Nat} {lo hi : Int} (h : same lo hi) : (nrm (n + 1) lo hi).2 = (nrm n (nl lo) (nh hi)).2 := by
  rw [nrm, if_pos h]
theorem nrm_diff {n : Nat} {lo hi : Int} (h : ¬ same lo hi) : (nrm (n + 1) lo hi).2 = (lo, hi) := by
  rw [nrm, if_neg h]
theorem ends4 {lo hi : Int} (h : Rg lo hi) (h1 : lo = 0) (h2 : hi = 4294967295) {n : Nat} : ¬ same (nrm (n + 1) lo hi).2.1 (nrm (n + 1) lo hi).2.2 := by
  have hs : ¬ same lo hi := by unfold same; omega
  rw [nrm_diff hs]
  exact hs
theorem ends3 {lo hi : Int} (h : Rg lo hi) (h1 : lo % 16777216 = 0) (h2 : hi % 16777216 = 16777215) : ¬ same (nrm 2 lo hi).2.1 (nrm 2 lo hi).2.2 := by
  by_cases hs : same lo hi
  · rw [nrm_same hs]
    exact ends4 (h.next hs) (by unfold nl; omega) (by unfold nh; omega)
  · rw [nrm_diff hs]
    exact hs
theorem ends2 {lo hi : Int} (h : Rg lo hi) (h1 : lo % 65536 = 0) (h2 : hi % 65536 = 65535) : ¬ same (nrm 3 lo hi).2.1 (nrm 3 lo hi).2.2 := by
  by_cases hs : same lo hi
  · rw [nrm_same hs]
    exact ends3 (h.next hs) (by unfold nl; omega) (by unfold nh; omega)
  · rw [nrm_diff hs]
    exact hs
theorem ends1 {lo hi : Int} (h : Rg lo hi) (h1 : lo % 256 = 0) (h2 : hi % 256 = 255) : ¬ same (nrm 4 lo hi).2.1 (nrm 4 lo hi).2.2 := by
  by_cases hs : same lo hi
  · rw [nrm_same hs]
    exact ends2 (h.next hs) (by unfold nl; omega) (by unfold nh; omega)
  · rw [nrm_diff hs]
    exact hs
/-- Four shifts are always enough. -/
theorem nrm_ends {lo hi : Int} (h : Rg lo hi) : ¬ same (nrm 5 lo hi).2.1 (nrm 5 lo hi).2.2 := by
  by_cases hs : same lo hi
  · rw [nrm_same hs]
    exact ends1 (h.next hs) (by unfold nl; omega) (by unfold nh; omega)
  · rw [nrm_diff hs]
    exact hs
theorem lt_of {lo hi : Int} (h : Rg lo hi) (hs : ¬ same lo hi) : lo < hi := by
  obtain ⟨a, b, c⟩ := h
  unfold same at hs
  omega
/-! ### A stream of bytes, and its windows -/
def win (S : Nat → Int) (n : Nat) : Int := S n * 16777216 + S (n + 1) * 65536 + S (n + 2) * 256 + S (n + 3)
end Go.Proofs.YtmjeeaemmbkioaaGreat.Co

set_option linter.unusedVariables false
set_option linter.unusedSimpArgs false
namespace Go.Proofs.YtmjeeaemmbkioaaGreat.Co
open Go Ev

def q : Nat → Int
  | 0 => 2048
  | k + 1 => q k - q k / 8
theorem q_rg : ∀ k : Fin 32, 1 ≤ q k.val ∧ q k.val ≤ 2048 := by decide
/-- How likely a 1 is. -/
def pr (kd s : Int) : Int :=
  if kd = 1 then min (max ((2 * (s % 256) + 1) * 4096 / (2 * (s / 256) + 2 * (s % 256) + 2)) 1) 4095
  else if 32 ≤ s then 4096 - q (s - 32).toNat else q s.toNat
def most (kd : Int) : Int := if kd = 1 then 65536 else 64
def vst (kd s : Int) : Prop := 0 ≤ s ∧ s < most kd
theorem pr_rg {kd s : Int} (hk : kd = 0 ∨ kd = 1) (h : vst kd s) : 1 ≤ pr kd s ∧ pr kd s ≤ 4095 := by
  unfold vst most at h
  unfold pr
  by_cases h1 : kd = 1
  · rw [if_pos h1]
    omega
  · rw [if_neg h1] at h ⊢
    split
    · have := q_rg ⟨(s - 32).toNat, by omega⟩
      simp only at this
      omega
    · have := q_rg ⟨s.toNat, by omega⟩
      simp only at this
      omega
/-- The state behind a bit. -/
def nx (kd s bit : Int) : Int :=
  if kd = 1 then
    (if bit = 0 then (if s / 256 = 255 then 256 * 128 + s % 256 / 2 else 256 * (s / 256 + 1) + s % 256)
     else (if s % 256 = 255 then 256 * (s / 256 / 2) + 128 else 256 * (s / 256) + (s % 256 + 1)))
  else if bit = s / 32 then 32 * (s / 32) + min (s % 32 + 1) 31
  else if s % 32 = 0 then 32 * bit
  else 32 * (s / 32) + (s % 32 - (1 + s % 32 / 4))
theorem nx_rg {kd s bit : Int} (hk : kd = 0 ∨ kd = 1) (h : vst kd s) (hb : bit = 0 ∨ bit = 1) : vst kd (nx kd s bit) := by
  unfold vst most at *
  unfold nx
  by_cases h1 : kd = 1
  · rw [if_pos h1] at h ⊢
    rw [if_pos h1]
    split <;> split <;> omega
  · rw [if_neg h1] at h ⊢
    rw [if_neg h1]
    split
    · omega
    · split <;> omega

/-- An interval and its model's states. -/
structure Iv where
  st : List Int
  lo : Int
  hi : Int
structure Iv.Ok (kd : Int) (x : Iv) : Prop where
  k : kd = 0 ∨ kd = 1
  r : Rg x.lo x.hi
  d : ¬ same x.lo x.hi
  s : ∀ s ∈ x.st, vst kd s
def Iv.mid (kd : Int) (x : Iv) (c : Int) : Int := Co.mid x.lo x.hi (pr kd (x.st.getD c.toNat 0))
def Iv.clo (kd : Int) (x : Iv) (c b : Int) : Int := if b = 1 then x.lo else x.mid kd c + 1
def Iv.chi (kd : Int) (x : Iv) (c b : Int) : Int := if b = 1 then x.mid kd c else x.hi
def Iv.many (kd : Int) (x : Iv) (c b : Int) : Nat := (nrm 5 (x.clo kd c b) (x.chi kd c b)).1
def Iv.next (kd : Int) (x : Iv) (c b : Int) : Iv :=
  ⟨x.st.set c.toNat (nx kd (x.st.getD c.toNat 0) b), (nrm 5 (x.clo kd c b) (x.chi kd c b)).2.1, (nrm 5 (x.clo kd c b) (x.chi kd c b)).2.2⟩
theorem Iv.Ok.get {kd : Int} {x : Iv} (h : x.Ok kd) {c : Int} (h0 : 0 ≤ c) (h1 : c < x.st.length) : vst kd (x.st.getD c.toNat 0) := h.s _ (getD_mem (by omega) 0)
theorem Iv.Ok.mid_in {kd : Int} {x : Iv} (h : x.Ok kd) {c : Int} (h0 : 0 ≤ c) (h1 : c < x.st.length) : x.lo ≤ x.mid kd c ∧ x.mid kd c < x.hi := by
  obtain ⟨a, b⟩ := pr_rg h.k (h.get h0 h1)
  exact Co.mid_in (lt_of h.r h.d) a b
theorem Iv.Ok.cut {kd : Int} {x : Iv} (h : x.Ok kd) {c b : Int} (h0 : 0 ≤ c) (h1 : c < x.st.length) : Rg (x.clo kd c b) (x.chi kd c b) := by
  have hm := h.mid_in h0 h1
  obtain ⟨a, b, c⟩ := h.r
  unfold Iv.clo Iv.chi
  split <;> constructor <;> omega
theorem Iv.Ok.next {kd : Int} {x : Iv} (h : x.Ok kd) {c b : Int} (h0 : 0 ≤ c) (h1 : c < x.st.length) (hb : b = 0 ∨ b = 1) : (x.next kd c b).Ok kd := by
  refine ⟨h.k, nrm_rg 5 (h.cut h0 h1), nrm_ends (h.cut h0 h1), fun s hs => ?_⟩
  rcases List.mem_or_eq_of_mem_set hs with hs | rfl
  · exact h.s s hs
  · exact nx_rg h.k (h.get h0 h1) hb

def Evs (n : Nat) (l : List (Int × Int)) : Prop := ∀ e ∈ l, 0 ≤ e.1 ∧ e.1 < (n : Int) ∧ (e.2 = 0 ∨ e.2 = 1)
/-- The bit that is read. -/
def bitOf (kd : Int) (S : Nat → Int) (x : Iv) (n : Nat) (c : Int) : Int := if win S n ≤ x.mid kd c then 1 else 0
/-! ### The end of a code -/
def strm (code : List Int) (n : Nat) : Int := code.getD n 0
/-! ### What is got from any bytes -/
def get (kd : Int) (code : List Int) (x : Iv) (k : Nat) (c : Int) : Option (Int × Iv × Nat) :=
  if code.length < k + x.many kd c (bitOf kd (strm code) x k c) then none
  else some (bitOf kd (strm code) x k c, x.next kd c (bitOf kd (strm code) x k c), k + x.many kd c (bitOf kd (strm code) x k c))
end Go.Proofs.YtmjeeaemmbkioaaGreat.Co

set_option linter.unusedVariables false
set_option linter.unusedSimpArgs false
namespace Go.Proofs.YtmjeeaemmbkioaaGreat.Co
open Go Ev

/-! ### Chances -/
theorem tdiv_e {x k : Int} (h : 0 ≤ x) : x.tdiv k = x / k := Int.tdiv_eq_ediv_of_nonneg h
theorem tmod_e {x k : Int} (h : 0 ≤ x) : x.tmod k = x % k := Int.tmod_eq_emod_of_nonneg h
theorem next {fl : Nat} {kd s b : Int} (hk : kd = 0 ∨ kd = 1) (h : vst kd s) (hb : b = 0 ∨ b = 1) {K : Int → Option Ans} : F_coder_next fl kd s b K = K (nx kd s b) := by
  obtain ⟨h0, h1⟩ := h
  unfold F_coder_next nx
  rw [tdiv_e h0, tdiv_e h0, tmod_e h0, tmod_e h0]
  rcases hk with rfl | rfl
  · have h1 : s < 64 := h1
    rw [cond_f (b := (0 : Int) == 1) rfl, if_neg (by decide)]
    have a0 : 0 ≤ s / 32 := by omega
    have a1 : s / 32 ≤ 1 := by omega
    have b0 : 0 ≤ s % 32 := by omega
    have b1 : s % 32 ≤ 31 := by omega
    generalize s / 32 = m at *
    generalize s % 32 = k at *
    have t4 : k.tdiv 4 = k / 4 := tdiv_e b0
    rw [wrap64 (x := m) (by omega) (by omega), t4, wrap64 (x := k + 1) (by omega) (by omega), wrap64 (x := 32 * m) (by omega) (by omega)]
    rw [Bm.cb, Bm.cb]
    by_cases c1 : b = m
    · rw [if_pos c1, if_pos c1]
      by_cases c2 : 31 < k + 1
      · rw [dec_t c2, wrap64 (by omega) (by omega), Int.min_eq_right (by omega)]
      · rw [dec_f c2, wrap64 (by omega) (by omega), Int.min_eq_left (by omega)]
    · rw [if_neg c1, if_neg c1]
      by_cases c2 : k = 0
      · rw [if_pos c2, if_pos c2, wrap64 (x := 32 * b) (by omega) (by omega), wrap64 (by omega) (by omega), c2, Int.add_zero]
      · rw [if_neg c2, if_neg c2, wrap64 (x := k / 4) (by omega) (by omega), wrap64 (x := 1 + k / 4) (by omega) (by omega), wrap64 (x := k - (1 + k / 4)) (by omega) (by omega), wrap64 (by omega) (by omega)]
  · have h1 : s < 65536 := h1
    rw [cond_t (b := (1 : Int) == 1) rfl, if_pos rfl]
    have a0 : 0 ≤ s / 256 := by omega
    have a1 : s / 256 ≤ 255 := by omega
    have b0 : 0 ≤ s % 256 := by omega
    have b1 : s % 256 ≤ 255 := by omega
    generalize s / 256 = m at *
    generalize s % 256 = k at *
    have t2 : k.tdiv 2 = k / 2 := tdiv_e b0
    have t3 : m.tdiv 2 = m / 2 := tdiv_e a0
    have w1 : IntKind.i64.wrap m = m := wrap64 (by omega) (by omega)
    have w2 : IntKind.i64.wrap (m / 2) = m / 2 := wrap64 (by omega) (by omega)
    have w3 : IntKind.i64.wrap (k / 2) = k / 2 := wrap64 (by omega) (by omega)
    rw [w1, t2, t3, w2, w3]
    rcases hb with rfl | rfl
    · rw [dec_t (p := (0 : Int) ≤ 0 ∧ (0 : Int) < ((2 : Nat) : Int)) (by decide), dec_t (p := (0 : Int) = ((0 : Nat) : Int)) rfl, if_pos rfl, Bm.cb]
      by_cases c1 : m = 255
      · rw [if_pos c1, if_pos c1]
        simp (disch := decide) only [dec_t]
        rw [wrap64 (x := m / 2 + 1) (by omega) (by omega), wrap64 (x := 256 * (m / 2 + 1)) (by omega) (by omega), wrap64 (by omega) (by omega)]
        congr 1
        omega
      · rw [if_neg c1, if_neg c1]
        simp (disch := decide) only [dec_t]
        rw [wrap64 (x := m + 1) (by omega) (by omega), wrap64 (x := 256 * (m + 1)) (by omega) (by omega), wrap64 (by omega) (by omega)]
    · rw [dec_t (p := (0 : Int) ≤ 1 ∧ (1 : Int) < ((2 : Nat) : Int)) (by decide), dec_f (p := (1 : Int) = ((0 : Nat) : Int)) (by decide), dec_t (p := (1 : Int) = ((1 : Nat) : Int)) rfl, if_neg (by decide), Bm.cb]
      by_cases c1 : k = 255
      · rw [if_pos c1, if_pos c1]
        simp (disch := decide) only [dec_t, dec_f]
        rw [wrap64 (x := k / 2 + 1) (by omega) (by omega), wrap64 (x := 256 * (m / 2)) (by omega) (by omega), wrap64 (by omega) (by omega)]
        congr 1
        omega
      · rw [if_neg c1, if_neg c1]
        simp (disch := decide) only [dec_t, dec_f]
        rw [wrap64 (x := k + 1) (by omega) (by omega), wrap64 (x := 256 * m) (by omega) (by omega), wrap64 (by omega) (by omega)]
end Go.Proofs.YtmjeeaemmbkioaaGreat.Co

set_option linter.unusedVariables false
set_option linter.unusedSimpArgs false
namespace Go.Proofs.YtmjeeaemmbkioaaGreat.Co
open Go Ev

/-! ### A new encoder -/
end Go.Proofs.YtmjeeaemmbkioaaGreat.Co

set_option linter.unusedVariables false
set_option linter.unusedSimpArgs false
namespace Go.Proofs.YtmjeeaemmbkioaaGreat.Co
open Go Ev

/-! ### Models -/
end Go.Proofs.YtmjeeaemmbkioaaGreat.Co

set_option linter.unusedVariables false
set_option linter.unusedSimpArgs false
namespace Go.Proofs.YtmjeeaemmbkioaaGreat.Co
open Go Ev

/-! ### A new decoder -/
/-! ### The reference's decoder -/
end Go.Proofs.YtmjeeaemmbkioaaGreat.Co

set_option linter.unusedVariables false
set_option linter.unusedSimpArgs false
namespace Go.Proofs.YtmjeeaemmbkioaaGreat.Co
open Go Ev

/-! ### The reference's encoder -/
end Go.Proofs.YtmjeeaemmbkioaaGreat.Co

set_option linter.unusedVariables false
set_option linter.unusedSimpArgs false
namespace Go.Proofs.YtmjeeaemmbkioaaGreat.Dc
open Go Ev Bm Co

inductive Dec (α : Type) where
  | ret (a : α)
  | bad (e : Int)
  | get (c : Int) (k : Int → Dec α)
/-- A decoder's state: whether all went well, its interval, how many bytes were taken. -/
structure S where
  ok : Bool
  x : Iv
  k : Nat
/-- All contexts are such of a model of n, and what it comes to is such a one. -/
def Dec.All {α : Type} (n : Nat) (P : α → Prop) : Dec α → Prop
  | .ret a => P a
  | .bad e => e = 3
  | .get c k => (0 ≤ c ∧ c < (n : Int)) ∧ ∀ b, b = 0 ∨ b = 1 → (k b).All n P
theorem Dec.All.mono {α : Type} {n : Nat} {P Q : α → Prop} (h : ∀ a, P a → Q a) : ∀ (d : Dec α), d.All n P → d.All n Q
  | .ret a, hd => h a hd
  | .bad _, hd => hd
  | .get c k, hd => ⟨hd.1, fun b hb => Dec.All.mono h (k b) (hd.2 b hb)⟩
/-- What holds of a decoder that has gone well so far. -/
structure St (kx : Int) (code : List Int) (n : Nat) (s : S) : Prop where
  ok : s.ok = true
  x : s.x.Ok kx
  sl : s.x.st.length = n
  k : s.k ≤ code.length
end Go.Proofs.YtmjeeaemmbkioaaGreat.Dc

set_option linter.unusedVariables false
set_option linter.unusedSimpArgs false
namespace Go.Proofs.YtmjeeaemmbkioaaGreat.Dc
open Go Ev Bm Co

/-! ### Ids -/
end Go.Proofs.YtmjeeaemmbkioaaGreat.Dc

set_option linter.unusedVariables false
set_option linter.unusedSimpArgs false
namespace Go.Proofs.YtmjeeaemmbkioaaGreat.Dc
open Go Ev Bm Co

section
variable {fl : Nat} (hfl : 9223372036854775808 ≤ fl)
include hfl
end
theorem Evs.nil (n : Nat) : Evs n [] := fun e he => by cases he
section
variable {fl : Nat} (hfl : 9223372036854775808 ≤ fl)
include hfl
end
end Go.Proofs.YtmjeeaemmbkioaaGreat.Dc

set_option linter.unusedVariables false
set_option linter.unusedSimpArgs false
namespace Go.Proofs.YtmjeeaemmbkioaaGreat.Gen
open Go Ev Bm Co

/-- What is skipped has the region's sides, or none. -/
def Sk (w h : Int) (sp : List Int) : Prop := sp = [] ∨ (sp.length : Int) = w * h
/-! ### The events -/
section
variable (t ax ay base w h : Int) (ty : Bool) (p sp : List Int)
end
structure Reg (t ax ay kd base w h : Int) (p sp : List Int) (n : Nat) : Prop where
  v : vr t ax ay kd = true
  p : Pix w h p
  s : Sk w h sp
  b0 : 0 ≤ base
  b1 : base + size t ≤ (n : Int)
/-! ### The program puts them -/
end Go.Proofs.YtmjeeaemmbkioaaGreat.Gen

set_option linter.unusedVariables false
set_option linter.unusedSimpArgs false
namespace Go.Proofs.YtmjeeaemmbkioaaGreat.Rf
open Go Ev Bm Co Gen Dc

def csz (t : Int) : Int := if t = 0 then 512 else 128
theorem csz_eq (t : Int) : csz t = 512 ∨ csz t = 128 := by unfold csz; split <;> omega
structure RR (t dx dy kd w h : Int) (p : List Int) (rw rh : Int) (rp : List Int) : Prop where
  t : t = 0 ∨ t = 1
  k : kd = 0 ∨ kd = 1
  x : -200 ≤ dx ∧ dx ≤ 200
  y : -200 ≤ dy ∧ dy ≤ 200
  p : Pix w h p
  r : Pix rw rh rp
section
variable {fl : Nat} (hfl : 9223372036854775808 ≤ fl) {t dx dy kd w h : Int} {p : List Int} {rw rh : Int} {rp : List Int} {ty : Bool}
include hfl
end
section
variable (t dx dy base w h : Int) (p : List Int) (rw rh : Int) (rp : List Int)
end
section
variable {t dx dy base w h kd : Int} {p : List Int} {rw rh : Int} {rp : List Int} {n : Nat}
end
section
variable {fl : Nat} (hfl : 9223372036854775808 ≤ fl) {t dx dy base w h kd : Int} {p : List Int} {rw rh : Int} {rp : List Int}
include hfl
end
end Go.Proofs.YtmjeeaemmbkioaaGreat.Rf

set_option linter.unusedVariables false
set_option linter.unusedSimpArgs false
namespace Go.Proofs.YtmjeeaemmbkioaaGreat.Di
open Go Ev Bm Gen Rf

/-- Whether options are right. -/
def dv (t ax ay : Int) (ty : Bool) (kd tm : Int) : Bool := vr t ax ay kd && !ty && decide (tm = 0 ∨ tm = 1)
theorem dv_iff {t ax ay kd tm : Int} {ty : Bool} : dv t ax ay ty kd tm = true ↔ vr t ax ay kd = true ∧ ty = false ∧ (tm = 0 ∨ tm = 1) := by simp [dv, and_assoc]
theorem svalid {fl : Nat} {t ax ay kd tm : Int} {ty : Bool} {K : Bool → Option Ans} : F_symbol_Valid fl t ax ay ty kd tm K = K (dv t ax ay ty kd tm) := by
  unfold F_symbol_Valid dv
  rw [gvalid]
  cases vr t ax ay kd with
  | false => rfl
  | true =>
    cases ty with
    | true => rfl
    | false =>
      rw [cond_true, cond_t (b := !false) rfl, cb]
      split
      · rename_i h
        rw [decide_eq_true (.inl h)]
        rfl
      · rename_i h
        congr 1
        have : (tm == 1) = decide (tm = 1) := rfl
        rw [this, show (true && !false && decide (tm = 0 ∨ tm = 1)) = decide (tm = 0 ∨ tm = 1) from rfl, decide_eq_decide]
        omega
theorem rsvalid {fl : Nat} {t ax ay kd tm : Int} {ty : Bool} {K : Bool → Option Ans} : F_ref09_Valid fl t ax ay ty kd tm K = K (dv t ax ay ty kd tm) := by
  unfold F_ref09_Valid dv
  rw [rvalid]
  cases vr t ax ay kd with
  | false => rfl
  | true =>
    cases ty with
    | true => rfl
    | false =>
      rw [cond_true, cond_t (b := !false) rfl, cb]
      split
      · rename_i h
        rw [decide_eq_true (.inl h)]
        rfl
      · rename_i h
        congr 1
        have : (tm == 1) = decide (tm = 1) := rfl
        rw [this, show (true && !false && decide (tm = 0 ∨ tm = 1)) = decide (tm = 0 ∨ tm = 1) from rfl, decide_eq_decide]
        omega
/-- The least k with so many values. -/
def wd (n : Nat) : Nat := bif Nat.ble n 1 then 0 else bif Nat.ble n 2 then 1 else bif Nat.ble n 4 then 2 else bif Nat.ble n 8 then 3 else bif Nat.ble n 16 then 4 else bif Nat.ble n 32 then 5 else 6
theorem width_at (fl : Nat) (K : Int → Option Ans) : ∀ n : Nat, n ≤ 64 → F_number_Width fl (n : Int) K = K ((wd n : Nat) : Int)
  | 0, _ | 1, _ | 2, _ | 3, _ | 4, _ | 5, _ | 6, _ | 7, _ | 8, _ | 9, _ | 10, _ | 11, _ | 12, _ | 13, _ | 14, _ | 15, _ | 16, _ | 17, _ | 18, _ | 19, _ | 20, _ | 21, _ | 22, _ | 23, _ | 24, _ | 25, _ | 26, _ | 27, _ | 28, _ | 29, _ | 30, _ | 31, _ | 32, _ | 33, _ | 34, _ | 35, _ | 36, _ | 37, _ | 38, _ | 39, _ | 40, _ | 41, _ | 42, _ | 43, _ | 44, _ | 45, _ | 46, _ | 47, _ | 48, _ | 49, _ | 50, _ | 51, _ | 52, _ | 53, _ | 54, _ | 55, _ | 56, _ | 57, _ | 58, _ | 59, _ | 60, _ | 61, _ | 62, _ | 63, _ | 64, _ => by kernel_rfl
  | n + 65, h => by omega
theorem wd_ok : ∀ n : Fin 65, n.val ≤ 2 ^ wd n.val ∧ wd n.val ≤ 6 ∧ (wd n.val = 0 → n.val ≤ 1) := by decide +kernel
/-- Where the contexts of pixels begin, those of refinements, and how many there are in all. -/
def dir (n : Nat) : Int := ((240 + 2 ^ wd n : Nat) : Int)
def lik (t : Int) (n : Nat) : Int := dir n + size t
def tot (t tm : Int) (n : Nat) : Int := lik t n + (csz tm + 1)
theorem wd_rg {n : Nat} (h : n ≤ 60) : n ≤ 2 ^ wd n ∧ wd n ≤ 6 ∧ 1 ≤ 2 ^ wd n ∧ 2 ^ wd n ≤ 64 := by
  have a := wd_ok ⟨n, by omega⟩
  have b : 2 ^ wd n ≤ 2 ^ 6 := Nat.pow_le_pow_right (by omega) a.2.1
  exact ⟨a.1, a.2.1, Nat.pow_pos (by omega), b⟩
theorem lay_rg (t tm : Int) {n : Nat} (h : n ≤ 60) : 241 ≤ dir n ∧ dir n ≤ 304 ∧ dir n + 33 ≤ lik t n ∧ lik t n ≤ 2353 ∧ lik t n + 129 ≤ tot t tm n ∧ tot t tm n ≤ 2866 ∧ tot t tm n = dir n + size t + csz tm + 1 := by
  obtain ⟨_, _, c, d⟩ := wd_rg h
  have hs := size_eq (t := t)
  have hc := csz_eq tm
  unfold tot lik dir
  refine ⟨?_, ?_, ?_, ?_, ?_, ?_, ?_⟩ <;> omega
theorem rsz {fl : Nat} {tm : Int} (h7 : tm = 0 ∨ tm = 1) (K : Int × Int → Option Ans) : F_refine_Size fl tm K = K (csz tm + 1, 0) := by
  rcases h7 with rfl | rfl <;> rfl
theorem lay_ok {fl : Nat} {t ax ay kd tm : Int} {ty : Bool} {n : Nat} (hn : n ≤ 60) (hv : dv t ax ay ty kd tm = true) {K : Int × Int × Int × Bool × Int × Int × Int × Int × Int × Int → Option Ans} :
    F_symbol_lay fl t ax ay ty kd tm (n : Int) K = K (t, ax, ay, ty, kd, tm, (wd n : Int), dir n, lik t n, tot t tm n) := by
  obtain ⟨v1, v2, v3⟩ := dv_iff.1 hv
  obtain ⟨a, b, c, d⟩ := wd_rg hn
  obtain ⟨e1, e2, e3, e4, e5, e6, e7⟩ := lay_rg t tm hn
  have e2' : (2 : Int) ^ wd n = ((2 ^ wd n : Nat) : Int) := by rw [Int.natCast_pow]; rfl
  have es : ishl .i64 1 (wd n : Int) = ((2 ^ wd n : Nat) : Int) := by rw [ishl_one (by omega) (by omega), Int.toNat_natCast, e2']
  have hw : ∀ K : Int → Option Ans, F_number_Width fl (n : Int) K = K ((wd n : Nat) : Int) := fun K => width_at fl K _ (by omega)
  have hg : ∀ K : Int × Int → Option Ans, F_generic_Size fl t ax ay ty kd K = K (size t, 0) := fun K => by rw [gsize, sizeR, if_pos v1]
  have hd : IntKind.i64.wrap (IntKind.i64.wrap (241 + ((2 ^ wd n : Nat) : Int)) - 1) = dir n := by
    unfold dir
    rw [wrap64 (x := 241 + _) (by omega) (by omega), wrap64 (by omega) (by omega)]
    omega
  have hl : IntKind.i64.wrap (dir n + size t) = lik t n := wrap64 (by unfold lik at *; omega) (by unfold lik at *; omega)
  have ht : IntKind.i64.wrap (lik t n + (csz tm + 1)) = tot t tm n := wrap64 (by unfold tot at *; omega) (by unfold tot at *; omega)
  unfold F_symbol_lay
  simp only [hw, hg, rsz v3, es, hd, hl, ht, both_same]
  rw [dec_f (by omega)]
/-- How many contexts are kept. -/
def nk (t tm : Int) : Int := size t + csz tm + 1
def keptR (t ax ay : Int) (ty : Bool) (kd tm : Int) : Int × Int := if dv t ax ay ty kd tm = true then (nk t tm, 0) else (0, 2)
theorem kept_ok {fl : Nat} {t ax ay kd tm : Int} {ty : Bool} {K : Int × Int → Option Ans} : F_symbol_Kept fl t ax ay ty kd tm K = K (keptR t ax ay ty kd tm) := by
  unfold F_symbol_Kept keptR
  rw [svalid]
  cases h : dv t ax ay ty kd tm with
  | false => rfl
  | true =>
    rw [cond_f (b := !true) rfl, if_pos rfl]
    have key : ∀ K, F_symbol_lay fl t ax ay ty kd tm 0 K = K (t, ax, ay, ty, kd, tm, (wd 0 : Int), dir 0, lik t 0, tot t tm 0) := fun K => lay_ok (fl := fl) (n := 0) (by omega) h
    rw [key]
    try dsimp only
    obtain ⟨e1, e2, e3, e4, e5, e6, e7⟩ := lay_rg t tm (n := 0) (by omega)
    rw [wrap64 (x := tot t tm 0 - dir 0) (by omega) (by omega), show tot t tm 0 - dir 0 = nk t tm by unfold nk; omega]
theorem rkept_ok {fl : Nat} {t ax ay kd tm : Int} {ty : Bool} {K : Int × Int → Option Ans} : F_ref09_Kept fl t ax ay ty kd tm K = K (keptR t ax ay ty kd tm) := by
  unfold F_ref09_Kept F_ref09_sizes keptR
  rw [rsvalid]
  cases h : dv t ax ay ty kd tm with
  | false => rfl
  | true =>
    obtain ⟨v1, v2, v3⟩ := dv_iff.1 h
    have hs := size_eq (t := t)
    have hc := csz_eq tm
    have hr : ∀ K : Int × Int → Option Ans, F_ref08_Size fl tm K = K (csz tm + 1, 0) := fun K => by rcases v3 with rfl | rfl <;> rfl
    rw [cond_f (b := !true) rfl, if_pos rfl, rsize, sizeR, if_pos v1]
    try dsimp only
    rw [hr]
    try dsimp only
    rw [wrap64 (by omega) (by omega), show size t + (csz tm + 1) = nk t tm by unfold nk; omega]
end Go.Proofs.YtmjeeaemmbkioaaGreat.Di

set_option linter.unusedVariables false
set_option linter.unusedSimpArgs false
set_option maxHeartbeats 1000000
namespace Go.Proofs.YtmjeeaemmbkioaaGreat.Di
open Go Ev Bm Gen

abbrev Sh : Type := Bmp × Int
def dS : Sh := ((0, 0, []), 0)
/-- Whether a shape may stand at its place. -/
def okAt (old : Nat) (l : List Sh) (i : Nat) : Prop := -1 ≤ (l.getD i dS).2 ∧ (l.getD i dS).2 < (old : Int) + (i : Int) ∧ (i = 0 ∨ (l.getD (i - 1) dS).1.2.1 ≤ (l.getD i dS).1.2.1)
instance (old : Nat) (l : List Sh) (i : Nat) : Decidable (okAt old l i) := by unfold okAt; infer_instance
theorem sane {fl : Nat} {K : Bool → Option Ans} : F_law09_Sane fl K = K true := rfl
section
variable {fl : Nat} (hfl : 9223372036854775808 ≤ fl)
include hfl
end
end Go.Proofs.YtmjeeaemmbkioaaGreat.Di

set_option linter.unusedVariables false
set_option linter.unusedSimpArgs false
namespace Go.Proofs.YtmjeeaemmbkioaaGreat.PureSymbolOptions
open Go Ev Bm Di
theorem pure (t ax ay : Int) (ty : Bool) (kd tm : Int) (K : Bool → Option Ans) (g0 : given (.pair (.pair (.int .i64) (.pair (.pair (.int .i64) (.int .i64)) (.pair .bool (.int .i64)))) (.int .i64)) ((t, ((ax, ay), (ty, kd))), tm)) : F_law09_SymbolOptions fuel t ax ay ty kd tm K = K true := by
  unfold F_law09_SymbolOptions
  rw [kept_ok]
  try dsimp only
  rw [rkept_ok]
  try dsimp only
  rw [svalid]
  try dsimp only
  rw [rsvalid]
  try dsimp only
  rw [cond_t (by simp), cond_t (by simp), cond_t (by simp), sane]
end Go.Proofs.YtmjeeaemmbkioaaGreat.PureSymbolOptions

