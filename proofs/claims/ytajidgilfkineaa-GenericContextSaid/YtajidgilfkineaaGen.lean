/- Generic regions: options, contexts. -/
import Derived.Test.YtajidgilfkineaaBm
import Derived.Test.YtajidgilfkineaaFgenericSize
import Derived.Test.YtajidgilfkineaaFref07Size
import Derived.Test.YtajidgilfkineaaFgenericContext
import Derived.Test.YtajidgilfkineaaFref07Context
import Derived.Test.YtajidgilfkineaaFlaw07Sane
set_option linter.unusedVariables false
set_option linter.unusedSimpArgs false
namespace Go.Proofs.Ytajidgilfkineaa.Gen
open Go Ev Bm

def vr (t ax ay kd : Int) : Bool := decide (0 ≤ t ∧ t ≤ 3 ∧ (kd = 0 ∨ kd = 1) ∧ -8 ≤ ax ∧ ax ≤ 8 ∧ -8 ≤ ay ∧ ay ≤ 0 ∧ (ay < 0 ∨ ax < 0))
theorem vr_iff {t ax ay kd : Int} : vr t ax ay kd = true ↔ 0 ≤ t ∧ t ≤ 3 ∧ (kd = 0 ∨ kd = 1) ∧ -8 ≤ ax ∧ ax ≤ 8 ∧ -8 ≤ ay ∧ ay ≤ 0 ∧ (ay < 0 ∨ ax < 0) := by simp [vr]
theorem gvalid {fl : Nat} {t ax ay kd : Int} {ty : Bool} {K : Bool → Option Ans} : F_generic_Valid fl t ax ay ty kd K = K (vr t ax ay kd) := by
  unfold F_generic_Valid vr
  simp only [cd, cb]
  repeat' split
  all_goals first
    | exact congrArg K (decide_eq_true (by omega)).symm
    | exact congrArg K (decide_eq_false (by omega)).symm
    | exact congrArg K (decide_eq_decide.2 (by omega))
theorem rvalid {fl : Nat} {t ax ay kd : Int} {ty : Bool} {K : Bool → Option Ans} : F_ref07_Valid fl t ax ay ty kd K = K (vr t ax ay kd) := by
  unfold F_ref07_Valid vr
  simp only [cd, cb]
  repeat' split
  all_goals first
    | exact congrArg K (decide_eq_true (by omega)).symm
    | exact congrArg K (decide_eq_false (by omega)).symm
    | exact congrArg K (decide_eq_decide.2 (by omega))

/-- The offsets of a template. -/
def tpl (t : Int) : List (Int × Int) :=
  if t = 0 then [(-1, -2), (0, -2), (1, -2), (-2, -1), (-1, -1), (0, -1), (1, -1), (2, -1), (-2, 0), (-1, 0)]
  else if t = 1 then [(-1, -2), (0, -2), (-1, -1), (0, -1), (1, -1), (-2, 0), (-1, 0)]
  else if t = 2 then [(-2, -1), (-1, -1), (0, -1), (1, -1), (2, -1), (-2, 0), (-1, 0)]
  else [(-1, -1), (0, -1), (1, -1), (-1, 0)]
theorem gpixels {fl : Nat} {t : Int} {K : List (Int × Int) → Option Ans} : F_generic_pixels fl t K = K (tpl t) := by
  unfold F_generic_pixels tpl
  simp only [cb, apply_ite K]
theorem rtemplate {fl : Nat} {t : Int} {K : List (Int × Int) → Option Ans} : F_ref07_template fl t K = K (tpl t) := by
  unfold F_ref07_template tpl
  simp only [cb, apply_ite K]
theorem tpl_len (t : Int) : (tpl t).length ≤ 10 := by
  unfold tpl
  repeat' split
  all_goals simp
theorem tpl_near (t : Int) : ∀ d ∈ tpl t, -8 ≤ d.1 ∧ d.1 ≤ 8 ∧ -8 ≤ d.2 ∧ d.2 ≤ 0 := by
  unfold tpl
  repeat' split
  all_goals decide

/-- All offsets of a context. -/
def around (t ax ay : Int) : List (Int × Int) := tpl t ++ [(ax, ay)]
theorem around_len (t ax ay : Int) : (around t ax ay).length = (tpl t).length + 1 := by simp [around]
theorem rpixels {fl : Nat} {t ax ay kd : Int} {ty : Bool} {K : List (Int × Int) → Option Ans} : F_ref07_pixels fl t ax ay ty kd K = K (around t ax ay) := by
  have := tpl_len t
  unfold F_ref07_pixels around
  simp only [rtemplate]
  rw [dec_t (by simp; omega)]
  simp only [both_same]

/-- How many contexts a region takes. -/
def size (t : Int) : Int := 2 ^ ((tpl t).length + 1) + 1
theorem size_eq {t : Int} : size t = 2048 + 1 ∨ size t = 256 + 1 ∨ size t = 32 + 1 := by
  unfold size tpl
  repeat' split
  all_goals decide
theorem ishl_two {n : Nat} (h : n ≤ 60) : ishl .i64 2 (n : Int) = 2 ^ (n + 1) := by
  unfold ishl
  have hb : min (n : Int).toNat IntKind.i64.bits = n := by
    have : IntKind.i64.bits = 64 := rfl
    rw [this]
    omega
  rw [hb]
  have e : (2 : Int) * 2 ^ n = 2 ^ (n + 1) := by rw [Int.pow_succ]; omega
  rw [e]
  have h1 : (2 : Int) ^ (n + 1) ≤ 2 ^ 61 := by
    have := Nat.pow_le_pow_right (n := 2) (by omega) (show n + 1 ≤ 61 by omega)
    exact_mod_cast this
  have h2 : (0 : Int) < 2 ^ (n + 1) := Int.pow_pos (by omega)
  exact wrap64 (by omega) (by omega)
/-- What Size returns. -/
def sizeR (t ax ay kd : Int) : Int × Int := if vr t ax ay kd = true then (size t, 0) else (0, 2)
theorem gcontexts {fl : Nat} {t ax ay kd : Int} {ty : Bool} {K : Int → Option Ans} : F_generic_contexts fl t ax ay ty kd K = K (size t - 1) := by
  have := tpl_len t
  unfold F_generic_contexts
  rw [gpixels, ishl_two (by omega)]
  unfold size
  rw [Int.add_sub_cancel]
theorem gsize {fl : Nat} {t ax ay kd : Int} {ty : Bool} {K : Int × Int → Option Ans} : F_generic_Size fl t ax ay ty kd K = K (sizeR t ax ay kd) := by
  unfold F_generic_Size sizeR
  rw [gvalid]
  cases h : vr t ax ay kd with
  | false => rfl
  | true =>
    rw [cond_f (b := !true) rfl, gcontexts, if_pos rfl]
    have := size_eq (t := t)
    rw [wrap64 (by omega) (by omega), Int.sub_add_cancel]
theorem rsize {fl : Nat} {t ax ay kd : Int} {ty : Bool} {K : Int × Int → Option Ans} : F_ref07_Size fl t ax ay ty kd K = K (sizeR t ax ay kd) := by
  unfold F_ref07_Size sizeR
  rw [rvalid]
  cases h : vr t ax ay kd with
  | false => rfl
  | true =>
    have hl := tpl_len t
    have := size_eq (t := t)
    rw [cond_f (b := !true) rfl, rpixels, if_pos rfl, around_len, ishl_one (by omega) (by omega), Int.toNat_natCast]
    unfold size at this ⊢
    rw [wrap64 (by omega) (by omega)]

theorem gplane {fl : Nat} {t ax ay kd w h : Int} {ty : Bool} {K : Int × Int × List Int × List (Int × Int) → Option Ans} (h0 : 0 ≤ w * h) (h1 : w * h ≤ 1000000000) :
    F_generic_newPlane fl t ax ay ty kd w h K = K (w, h, List.replicate (w * h).toNat 0, around t ax ay) := by
  have := tpl_len t
  unfold F_generic_newPlane around
  simp only [gpixels, wrap64 (show -9223372036854775808 ≤ w * h by omega) (show w * h ≤ 9223372036854775807 by omega)]
  have c1 : decide ((0 : Int) ≤ w * h ∧ True ∧ ((1 : Nat) : Int) * (w * h) ≤ 281474976710656 ∧ w * h ≤ 281474976710656) = true := decide_eq_true ⟨h0, trivial, by omega, by omega⟩
  have c2 : decide (((tpl t).length + [(ax, ay)].length) * 16 ≤ 140737488355328 ∧ (tpl t).length + [(ax, ay)].length ≤ 140737488355328) = true := decide_eq_true (by simp; omega)
  simp only [c1, c2, cond_true, both_same]

/-! ### The context of a pixel -/
def ctxv (w h : Int) (p : List Int) (x y : Int) (l : List (Int × Int)) : Int := l.foldl (fun n d => 2 * n + px w h p (x + d.1) (y + d.2)) 0
theorem ctxv_take {w h : Int} {p : List Int} {x y : Int} {l : List (Int × Int)} {i : Nat} (hi : i < l.length) :
    ctxv w h p x y (l.take (i + 1)) = 2 * ctxv w h p x y (l.take i) + px w h p (x + (l.getD i (0, 0)).1) (y + (l.getD i (0, 0)).2) := by
  unfold ctxv
  rw [take_succ_getD hi (0, 0), List.foldl_append]
  rfl
theorem ctxv_lt {w h : Int} {p : List Int} (h0 : ∀ v ∈ p, 0 ≤ v ∧ v ≤ 1) {x y : Int} {l : List (Int × Int)} : ∀ i, i ≤ l.length → 0 ≤ ctxv w h p x y (l.take i) ∧ ctxv w h p x y (l.take i) < 2 ^ i
  | 0, _ => by simp [ctxv]
  | i + 1, hi => by
    obtain ⟨a, b⟩ := ctxv_lt h0 (w := w) (h := h) (x := x) (y := y) (l := l) i (by omega)
    have c := px_01 (w := w) (h := h) h0 (x + (l.getD i (0, 0)).1) (y + (l.getD i (0, 0)).2)
    rw [ctxv_take (by omega), Int.pow_succ]
    omega
theorem ctxv_small {w h : Int} {p : List Int} (h0 : ∀ v ∈ p, 0 ≤ v ∧ v ≤ 1) {x y : Int} {l : List (Int × Int)} (hl : l.length ≤ 11) {i : Nat} (hi : i ≤ l.length) : 0 ≤ ctxv w h p x y (l.take i) ∧ ctxv w h p x y (l.take i) < 2048 := by
  have a := ctxv_lt h0 (w := w) (h := h) (x := x) (y := y) i hi
  have b : (2 : Int) ^ i ≤ 2 ^ 11 := by
    have := Nat.pow_le_pow_right (n := 2) (by omega) (show i ≤ 11 by omega)
    exact_mod_cast this
  have c : (2 : Int) ^ 11 = 2048 := by decide
  omega

/-- A bitmap's pixels. -/
structure Pix (w h : Int) (p : List Int) : Prop where
  w0 : 0 ≤ w
  h0 : 0 ≤ h
  w1 : w ≤ 200
  h1 : h ≤ 200
  n : w * h ≤ 8192
  len : (p.length : Int) = w * h
  bit : ∀ v ∈ p, 0 ≤ v ∧ v ≤ 1
theorem pix_of {w h : Int} {p : List Int} (hv : valid w h p = true) (h0 : ∀ v ∈ p, 0 ≤ v) : Pix w h p := by
  obtain ⟨⟨a, b, c, d, e⟩, f, g⟩ := valid_iff.1 hv
  exact ⟨a, b, c, d, e, f, fun v hv => ⟨h0 v hv, g v hv⟩⟩
theorem Pix.mul0 {w h : Int} {p : List Int} (hp : Pix w h p) : 0 ≤ w * h := by have := hp.len; omega

theorem gat {fl : Nat} {w h : Int} {p : List Int} (hp : Pix w h p) {x y : Int} {l : List (Int × Int)} {K : Int × Int × Int × List Int × List (Int × Int) → Option Ans} :
    F_generic_plane_at_a34 fl x y w h p l K = K (px w h p x y, w, h, p, l) := by
  have hl := hp.len
  have hn := hp.n
  unfold F_generic_plane_at_a34 px
  simp only [cd]
  by_cases hi : ins w h x y
  · have hq := place hi
    have hy := place_y hi
    rw [if_pos hi]
    obtain ⟨h1, h2, h3, h4⟩ := hi
    rw [if_neg (by omega), if_neg (by omega), if_neg (by omega), if_neg (by omega), wrap64 (x := y * w) (by omega) (by omega), wrap64 (x := y * w + x) (by omega) (by omega), if_pos (by omega), both_same]
  · rw [if_neg hi]
    unfold ins at hi
    repeat' split
    all_goals first | rfl | omega

theorem gcontext {fl : Nat} (hfl : 9223372036854775808 ≤ fl) {w h : Int} {p : List Int} (hp : Pix w h p) {x y : Int} {l : List (Int × Int)} (hx : -1000 ≤ x ∧ x ≤ 1000) (hy : -1000 ≤ y ∧ y ≤ 1000) (hl : l.length ≤ 11) (hd : ∀ d ∈ l, -8 ≤ d.1 ∧ d.1 ≤ 8 ∧ -8 ≤ d.2 ∧ d.2 ≤ 0)
    {K : Int × Int × Int × List Int × List (Int × Int) → Option Ans} : F_generic_plane_context_a34 fl x y w h p l K = K (ctxv w h p x y l, w, h, p, l) := by
  unfold F_generic_plane_context_a34 L_generic_plane_context_a34_0
  refine iter_seq (step := S_generic_plane_context_a34_0 fl) (fun i : Nat => (x, y, ctxv w h p x y (l.take i), (l.length : Int), (i : Int), w, h, p, l)) l.length rfl (fun i hi c => ?_) (fun c => ?_) (by omega)
  · have e := hd _ (getD_mem hi (0, 0))
    have a := ctxv_small hp.bit (w := w) (h := h) (x := x) (y := y) hl (show i ≤ l.length by omega)
    have b := px_01 (w := w) (h := h) hp.bit (x + (l.getD i (0, 0)).1) (y + (l.getD i (0, 0)).2)
    simp (disch := omega) only [S_generic_plane_context_a34_0, dec_t, Int.toNat_natCast, wrap64, gat hp]
    rw [ctxv_take hi]
    rfl
  · simp (disch := omega) only [S_generic_plane_context_a34_0, dec_f, List.take_length]

theorem rcontext {fl : Nat} (hfl : 9223372036854775808 ≤ fl) {w h : Int} {p : List Int} (hp : Pix w h p) {t ax ay kd x y : Int} {ty : Bool} (hv : vr t ax ay kd = true) (hx : -1000 ≤ x ∧ x ≤ 1000) (hy : -1000 ≤ y ∧ y ≤ 1000)
    {K : Int → Option Ans} : F_ref07_context fl t ax ay ty kd w h p x y K = K (ctxv w h p x y (around t ax ay)) := by
  obtain ⟨_, _, _, v1, v2, v3, v4, _⟩ := vr_iff.1 hv
  unfold F_ref07_context
  rw [rpixels]
  have hl : (around t ax ay).length ≤ 11 := by have := tpl_len t; rw [around_len]; omega
  have hd : ∀ d ∈ around t ax ay, -8 ≤ d.1 ∧ d.1 ≤ 8 ∧ -8 ≤ d.2 ∧ d.2 ≤ 0 := by
    intro d hd
    unfold around at hd
    rcases List.mem_append.1 hd with hd | hd
    · exact tpl_near t d hd
    · simp at hd; subst hd; exact ⟨v1, v2, v3, v4⟩
  have hn := hp.n
  generalize around t ax ay = l at hl hd
  unfold L_ref07_context_0
  refine iter_seq (step := S_ref07_context_0 fl) (fun i : Nat => (x, y, ctxv w h p x y (l.take i), (i : Int), w, h, p, l)) l.length rfl (fun i hi c => ?_) (fun c => ?_) (by omega)
  · have e := hd _ (getD_mem hi (0, 0))
    have a := ctxv_small hp.bit (w := w) (h := h) (x := x) (y := y) hl (show i ≤ l.length by omega)
    have b := px_01 (w := w) (h := h) hp.bit (x + (l.getD i (0, 0)).1) (y + (l.getD i (0, 0)).2)
    have hat : ∀ x y K, F_ref05_At fl w h p x y K = K (px w h p x y) := fun x y K => at_ok (by omega) hp.len (fun v hv => by have := hp.bit v hv; omega)
    simp (disch := omega) only [S_ref07_context_0, dec_t, Int.toNat_natCast, wrap64, hat, both_same]
    rw [ctxv_take hi]
    rfl
  · simp (disch := omega) only [S_ref07_context_0, dec_f, List.take_length]

/-- What Context returns. -/
def contextR (t ax ay kd w h : Int) (p : List Int) (x y : Int) : Int × Int :=
  if vr t ax ay kd = true then (if valid w h p = true then (if ins w h x y then (ctxv w h p x y (around t ax ay), 0) else (0, 2)) else (0, 30)) else (0, 2)
theorem gContext {fl : Nat} (hfl : 9223372036854775808 ≤ fl) {w h : Int} {p : List Int} (h0 : ∀ v ∈ p, 0 ≤ v) {t ax ay kd x y : Int} {ty : Bool} {K : Int × Int → Option Ans} :
    F_generic_Context fl t ax ay ty kd w h p x y K = K (contextR t ax ay kd w h p x y) := by
  unfold F_generic_Context contextR
  rw [gvalid]
  cases hv : vr t ax ay kd with
  | false => rfl
  | true =>
    rw [cond_f (b := !true) rfl, valid_ok hfl, if_pos rfl]
    cases hb : valid w h p with
    | false => rfl
    | true =>
      rw [cond_f (b := !true) rfl, if_pos rfl]
      have hp := pix_of hb h0
      simp only [cd]
      by_cases hi : ins w h x y
      · rw [if_pos hi]
        obtain ⟨h1, h2, h3, h4⟩ := hi
        have := hp.mul0; have := hp.n; have := hp.w1; have := hp.h1
        obtain ⟨_, _, _, v1, v2, v3, v4, _⟩ := vr_iff.1 hv
        rw [if_neg (by omega), if_neg (by omega), if_neg (by omega), if_neg (by omega), gplane (by omega) (by omega)]
        dsimp only
        rw [gcontext hfl hp (by omega) (by omega) (by have := tpl_len t; rw [around_len]; omega)]
        intro d hd
        unfold around at hd
        rcases List.mem_append.1 hd with hd | hd
        · exact tpl_near t d hd
        · simp at hd; subst hd; exact ⟨v1, v2, v3, v4⟩
      · rw [if_neg hi]
        unfold ins at hi
        repeat' split
        all_goals first | rfl | omega
theorem rContext {fl : Nat} (hfl : 9223372036854775808 ≤ fl) {w h : Int} {p : List Int} (h0 : ∀ v ∈ p, 0 ≤ v) {t ax ay kd x y : Int} {ty : Bool} {K : Int × Int → Option Ans} :
    F_ref07_Context fl t ax ay ty kd w h p x y K = K (contextR t ax ay kd w h p x y) := by
  unfold F_ref07_Context contextR
  rw [rvalid]
  cases hv : vr t ax ay kd with
  | false => rfl
  | true =>
    rw [cond_f (b := !true) rfl, rvalid_ok hfl, if_pos rfl]
    cases hb : valid w h p with
    | false => rfl
    | true =>
      rw [cond_f (b := !true) rfl, if_pos rfl]
      have hp := pix_of hb h0
      simp only [cd]
      by_cases hi : ins w h x y
      · rw [if_pos hi]
        obtain ⟨h1, h2, h3, h4⟩ := hi
        have := hp.w1; have := hp.h1
        rw [if_neg (by omega), if_neg (by omega), if_neg (by omega), if_neg (by omega), rcontext hfl hp hv (by omega) (by omega)]
      · rw [if_neg hi]
        unfold ins at hi
        repeat' split
        all_goals first | rfl | omega

theorem sane {fl : Nat} (hfl : 9223372036854775808 ≤ fl) {K : Bool → Option Ans} : F_law07_Sane fl K = K true := by
  unfold F_law07_Sane
  rw [gsize]
  have e1 : sizeR 3 2 (-1) 0 = (33, 0) := by decide
  rw [e1]
  dsimp only
  rw [gContext hfl (by decide)]
  have e2 : contextR 3 (-2) 0 0 4 1 [1, 0, 1, 1] 2 0 = (1, 0) := by decide
  rw [e2]
  rfl
end Go.Proofs.Ytajidgilfkineaa.Gen
