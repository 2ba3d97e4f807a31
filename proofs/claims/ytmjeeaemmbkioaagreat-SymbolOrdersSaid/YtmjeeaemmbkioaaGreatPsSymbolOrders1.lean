/- Laws of the typed texts that SymbolOrders reaches, in plain Lean. No condition but what each theorem names. -/
import Derived.Test.YtmjeeaemmbkioaaGreatEvO
import Derived.Test.YtmjeeaemmbkioaaGreatFsSymbolOrders3
import Derived.Test.YtmjeeaemmbkioaaGreatFsSymbolOrders4
import Derived.Test.YtmjeeaemmbkioaaGreatEvS
set_option linter.unusedVariables false
set_option linter.unusedSimpArgs false
set_option linter.unusedSectionVars false
set_option linter.unusedVariables false
namespace Go.Proofs.YtmjeeaemmbkioaaGreat.Ev
open Go

theorem cond_t {α : Sort _} {b : Bool} {x y : α} (h : b = true) : (bif b then x else y) = x := by rw [h]; rfl
theorem cond_f {α : Sort _} {b : Bool} {x y : α} (h : b = false) : (bif b then x else y) = y := by rw [h]; rfl
theorem dec_t {p : Prop} {i : Decidable p} {α : Sort _} {x y : α} (h : p) : (bif @decide p i then x else y) = x := cond_t (decide_eq_true h)
theorem dec_f {p : Prop} {i : Decidable p} {α : Sort _} {x y : α} (h : ¬p) : (bif @decide p i then x else y) = y := cond_f (decide_eq_false h)
theorem both_same (x : Option Ans) : both x x = x := by
  unfold both
  cases x with
  | none => rfl
  | some u => rfl

theorem fuel_eq : fuel = 18446744073709551616 := rfl
/-! ### Numbers -/
theorem wrap64 {x : Int} (h1 : -9223372036854775808 ≤ x) (h2 : x ≤ 9223372036854775807) : IntKind.i64.wrap x = x := by
  simp [IntKind.wrap, IntKind.min, IntKind.max, IntKind.signed, IntKind.bits]
  omega
/-! ### Loops whose states are known -/
/-- A loop that goes through known states, up to the n-th one. -/
theorem iter_to {V B : Type} {step : V → (V → Option Ans) → B → Option Ans} {b : B} {r : Option Ans} (σ : Nat → V) (n : Nat)
    (h : ∀ i, i < n → ∀ c, step (σ i) c b = c (σ (i + 1))) (hn : ∀ c, step (σ n) c b = r) {m : Nat} (hm : n < m) : iter step m (σ 0) b = r := by
  have key : ∀ d i m, i + d = n → d < m → iter step m (σ i) b = r := by
    intro d
    induction d with
    | zero =>
      intro i m hi hm
      obtain ⟨m, rfl⟩ : ∃ k, m = k + 1 := ⟨m - 1, by omega⟩
      have : i = n := by omega
      subst this
      exact hn _
    | succ d ih =>
      intro i m hi hm
      obtain ⟨m, rfl⟩ : ∃ k, m = k + 1 := ⟨m - 1, by omega⟩
      simp only [iter]
      rw [h i (by omega)]
      exact ih (i + 1) m (by omega) (by omega)
  exact key n 0 m (by omega) hm
theorem iter_seq {V B : Type} {step : V → (V → Option Ans) → B → Option Ans} {b : B} {r : Option Ans} {v : V} {m : Nat} (σ : Nat → V) (n : Nat) (hv : v = σ 0)
    (h : ∀ i, i < n → ∀ c, step (σ i) c b = c (σ (i + 1))) (hn : ∀ c, step (σ n) c b = r) (hm : n < m) : iter step m v b = r := by
  rw [hv]
  exact iter_to σ n h hn hm
/-! ### Lists -/
theorem getD_lt {α : Type} {l : List α} {i : Nat} (h : i < l.length) (d : α) : l.getD i d = l[i] := by simp [h]
theorem getD_mem {α : Type} {l : List α} {i : Nat} (h : i < l.length) (d : α) : l.getD i d ∈ l := by rw [getD_lt h]; exact List.getElem_mem h
/-- The first of a list's members, in order, that is such a one: its place. -/
theorem all_or_first {α : Type} (p : α → Bool) (d : α) (l : List α) : l.all p = true ∨ ∃ n, n < l.length ∧ p (l.getD n d) = false ∧ ∀ i, i < n → p (l.getD i d) = true := by
  induction l with
  | nil => exact .inl rfl
  | cons x l ih =>
    cases hx : p x with
    | false => exact .inr ⟨0, by simp, by simpa using hx, fun i hi => by omega⟩
    | true =>
      rcases ih with ih | ⟨n, h1, h2, h3⟩
      · left; simp [hx, ih]
      · refine .inr ⟨n + 1, by simpa using h1, by simpa using h2, fun i hi => ?_⟩
        cases i with
        | zero => simpa using hx
        | succ i => simpa using h3 i (by omega)
theorem all_getD {α : Type} {p : α → Bool} {l : List α} (h : l.all p = true) (d : α) {i : Nat} (hi : i < l.length) : p (l.getD i d) = true :=
  List.all_eq_true.1 h _ (getD_mem hi d)
theorem not_all {α : Type} {p : α → Bool} {l : List α} {d : α} {n : Nat} (h : n < l.length) (hp : p (l.getD n d) = false) : l.all p = false := by
  rw [List.all_eq_false]
  exact ⟨_, getD_mem h d, by rw [hp]; simp⟩
end Go.Proofs.YtmjeeaemmbkioaaGreat.Ev

set_option linter.unusedVariables false
set_option linter.unusedSimpArgs false
namespace Go.Proofs.YtmjeeaemmbkioaaGreat.Bm
open Go Ev

theorem cd {α : Sort _} {p : Prop} {i : Decidable p} {x y : α} : (bif @decide p i then x else y) = @ite α p i x y := by by_cases h : p <;> simp [h]
theorem cb {α : Sort _} {a b : Int} {x y : α} : (bif a == b then x else y) = if a = b then x else y := by
  by_cases h : a = b
  · simp [h]
  · rw [if_neg h, cond_f (by simpa using h)]
theorem cn {α : Sort _} {a b : Int} {x y : α} : (bif a != b then x else y) = if a = b then y else x := by
  by_cases h : a = b
  · simp [h]
  · rw [if_neg h, cond_t (by simpa using h)]
theorem mul_le {w h a b : Int} (h0 : 0 ≤ w) (h1 : w ≤ a) (h2 : 0 ≤ h) (h3 : h ≤ b) : 0 ≤ w * h ∧ w * h ≤ a * b :=
  ⟨Int.mul_nonneg h0 h2, Int.mul_le_mul h1 h3 h2 (by omega)⟩

/-- Sides of a bitmap. -/
def fit (w h : Int) : Bool := decide (0 ≤ w ∧ 0 ≤ h ∧ w ≤ 200 ∧ h ≤ 200 ∧ w * h ≤ 8192)
theorem fit_iff {w h : Int} : fit w h = true ↔ 0 ≤ w ∧ 0 ≤ h ∧ w ≤ 200 ∧ h ≤ 200 ∧ w * h ≤ 8192 := by simp [fit]
theorem fits_ok {fl : Nat} {w h : Int} {K : Bool → Option Ans} : F_bitmap_fits fl w h K = K (fit w h) := by
  unfold F_bitmap_fits fit
  simp only [cd]
  split
  · split
    · split
      · split
        · have := mul_le (a := 200) (b := 200) (show 0 ≤ w by omega) (by omega) (show 0 ≤ h by omega) (by omega)
          rw [wrap64 (by omega) (by omega)]
          exact congrArg K (decide_eq_decide.2 (by omega))
        · exact congrArg K (decide_eq_false (by omega)).symm
      · exact congrArg K (decide_eq_false (by omega)).symm
    · exact congrArg K (decide_eq_false (by omega)).symm
  · exact congrArg K (decide_eq_false (by omega)).symm
theorem sides_ok {fl : Nat} {w h : Int} {K : Bool → Option Ans} : F_ref05_Sides fl w h K = K (fit w h) := by
  unfold F_ref05_Sides fit
  simp only [cd]
  split
  · split
    · split
      · split
        · have := mul_le (a := 200) (b := 200) (show 0 ≤ w by omega) (by omega) (show 0 ≤ h by omega) (by omega)
          rw [wrap64 (by omega) (by omega)]
          exact congrArg K (decide_eq_decide.2 (by omega))
        · exact congrArg K (decide_eq_false (by omega)).symm
      · exact congrArg K (decide_eq_false (by omega)).symm
    · exact congrArg K (decide_eq_false (by omega)).symm
  · exact congrArg K (decide_eq_false (by omega)).symm

/-- A bitmap. -/
def valid (w h : Int) (pix : List Int) : Bool := fit w h && decide ((pix.length : Int) = w * h) && pix.all fun x => decide (x ≤ 1)
theorem fit_mul {w h : Int} (hf : fit w h = true) : IntKind.i64.wrap (w * h) = w * h := by
  obtain ⟨h1, h2, h3, h4, h5⟩ := fit_iff.1 hf
  have := mul_le (a := 200) (b := 200) h1 h3 h2 h4
  exact wrap64 (by omega) (by omega)

theorem valid_ok {fl : Nat} (hfl : 9223372036854775808 ≤ fl) {w h : Int} {pix : List Int} {K : Bool → Option Ans} : F_bitmap_Valid fl w h pix K = K (valid w h pix) := by
  unfold F_bitmap_Valid
  rw [fits_ok]
  unfold valid
  cases hf : fit w h with
  | false => rfl
  | true =>
  rw [cond_f (b := !true) rfl, fit_mul hf, cn]
  obtain ⟨h1, h2, h3, h4, h5⟩ := fit_iff.1 hf
  split
  rotate_left
  · rename_i hne
    rw [decide_eq_false hne]
    rfl
  rename_i he
  rw [decide_eq_true he]
  simp only [Bool.true_and]
  unfold L_bitmap_Valid_0
  rcases all_or_first (fun x => decide (x ≤ 1)) 0 pix with ha | ⟨n, hn, hb, hi⟩
  · rw [ha]
    refine iter_seq (step := S_bitmap_Valid_0 fl) (fun i : Nat => (pix, (pix.length : Int), (i : Int))) pix.length rfl (fun i hi c => ?_) (fun c => ?_) (by omega)
    · have g := all_getD ha 0 hi
      simp only [decide_eq_true_eq] at g
      simp (disch := omega) only [S_bitmap_Valid_0, dec_t, dec_f, wrap64, Int.toNat_natCast]
      rfl
    · simp (disch := omega) only [S_bitmap_Valid_0, dec_f]
  · rw [not_all hn hb]
    refine iter_seq (step := S_bitmap_Valid_0 fl) (fun i : Nat => (pix, (pix.length : Int), (i : Int))) n rfl (fun i hin c => ?_) (fun c => ?_) (by omega)
    · have g := hi i hin
      simp only [decide_eq_true_eq] at g
      simp (disch := omega) only [S_bitmap_Valid_0, dec_t, dec_f, wrap64, Int.toNat_natCast]
      rfl
    · simp only [decide_eq_false_iff_not] at hb
      simp (disch := omega) only [S_bitmap_Valid_0, dec_t, Int.toNat_natCast]
theorem rvalid_ok {fl : Nat} (hfl : 9223372036854775808 ≤ fl) {w h : Int} {pix : List Int} {K : Bool → Option Ans} : F_ref05_Valid fl w h pix K = K (valid w h pix) := by
  unfold F_ref05_Valid
  rw [sides_ok]
  unfold valid
  cases hf : fit w h with
  | false => rfl
  | true =>
  rw [cond_f (b := !true) rfl, fit_mul hf, cn]
  obtain ⟨h1, h2, h3, h4, h5⟩ := fit_iff.1 hf
  split
  rotate_left
  · rename_i hne
    rw [decide_eq_false hne]
    rfl
  rename_i he
  rw [decide_eq_true he]
  simp only [Bool.true_and]
  unfold L_ref05_Valid_0
  rcases all_or_first (fun x => decide (x ≤ 1)) 0 pix with ha | ⟨n, hn, hb, hi⟩
  · rw [ha]
    refine iter_seq (step := S_ref05_Valid_0 fl) (fun i : Nat => ((i : Int), w, h, pix)) pix.length rfl (fun i hi c => ?_) (fun c => ?_) (by omega)
    · have g := all_getD ha 0 hi
      simp only [decide_eq_true_eq] at g
      simp (disch := omega) only [S_ref05_Valid_0, dec_t, dec_f, wrap64, Int.toNat_natCast]
      rfl
    · simp (disch := omega) only [S_ref05_Valid_0, dec_f]
  · rw [not_all hn hb]
    refine iter_seq (step := S_ref05_Valid_0 fl) (fun i : Nat => ((i : Int), w, h, pix)) n rfl (fun i hin c => ?_) (fun c => ?_) (by omega)
    · have g := hi i hin
      simp only [decide_eq_true_eq] at g
      simp (disch := omega) only [S_ref05_Valid_0, dec_t, dec_f, wrap64, Int.toNat_natCast]
      rfl
    · simp only [decide_eq_false_iff_not] at hb
      simp (disch := omega) only [S_ref05_Valid_0, dec_t, Int.toNat_natCast]

/-- A place in a bitmap. -/
def ins (w h x y : Int) : Prop := 0 ≤ x ∧ 0 ≤ y ∧ x < w ∧ y < h
instance {w h x y : Int} : Decidable (ins w h x y) := by unfold ins; infer_instance
end Go.Proofs.YtmjeeaemmbkioaaGreat.Bm

set_option linter.unusedVariables false
set_option linter.unusedSimpArgs false
namespace Go.Proofs.YtmjeeaemmbkioaaGreat.Di
open Go Ev Bm

abbrev Bmp : Type := Int × Int × List Int
/-- Whether a bitmap may be a shape's. -/
def shp (b : Bmp) : Bool := valid b.1 b.2.1 b.2.2 && decide (1 ≤ b.1 ∧ b.1 ≤ 40 ∧ 1 ≤ b.2.1 ∧ b.2.1 ≤ 40)
section
variable {fl : Nat} (hfl : 9223372036854775808 ≤ fl)
include hfl
theorem isShape_ok {w h : Int} {p : List Int} {K : Bool → Option Ans} : F_symbol_isShape fl w h p K = K (shp (w, h, p)) := by
  unfold F_symbol_isShape shp
  dsimp only
  rw [valid_ok hfl]
  cases valid w h p with
  | false => rfl
  | true =>
    rw [cond_true]
    by_cases h1 : w ≥ 1
    rotate_left
    · rw [dec_f h1, decide_eq_false (by omega)]; rfl
    rw [dec_t h1]
    by_cases h2 : w ≤ 40
    rotate_left
    · rw [dec_f h2, decide_eq_false (by omega)]; rfl
    rw [dec_t h2]
    by_cases h3 : h ≥ 1
    rotate_left
    · rw [dec_f h3, decide_eq_false (by omega)]; rfl
    rw [dec_t h3, Bool.true_and]
    congr 1
    exact decide_eq_decide.2 (by omega)
theorem rshape_ok {w h : Int} {p : List Int} {K : Bool → Option Ans} : F_ref09_IsShape fl w h p K = K (shp (w, h, p)) := by
  unfold F_ref09_IsShape shp
  dsimp only
  rw [rvalid_ok hfl]
  cases valid w h p with
  | false => rfl
  | true =>
    rw [cond_true]
    by_cases h1 : w ≥ 1
    rotate_left
    · rw [dec_f h1, decide_eq_false (by omega)]; rfl
    rw [dec_t h1]
    by_cases h3 : h ≥ 1
    rotate_left
    · rw [dec_f h3, decide_eq_false (by omega)]; rfl
    rw [dec_t h3]
    by_cases h2 : w ≤ 40
    rotate_left
    · rw [dec_f h2, decide_eq_false (by omega)]; rfl
    rw [dec_t h2, Bool.true_and]
    congr 1
    exact decide_eq_decide.2 (by omega)
end
theorem shp_rg {b : Bmp} (h : shp b = true) : 1 ≤ b.1 ∧ b.1 ≤ 40 ∧ 1 ≤ b.2.1 ∧ b.2.1 ≤ 40 := by
  unfold shp at h
  simp only [Bool.and_eq_true, decide_eq_true_eq] at h
  exact h.2
end Go.Proofs.YtmjeeaemmbkioaaGreat.Di

set_option linter.unusedVariables false
set_option linter.unusedSimpArgs false
namespace Go.Proofs.YtmjeeaemmbkioaaGreat.So
open Go Ev

section
variable {α : Type} (key : α → Int)
/-- Ascending. -/
def Srt (l : List α) : Prop := l.Pairwise fun x y => key x ≤ key y
/-- The same elements, those of one key in the same order. -/
def Stb (c d : List α) : Prop := c.Perm d ∧ ∀ v : Int, c.filter (fun x => key x == v) = d.filter (fun x => key x == v)
end
section
variable {α : Type} {key : α → Int}
theorem Stb.refl (l : List α) : Stb key l l := ⟨List.Perm.refl l, fun v => rfl⟩
theorem Stb.trans {a b c : List α} (h : Stb key a b) (k : Stb key b c) : Stb key a c := ⟨h.1.trans k.1, fun v => (h.2 v).trans (k.2 v)⟩
theorem Stb.symm {a b : List α} (h : Stb key a b) : Stb key b a := ⟨h.1.symm, fun v => (h.2 v).symm⟩
theorem Stb.app {a b c d : List α} (h : Stb key a b) (k : Stb key c d) : Stb key (a ++ c) (b ++ d) := ⟨h.1.append k.1, fun v => by rw [List.filter_append, List.filter_append, h.2 v, k.2 v]⟩
theorem Stb.len {a b : List α} (h : Stb key a b) : a.length = b.length := h.1.length_eq
/-- Blocks without a key in common may be exchanged. -/
theorem Stb.swap {x y : List α} (h : ∀ u ∈ x, ∀ w ∈ y, key u ≠ key w) : Stb key (x ++ y) (y ++ x) := by
  refine ⟨List.perm_append_comm, fun v => ?_⟩
  rw [List.filter_append, List.filter_append]
  by_cases hx : ∃ u ∈ x, key u = v
  · obtain ⟨u, hu, rfl⟩ := hx
    have : y.filter (fun z => key z == key u) = [] := by
      rw [List.filter_eq_nil_iff]
      intro w hw
      have := h u hu w hw
      simp
      exact fun e => this e.symm
    rw [this, List.append_nil, List.nil_append]
  · have : x.filter (fun z => key z == v) = [] := by
      rw [List.filter_eq_nil_iff]
      intro w hw
      simp
      exact fun e => hx ⟨w, hw, e⟩
    rw [this, List.append_nil, List.nil_append]
theorem srt_app {a b : List α} : Srt key (a ++ b) ↔ Srt key a ∧ Srt key b ∧ ∀ x ∈ a, ∀ y ∈ b, key x ≤ key y := by
  unfold Srt
  exact List.pairwise_append
theorem srt_single (x : α) : Srt key [x] := List.pairwise_singleton _ _
theorem srt_cons {x : α} {l : List α} : Srt key (x :: l) ↔ (∀ y ∈ l, key x ≤ key y) ∧ Srt key l := List.pairwise_cons
/-- There is but one such list. -/
theorem srt_unique : ∀ {c d : List α}, Srt key c → Srt key d → Stb key c d → c = d
  | [], d, _, _, h => by
    have := h.len
    exact (List.eq_nil_of_length_eq_zero (by simpa using this.symm)).symm
  | x :: c, [], _, _, h => by
    have := h.len
    simp at this
  | x :: c, y :: d, hc, hd, h => by
    obtain ⟨h1, h2⟩ := srt_cons.1 hc
    obtain ⟨h3, h4⟩ := srt_cons.1 hd
    have hxy : key x = key y := by
      have mx : x ∈ y :: d := h.1.mem_iff.1 (by simp)
      have my : y ∈ x :: c := h.1.mem_iff.2 (by simp)
      have a1 : key y ≤ key x := by
        rcases List.mem_cons.1 mx with rfl | hm
        · exact Int.le_refl _
        · exact h3 x hm
      have a2 : key x ≤ key y := by
        rcases List.mem_cons.1 my with rfl | hm
        · exact Int.le_refl _
        · exact h1 y hm
      omega
    have e := h.2 (key x)
    rw [List.filter_cons_of_pos (by simp), List.filter_cons_of_pos (by simp [hxy])] at e
    injection e with e1 e2
    subst e1
    congr 1
    refine srt_unique h2 h4 ⟨h.1.cons_inv, fun v => ?_⟩
    by_cases hv : key x = v
    · subst hv
      exact e2
    · have := h.2 v
      rw [List.filter_cons_of_neg (by simpa using hv), List.filter_cons_of_neg (by simpa using hv)] at this
      exact this
theorem srt_get {l : List α} (h : Srt key l) (d : α) {i j : Nat} (hij : i ≤ j) (hj : j < l.length) : key (l.getD i d) ≤ key (l.getD j d) := by
  rw [getD_lt (by omega), getD_lt hj]
  rcases Nat.lt_or_ge i j with h' | h'
  · exact List.pairwise_iff_getElem.1 h i j (by omega) hj h'
  · have : i = j := by omega
    subst this
    exact Int.le_refl _
/-- One element is moved in front of others of greater keys. -/
theorem insert_front {a b : List α} {x : α} (ha : Srt key (a ++ b)) (h1 : ∀ y ∈ a, key y ≤ key x) (h2 : ∀ y ∈ b, key x < key y) : Srt key (a ++ (x :: b)) ∧ Stb key (a ++ (x :: b)) ((a ++ b) ++ [x]) := by
  obtain ⟨p1, p2, p3⟩ := srt_app.1 ha
  refine ⟨srt_app.2 ⟨p1, srt_cons.2 ⟨fun y hy => Int.le_of_lt (h2 y hy), p2⟩, fun y hy z hz => ?_⟩, ?_⟩
  · rcases List.mem_cons.1 hz with rfl | hz
    · exact h1 y hy
    · exact p3 y hy z hz
  · rw [List.append_assoc]
    refine (Stb.refl a).app ?_
    have := Stb.swap (key := key) (x := [x]) (y := b) fun u hu w hw => by
      rw [List.mem_singleton] at hu
      subst hu
      have := h2 w hw
      omega
    exact this
/-- One element is moved behind others of lesser keys. -/
theorem insert_back {a b : List α} {x : α} (ha : Srt key (a ++ b)) (h1 : ∀ y ∈ a, key y < key x) (h2 : ∀ y ∈ b, key x ≤ key y) : Srt key (a ++ (x :: b)) ∧ Stb key (a ++ (x :: b)) (x :: (a ++ b)) := by
  obtain ⟨p1, p2, p3⟩ := srt_app.1 ha
  refine ⟨srt_app.2 ⟨p1, srt_cons.2 ⟨fun y hy => h2 y hy, p2⟩, fun y hy z hz => ?_⟩, ?_⟩
  · rcases List.mem_cons.1 hz with rfl | hz
    · exact Int.le_of_lt (h1 y hy)
    · exact p3 y hy z hz
  · have := Stb.swap (key := key) (x := a) (y := [x]) fun u hu w hw => by
      rw [List.mem_singleton] at hw
      subst hw
      have := h1 u hu
      omega
    have := this.app (Stb.refl b)
    simpa using this
/-- What is sorted by halves: a run is cut where the halves are to meet. -/
theorem halves {a1 x y b2 : List α} (hA : Srt key (a1 ++ x)) (hB : Srt key (y ++ b2)) (hxy : ∀ u ∈ y, ∀ w ∈ x, key u < key w) (hab : ∀ u ∈ a1, ∀ w ∈ b2, key u ≤ key w) {c d : List α} (hc : Srt key c) (hd : Srt key d) (sc : Stb key c (a1 ++ y)) (sd : Stb key d (x ++ b2)) :
    Srt key (c ++ d) ∧ Stb key (c ++ d) ((a1 ++ x) ++ (y ++ b2)) := by
  obtain ⟨p1, p2, p3⟩ := srt_app.1 hA
  obtain ⟨q1, q2, q3⟩ := srt_app.1 hB
  refine ⟨srt_app.2 ⟨hc, hd, fun u hu w hw => ?_⟩, (sc.app sd).trans ?_⟩
  · have hu := sc.1.mem_iff.1 hu
    have hw := sd.1.mem_iff.1 hw
    rcases List.mem_append.1 hu with hu | hu <;> rcases List.mem_append.1 hw with hw | hw
    · exact p3 u hu w hw
    · exact hab u hu w hw
    · exact Int.le_of_lt (hxy u hu w hw)
    · exact q3 u hu w hw
  · have : Stb key (y ++ x) (x ++ y) := Stb.swap fun u hu w hw => by
      have := hxy u hu w hw
      omega
    have := (Stb.refl (key := key) a1).app (this.app (Stb.refl b2))
    simpa only [List.append_assoc] using this
end
end Go.Proofs.YtmjeeaemmbkioaaGreat.So

set_option linter.unusedVariables false
set_option linter.unusedSimpArgs false
namespace Go.Proofs.YtmjeeaemmbkioaaGreat.So
open Go Ev

theorem stb_of_filter {α : Type} [DecidableEq α] {key : α → Int} {c d : List α} (h : ∀ v : Int, c.filter (fun x => key x == v) = d.filter (fun x => key x == v)) : Stb key c d := by
  refine ⟨List.perm_iff_count.2 fun x => ?_, h⟩
  have e : ∀ l : List α, l.count x = (l.filter (fun y => key y == key x)).count x := fun l => by
    rw [List.count_filter (by simp)]
  rw [e c, e d, h]
section
variable (n : Nat) (H W : Nat → Int)
/-- The places of one height and one width. -/
def cell (h w : Int) : List Nat := (List.range n).filter fun i => decide (H i = h ∧ W i = w)
def row1 (h : Int) (m : Nat) : List Nat := (List.range m).flatMap fun w : Nat => cell n H W h ((w : Int) + 1)
def ord (m k : Nat) : List Nat := (List.range k).flatMap fun h : Nat => row1 n H W ((h : Int) + 1) m
def okey (i : Nat) : Int := H i * 64 + W i
end
section
variable {n : Nat} {H W : Nat → Int}
theorem cell_mem {h w : Int} {i : Nat} (hi : i ∈ cell n H W h w) : H i = h ∧ W i = w := by
  have := (List.mem_filter.1 hi).2
  exact of_decide_eq_true this
theorem row1_mem {h : Int} {m i : Nat} (hi : i ∈ row1 n H W h m) : H i = h ∧ ∃ w : Nat, w < m ∧ W i = (w : Int) + 1 := by
  obtain ⟨w, hw, h2⟩ := List.mem_flatMap.1 hi
  obtain ⟨a, b⟩ := cell_mem h2
  exact ⟨a, w, List.mem_range.1 hw, b⟩
theorem ord_srt : Srt (okey H W) (ord n H W 40 40) := by
  unfold Srt ord
  refine List.pairwise_flatMap.2 ⟨fun h hh => ?_, ?_⟩
  · unfold row1
    refine List.pairwise_flatMap.2 ⟨fun w hw => ?_, ?_⟩
    · refine List.Pairwise.imp_of_mem (R := fun _ _ => True) (fun {a b} ha hb _ => ?_) (List.pairwise_of_forall (fun _ _ => trivial))
      obtain ⟨a1, a2⟩ := cell_mem ha
      obtain ⟨b1, b2⟩ := cell_mem hb
      unfold okey
      rw [a1, a2, b1, b2]
      exact Int.le_refl _
    · refine (List.pairwise_lt_range (n := 40)).imp_of_mem (fun {a b} ha hb hab x hx y hy => ?_)
      obtain ⟨x1, x2⟩ := cell_mem hx
      obtain ⟨y1, y2⟩ := cell_mem hy
      unfold okey
      rw [x1, x2, y1, y2]
      omega
  · refine (List.pairwise_lt_range (n := 40)).imp_of_mem (fun {a b} ha hb hab x hx y hy => ?_)
    obtain ⟨x1, w, w1, x2⟩ := row1_mem hx
    obtain ⟨y1, u, u1, y2⟩ := row1_mem hy
    unfold okey
    rw [x1, x2, y1, y2]
    omega
theorem flatMap_one {α β : Type} {l : List α} {f : α → List β} (hd : l.Nodup) {a : α} (ha : a ∈ l) (h0 : ∀ b ∈ l, b ≠ a → f b = []) : l.flatMap f = f a := by
  induction l with
  | nil => cases ha
  | cons x l ih =>
    rw [List.flatMap_cons]
    obtain ⟨n1, n2⟩ := List.nodup_cons.1 hd
    rcases List.mem_cons.1 ha with rfl | ha'
    · have : l.flatMap f = [] := by
        rw [List.flatMap_eq_nil_iff]
        intro b hb
        exact h0 b (List.mem_cons_of_mem _ hb) (fun e => n1 (e ▸ hb))
      rw [this, List.append_nil]
    · have hx : f x = [] := h0 x List.mem_cons_self (fun e => n1 (e ▸ ha'))
      rw [hx, List.nil_append]
      exact ih n2 ha' fun b hb => h0 b (List.mem_cons_of_mem _ hb)
theorem ord_stb (hr : ∀ i, i < n → 1 ≤ H i ∧ H i ≤ 40 ∧ 1 ≤ W i ∧ W i ≤ 40) : Stb (okey H W) (ord n H W 40 40) (List.range n) := by
  refine stb_of_filter fun v => ?_
  unfold ord row1
  rw [List.filter_flatMap]
  simp only [List.filter_flatMap]
  -- the cell that bears this key
  by_cases hc : ∃ h w : Nat, h < 40 ∧ w < 40 ∧ v = ((h : Int) + 1) * 64 + ((w : Int) + 1)
  · obtain ⟨h, w, h1, w1, rfl⟩ := hc
    rw [flatMap_one List.nodup_range (List.mem_range.2 h1) (a := h)]
    · rw [flatMap_one List.nodup_range (List.mem_range.2 w1) (a := w)]
      · unfold cell
        rw [List.filter_filter]
        apply List.filter_congr
        intro i hi
        have := hr i (List.mem_range.1 hi)
        unfold okey
        rw [Bool.eq_iff_iff]
        simp only [Bool.and_eq_true, beq_iff_eq, decide_eq_true_eq]
        omega
      · intro u hu hne
        rw [List.filter_eq_nil_iff]
        intro i hi
        obtain ⟨a, b⟩ := cell_mem hi
        have := List.mem_range.1 hu
        unfold okey
        rw [a, b]
        simp only [beq_iff_eq]
        omega
    · intro u hu hne
      rw [List.flatMap_eq_nil_iff]
      intro z hz
      rw [List.filter_eq_nil_iff]
      intro i hi
      obtain ⟨a, b⟩ := cell_mem hi
      have := List.mem_range.1 hu
      have := List.mem_range.1 hz
      unfold okey
      rw [a, b]
      simp only [beq_iff_eq]
      omega
  · have e1 : (List.range n).filter (fun x => okey H W x == v) = [] := by
      rw [List.filter_eq_nil_iff]
      intro i hi
      have h := hr i (List.mem_range.1 hi)
      unfold okey
      simp only [beq_iff_eq]
      intro e
      exact hc ⟨(H i - 1).toNat, (W i - 1).toNat, by omega, by omega, by omega⟩
    rw [e1, List.flatMap_eq_nil_iff]
    intro h hh
    rw [List.flatMap_eq_nil_iff]
    intro w hw
    rw [List.filter_eq_nil_iff]
    intro i hi
    obtain ⟨a, b⟩ := cell_mem hi
    have h1 := List.mem_range.1 hh
    have w1 := List.mem_range.1 hw
    unfold okey
    rw [a, b]
    simp only [beq_iff_eq]
    intro e
    exact hc ⟨h, w, h1, w1, e.symm⟩
end
end Go.Proofs.YtmjeeaemmbkioaaGreat.So

set_option linter.unusedVariables false
set_option linter.unusedSimpArgs false
namespace Go.Proofs.YtmjeeaemmbkioaaGreat.So
open Go Ev

section
variable {α β : Type} {f : α → β} {key : β → Int}
theorem srt_map {l : List α} (h : Srt (fun a => key (f a)) l) : Srt key (l.map f) := List.pairwise_map.2 h
theorem stb_map {c d : List α} (h : Stb (fun a => key (f a)) c d) : Stb key (c.map f) (d.map f) := by
  refine ⟨h.1.map f, fun v => ?_⟩
  rw [List.filter_map, List.filter_map]
  exact congrArg _ (h.2 v)
end
/-- The places 0 .. n - 1. -/
def ints (n : Nat) : List Int := (List.range n).map fun i : Nat => (i : Int)
theorem ints_succ (n : Nat) : ints (n + 1) = ints n ++ [(n : Int)] := by
  unfold ints
  rw [List.range_succ, List.map_append]
  rfl
theorem ints_len (n : Nat) : (ints n).length = n := by simp [ints]
theorem ints_mem {n : Nat} {x : Int} (h : x ∈ ints n) : 0 ≤ x ∧ x < n := by
  obtain ⟨i, hi, rfl⟩ := List.mem_map.1 h
  have := List.mem_range.1 hi
  omega
section
variable {n : Nat} {H W : Nat → Int}
def ordI (n : Nat) (H W : Nat → Int) (m k : Nat) : List Int := (ord n H W m k).map fun i : Nat => (i : Int)
def keyI (H W : Nat → Int) (x : Int) : Int := H x.toNat * 64 + W x.toNat
theorem ordI_srt : Srt (keyI H W) (ordI n H W 40 40) := srt_map (key := keyI H W) (f := fun i : Nat => (i : Int)) ord_srt
theorem ordI_stb (hr : ∀ i, i < n → 1 ≤ H i ∧ H i ≤ 40 ∧ 1 ≤ W i ∧ W i ≤ 40) : Stb (keyI H W) (ordI n H W 40 40) (ints n) := stb_map (key := keyI H W) (f := fun i : Nat => (i : Int)) (ord_stb hr)
/-- What is sorted in a stable way is the order. -/
theorem ordI_eq (hr : ∀ i, i < n → 1 ≤ H i ∧ H i ≤ 40 ∧ 1 ≤ W i ∧ W i ≤ 40) {C : List Int} (h1 : Srt (keyI H W) C) (h2 : Stb (keyI H W) C (ints n)) : C = ordI n H W 40 40 := srt_unique h1 ordI_srt (h2.trans (ordI_stb hr).symm)
end
/-! The reference: cells, rows, all. -/
section
variable (H W : Nat → Int)
def cellU (h w : Int) (m : Nat) : List Int := ((List.range m).filter fun i => decide (H i = h ∧ W i = w)).map fun i : Nat => (i : Int)
theorem cellU_succ (h w : Int) (m : Nat) : cellU H W h w (m + 1) = cellU H W h w m ++ (if H m = h ∧ W m = w then [(m : Int)] else []) := by
  unfold cellU
  rw [List.range_succ, List.filter_append, List.map_append]
  congr 1
  by_cases hh : H m = h ∧ W m = w
  · rw [if_pos hh, List.filter_cons_of_pos (by simpa using hh)]
    rfl
  · rw [if_neg hh, List.filter_cons_of_neg (by simpa using hh)]
    rfl
def rowU (n : Nat) (h : Int) (m : Nat) : List Int := (row1 n H W h m).map fun i : Nat => (i : Int)
theorem rowU_succ (n : Nat) (h : Int) (m : Nat) : rowU H W n h (m + 1) = rowU H W n h m ++ cellU H W h ((m : Int) + 1) n := by
  unfold rowU row1 cellU
  rw [List.range_succ, List.flatMap_append, List.map_append]
  congr 1
  simp [cell]
theorem ordI_succ (n m k : Nat) : ordI n H W m (k + 1) = ordI n H W m k ++ rowU H W n ((k : Int) + 1) m := by
  unfold ordI ord rowU
  rw [List.range_succ, List.flatMap_append, List.map_append]
  congr 1
  simp
end
end Go.Proofs.YtmjeeaemmbkioaaGreat.So

set_option linter.unusedVariables false
set_option linter.unusedSimpArgs false
namespace Go.Proofs.YtmjeeaemmbkioaaGreat.Sy
open Go Ev So

theorem half_ok {i j : Nat} (h : i + j ≤ 4000000) : IntKind.i64.wrap (ishr .u64 (IntKind.u64.wrap (IntKind.i64.wrap ((i : Int) + (j : Int)))) 1) = (((i + j) / 2 : Nat) : Int) := by
  rw [wrap64 (x := (i : Int) + (j : Int)) (by omega) (by omega)]
  have e : IntKind.u64.wrap ((i : Int) + (j : Int)) = (i : Int) + (j : Int) := by
    simp [IntKind.wrap, IntKind.min, IntKind.max, IntKind.signed, IntKind.bits]
    omega
  rw [e]
  have e2 : ishr .u64 ((i : Int) + (j : Int)) 1 = (((i + j) / 2 : Nat) : Int) := by
    unfold ishr
    have e3 : (2 : Int) ^ min (Int.toNat 1) IntKind.u64.bits = 2 := by decide
    rw [e3, Int.fdiv_eq_ediv_of_nonneg _ (by omega)]
    omega
  rw [e2, wrap64 (by omega) (by omega)]
section
variable {α : Type}
theorem get_mid (P Q : List α) (x d : α) : (P ++ x :: Q).getD P.length d = x := by simp
theorem get_mid2 (P M Q : List α) (x y d : α) : (P ++ x :: (M ++ y :: Q)).getD (P.length + 1 + M.length) d = y := by
  have : P ++ x :: (M ++ y :: Q) = (P ++ x :: M) ++ y :: Q := by simp
  rw [this, show P.length + 1 + M.length = (P ++ x :: M).length by simp; omega]
  exact get_mid _ _ _ _
theorem set_mid (P Q : List α) (x y : α) : (P ++ x :: Q).set P.length y = P ++ y :: Q := by simp
theorem swap_set (P M Q : List α) (x y : α) : ((P ++ x :: (M ++ y :: Q)).set P.length y).set (P.length + 1 + M.length) x = P ++ y :: (M ++ x :: Q) := by
  rw [set_mid]
  have : P ++ y :: (M ++ y :: Q) = (P ++ y :: M) ++ y :: Q := by simp
  rw [this, show P.length + 1 + M.length = (P ++ y :: M).length by simp; omega, set_mid]
  simp
theorem swap_set2 (P M Q : List α) (x y : α) : ((P ++ x :: (M ++ y :: Q)).set (P.length + 1 + M.length) x).set P.length y = P ++ y :: (M ++ x :: Q) := by
  have : P ++ x :: (M ++ y :: Q) = (P ++ x :: M) ++ y :: Q := by simp
  rw [this, show P.length + 1 + M.length = (P ++ x :: M).length by simp; omega, set_mid]
  rw [show (P ++ x :: M) ++ x :: Q = P ++ x :: (M ++ x :: Q) by simp, set_mid]
theorem two_get (P Q : List α) (x y d : α) : (P ++ x :: y :: Q).getD (P.length + 1) d = y := get_mid2 P [] Q x y d
theorem two_set (P Q : List α) (x y : α) : ((P ++ x :: y :: Q).set P.length y).set (P.length + 1) x = P ++ y :: x :: Q := swap_set P [] Q x y
theorem two_set2 (P Q : List α) (x y : α) : ((P ++ x :: y :: Q).set (P.length + 1) x).set P.length y = P ++ y :: x :: Q := swap_set2 P [] Q x y
/-- A search by halves. -/
theorem bs {V W : Type} {step : V → (V → Option Ans) → (W → Option Ans) → Option Ans} {st : Nat → Nat → V} {fin : Nat → W} {p : Nat → Prop} [∀ t, Decidable (p t)] {lo hi : Nat} (hmono : ∀ t u, lo ≤ t → t ≤ u → u < hi → p u → p t)
    (hstep : ∀ i j c b, lo ≤ i → i < j → j ≤ hi → step (st i j) c b = if p ((i + j) / 2) then c (st ((i + j) / 2 + 1) j) else c (st i ((i + j) / 2))) (hend : ∀ i c b, lo ≤ i → i ≤ hi → step (st i i) c b = b (fin i)) :
    ∀ (n i j : Nat), j - i ≤ n → lo ≤ i → i ≤ j → j ≤ hi → (∀ t, lo ≤ t → t < i → p t) → (∀ t, j ≤ t → t < hi → ¬ p t) →
    ∃ r, i ≤ r ∧ r ≤ j ∧ (∀ t, lo ≤ t → t < r → p t) ∧ (∀ t, r ≤ t → t < hi → ¬ p t) ∧ ∀ (f : Nat) (b : W → Option Ans), n + 1 ≤ f → iter step f (st i j) b = b (fin r) := by
  intro n
  induction n with
  | zero =>
    intro i j hn h1 h2 h3 h4 h5
    have : i = j := by omega
    subst this
    refine ⟨i, by omega, by omega, h4, h5, fun f b hf => ?_⟩
    obtain ⟨f, rfl⟩ : ∃ g, f = g + 1 := ⟨f - 1, by omega⟩
    simp only [iter]
    exact hend i _ b h1 h3
  | succ n ih =>
    intro i j hn h1 h2 h3 h4 h5
    by_cases hij : i = j
    · subst hij
      refine ⟨i, by omega, by omega, h4, h5, fun f b hf => ?_⟩
      obtain ⟨f, rfl⟩ : ∃ g, f = g + 1 := ⟨f - 1, by omega⟩
      simp only [iter]
      exact hend i _ b h1 h3
    · by_cases hp : p ((i + j) / 2)
      · obtain ⟨r, r1, r2, r3, r4, r5⟩ := ih ((i + j) / 2 + 1) j (by omega) (by omega) (by omega) h3 (fun t t1 t2 => hmono t ((i + j) / 2) t1 (by omega) (by omega) hp) h5
        refine ⟨r, by omega, r2, r3, r4, fun f b hf => ?_⟩
        obtain ⟨f, rfl⟩ : ∃ g, f = g + 1 := ⟨f - 1, by omega⟩
        simp only [iter]
        rw [hstep i j _ b h1 (by omega) h3, if_pos hp]
        exact r5 f b (by omega)
      · obtain ⟨r, r1, r2, r3, r4, r5⟩ := ih i ((i + j) / 2) (by omega) h1 (by omega) (by omega) h4 (fun t t1 t2 hpt => hp (hmono _ t (by omega) t1 t2 hpt))
        refine ⟨r, r1, by omega, r3, r4, fun f b hf => ?_⟩
        obtain ⟨f, rfl⟩ : ∃ g, f = g + 1 := ⟨f - 1, by omega⟩
        simp only [iter]
        rw [hstep i j _ b h1 (by omega) h3, if_neg hp]
        exact r5 f b (by omega)
end
section
variable {fl : Nat} {bl : List (Int × (Int × (List Int)))}
theorem swap_loop : ∀ (X Y P M Q : List Int) (i a b f : Nat), X.length = Y.length → a + i = P.length → b + i = P.length + X.length + M.length → (P ++ (X ++ (M ++ (Y ++ Q)))).length ≤ 1000000 → X.length + 1 ≤ f → ∀ kk,
    iter (S_slices_swapRangeCmpFunc_int_dbb_0 fl) f ((a : Int), (b : Int), ((i + X.length : Nat) : Int), (i : Int), P ++ (X ++ (M ++ (Y ++ Q))), bl) kk = kk (P ++ (Y ++ (M ++ (X ++ Q))), bl)
  | [], [], P, M, Q, i, a, b, f, h1, h2, h3, h4, h5, kk => by
    obtain ⟨f, rfl⟩ : ∃ g, f = g + 1 := ⟨f - 1, by omega⟩
    simp only [iter, S_slices_swapRangeCmpFunc_int_dbb_0]
    rw [dec_f (by simp)]
  | x :: X, [], P, M, Q, i, a, b, f, h1, h2, h3, h4, h5, kk => by simp at h1
  | [], y :: Y, P, M, Q, i, a, b, f, h1, h2, h3, h4, h5, kk => by simp at h1
  | x :: X, y :: Y, P, M, Q, i, a, b, f, h1, h2, h3, h4, h5, kk => by
    obtain ⟨f, rfl⟩ : ∃ g, f = g + 1 := ⟨f - 1, by simp at h5; omega⟩
    simp only [List.length_cons] at h1 h3 h5
    have hdata : P ++ ((x :: X) ++ (M ++ ((y :: Y) ++ Q))) = P ++ x :: ((X ++ M) ++ y :: (Y ++ Q)) := by simp
    rw [hdata] at h4 ⊢
    have hlen := h4
    simp only [List.length_append, List.length_cons] at hlen
    have g1 : (P ++ x :: ((X ++ M) ++ y :: (Y ++ Q))).getD P.length 0 = x := get_mid _ _ _ _
    have g2 : (P ++ x :: ((X ++ M) ++ y :: (Y ++ Q))).getD (P.length + 1 + (X ++ M).length) 0 = y := get_mid2 _ _ _ _ _ _
    have g3 := swap_set P (X ++ M) (Y ++ Q) x y
    have ha : IntKind.i64.wrap ((a : Int) + (i : Int)) = ((P.length : Nat) : Int) := by rw [wrap64 (by omega) (by omega)]; omega
    have hb : IntKind.i64.wrap ((b : Int) + (i : Int)) = ((P.length + 1 + (X ++ M).length : Nat) : Int) := by rw [wrap64 (by omega) (by omega)]; simp only [List.length_append]; omega
    simp only [iter, S_slices_swapRangeCmpFunc_int_dbb_0, both_same]
    simp only [ha, hb, Int.toNat_natCast, g1, g2, g3]
    rw [dec_t (by simp only [List.length_cons]; omega), dec_t (by simp only [List.length_append, List.length_cons]; omega), dec_t (by simp only [List.length_append, List.length_cons]; omega), dec_t (by simp only [List.length_append, List.length_cons]; omega), dec_t (by simp only [List.length_set, List.length_append, List.length_cons]; omega), wrap64 (x := (i : Int) + 1) (by omega) (by omega)]
    have e := swap_loop X Y (P ++ [y]) (M ++ [x]) Q (i + 1) a b f (by omega) (by simp; omega) (by simp; omega) (by simp only [List.length_append, List.length_cons, List.length_nil]; omega) (by omega) kk
    rw [show i + 1 + X.length = i + (x :: X).length by simp only [List.length_cons]; omega] at e
    have e2 : P ++ y :: ((X ++ M) ++ x :: (Y ++ Q)) = (P ++ [y]) ++ (X ++ ((M ++ [x]) ++ (Y ++ Q))) := by simp
    have e3 : P ++ ((y :: Y) ++ (M ++ ((x :: X) ++ Q))) = (P ++ [y]) ++ (Y ++ ((M ++ [x]) ++ (X ++ Q))) := by simp
    rw [e2, e3]
    exact e
theorem swap_ok (hfl : 9223372036854775808 ≤ fl) {X Y P M Q : List Int} (h1 : X.length = Y.length) (h4 : (P ++ (X ++ (M ++ (Y ++ Q)))).length ≤ 1000000) {K} :
    F_slices_swapRangeCmpFunc_int_dbb fl (P.length : Int) ((P.length + X.length + M.length : Nat) : Int) (X.length : Int) (P ++ (X ++ (M ++ (Y ++ Q)))) bl K = K (P ++ (Y ++ (M ++ (X ++ Q))), bl) := by
  have hlen := h4
  simp only [List.length_append] at hlen
  unfold F_slices_swapRangeCmpFunc_int_dbb L_slices_swapRangeCmpFunc_int_dbb_0
  have e := swap_loop (fl := fl) (bl := bl) X Y P M Q 0 P.length (P.length + X.length + M.length) fl h1 (by omega) (by omega) h4 (by omega) fun v => match v with | (b0_0, b0_1) => K (b0_0, b0_1)
  rw [Nat.zero_add] at e
  exact e
theorem rot_loop (hfl : 9223372036854775808 ≤ fl) : ∀ (n : Nat) (X Y P Q : List Int), X.length + Y.length ≤ n → 0 < X.length → 0 < Y.length → (P ++ (X ++ (Y ++ Q))).length ≤ 1000000 →
    ∃ X1 Y1 P1 Q1 : List Int, X1.length = Y1.length ∧ P1.length + X1.length = P.length + X.length ∧ P1 ++ (Y1 ++ (X1 ++ Q1)) = P ++ (Y ++ (X ++ Q)) ∧ (P1 ++ (X1 ++ (Y1 ++ Q1))).length ≤ 1000000 ∧
      ∀ f, n + 1 ≤ f → ∀ kk, iter (S_slices_rotateCmpFunc_int_dbb_0 fl) f (((P.length + X.length : Nat) : Int), (X.length : Int), (Y.length : Int), P ++ (X ++ (Y ++ Q)), bl) kk = kk (((P.length + X.length : Nat) : Int), (X1.length : Int), P1 ++ (X1 ++ (Y1 ++ Q1)), bl)
  | 0, X, Y, P, Q, h1, h2, h3, h4 => by omega
  | n + 1, X, Y, P, Q, h1, h2, h3, h4 => by
    have hlen := h4
    simp only [List.length_append] at hlen
    by_cases hxy : X.length = Y.length
    · refine ⟨X, Y, P, Q, hxy, rfl, rfl, h4, fun f hf kk => ?_⟩
      obtain ⟨f, rfl⟩ : ∃ g, f = g + 1 := ⟨f - 1, by omega⟩
      simp only [iter, S_slices_rotateCmpFunc_int_dbb_0]
      rw [cond_f (b := (X.length : Int) != (Y.length : Int)) (by simp [hxy])]
    by_cases hgt : Y.length < X.length
    · have hX : X = X.take Y.length ++ X.drop Y.length := (List.take_append_drop _ _).symm
      generalize hX1 : X.take Y.length = X1 at hX
      generalize hX2 : X.drop Y.length = X2 at hX
      have l1 : X1.length = Y.length := by rw [← hX1, List.length_take]; omega
      have l2 : X2.length = X.length - Y.length := by rw [← hX2, List.length_drop]
      obtain ⟨A, B, P1, Q1, a1, a2, a3, a4, a5⟩ := rot_loop hfl n X2 X1 (P ++ Y) Q (by omega) (by omega) (by omega) (by simp only [List.length_append]; omega)
      refine ⟨A, B, P1, Q1, a1, by rw [a2, List.length_append]; omega, by rw [a3, hX]; simp, a4, fun f hf kk => ?_⟩
      obtain ⟨f, rfl⟩ : ∃ g, f = g + 1 := ⟨f - 1, by omega⟩
      have hs := fun K => swap_ok (K := K) (bl := bl) hfl (X := X1) (Y := Y) (P := P) (M := X2) (Q := Q) l1 (by simp only [List.length_append]; omega)
      have hd : P ++ (X ++ (Y ++ Q)) = P ++ (X1 ++ (X2 ++ (Y ++ Q))) := by rw [hX]; simp
      have ea : ((P.length : Nat) : Int) = ((P.length + X.length : Nat) : Int) - (X.length : Int) := by omega
      have eb : ((P.length + X1.length + X2.length : Nat) : Int) = ((P.length + X.length : Nat) : Int) := by omega
      simp only [iter, S_slices_rotateCmpFunc_int_dbb_0]
      rw [cond_t (b := (X.length : Int) != (Y.length : Int)) (by simp; omega), dec_t (by omega), wrap64 (x := ((P.length + X.length : Nat) : Int) - (X.length : Int)) (by omega) (by omega), wrap64 (x := (X.length : Int) - (Y.length : Int)) (by omega) (by omega), hd, ← ea]
      rw [eb, l1] at hs
      rw [hs]
      dsimp only
      have e := a5 f (by omega) kk
      rw [show ((P ++ Y).length + X2.length : Nat) = P.length + X.length by rw [List.length_append]; omega, show ((X2.length : Nat) : Int) = (X.length : Int) - (Y.length : Int) by omega, show (X1.length : Int) = (Y.length : Int) by omega, show (P ++ Y) ++ (X2 ++ (X1 ++ Q)) = P ++ (Y ++ (X2 ++ (X1 ++ Q))) by simp] at e
      exact e
    · have hY : Y = Y.take (Y.length - X.length) ++ Y.drop (Y.length - X.length) := (List.take_append_drop _ _).symm
      generalize hY1 : Y.take (Y.length - X.length) = Y1 at hY
      generalize hY2 : Y.drop (Y.length - X.length) = Y2 at hY
      have l1 : Y1.length = Y.length - X.length := by rw [← hY1, List.length_take]; omega
      have l2 : Y2.length = X.length := by rw [← hY2, List.length_drop]; omega
      obtain ⟨A, B, P1, Q1, a1, a2, a3, a4, a5⟩ := rot_loop hfl n Y2 Y1 P (X ++ Q) (by omega) (by omega) (by omega) (by simp only [List.length_append]; omega)
      refine ⟨A, B, P1, Q1, a1, by rw [a2]; omega, by rw [a3, hY]; simp, a4, fun f hf kk => ?_⟩
      obtain ⟨f, rfl⟩ : ∃ g, f = g + 1 := ⟨f - 1, by omega⟩
      have hs := fun K => swap_ok (K := K) (bl := bl) hfl (X := X) (Y := Y2) (P := P) (M := Y1) (Q := Q) (by omega) (by simp only [List.length_append]; omega)
      have hd : P ++ (X ++ (Y ++ Q)) = P ++ (X ++ (Y1 ++ (Y2 ++ Q))) := by rw [hY]; simp
      have ea : ((P.length : Nat) : Int) = ((P.length + X.length : Nat) : Int) - (X.length : Int) := by omega
      have eb : ((P.length + X.length + Y1.length : Nat) : Int) = ((P.length + X.length : Nat) : Int) + (Y.length : Int) - (X.length : Int) := by omega
      simp only [iter, S_slices_rotateCmpFunc_int_dbb_0]
      rw [cond_t (b := (X.length : Int) != (Y.length : Int)) (by simp; omega), dec_f (by omega), wrap64 (x := ((P.length + X.length : Nat) : Int) - (X.length : Int)) (by omega) (by omega), wrap64 (x := ((P.length + X.length : Nat) : Int) + (Y.length : Int)) (by omega) (by omega), wrap64 (x := ((P.length + X.length : Nat) : Int) + (Y.length : Int) - (X.length : Int)) (by omega) (by omega), wrap64 (x := (Y.length : Int) - (X.length : Int)) (by omega) (by omega), hd, ← ea]
      rw [eb] at hs
      rw [hs]
      dsimp only
      have e := a5 f (by omega) kk
      rw [show (P.length + Y2.length : Nat) = P.length + X.length by omega, show ((Y2.length : Nat) : Int) = (X.length : Int) by omega, show (Y1.length : Int) = (Y.length : Int) - (X.length : Int) by omega] at e
      exact e
theorem rot_ok (hfl : 9223372036854775808 ≤ fl) {X Y P Q : List Int} (h2 : 0 < X.length) (h3 : 0 < Y.length) (h4 : (P ++ (X ++ (Y ++ Q))).length ≤ 1000000) {K} :
    F_slices_rotateCmpFunc_int_dbb fl (P.length : Int) ((P.length + X.length : Nat) : Int) ((P.length + X.length + Y.length : Nat) : Int) (P ++ (X ++ (Y ++ Q))) bl K = K (P ++ (Y ++ (X ++ Q)), bl) := by
  have hlen := h4
  simp only [List.length_append] at hlen
  obtain ⟨X1, Y1, P1, Q1, a1, a2, a3, a4, a5⟩ := rot_loop (fl := fl) (bl := bl) hfl (X.length + Y.length) X Y P Q (Nat.le_refl _) h2 h3 h4
  unfold F_slices_rotateCmpFunc_int_dbb L_slices_rotateCmpFunc_int_dbb_0
  rw [wrap64 (x := ((P.length + X.length : Nat) : Int) - (P.length : Int)) (by omega) (by omega), wrap64 (x := ((P.length + X.length + Y.length : Nat) : Int) - ((P.length + X.length : Nat) : Int)) (by omega) (by omega), show ((P.length + X.length : Nat) : Int) - (P.length : Int) = (X.length : Int) by omega, show ((P.length + X.length + Y.length : Nat) : Int) - ((P.length + X.length : Nat) : Int) = (Y.length : Int) by omega, a5 fl (by omega)]
  dsimp only
  have hlen1 := a4
  simp only [List.length_append] at hlen1
  have hs := swap_ok (K := fun v => match v with | (y0, y1) => K (y0, y1)) (bl := bl) hfl (X := X1) (Y := Y1) (P := P1) (M := []) (Q := Q1) a1 (by simpa using a4)
  rw [wrap64 (by omega) (by omega), show ((P.length + X.length : Nat) : Int) - (X1.length : Int) = ((P1.length : Nat) : Int) by omega, ← a2]
  simp only [List.length_nil, Nat.add_zero, List.nil_append] at hs
  rw [a3] at hs
  exact hs
end
end Go.Proofs.YtmjeeaemmbkioaaGreat.Sy

set_option linter.unusedVariables false
set_option linter.unusedSimpArgs false
namespace Go.Proofs.YtmjeeaemmbkioaaGreat.Sy
open Go Ev So

section
variable {fl : Nat} {bl : List (Int × (Int × (List Int)))} {key : Int → Int} {V : Int → Prop}
/-- What a comparison tells. -/
def Cmp (fl : Nat) (bl : List (Int × (Int × (List Int)))) (key : Int → Int) (V : Int → Prop) : Prop := ∀ x y : Int, V x → V y → ∃ d : Int, (d < 0 ↔ key x < key y) ∧ (0 < d ↔ key y < key x) ∧ ∀ K : Int × (List (Int × (Int × (List Int)))) → Option Ans, F_symbol_Order_2_21d fl x y bl K = K (d, bl)
theorem ins_loop (hc : Cmp fl bl key V) {x : Int} (hx : V x) {P Q : List Int} {b i : Int} : ∀ (n : Nat) (A B : List Int), A.length = n → Srt key (A ++ B) → (∀ y ∈ B, key x < key y) → (∀ y ∈ A, V y) → (P ++ ((A ++ (x :: B)) ++ Q)).length ≤ 1000000 →
    ∃ C, Srt key C ∧ Stb key C ((A ++ B) ++ [x]) ∧ ∀ (f : Nat) kk, n + 1 ≤ f → iter (S_slices_insertionSortCmpFunc_int_dbe_2 fl) f ((P.length : Int), b, i, ((P.length + A.length : Nat) : Int), P ++ ((A ++ (x :: B)) ++ Q), bl) kk = kk ((P.length : Int), b, i, P ++ (C ++ Q), bl)
  | 0, A, B, h1, h2, h3, h4, h5 => by
    have : A = [] := List.eq_nil_of_length_eq_zero h1
    subst this
    obtain ⟨c1, c2⟩ := insert_front (key := key) (a := []) (b := B) (x := x) h2 (by simp) h3
    refine ⟨x :: B, c1, c2, fun f kk hf => ?_⟩
    obtain ⟨f, rfl⟩ : ∃ g, f = g + 1 := ⟨f - 1, by omega⟩
    simp only [iter, S_slices_insertionSortCmpFunc_int_dbe_2]
    rw [dec_f (by simp)]
    rfl
  | n + 1, A, B, h1, h2, h3, h4, h5 => by
    obtain ⟨A', y, rfl⟩ : ∃ A' y, A = A' ++ [y] := by
      refine ⟨A.dropLast, A.getLast (by intro h; rw [h] at h1; simp at h1), ?_⟩
      exact (List.dropLast_concat_getLast _).symm
    have hy : V y := h4 y (by simp)
    have hlen := h5
    simp only [List.length_append, List.length_cons, List.length_nil] at hlen h1
    have hd : P ++ (((A' ++ [y]) ++ (x :: B)) ++ Q) = (P ++ A') ++ y :: x :: (B ++ Q) := by simp
    have lp : (P ++ A').length = P.length + A'.length := List.length_append
    have g1 : ((P ++ A') ++ y :: x :: (B ++ Q)).getD (P.length + A'.length) 0 = y := by rw [← lp]; exact get_mid _ _ _ _
    have g2 : ((P ++ A') ++ y :: x :: (B ++ Q)).getD (P.length + A'.length + 1) 0 = x := by rw [← lp]; exact two_get _ _ _ _ _
    have g3 : (((P ++ A') ++ y :: x :: (B ++ Q)).set (P.length + A'.length + 1) y).set (P.length + A'.length) x = (P ++ A') ++ x :: y :: (B ++ Q) := by rw [← lp]; exact two_set2 _ _ _ _
    have ej : ((P.length + (A' ++ [y]).length : Nat) : Int) = ((P.length + A'.length + 1 : Nat) : Int) := by rw [List.length_append]; simp only [List.length_cons, List.length_nil]; omega
    have ej1 : IntKind.i64.wrap (((P.length + A'.length + 1 : Nat) : Int) - 1) = ((P.length + A'.length : Nat) : Int) := by rw [wrap64 (by omega) (by omega)]; omega
    have hstep : ∀ c kk, S_slices_insertionSortCmpFunc_int_dbe_2 fl ((P.length : Int), b, i, ((P.length + (A' ++ [y]).length : Nat) : Int), P ++ (((A' ++ [y]) ++ (x :: B)) ++ Q), bl) c kk = if key x < key y then c ((P.length : Int), b, i, ((P.length + A'.length : Nat) : Int), (P ++ A') ++ x :: y :: (B ++ Q), bl) else kk ((P.length : Int), b, i, P ++ (((A' ++ [y]) ++ (x :: B)) ++ Q), bl) := by
      intro c kk
      rw [hd, ej]
      obtain ⟨d, d1, d2, d3⟩ := hc x y hx hy
      simp only [S_slices_insertionSortCmpFunc_int_dbe_2, both_same, ej1, Int.toNat_natCast, g1, g2, g3]
      rw [dec_t (by omega), dec_t (by simp only [List.length_append, List.length_cons]; omega), dec_t (by simp only [List.length_append, List.length_cons]; omega), d3]
      dsimp only
      by_cases hlt : key x < key y
      · rw [if_pos hlt, dec_t (by omega), dec_t (by simp only [List.length_append, List.length_cons]; omega), dec_t (by simp only [List.length_append, List.length_cons]; omega), dec_t (by simp only [List.length_append, List.length_cons]; omega), dec_t (by simp only [List.length_set, List.length_append, List.length_cons]; omega)]
      · rw [if_neg hlt, dec_f (by omega)]
    by_cases hlt : key x < key y
    · have h2' : Srt key (A' ++ (y :: B)) := by simpa using h2
      obtain ⟨C, c1, c2, c3⟩ := ins_loop hc hx (P := P) (Q := Q) (b := b) (i := i) n A' (y :: B) (by omega) h2' (fun z hz => by
        rcases List.mem_cons.1 hz with rfl | hz
        · exact hlt
        · exact h3 z hz) (fun z hz => h4 z (by simp [hz])) (by simp only [List.length_append, List.length_cons]; omega)
      refine ⟨C, c1, by simpa using c2, fun f kk hf => ?_⟩
      obtain ⟨f, rfl⟩ : ∃ g, f = g + 1 := ⟨f - 1, by omega⟩
      simp only [iter]
      rw [hstep, if_pos hlt]
      have := c3 f kk (by omega)
      rw [show P ++ ((A' ++ (x :: y :: B)) ++ Q) = (P ++ A') ++ x :: y :: (B ++ Q) by simp] at this
      exact this
    · obtain ⟨p1, p2, p3⟩ := srt_app.1 h2
      obtain ⟨q1, q2, q3⟩ := srt_app.1 p1
      obtain ⟨c1, c2⟩ := insert_front (key := key) (a := A' ++ [y]) (b := B) (x := x) h2 (fun z hz => by
        rcases List.mem_append.1 hz with hz | hz
        · have := q3 z hz y (by simp)
          omega
        · rw [List.mem_singleton] at hz
          subst hz
          omega) h3
      refine ⟨_, c1, c2, fun f kk hf => ?_⟩
      obtain ⟨f, rfl⟩ : ∃ g, f = g + 1 := ⟨f - 1, by omega⟩
      simp only [iter]
      rw [hstep, if_neg hlt]
theorem isort_loop (hfl : 9223372036854775808 ≤ fl) (hc : Cmp fl bl key V) {P Q : List Int} : ∀ (R C : List Int), Srt key C → (∀ y ∈ C, V y) → (∀ y ∈ R, V y) → (P ++ (C ++ (R ++ Q))).length ≤ 1000000 →
    ∃ D, Srt key D ∧ Stb key D (C ++ R) ∧ ∀ (f : Nat) kk, R.length + 1 ≤ f → iter (S_slices_insertionSortCmpFunc_int_dbe_0 fl) f ((P.length : Int), ((P.length + C.length + R.length : Nat) : Int), ((P.length + C.length : Nat) : Int), P ++ (C ++ (R ++ Q)), bl) kk = kk (P ++ (D ++ Q), bl)
  | [], C, h1, h2, h3, h4 => by
    refine ⟨C, h1, by rw [List.append_nil]; exact Stb.refl _, fun f kk hf => ?_⟩
    obtain ⟨f, rfl⟩ : ∃ g, f = g + 1 := ⟨f - 1, by omega⟩
    simp only [iter, S_slices_insertionSortCmpFunc_int_dbe_0]
    rw [dec_f (by simp)]
    rfl
  | x :: R, C, h1, h2, h3, h4 => by
    have hlen := h4
    simp only [List.length_append, List.length_cons] at hlen
    obtain ⟨C', c1, c2, c3⟩ := ins_loop hc (h3 x (by simp)) (P := P) (Q := R ++ Q) (b := ((P.length + C.length + (x :: R).length : Nat) : Int)) (i := ((P.length + C.length : Nat) : Int)) C.length C [] rfl (by rw [List.append_nil]; exact h1) (by simp) h2 (by simp only [List.length_append, List.length_cons, List.length_nil]; omega)
    rw [List.append_nil] at c2
    have lc : C'.length = C.length + 1 := by rw [c2.len]; simp
    have hV : ∀ y ∈ C', V y := fun y hy => by
      rcases List.mem_append.1 (c2.1.mem_iff.1 hy) with hy | hy
      · exact h2 y hy
      · rw [List.mem_singleton] at hy
        subst hy
        exact h3 _ (by simp)
    obtain ⟨D, d1, d2, d3⟩ := isort_loop hfl hc (P := P) (Q := Q) R C' c1 hV (fun y hy => h3 y (by simp [hy])) (by simp only [List.length_append]; omega)
    refine ⟨D, d1, d2.trans ?_, fun f kk hf => ?_⟩
    · have := c2.app (Stb.refl R)
      simpa using this
    · obtain ⟨f, rfl⟩ : ∃ g, f = g + 1 := ⟨f - 1, by simp at hf; omega⟩
      simp only [iter, S_slices_insertionSortCmpFunc_int_dbe_0]
      rw [dec_t (by simp only [List.length_cons]; omega)]
      unfold L_slices_insertionSortCmpFunc_int_dbe_2
      have e1 : P ++ (C ++ ((x :: R) ++ Q)) = P ++ ((C ++ [x]) ++ (R ++ Q)) := by simp
      rw [e1, c3 fl _ (by omega)]
      dsimp only
      have := d3 f kk (by simp at hf; omega)
      rw [wrap64 (x := ((P.length + C.length : Nat) : Int) + 1) (by omega) (by omega), show ((P.length + C.length : Nat) : Int) + 1 = ((P.length + C'.length : Nat) : Int) by omega, show P.length + C.length + (x :: R).length = P.length + C'.length + R.length by simp only [List.length_cons]; omega]
      exact this
/-- A part is sorted, element by element. -/
theorem isort (hfl : 9223372036854775808 ≤ fl) (hc : Cmp fl bl key V) {P A Q : List Int} (hV : ∀ y ∈ A, V y) (hl : (P ++ (A ++ Q)).length ≤ 1000000) :
    ∃ D, Srt key D ∧ Stb key D A ∧ ∀ K, F_slices_insertionSortCmpFunc_int_dbe fl (P.length : Int) ((P.length + A.length : Nat) : Int) (P ++ (A ++ Q)) bl K = K (P ++ (D ++ Q), bl) := by
  unfold F_slices_insertionSortCmpFunc_int_dbe L_slices_insertionSortCmpFunc_int_dbe_0
  have hlen := hl
  simp only [List.length_append] at hlen
  cases A with
  | nil =>
    refine ⟨[], List.Pairwise.nil, Stb.refl _, fun K => ?_⟩
    obtain ⟨f, hf⟩ : ∃ g, fl = g + 1 := ⟨fl - 1, by omega⟩
    conv => lhs; arg 2; rw [hf]
    simp only [iter, S_slices_insertionSortCmpFunc_int_dbe_0]
    rw [wrap64 (by omega) (by omega), dec_f (by simp; omega)]
  | cons x R =>
    obtain ⟨D, d1, d2, d3⟩ := isort_loop hfl hc (P := P) (Q := Q) R [x] (srt_single x) (fun y hy => by rw [List.mem_singleton] at hy; subst hy; exact hV _ (by simp)) (fun y hy => hV y (by simp [hy])) (by simp only [List.length_append, List.length_cons, List.length_nil] at hlen ⊢; omega)
    refine ⟨D, d1, d2, fun K => ?_⟩
    simp only [List.length_cons] at hlen ⊢
    rw [wrap64 (x := (P.length : Int) + 1) (by omega) (by omega)]
    have := d3 fl (fun v => match v with | (b0, b1) => K (b0, b1)) (by omega)
    rw [show ((P.length + [x].length : Nat) : Int) = (P.length : Int) + 1 by simp, show P.length + [x].length + R.length = P.length + (R.length + 1) by simp; omega] at this
    exact this

/-! ### Merging -/
/-- x goes behind so many. -/
theorem fwd_loop {x : Int} : ∀ (Y : List Int) (P R : List Int) (e f : Nat), e = P.length + Y.length + 1 → (P ++ x :: (Y ++ R)).length ≤ 1000000 → Y.length + 1 ≤ f → ∀ kk, iter (S_slices_symMergeCmpFunc_int_dbb_2 fl) f ((e : Int), (P.length : Int), P ++ x :: (Y ++ R), bl) kk = kk (P ++ (Y ++ x :: R), bl)
  | [], P, R, e, f, h1, h2, h3, kk => by
    obtain ⟨f, rfl⟩ : ∃ g, f = g + 1 := ⟨f - 1, by omega⟩
    simp only [List.length_append, List.length_cons, List.length_nil] at h1 h2
    simp only [iter, S_slices_symMergeCmpFunc_int_dbb_2]
    rw [wrap64 (by omega) (by omega), dec_f (by omega)]
    rfl
  | y :: Y, P, R, e, f, h1, h2, h3, kk => by
    obtain ⟨f, rfl⟩ : ∃ g, f = g + 1 := ⟨f - 1, by omega⟩
    have hlen := h2
    simp only [List.length_append, List.length_cons] at hlen h1 h3
    have hd : P ++ x :: ((y :: Y) ++ R) = P ++ x :: y :: (Y ++ R) := by simp
    have g1 : (P ++ x :: y :: (Y ++ R)).getD P.length 0 = x := get_mid _ _ _ _
    have g2 : (P ++ x :: y :: (Y ++ R)).getD (P.length + 1) 0 = y := two_get _ _ _ _ _
    have g3 : ((P ++ x :: y :: (Y ++ R)).set P.length y).set (P.length + 1) x = P ++ y :: x :: (Y ++ R) := two_set _ _ _ _
    have e1 : IntKind.i64.wrap ((P.length : Int) + 1) = ((P.length + 1 : Nat) : Int) := by rw [wrap64 (by omega) (by omega)]; omega
    rw [hd]
    simp only [iter, S_slices_symMergeCmpFunc_int_dbb_2, both_same, e1, Int.toNat_natCast, g1, g2, g3]
    rw [wrap64 (x := (e : Int) - 1) (by omega) (by omega), dec_t (by omega), dec_t (by simp only [List.length_append, List.length_cons]; omega), dec_t (by simp only [List.length_append, List.length_cons]; omega), dec_t (by simp only [List.length_append, List.length_cons]; omega), dec_t (by simp only [List.length_set, List.length_append, List.length_cons]; omega)]
    have := fwd_loop (x := x) Y (P ++ [y]) R e f (by simp; omega) (by simp only [List.length_append, List.length_cons, List.length_nil]; omega) (by omega) kk
    rw [show ((P ++ [y]).length : Nat) = P.length + 1 by simp] at this
    simpa using this
/-- x goes in front of so many. -/
theorem bwd_loop {x : Int} : ∀ (n : Nat) (Z P R : List Int) (f : Nat), Z.length = n → (P ++ (Z ++ x :: R)).length ≤ 1000000 → n + 1 ≤ f → ∀ kk, iter (S_slices_symMergeCmpFunc_int_dbb_6 fl) f ((P.length : Int), ((P.length + Z.length : Nat) : Int), P ++ (Z ++ x :: R), bl) kk = kk (P ++ (x :: (Z ++ R)), bl)
  | 0, Z, P, R, f, h1, h2, h3, kk => by
    have : Z = [] := List.eq_nil_of_length_eq_zero h1
    subst this
    obtain ⟨f, rfl⟩ : ∃ g, f = g + 1 := ⟨f - 1, by omega⟩
    simp only [iter, S_slices_symMergeCmpFunc_int_dbb_6]
    rw [dec_f (by simp)]
    rfl
  | n + 1, Z, P, R, f, h1, h2, h3, kk => by
    obtain ⟨Z', y, rfl⟩ : ∃ A' y, Z = A' ++ [y] := by
      refine ⟨Z.dropLast, Z.getLast (by intro h; rw [h] at h1; simp at h1), ?_⟩
      exact (List.dropLast_concat_getLast _).symm
    obtain ⟨f, rfl⟩ : ∃ g, f = g + 1 := ⟨f - 1, by omega⟩
    have hlen := h2
    simp only [List.length_append, List.length_cons, List.length_nil] at hlen h1
    have hd : P ++ ((Z' ++ [y]) ++ x :: R) = (P ++ Z') ++ y :: x :: R := by simp
    have lp : (P ++ Z').length = P.length + Z'.length := List.length_append
    have g1 : ((P ++ Z') ++ y :: x :: R).getD (P.length + Z'.length) 0 = y := by rw [← lp]; exact get_mid _ _ _ _
    have g2 : ((P ++ Z') ++ y :: x :: R).getD (P.length + Z'.length + 1) 0 = x := by rw [← lp]; exact two_get _ _ _ _ _
    have g3 : (((P ++ Z') ++ y :: x :: R).set (P.length + Z'.length + 1) y).set (P.length + Z'.length) x = (P ++ Z') ++ x :: y :: R := by rw [← lp]; exact two_set2 _ _ _ _
    have ej : ((P.length + (Z' ++ [y]).length : Nat) : Int) = ((P.length + Z'.length + 1 : Nat) : Int) := by rw [List.length_append]; simp only [List.length_cons, List.length_nil]; omega
    have ej1 : IntKind.i64.wrap (((P.length + Z'.length + 1 : Nat) : Int) - 1) = ((P.length + Z'.length : Nat) : Int) := by rw [wrap64 (by omega) (by omega)]; omega
    rw [hd, ej]
    simp only [iter, S_slices_symMergeCmpFunc_int_dbb_6, both_same, ej1, Int.toNat_natCast, g1, g2, g3]
    rw [dec_t (by omega), dec_t (by simp only [List.length_append, List.length_cons]; omega), dec_t (by simp only [List.length_append, List.length_cons]; omega), dec_t (by simp only [List.length_append, List.length_cons]; omega), dec_t (by simp only [List.length_set, List.length_append, List.length_cons]; omega)]
    have := bwd_loop (x := x) n Z' P (y :: R) f (by omega) (by simp only [List.length_append, List.length_cons]; omega) (by omega) kk
    rw [show P ++ (Z' ++ x :: y :: R) = (P ++ Z') ++ x :: y :: R by simp] at this
    rw [this]
    simp
end
end Go.Proofs.YtmjeeaemmbkioaaGreat.Sy

set_option linter.unusedVariables false
set_option linter.unusedSimpArgs false
namespace Go.Proofs.YtmjeeaemmbkioaaGreat.Sy
open Go Ev So

theorem app_get {α : Type} {A B : List α} {i : Nat} (d : α) : (A ++ B).getD i d = if i < A.length then A.getD i d else B.getD (i - A.length) d := by
  split
  · rw [getD_lt (by simp; omega), getD_lt (by assumption), List.getElem_append_left]
  · rename_i h
    by_cases h2 : i - A.length < B.length
    · rw [getD_lt (by simp; omega), getD_lt h2, List.getElem_append_right (by omega)]
    · rw [List.getD_eq_getElem?_getD, List.getD_eq_getElem?_getD, List.getElem?_eq_none (by simp; omega), List.getElem?_eq_none (by omega)]
theorem getD_memD {α : Type} {l : List α} {i : Nat} (h : i < l.length) (d : α) : l.getD i d ∈ l := getD_mem h d
theorem mem_getD {α : Type} {l : List α} {x : α} (d : α) (h : x ∈ l) : ∃ i, i < l.length ∧ l.getD i d = x := by
  obtain ⟨i, hi, e⟩ := List.mem_iff_getElem.1 h
  exact ⟨i, hi, by rw [getD_lt hi, e]⟩
theorem take_getD {α : Type} {l : List α} {n i : Nat} (h : i < n) (d : α) : (l.take n).getD i d = l.getD i d := by
  rw [List.getD_eq_getElem?_getD, List.getD_eq_getElem?_getD, List.getElem?_take, if_pos h]
theorem drop_getD {α : Type} {l : List α} {n i : Nat} (d : α) : (l.drop n).getD i d = l.getD (n + i) d := by
  rw [List.getD_eq_getElem?_getD, List.getD_eq_getElem?_getD, List.getElem?_drop]
section
variable {fl : Nat} {bl : List (Int × (Int × (List Int)))} {key : Int → Int} {V : Int → Prop}
/-- What is asked of a merge that may go n deep. -/
def MergeOk (fl : Nat) (bl : List (Int × (Int × (List Int)))) (key : Int → Int) (V : Int → Prop) (F : (Int → Int → Int → List Int → List (Int × (Int × (List Int))) → (List Int × (List (Int × (Int × (List Int)))) → Option Ans) → Option Ans)) (n : Nat) : Prop := ∀ (P A B Q : List Int), 0 < A.length → 0 < B.length → A.length + B.length ≤ n → Srt key A → Srt key B → (∀ y ∈ A, V y) → (∀ y ∈ B, V y) → (P ++ (A ++ (B ++ Q))).length ≤ 1000000 →
  ∃ C, Srt key C ∧ Stb key C (A ++ B) ∧ ∀ K, F (P.length : Int) ((P.length + A.length : Nat) : Int) ((P.length + A.length + B.length : Nat) : Int) (P ++ (A ++ (B ++ Q))) bl K = K (P ++ (C ++ Q), bl)
/-- As MergeOk, but for empty runs, where nothing is called. -/
theorem merge_if {F : (Int → Int → Int → List Int → List (Int × (Int × (List Int))) → (List Int × (List (Int × (Int × (List Int)))) → Option Ans) → Option Ans)} {n : Nat} (hF : MergeOk fl bl key V F n) {P A B Q : List Int} (hn : A.length + B.length ≤ n) (hA : Srt key A) (hB : Srt key B) (vA : ∀ y ∈ A, V y) (vB : ∀ y ∈ B, V y) (hl : (P ++ (A ++ (B ++ Q))).length ≤ 1000000) :
    ∃ C, Srt key C ∧ Stb key C (A ++ B) ∧ ∀ K : List Int × (List (Int × (Int × (List Int)))) → Option Ans, (if 0 < A.length ∧ 0 < B.length then F (P.length : Int) ((P.length + A.length : Nat) : Int) ((P.length + A.length + B.length : Nat) : Int) (P ++ (A ++ (B ++ Q))) bl K else K (P ++ (A ++ (B ++ Q)), bl)) = K (P ++ (C ++ Q), bl) := by
  by_cases h : 0 < A.length ∧ 0 < B.length
  · obtain ⟨C, c1, c2, c3⟩ := hF P A B Q h.1 h.2 hn hA hB vA vB hl
    exact ⟨C, c1, c2, fun K => by rw [if_pos h]; exact c3 K⟩
  · refine ⟨A ++ B, ?_, Stb.refl _, fun K => by rw [if_neg h, List.append_assoc]⟩
    rcases Nat.eq_zero_or_pos A.length with h0 | h0
    · have : A = [] := List.eq_nil_of_length_eq_zero h0
      subst this
      exact hB
    · have : B = [] := List.eq_nil_of_length_eq_zero (by omega)
      subst this
      rw [List.append_nil]
      exact hA
theorem one_left (hfl : 9223372036854775808 ≤ fl) (hc : Cmp fl bl key V) {x : Int} (hx : V x) {P B Q : List Int} (hB : Srt key B) (vB : ∀ y ∈ B, V y) (hl : (P ++ (x :: (B ++ Q))).length ≤ 1000000) {F : (Int → Int → Int → List Int → List (Int × (Int × (List Int))) → (List Int × (List (Int × (Int × (List Int)))) → Option Ans) → Option Ans)} :
    ∃ C, Srt key C ∧ Stb key C ([x] ++ B) ∧ ∀ K, Fb_slices_symMergeCmpFunc_int_dbb F fl (P.length : Int) ((P.length + 1 : Nat) : Int) ((P.length + 1 + B.length : Nat) : Int) (P ++ (x :: (B ++ Q))) bl K = K (P ++ (C ++ Q), bl) := by
  have hlen := hl
  simp only [List.length_append, List.length_cons] at hlen
  have gx : (P ++ (x :: (B ++ Q))).getD P.length 0 = x := get_mid _ _ _ _
  have gb : ∀ t, P.length + 1 ≤ t → t < P.length + 1 + B.length → (P ++ (x :: (B ++ Q))).getD t 0 = B.getD (t - (P.length + 1)) 0 := fun t h1 h2 => by
    have : P ++ (x :: (B ++ Q)) = (P ++ [x]) ++ (B ++ Q) := by simp
    rw [this, app_get, if_neg (by simp; omega), app_get, if_pos (by simp; omega)]
    simp
  have lp : P.length + 1 = (P ++ [x]).length := by simp
  obtain ⟨r, r1, r2, r3, r4, r5⟩ := bs (step := S_slices_symMergeCmpFunc_int_dbb_0 fl) (st := fun i j => ((P.length : Int), (i : Int), (j : Int), P ++ (x :: (B ++ Q)), bl)) (fin := fun r => ((P.length : Int), (r : Int), P ++ (x :: (B ++ Q)), bl)) (p := fun t => key (B.getD (t - (P.length + 1)) 0) < key x) (lo := P.length + 1) (hi := P.length + 1 + B.length)
    (fun t u h1 h2 h3 hp => by
      have := srt_get hB 0 (i := t - (P.length + 1)) (j := u - (P.length + 1)) (by omega) (by omega)
      omega)
    (fun i j c b h1 h2 h3 => by
      have hh := half_ok (i := i) (j := j) (by omega)
      have hm : (i + j) / 2 < P.length + 1 + B.length := by omega
      have hm2 : P.length + 1 ≤ (i + j) / 2 := by omega
      have vm : V (B.getD ((i + j) / 2 - (P.length + 1)) 0) := vB _ (getD_memD (by omega) 0)
      have hg := gb ((i + j) / 2) hm2 hm
      obtain ⟨d, d1, d2, d3⟩ := hc _ _ vm hx
      simp only [S_slices_symMergeCmpFunc_int_dbb_0, both_same, hh, Int.toNat_natCast, gx, hg]
      rw [dec_t (by omega), dec_t (by simp only [List.length_append, List.length_cons]; omega), dec_t (by simp only [List.length_append, List.length_cons]; omega), d3]
      dsimp only
      by_cases hlt : key (B.getD ((i + j) / 2 - (P.length + 1)) 0) < key x
      · rw [if_pos hlt, dec_t (by omega), wrap64 (by omega) (by omega)]
        rfl
      · rw [if_neg hlt, dec_f (by omega)])
    (fun i c b h1 h2 => by
      simp only [S_slices_symMergeCmpFunc_int_dbb_0]
      rw [dec_f (by omega)])
    B.length (P.length + 1) (P.length + 1 + B.length) (by omega) (by omega) (by omega) (by omega) (by omega) (by omega)
  have hsp : B = B.take (r - (P.length + 1)) ++ B.drop (r - (P.length + 1)) := (List.take_append_drop _ _).symm
  generalize hB1 : B.take (r - (P.length + 1)) = B1 at hsp
  generalize hB2 : B.drop (r - (P.length + 1)) = B2 at hsp
  have l1 : B1.length = r - (P.length + 1) := by rw [← hB1, List.length_take]; omega
  obtain ⟨c1, c2⟩ := insert_back (key := key) (a := B1) (b := B2) (x := x) (by rw [← hsp]; exact hB) (fun y hy => by
    obtain ⟨i, hi, rfl⟩ := mem_getD 0 hy
    have := r3 (P.length + 1 + i) (by omega) (by omega)
    rw [← hB1, take_getD (by omega)]
    simpa [show P.length + 1 + i - (P.length + 1) = i by omega] using this) (fun y hy => by
    obtain ⟨i, hi, rfl⟩ := mem_getD 0 hy
    have hl2 : B2.length = B.length - (r - (P.length + 1)) := by rw [← hB2, List.length_drop]
    have := r4 (r + i) (by omega) (by omega)
    rw [← hB2, drop_getD]
    rw [show r + i - (P.length + 1) = r - (P.length + 1) + i by omega] at this
    omega)
  refine ⟨B1 ++ (x :: B2), c1, by rw [hsp]; exact c2, fun K => ?_⟩
  unfold Fb_slices_symMergeCmpFunc_int_dbb L_slices_symMergeCmpFunc_int_dbb_0
  rw [wrap64 (x := ((P.length + 1 : Nat) : Int) - (P.length : Int)) (by omega) (by omega), cond_t (by simp; omega)]
  have hr := r5 fl (fun v => match v with | (b0_0, b0_1, b0_2, b0_3) => (L_slices_symMergeCmpFunc_int_dbb_2 fl (b0_1, b0_0, b0_2, b0_3) (fun (b2_0, b2_1) => K (b2_0, b2_1)))) (by omega)
  refine Eq.trans hr ?_
  dsimp only
  unfold L_slices_symMergeCmpFunc_int_dbb_2
  have e1 : P ++ (x :: (B ++ Q)) = P ++ x :: (B1 ++ (B2 ++ Q)) := by rw [hsp]; simp
  rw [e1, fwd_loop B1 P (B2 ++ Q) r fl (by omega) (by rw [← e1]; exact hl) (by omega)]
  simp
theorem one_right (hfl : 9223372036854775808 ≤ fl) (hc : Cmp fl bl key V) {x : Int} (hx : V x) {P A Q : List Int} (hA1 : 2 ≤ A.length) (hA : Srt key A) (vA : ∀ y ∈ A, V y) (hl : (P ++ (A ++ (x :: Q))).length ≤ 1000000) {F : (Int → Int → Int → List Int → List (Int × (Int × (List Int))) → (List Int × (List (Int × (Int × (List Int)))) → Option Ans) → Option Ans)} :
    ∃ C, Srt key C ∧ Stb key C (A ++ [x]) ∧ ∀ K, Fb_slices_symMergeCmpFunc_int_dbb F fl (P.length : Int) ((P.length + A.length : Nat) : Int) ((P.length + A.length + 1 : Nat) : Int) (P ++ (A ++ (x :: Q))) bl K = K (P ++ (C ++ Q), bl) := by
  have hlen := hl
  simp only [List.length_append, List.length_cons] at hlen
  have gx : (P ++ (A ++ (x :: Q))).getD (P.length + A.length) 0 = x := by
    have : P ++ (A ++ (x :: Q)) = (P ++ A) ++ x :: Q := by simp
    rw [this, show P.length + A.length = (P ++ A).length by simp]
    exact get_mid _ _ _ _
  have ga : ∀ t, P.length ≤ t → t < P.length + A.length → (P ++ (A ++ (x :: Q))).getD t 0 = A.getD (t - P.length) 0 := fun t h1 h2 => by
    rw [app_get, if_neg (by omega), app_get, if_pos (by omega)]
  obtain ⟨r, r1, r2, r3, r4, r5⟩ := bs (step := S_slices_symMergeCmpFunc_int_dbb_4 fl) (st := fun i j => (((P.length + A.length : Nat) : Int), (i : Int), (j : Int), P ++ (A ++ (x :: Q)), bl)) (fin := fun r => (((P.length + A.length : Nat) : Int), (r : Int), P ++ (A ++ (x :: Q)), bl)) (p := fun t => key (A.getD (t - P.length) 0) ≤ key x) (lo := P.length) (hi := P.length + A.length)
    (fun t u h1 h2 h3 hp => by
      have := srt_get hA 0 (i := t - P.length) (j := u - P.length) (by omega) (by omega)
      omega)
    (fun i j c b h1 h2 h3 => by
      have hh := half_ok (i := i) (j := j) (by omega)
      have hm : (i + j) / 2 < P.length + A.length := by omega
      have hm2 : P.length ≤ (i + j) / 2 := by omega
      have vm : V (A.getD ((i + j) / 2 - P.length) 0) := vA _ (getD_memD (by omega) 0)
      have hg := ga ((i + j) / 2) hm2 hm
      obtain ⟨d, d1, d2, d3⟩ := hc _ _ hx vm
      simp only [S_slices_symMergeCmpFunc_int_dbb_4, both_same, hh, Int.toNat_natCast, gx, hg]
      rw [dec_t (by omega), dec_t (by simp only [List.length_append, List.length_cons]; omega), dec_t (by simp only [List.length_append, List.length_cons]; omega), d3]
      dsimp only
      by_cases hlt : key (A.getD ((i + j) / 2 - P.length) 0) ≤ key x
      · rw [if_pos hlt, decide_eq_false (by omega), cond_t (b := !false) rfl, wrap64 (by omega) (by omega)]
        rfl
      · rw [if_neg hlt, decide_eq_true (by omega), cond_f (b := !true) rfl])
    (fun i c b h1 h2 => by
      simp only [S_slices_symMergeCmpFunc_int_dbb_4]
      rw [dec_f (by omega)])
    A.length P.length (P.length + A.length) (by omega) (by omega) (by omega) (by omega) (by omega) (by omega)
  have hsp : A = A.take (r - P.length) ++ A.drop (r - P.length) := (List.take_append_drop _ _).symm
  generalize hA1' : A.take (r - P.length) = A1 at hsp
  generalize hA2' : A.drop (r - P.length) = A2 at hsp
  have l1 : A1.length = r - P.length := by rw [← hA1', List.length_take]; omega
  have l2 : A2.length = A.length - (r - P.length) := by rw [← hA2', List.length_drop]
  obtain ⟨c1, c2⟩ := insert_front (key := key) (a := A1) (b := A2) (x := x) (by rw [← hsp]; exact hA) (fun y hy => by
    obtain ⟨i, hi, rfl⟩ := mem_getD 0 hy
    have := r3 (P.length + i) (by omega) (by omega)
    rw [← hA1', take_getD (by omega)]
    simpa [show P.length + i - P.length = i by omega] using this) (fun y hy => by
    obtain ⟨i, hi, rfl⟩ := mem_getD 0 hy
    have := r4 (r + i) (by omega) (by omega)
    rw [← hA2', drop_getD]
    rw [show r + i - P.length = r - P.length + i by omega] at this
    omega)
  refine ⟨A1 ++ (x :: A2), c1, by rw [hsp]; exact c2, fun K => ?_⟩
  unfold Fb_slices_symMergeCmpFunc_int_dbb L_slices_symMergeCmpFunc_int_dbb_4
  rw [wrap64 (x := ((P.length + A.length : Nat) : Int) - (P.length : Int)) (by omega) (by omega), cond_f (by simp; omega), wrap64 (x := ((P.length + A.length + 1 : Nat) : Int) - ((P.length + A.length : Nat) : Int)) (by omega) (by omega), cond_t (by simp; omega)]
  have hr := r5 fl (fun v => match v with | (b4_0, b4_1, b4_2, b4_3) => (L_slices_symMergeCmpFunc_int_dbb_6 fl (b4_1, b4_0, b4_2, b4_3) (fun (b6_0, b6_1) => K (b6_0, b6_1)))) (by omega)
  refine Eq.trans hr ?_
  dsimp only
  unfold L_slices_symMergeCmpFunc_int_dbb_6
  have e1 : P ++ (A ++ (x :: Q)) = (P ++ A1) ++ (A2 ++ x :: Q) := by rw [hsp]; simp
  have hb := bwd_loop (fl := fl) (bl := bl) (x := x) A2.length A2 (P ++ A1) Q fl rfl (by rw [← e1]; exact hl) (by omega) (fun v => match v with | (b6_0, b6_1) => K (b6_0, b6_1))
  have lp : (P ++ A1).length = r := by rw [List.length_append]; omega
  rw [lp, show r + A2.length = P.length + A.length by omega] at hb
  rw [e1]
  refine Eq.trans hb ?_
  simp
end
end Go.Proofs.YtmjeeaemmbkioaaGreat.Sy

set_option linter.unusedVariables false
set_option linter.unusedSimpArgs false
namespace Go.Proofs.YtmjeeaemmbkioaaGreat.Sy
open Go Ev So

theorem cdi {p : Prop} [Decidable p] {α : Sort _} {x y : α} : (bif decide p then x else y) = if p then x else y := by
  by_cases h : p
  · rw [if_pos h, decide_eq_true h]; rfl
  · rw [if_neg h, decide_eq_false h]; rfl
section
variable {fl : Nat} {bl : List (Int × (Int × (List Int)))} {key : Int → Int} {V : Int → Prop}
/-- What stands behind the search: the runs change places, and each half is merged. -/
noncomputable def SF (F : (Int → Int → Int → List Int → List (Int × (Int × (List Int))) → (List Int × (List (Int × (Int × (List Int)))) → Option Ans) → Option Ans)) (fl : Nat) (a st m mid e b : Nat) (D : List Int) (bl : List (Int × (Int × (List Int)))) (K : List Int × (List (Int × (Int × (List Int)))) → Option Ans) : Option Ans :=
  if st < m ∧ m < e then
    F_slices_rotateCmpFunc_int_dbb fl (st : Int) (m : Int) (e : Int) D bl (fun (w0, w1) =>
      if a < st ∧ st < mid then F (a : Int) (st : Int) (mid : Int) w0 w1 (fun (y0, y1) => if mid < e ∧ e < b then F (mid : Int) (e : Int) (b : Int) y0 y1 (fun (z0, z1) => K (z0, z1)) else K (y0, y1))
      else if mid < e ∧ e < b then F (mid : Int) (e : Int) (b : Int) w0 w1 (fun (z0, z1) => K (z0, z1)) else K (w0, w1))
  else
    if a < st ∧ st < mid then F (a : Int) (st : Int) (mid : Int) D bl (fun (y0, y1) => if mid < e ∧ e < b then F (mid : Int) (e : Int) (b : Int) y0 y1 (fun (z0, z1) => K (z0, z1)) else K (y0, y1))
    else if mid < e ∧ e < b then F (mid : Int) (e : Int) (b : Int) D bl (fun (z0, z1) => K (z0, z1)) else K (D, bl)
theorem tail_ok (hfl : 9223372036854775808 ≤ fl) {F : (Int → Int → Int → List Int → List (Int × (Int × (List Int))) → (List Int × (List (Int × (Int × (List Int)))) → Option Ans) → Option Ans)} {n : Nat} (hF : MergeOk fl bl key V F n) {P A B Q : List Int} {st mid e lo hi : Nat} (hA : Srt key A) (hB : Srt key B) (vA : ∀ y ∈ A, V y) (vB : ∀ y ∈ B, V y) (hl : (P ++ (A ++ (B ++ Q))).length ≤ 1000000)
    (k1 : P.length ≤ st) (k2 : st ≤ P.length + A.length) (k3 : st ≤ mid) (k4 : e + st = mid + P.length + A.length) (k5 : e ≤ P.length + A.length + B.length) (k6 : mid - P.length ≤ n) (k7 : P.length + A.length + B.length - mid ≤ n) (k8 : mid ≤ P.length + A.length + B.length)
    (k9 : lo = P.length ∨ lo + B.length = mid) (k10 : hi = P.length + A.length ∨ hi = mid)
    (r3 : ∀ c, lo ≤ c → c < st → key (A.getD (c - P.length) 0) ≤ key (B.getD (mid - 1 - c) 0)) (r4 : ∀ c, st ≤ c → c < hi → key (B.getD (mid - 1 - c) 0) < key (A.getD (c - P.length) 0)) :
    ∃ C, Srt key C ∧ Stb key C (A ++ B) ∧ ∀ K, SF F fl P.length st (P.length + A.length) mid e (P.length + A.length + B.length) (P ++ (A ++ (B ++ Q))) bl K = K (P ++ (C ++ Q), bl) := by
  have hlen := hl
  simp only [List.length_append] at hlen
  have sA : A = A.take (st - P.length) ++ A.drop (st - P.length) := (List.take_append_drop _ _).symm
  have sB : B = B.take (mid - st) ++ B.drop (mid - st) := (List.take_append_drop _ _).symm
  have gA1 : ∀ i, i < st - P.length → (A.take (st - P.length)).getD i 0 = A.getD i 0 := fun i hi => take_getD hi 0
  have gX : ∀ i, (A.drop (st - P.length)).getD i 0 = A.getD (st - P.length + i) 0 := fun i => drop_getD 0
  have gY : ∀ i, i < mid - st → (B.take (mid - st)).getD i 0 = B.getD i 0 := fun i hi => take_getD hi 0
  have gB2 : ∀ i, (B.drop (mid - st)).getD i 0 = B.getD (mid - st + i) 0 := fun i => drop_getD 0
  have lA1 : (A.take (st - P.length)).length = st - P.length := by rw [List.length_take]; omega
  have lX : (A.drop (st - P.length)).length = P.length + A.length - st := by rw [List.length_drop]; omega
  have lY : (B.take (mid - st)).length = mid - st := by rw [List.length_take]; omega
  have lB2 : (B.drop (mid - st)).length = B.length - (mid - st) := by rw [List.length_drop]
  generalize A.take (st - P.length) = A1 at *
  generalize A.drop (st - P.length) = X at *
  generalize B.take (mid - st) = Y at *
  generalize B.drop (mid - st) = B2 at *
  have hxy : ∀ u ∈ Y, ∀ w ∈ X, key u < key w := by
    intro u hu w hw
    obtain ⟨j, hj, rfl⟩ := mem_getD 0 hu
    obtain ⟨i, hi', rfl⟩ := mem_getD 0 hw
    rw [gY j (by omega), gX]
    have a1 := srt_get hB 0 (i := j) (j := mid - 1 - st) (by omega) (by omega)
    have a2 := r4 st (by omega) (by omega)
    have a3 := srt_get hA 0 (i := st - P.length) (j := st - P.length + i) (by omega) (by omega)
    omega
  have hab : ∀ u ∈ A1, ∀ w ∈ B2, key u ≤ key w := by
    intro u hu w hw
    obtain ⟨i, hi', rfl⟩ := mem_getD 0 hu
    obtain ⟨j, hj, rfl⟩ := mem_getD 0 hw
    rw [gA1 i (by omega), gB2]
    have a1 := srt_get hA 0 (i := i) (j := st - 1 - P.length) (by omega) (by omega)
    have a2 := r3 (st - 1) (by omega) (by omega)
    rw [show mid - 1 - (st - 1) = mid - st by omega] at a2
    have a3 := srt_get hB 0 (i := mid - st) (j := mid - st + j) (by omega) (by omega)
    omega
  have hA' : Srt key (A1 ++ X) := by rw [← sA]; exact hA
  have hB' : Srt key (Y ++ B2) := by rw [← sB]; exact hB
  obtain ⟨p1, p2, p3⟩ := srt_app.1 hA'
  obtain ⟨q1, q2, q3⟩ := srt_app.1 hB'
  have vA1 : ∀ y ∈ A1, V y := fun y hy => vA y (by rw [sA]; exact List.mem_append_left _ hy)
  have vX : ∀ y ∈ X, V y := fun y hy => vA y (by rw [sA]; exact List.mem_append_right _ hy)
  have vY : ∀ y ∈ Y, V y := fun y hy => vB y (by rw [sB]; exact List.mem_append_left _ hy)
  have vB2 : ∀ y ∈ B2, V y := fun y hy => vB y (by rw [sB]; exact List.mem_append_right _ hy)
  obtain ⟨C1, c1, c2, c3⟩ := merge_if hF (P := P) (A := A1) (B := Y) (Q := X ++ (B2 ++ Q)) (by omega) p1 q1 vA1 vY (by simp only [List.length_append]; omega)
  have lC1 : C1.length = A1.length + Y.length := by rw [c2.len, List.length_append]
  obtain ⟨C2, d1, d2, d3⟩ := merge_if hF (P := P ++ C1) (A := X) (B := B2) (Q := Q) (by omega) p2 q2 vX vB2 (by simp only [List.length_append]; omega)
  obtain ⟨e1, e2⟩ := halves hA' hB' hxy hab c1 d1 c2 d2
  refine ⟨C1 ++ C2, e1, by rw [← sA, ← sB] at e2; exact e2, fun K => ?_⟩
  have lPC : (P ++ C1).length = mid := by rw [List.length_append]; omega
  -- the second half
  have h2 : ∀ K : List Int × (List (Int × (Int × (List Int)))) → Option Ans, (if mid < e ∧ e < P.length + A.length + B.length then F (mid : Int) (e : Int) ((P.length + A.length + B.length : Nat) : Int) (P ++ (C1 ++ (X ++ (B2 ++ Q)))) bl K else K (P ++ (C1 ++ (X ++ (B2 ++ Q))), bl)) = K (P ++ ((C1 ++ C2) ++ Q), bl) := by
    intro K
    have := d3 K
    rw [lPC, show mid + X.length = e by omega, show e + B2.length = P.length + A.length + B.length by omega, List.append_assoc] at this
    rw [show ((C1 ++ C2) ++ Q) = C1 ++ (C2 ++ Q) by simp]
    rw [show P ++ (C1 ++ (C2 ++ Q)) = (P ++ C1) ++ (C2 ++ Q) by simp, ← this]
    by_cases hh : mid < e ∧ e < P.length + A.length + B.length
    · rw [if_pos hh, if_pos (by omega)]
    · rw [if_neg hh, if_neg (by omega)]
  -- the first half
  have h1 : ∀ K : List Int × (List (Int × (Int × (List Int)))) → Option Ans, (if P.length < st ∧ st < mid then F (P.length : Int) (st : Int) (mid : Int) (P ++ (A1 ++ (Y ++ (X ++ (B2 ++ Q))))) bl K else K (P ++ (A1 ++ (Y ++ (X ++ (B2 ++ Q)))), bl)) = K (P ++ (C1 ++ (X ++ (B2 ++ Q))), bl) := by
    intro K
    have := c3 K
    rw [show P.length + A1.length = st by omega, show st + Y.length = mid by omega] at this
    rw [← this]
    by_cases hh : P.length < st ∧ st < mid
    · rw [if_pos hh, if_pos (by omega)]
    · rw [if_neg hh, if_neg (by omega)]
  have hJ : (if P.length < st ∧ st < mid then F (P.length : Int) (st : Int) (mid : Int) (P ++ (A1 ++ (Y ++ (X ++ (B2 ++ Q))))) bl (fun (y0, y1) => if mid < e ∧ e < P.length + A.length + B.length then F (mid : Int) (e : Int) ((P.length + A.length + B.length : Nat) : Int) y0 y1 (fun (z0, z1) => K (z0, z1)) else K (y0, y1))
      else if mid < e ∧ e < P.length + A.length + B.length then F (mid : Int) (e : Int) ((P.length + A.length + B.length : Nat) : Int) (P ++ (A1 ++ (Y ++ (X ++ (B2 ++ Q))))) bl (fun (z0, z1) => K (z0, z1)) else K (P ++ (A1 ++ (Y ++ (X ++ (B2 ++ Q)))), bl)) = K (P ++ ((C1 ++ C2) ++ Q), bl) := by
    have e1 := h1 (fun v => if mid < e ∧ e < P.length + A.length + B.length then F (mid : Int) (e : Int) ((P.length + A.length + B.length : Nat) : Int) v.1 v.2 K else K v)
    exact e1.trans (h2 K)
  unfold SF
  by_cases hr : st < P.length + A.length ∧ P.length + A.length < e
  · rw [if_pos hr]
    have hro := fun K => rot_ok (fl := fl) (bl := bl) (K := K) hfl (X := X) (Y := Y) (P := P ++ A1) (Q := B2 ++ Q) (by omega) (by omega) (by simp only [List.length_append]; omega)
    have lp1 : (P ++ A1).length = st := by rw [List.length_append]; omega
    rw [lp1, show st + X.length = P.length + A.length by omega, show P.length + A.length + Y.length = e by omega] at hro
    have ed : P ++ (A ++ (B ++ Q)) = (P ++ A1) ++ (X ++ (Y ++ (B2 ++ Q))) := by rw [sA, sB]; simp
    rw [ed, hro]
    dsimp only
    rw [show (P ++ A1) ++ (Y ++ (X ++ (B2 ++ Q))) = P ++ (A1 ++ (Y ++ (X ++ (B2 ++ Q)))) by simp]
    exact hJ
  · rw [if_neg hr]
    have ed : P ++ (A ++ (B ++ Q)) = P ++ (A1 ++ (Y ++ (X ++ (B2 ++ Q)))) := by
      rw [sA, sB]
      rcases Nat.lt_or_ge st (P.length + A.length) with h' | h'
      · have : Y = [] := List.eq_nil_of_length_eq_zero (by omega)
        subst this
        simp
      · have : X = [] := List.eq_nil_of_length_eq_zero (by omega)
        subst this
        simp
    rw [ed]
    exact hJ
/-- The search for the place where the runs are cut. -/
theorem srch (hfl : 9223372036854775808 ≤ fl) (hc : Cmp fl bl key V) {P A B Q : List Int} {mid lo hi : Nat} (hA : Srt key A) (hB : Srt key B) (vA : ∀ y ∈ A, V y) (vB : ∀ y ∈ B, V y) (hl : (P ++ (A ++ (B ++ Q))).length ≤ 1000000)
    (k1 : P.length ≤ lo) (k2 : hi ≤ P.length + A.length) (k3 : hi ≤ mid) (k4 : lo ≤ hi) (k5 : mid ≤ lo + B.length) :
    ∃ st, lo ≤ st ∧ st ≤ hi ∧ (∀ c, lo ≤ c → c < st → key (A.getD (c - P.length) 0) ≤ key (B.getD (mid - 1 - c) 0)) ∧ (∀ c, st ≤ c → c < hi → key (B.getD (mid - 1 - c) 0) < key (A.getD (c - P.length) 0)) ∧
      ∀ (x0 x1 x2 x3 x4 : Int) (T : Int × Int × Int × Int × Int × Int × List Int × (List (Int × (Int × (List Int)))) → Option Ans), L_slices_symMergeCmpFunc_int_dbb_8 fl (x0, x1, x2, x3, x4, (lo : Int), (hi : Int), ((mid + (P.length + A.length) : Nat) : Int) - 1, P ++ (A ++ (B ++ Q)), bl) T = T (x0, x1, x2, x3, x4, (st : Int), P ++ (A ++ (B ++ Q)), bl) := by
  have hlen := hl
  simp only [List.length_append] at hlen
  have ga : ∀ t, P.length ≤ t → t < P.length + A.length → (P ++ (A ++ (B ++ Q))).getD t 0 = A.getD (t - P.length) 0 := fun t h1 h2 => by
    rw [app_get, if_neg (by omega), app_get, if_pos (by omega)]
  have gb : ∀ t, P.length + A.length ≤ t → t < P.length + A.length + B.length → (P ++ (A ++ (B ++ Q))).getD t 0 = B.getD (t - (P.length + A.length)) 0 := fun t h1 h2 => by
    rw [app_get, if_neg (by omega), app_get, if_neg (by omega), app_get, if_pos (by omega)]
    congr 1
    omega
  have main := fun (x0 x1 x2 x3 x4 : Int) => bs (step := S_slices_symMergeCmpFunc_int_dbb_8 fl) (st := fun i j => (x0, x1, x2, x3, x4, (i : Int), (j : Int), ((mid + (P.length + A.length) : Nat) : Int) - 1, P ++ (A ++ (B ++ Q)), bl)) (fin := fun r => (x0, x1, x2, x3, x4, (r : Int), P ++ (A ++ (B ++ Q)), bl)) (p := fun t => key (A.getD (t - P.length) 0) ≤ key (B.getD (mid - 1 - t) 0)) (lo := lo) (hi := hi)
    (fun t u h1 h2 h3 hp => by
      have a1 := srt_get hA 0 (i := t - P.length) (j := u - P.length) (by omega) (by omega)
      have a2 := srt_get hB 0 (i := mid - 1 - u) (j := mid - 1 - t) (by omega) (by omega)
      omega)
    (fun i j c b h1 h2 h3 => by
      have hh := half_ok (i := i) (j := j) (by omega)
      have hm : (i + j) / 2 < hi := by omega
      have hm2 : lo ≤ (i + j) / 2 := by omega
      have hg := ga ((i + j) / 2) (by omega) (by omega)
      have hg2 := gb (mid - 1 - (i + j) / 2 + (P.length + A.length)) (by omega) (by omega)
      rw [show mid - 1 - (i + j) / 2 + (P.length + A.length) - (P.length + A.length) = mid - 1 - (i + j) / 2 by omega] at hg2
      have ep : IntKind.i64.wrap (((mid + (P.length + A.length) : Nat) : Int) - 1 - (((i + j) / 2 : Nat) : Int)) = ((mid - 1 - (i + j) / 2 + (P.length + A.length) : Nat) : Int) := by rw [wrap64 (by omega) (by omega)]; omega
      have v1 : V (A.getD ((i + j) / 2 - P.length) 0) := vA _ (getD_memD (by omega) 0)
      have v2 : V (B.getD (mid - 1 - (i + j) / 2) 0) := vB _ (getD_memD (by omega) 0)
      obtain ⟨d, d1, d2, d3⟩ := hc _ _ v2 v1
      simp only [S_slices_symMergeCmpFunc_int_dbb_8, both_same, hh, ep, Int.toNat_natCast, hg, hg2]
      rw [dec_t (by omega), dec_t (by simp only [List.length_append]; omega), dec_t (by simp only [List.length_append]; omega), d3]
      dsimp only
      by_cases hlt : key (A.getD ((i + j) / 2 - P.length) 0) ≤ key (B.getD (mid - 1 - (i + j) / 2) 0)
      · rw [if_pos hlt, decide_eq_false (by omega), cond_t (b := !false) rfl, wrap64 (x := (((i + j) / 2 : Nat) : Int) + 1) (by omega) (by omega)]
        rfl
      · rw [if_neg hlt, decide_eq_true (by omega), cond_f (b := !true) rfl])
    (fun i c b h1 h2 => by
      simp only [S_slices_symMergeCmpFunc_int_dbb_8]
      rw [dec_f (by omega)])
    (hi - lo) lo hi (by omega) (by omega) (by omega) (by omega) (by omega) (by omega)
  obtain ⟨r, r1, r2, r3, r4, _⟩ := main 0 0 0 0 0
  refine ⟨r, r1, r2, r3, fun c h1 h2 => by have := r4 c h1 h2; omega, fun x0 x1 x2 x3 x4 T => ?_⟩
  obtain ⟨r', q1, q2, q3, q4, q5⟩ := main x0 x1 x2 x3 x4
  have : r' = r := by
    rcases Nat.lt_trichotomy r r' with h | h | h
    · exact absurd (q3 r r1 h) (r4 r (Nat.le_refl _) (by omega))
    · exact h.symm
    · exact absurd (r3 r' q1 h) (q4 r' (Nat.le_refl _) (by omega))
  subst this
  unfold L_slices_symMergeCmpFunc_int_dbb_8
  exact q5 fl T (by omega)
theorem merge_ok (hfl : 9223372036854775808 ≤ fl) (hc : Cmp fl bl key V) : ∀ n, MergeOk fl bl key V (Fr_slices_symMergeCmpFunc_int_dbb fl n) n
  | 0 => fun P A B Q h1 h2 h3 => by omega
  | n + 1 => fun P A B Q h1 h2 h3 hA hB vA vB hl => by
    have ih := merge_ok hfl hc n
    have hlen := hl
    simp only [List.length_append] at hlen
    show ∃ C, Srt key C ∧ Stb key C (A ++ B) ∧ ∀ K, Fb_slices_symMergeCmpFunc_int_dbb (Fr_slices_symMergeCmpFunc_int_dbb fl n) fl (P.length : Int) ((P.length + A.length : Nat) : Int) ((P.length + A.length + B.length : Nat) : Int) (P ++ (A ++ (B ++ Q))) bl K = K (P ++ (C ++ Q), bl)
    by_cases hA1 : A.length = 1
    · obtain ⟨x, rfl⟩ : ∃ x, A = [x] := List.length_eq_one_iff.1 hA1
      exact one_left hfl hc (vA x (by simp)) hB vB hl
    by_cases hB1 : B.length = 1
    · obtain ⟨x, rfl⟩ : ∃ x, B = [x] := List.length_eq_one_iff.1 hB1
      exact one_right hfl hc (vB x (by simp)) (by omega) hA vA hl
    have hmid := half_ok (i := P.length) (j := P.length + A.length + B.length) (by omega)
    generalize hM : (P.length + (P.length + A.length + B.length)) / 2 = mid at hmid
    by_cases hgt : P.length + A.length > mid
    · obtain ⟨st, r1, r2, r3, r4, r5⟩ := srch (mid := mid) (lo := mid - B.length) (hi := mid) hfl hc hA hB vA vB hl (by omega) (by omega) (by omega) (by omega) (by omega)
      obtain ⟨C, c1, c2, c3⟩ := tail_ok (lo := mid - B.length) (hi := mid) (st := st) (mid := mid) (e := mid + (P.length + A.length) - st) hfl ih hA hB vA vB hl (by omega) (by omega) (by omega) (by omega) (by omega) (by omega) (by omega) (by omega) (by omega) (by omega) r3 r4
      refine ⟨C, c1, c2, fun K => ?_⟩
      unfold Fb_slices_symMergeCmpFunc_int_dbb
      rw [wrap64 (x := ((P.length + A.length : Nat) : Int) - (P.length : Int)) (by omega) (by omega), cond_f (by simp; omega), wrap64 (x := ((P.length + A.length + B.length : Nat) : Int) - ((P.length + A.length : Nat) : Int)) (by omega) (by omega), cond_f (by simp; omega), hmid, dec_t (by omega), wrap64 (x := (mid : Int) + ((P.length + A.length : Nat) : Int)) (by omega) (by omega), wrap64 (x := (mid : Int) + ((P.length + A.length : Nat) : Int) - ((P.length + A.length + B.length : Nat) : Int)) (by omega) (by omega), wrap64 (x := (mid : Int) + ((P.length + A.length : Nat) : Int) - 1) (by omega) (by omega)]
      rw [show (mid : Int) + ((P.length + A.length : Nat) : Int) - ((P.length + A.length + B.length : Nat) : Int) = ((mid - B.length : Nat) : Int) by omega, show (mid : Int) + ((P.length + A.length : Nat) : Int) = ((mid + (P.length + A.length) : Nat) : Int) by omega]
      rw [r5]
      dsimp only
      rw [wrap64 (x := ((mid + (P.length + A.length) : Nat) : Int) - (st : Int)) (by omega) (by omega), show ((mid + (P.length + A.length) : Nat) : Int) - (st : Int) = ((mid + (P.length + A.length) - st : Nat) : Int) by omega]
      refine Eq.trans ?_ (c3 K)
      unfold SF
      simp only [cdi, Int.ofNat_lt]
      generalize mid + (P.length + A.length) - st = e
      by_cases g1 : st < P.length + A.length <;> by_cases g2 : P.length + A.length < e <;> by_cases g3 : P.length < st <;> by_cases g4 : st < mid <;> by_cases g5 : mid < e <;> by_cases g6 : e < P.length + A.length + B.length <;> simp only [g1, g2, g3, g4, g5, g6, if_true, if_false, and_true, and_false, true_and, false_and, and_self]
    · obtain ⟨st, r1, r2, r3, r4, r5⟩ := srch (mid := mid) (lo := P.length) (hi := P.length + A.length) hfl hc hA hB vA vB hl (by omega) (by omega) (by omega) (by omega) (by omega)
      obtain ⟨C, c1, c2, c3⟩ := tail_ok (lo := P.length) (hi := P.length + A.length) (st := st) (mid := mid) (e := mid + (P.length + A.length) - st) hfl ih hA hB vA vB hl (by omega) (by omega) (by omega) (by omega) (by omega) (by omega) (by omega) (by omega) (by omega) (by omega) r3 r4
      refine ⟨C, c1, c2, fun K => ?_⟩
      unfold Fb_slices_symMergeCmpFunc_int_dbb
      rw [wrap64 (x := ((P.length + A.length : Nat) : Int) - (P.length : Int)) (by omega) (by omega), cond_f (by simp; omega), wrap64 (x := ((P.length + A.length + B.length : Nat) : Int) - ((P.length + A.length : Nat) : Int)) (by omega) (by omega), cond_f (by simp; omega), hmid, dec_f (by omega), wrap64 (x := (mid : Int) + ((P.length + A.length : Nat) : Int)) (by omega) (by omega), wrap64 (x := (mid : Int) + ((P.length + A.length : Nat) : Int) - 1) (by omega) (by omega)]
      rw [show (mid : Int) + ((P.length + A.length : Nat) : Int) = ((mid + (P.length + A.length) : Nat) : Int) by omega]
      rw [r5]
      dsimp only
      rw [wrap64 (x := ((mid + (P.length + A.length) : Nat) : Int) - (st : Int)) (by omega) (by omega), show ((mid + (P.length + A.length) : Nat) : Int) - (st : Int) = ((mid + (P.length + A.length) - st : Nat) : Int) by omega]
      refine Eq.trans ?_ (c3 K)
      unfold SF
      simp only [cdi, Int.ofNat_lt]
      generalize mid + (P.length + A.length) - st = e
      by_cases g1 : st < P.length + A.length <;> by_cases g2 : P.length + A.length < e <;> by_cases g3 : P.length < st <;> by_cases g4 : st < mid <;> by_cases g5 : mid < e <;> by_cases g6 : e < P.length + A.length + B.length <;> simp only [g1, g2, g3, g4, g5, g6, if_true, if_false, and_true, and_false, true_and, false_and, and_self]
end
end Go.Proofs.YtmjeeaemmbkioaaGreat.Sy

set_option linter.unusedVariables false
set_option linter.unusedSimpArgs false
namespace Go.Proofs.YtmjeeaemmbkioaaGreat.Sy
open Go Ev So

/-- Sorted block by block, of so many each. -/
inductive Ch (key : Int → Int) (bs : Nat) : List Int → Prop where
  | last {D : List Int} : D.length ≤ bs → Srt key D → Ch key bs D
  | cons {A D : List Int} : A.length = bs → Srt key A → Ch key bs D → Ch key bs (A ++ D)
section
variable {fl : Nat} {bl : List (Int × (Int × (List Int)))} {key : Int → Int} {V : Int → Prop}
theorem Ch.srt {bs : Nat} {D : List Int} (h : Ch key bs D) (hb : 0 < bs) (hl : D.length ≤ bs) : Srt key D := by
  cases h with
  | last _ h => exact h
  | cons h1 h2 h3 =>
    rename_i A D
    rw [List.length_append] at hl
    have : D = [] := List.eq_nil_of_length_eq_zero (by omega)
    subst this
    rw [List.append_nil]
    exact h2
theorem Ch.two {bs : Nat} {D : List Int} (h : Ch key bs D) (hb : 0 < bs) (hl : bs < D.length) : ∃ A B R, D = A ++ (B ++ R) ∧ A.length = bs ∧ Srt key A ∧ Srt key B ∧ 0 < B.length ∧ B.length ≤ bs ∧ Ch key bs R ∧ (B.length < bs → R = []) := by
  cases h with
  | last h1 _ => omega
  | cons h1 h2 h3 =>
    rename_i A D
    rw [List.length_append] at hl
    cases h3 with
    | last h4 h5 => exact ⟨A, D, [], by simp, h1, h2, h5, by omega, h4, .last (by simp) List.Pairwise.nil, fun _ => rfl⟩
    | cons h4 h5 h6 =>
      rename_i B R
      exact ⟨A, B, R, rfl, h1, h2, h5, by omega, by omega, h6, fun h => by omega⟩
theorem blocks (hfl : 9223372036854775808 ≤ fl) (hc : Cmp fl bl key V) : ∀ (m : Nat) (P D : List Int), D.length ≤ m → (∀ y ∈ D, V y) → (P ++ D).length ≤ 500000 →
    ∃ D', Ch key 20 D' ∧ Stb key D' D ∧ ∀ (f : Nat) (T : Int × Int × List Int × (List (Int × (Int × (List Int)))) → Option Ans), m + 1 ≤ f →
      iter (S_slices_stableCmpFunc_int_e48_0 fl) f (((P.length + D.length : Nat) : Int), 20, (P.length : Int), ((P.length + 20 : Nat) : Int), P ++ D, bl) (fun (b0, b1, b2, b3, b4) => F_slices_insertionSortCmpFunc_int_dbe fl b2 b0 b3 b4 (fun (y0, y1) => T (b0, b1, y0, y1))) = T (((P.length + D.length : Nat) : Int), 20, P ++ D', bl) := by
  intro m
  induction m with
  | zero =>
    intro P D hm hV hl
    have : D = [] := List.eq_nil_of_length_eq_zero (by omega)
    subst this
    obtain ⟨C, c1, c2, c3⟩ := isort hfl hc (P := P) (A := []) (Q := []) (by simp) (by simp at hl ⊢; omega)
    have hC : C = [] := List.eq_nil_of_length_eq_zero (by have := c2.len; simpa using this)
    subst hC
    refine ⟨[], .last (by simp) List.Pairwise.nil, Stb.refl _, fun f T hf => ?_⟩
    obtain ⟨f, rfl⟩ : ∃ g, f = g + 1 := ⟨f - 1, by omega⟩
    simp only [iter, S_slices_stableCmpFunc_int_e48_0]
    rw [dec_f (by simp; omega)]
    have := c3 (fun v => T (((P.length + ([] : List Int).length : Nat) : Int), 20, v.1, v.2))
    simp only [List.append_nil] at this ⊢
    exact this
  | succ m ih =>
    intro P D hm hV hl
    have hlen := hl
    simp only [List.length_append] at hlen
    by_cases h20 : 20 ≤ D.length
    · have hsp : D = D.take 20 ++ D.drop 20 := (List.take_append_drop _ _).symm
      have lA : (D.take 20).length = 20 := by rw [List.length_take]; omega
      have lR : (D.drop 20).length = D.length - 20 := by rw [List.length_drop]
      generalize D.take 20 = A at *
      generalize D.drop 20 = R at *
      subst hsp
      obtain ⟨C, c1, c2, c3⟩ := isort hfl hc (P := P) (A := A) (Q := R) (fun y hy => hV y (by simp [hy])) (by simp only [List.length_append]; omega)
      have lC : C.length = 20 := by rw [c2.len, lA]
      obtain ⟨R', d1, d2, d3⟩ := ih (P ++ C) R (by omega) (fun y hy => hV y (by simp [hy])) (by simp only [List.length_append]; omega)
      refine ⟨C ++ R', .cons lC c1 d1, c2.app d2, fun f T hf => ?_⟩
      obtain ⟨f, rfl⟩ : ∃ g, f = g + 1 := ⟨f - 1, by omega⟩
      simp only [iter, S_slices_stableCmpFunc_int_e48_0]
      rw [dec_t (by simp only [List.length_append]; omega), show ((P.length + 20 : Nat) : Int) = ((P.length + A.length : Nat) : Int) by omega, c3]
      dsimp only
      have := d3 f T (by omega)
      simp only [List.length_append] at this ⊢
      rw [wrap64 (by omega) (by omega)]
      rw [show P.length + C.length + R.length = P.length + (A.length + R.length) by omega, show ((P.length + C.length : Nat) : Int) = ((P.length + A.length : Nat) : Int) by omega, show ((P.length + C.length + 20 : Nat) : Int) = ((P.length + A.length : Nat) : Int) + 20 by omega, List.append_assoc, List.append_assoc] at this
      exact this
    · obtain ⟨C, c1, c2, c3⟩ := isort hfl hc (P := P) (A := D) (Q := []) hV (by simpa using Nat.le_trans hl (by omega))
      refine ⟨C, .last (by rw [c2.len]; omega) c1, c2, fun f T hf => ?_⟩
      obtain ⟨f, rfl⟩ : ∃ g, f = g + 1 := ⟨f - 1, by omega⟩
      simp only [iter, S_slices_stableCmpFunc_int_e48_0]
      rw [dec_f (by omega)]
      have := c3 (fun v => T (((P.length + D.length : Nat) : Int), 20, v.1, v.2))
      simp only [List.append_nil] at this
      exact this
theorem pass (hfl : 9223372036854775808 ≤ fl) (hc : Cmp fl bl key V) {bs : Nat} (hb : 0 < bs) (hb2 : bs ≤ 500000) : ∀ (m : Nat) (P D : List Int), D.length ≤ m → Ch key bs D → (∀ y ∈ D, V y) → (P ++ D).length ≤ 500000 →
    ∃ D', Ch key (2 * bs) D' ∧ Stb key D' D ∧ ∀ (f : Nat) (c : Int × Int × List Int × (List (Int × (Int × (List Int)))) → Option Ans), m + 1 ≤ f →
      iter (S_slices_stableCmpFunc_int_e48_4 fl) f (((P.length + D.length : Nat) : Int), (bs : Int), (P.length : Int), ((P.length + 2 * bs : Nat) : Int), P ++ D, bl) (fun (b4_0, b4_1, b4_2, b4_3, b4_4) =>
        bif decide (IntKind.i64.wrap (b4_2 + b4_1) < b4_0) then
          F_slices_symMergeCmpFunc_int_dbb fl b4_2 (IntKind.i64.wrap (b4_2 + b4_1)) b4_0 b4_3 b4_4 (fun (y8_0, y8_1) => c (b4_0, IntKind.i64.wrap (b4_1 * 2), y8_0, y8_1))
        else c (b4_0, IntKind.i64.wrap (b4_1 * 2), b4_3, b4_4)) = c (((P.length + D.length : Nat) : Int), ((2 * bs : Nat) : Int), P ++ D', bl) := by
  have hM := merge_ok hfl hc fl
  intro m
  induction m with
  | zero =>
    intro P D hm hD hV hl
    have : D = [] := List.eq_nil_of_length_eq_zero (by omega)
    subst this
    have hlen := hl
    simp only [List.length_append, List.length_nil] at hlen
    refine ⟨[], .last (by simp) List.Pairwise.nil, Stb.refl _, fun f c hf => ?_⟩
    obtain ⟨f, rfl⟩ : ∃ g, f = g + 1 := ⟨f - 1, by omega⟩
    simp only [iter, S_slices_stableCmpFunc_int_e48_4]
    rw [dec_f (by simp; omega)]
    rw [wrap64 (x := (P.length : Int) + (bs : Int)) (by omega) (by omega), dec_f (by simp; omega), wrap64 (x := (bs : Int) * 2) (by omega) (by omega), show (bs : Int) * 2 = ((2 * bs : Nat) : Int) by omega]
  | succ m ih =>
    intro P D hm hD hV hl
    have hlen := hl
    simp only [List.length_append] at hlen
    by_cases h2 : 2 * bs ≤ D.length
    · obtain ⟨A, B, R, rfl, a1, a2, a3, a4, a5, a6, a7⟩ := hD.two hb (by omega)
      have lB : B.length = bs := by
        rcases Nat.lt_or_ge B.length bs with h | h
        · have := a7 h
          subst this
          simp only [List.length_append, List.length_nil] at h2
          omega
        · omega
      simp only [List.length_append] at hlen hm h2
      obtain ⟨C, c1, c2, c3⟩ := hM P A B R (by omega) a4 (by omega) a2 a3 (fun y hy => hV y (by simp [hy])) (fun y hy => hV y (by simp [hy])) (by simp only [List.length_append]; omega)
      have lC : C.length = 2 * bs := by rw [c2.len, List.length_append]; omega
      obtain ⟨R', d1, d2, d3⟩ := ih (P ++ C) R (by omega) a6 (fun y hy => hV y (by simp [hy])) (by simp only [List.length_append]; omega)
      refine ⟨C ++ R', .cons lC c1 d1, by have := c2.app d2; simpa using this, fun f c hf => ?_⟩
      obtain ⟨f, rfl⟩ : ∃ g, f = g + 1 := ⟨f - 1, by omega⟩
      simp only [iter, S_slices_stableCmpFunc_int_e48_4]
      rw [dec_t (by simp only [List.length_append]; omega), wrap64 (x := (P.length : Int) + (bs : Int)) (by omega) (by omega), show (P.length : Int) + (bs : Int) = ((P.length + A.length : Nat) : Int) by omega, show ((P.length + 2 * bs : Nat) : Int) = ((P.length + A.length + B.length : Nat) : Int) by omega]
      have c3' := fun K => c3 K
      unfold F_slices_symMergeCmpFunc_int_dbb at *
      rw [c3]
      dsimp only
      have := d3 f c (by omega)
      simp only [List.length_append] at this ⊢
      rw [wrap64 (x := 2 * (bs : Int)) (by omega) (by omega), wrap64 (by omega) (by omega)]
      rw [show P.length + C.length + R.length = P.length + (A.length + (B.length + R.length)) by omega, show ((P.length + C.length : Nat) : Int) = ((P.length + A.length + B.length : Nat) : Int) by omega, show ((P.length + C.length + 2 * bs : Nat) : Int) = ((P.length + A.length + B.length : Nat) : Int) + 2 * (bs : Int) by omega, List.append_assoc, List.append_assoc] at this
      exact this
    · have hend : ∀ (f : Nat) b, iter (S_slices_stableCmpFunc_int_e48_4 fl) (f + 1) (((P.length + D.length : Nat) : Int), (bs : Int), (P.length : Int), ((P.length + 2 * bs : Nat) : Int), P ++ D, bl) b = b (((P.length + D.length : Nat) : Int), (bs : Int), (P.length : Int), P ++ D, bl) := by
        intro f b
        simp only [iter, S_slices_stableCmpFunc_int_e48_4]
        rw [dec_f (by omega)]
      by_cases h1 : bs < D.length
      · obtain ⟨A, B, R, rfl, a1, a2, a3, a4, a5, a6, a7⟩ := hD.two hb h1
        simp only [List.length_append] at hlen hm h2 h1
        have hR : R = [] := a7 (by omega)
        subst hR
        simp only [List.length_nil] at hlen hm h2 h1
        obtain ⟨C, c1, c2, c3⟩ := hM P A B [] (by omega) a4 (by omega) a2 a3 (fun y hy => hV y (by simp [hy])) (fun y hy => hV y (by simp [hy])) (by simp only [List.length_append, List.length_nil]; omega)
        have lC : C.length = A.length + B.length := by rw [c2.len, List.length_append]
        refine ⟨C, .last (by omega) c1, by rw [List.append_nil]; exact c2, fun f c hf => ?_⟩
        obtain ⟨f, rfl⟩ : ∃ g, f = g + 1 := ⟨f - 1, by omega⟩
        rw [hend]
        dsimp only
        unfold F_slices_symMergeCmpFunc_int_dbb
        rw [wrap64 (x := (P.length : Int) + (bs : Int)) (by omega) (by omega), dec_t (by simp only [List.length_append, List.length_nil]; omega), wrap64 (x := (bs : Int) * 2) (by omega) (by omega), show (bs : Int) * 2 = ((2 * bs : Nat) : Int) by omega, show (P.length : Int) + (bs : Int) = ((P.length + A.length : Nat) : Int) by omega]
        have := c3 (fun v => c (((P.length + A.length + B.length : Nat) : Int), ((2 * bs : Nat) : Int), v.1, v.2))
        simp only [List.append_nil, List.length_append, List.length_nil, Nat.add_zero, ← Nat.add_assoc] at this ⊢
        exact this
      · have hs := hD.srt hb (by omega)
        refine ⟨D, .last (by omega) hs, Stb.refl _, fun f c hf => ?_⟩
        obtain ⟨f, rfl⟩ : ∃ g, f = g + 1 := ⟨f - 1, by omega⟩
        rw [hend]
        dsimp only
        rw [wrap64 (x := (P.length : Int) + (bs : Int)) (by omega) (by omega), dec_f (by omega), wrap64 (x := (bs : Int) * 2) (by omega) (by omega), show (bs : Int) * 2 = ((2 * bs : Nat) : Int) by omega]
theorem passes (hfl : 9223372036854775808 ≤ fl) (hc : Cmp fl bl key V) : ∀ (m bs : Nat) (D : List Int), 0 < bs → bs ≤ 500000 → D.length ≤ bs + m → Ch key bs D → (∀ y ∈ D, V y) → D.length ≤ 400000 →
    ∃ D', Srt key D' ∧ Stb key D' D ∧ ∀ (f : Nat) (T : List Int × (List (Int × (Int × (List Int)))) → Option Ans), m + 1 ≤ f → iter (S_slices_stableCmpFunc_int_e48_2 fl) f ((D.length : Int), (bs : Int), D, bl) T = T (D', bl) := by
  intro m
  induction m with
  | zero =>
    intro bs D hb hb2 hm hD hV hl
    refine ⟨D, hD.srt hb (by omega), Stb.refl _, fun f T hf => ?_⟩
    obtain ⟨f, rfl⟩ : ∃ g, f = g + 1 := ⟨f - 1, by omega⟩
    simp only [iter, S_slices_stableCmpFunc_int_e48_2]
    rw [dec_f (by omega)]
  | succ m ih =>
    intro bs D hb hb2 hm hD hV hl
    by_cases h : bs < D.length
    · obtain ⟨C, c1, c2, c3⟩ := pass hfl hc hb (by omega) D.length [] D (Nat.le_refl _) hD hV (by simp; omega)
      have lC := c2.len
      by_cases hbig : 2 * bs ≤ 500000
      · obtain ⟨E, e1, e2, e3⟩ := ih (2 * bs) C (by omega) hbig (by omega) c1 (fun y hy => hV y (c2.1.mem_iff.1 hy)) (by omega)
        refine ⟨E, e1, e2.trans c2, fun f T hf => ?_⟩
        obtain ⟨f, rfl⟩ : ∃ g, f = g + 1 := ⟨f - 1, by omega⟩
        simp only [iter, S_slices_stableCmpFunc_int_e48_2]
        unfold L_slices_stableCmpFunc_int_e48_4
        have h4 := c3 fl (fun v => iter (S_slices_stableCmpFunc_int_e48_2 fl) f v T) (by omega)
        simp only [List.length_nil, Nat.zero_add, List.nil_append] at h4
        rw [dec_t (by omega), wrap64 (x := 2 * (bs : Int)) (by omega) (by omega), show 2 * (bs : Int) = ((2 * bs : Nat) : Int) by omega]
        refine Eq.trans h4 ?_
        have := e3 f T (by omega)
        rw [lC] at this
        exact this
      · -- so great a block holds all
        refine ⟨C, c1.srt (by omega) (by omega), c2, fun f T hf => ?_⟩
        obtain ⟨f, rfl⟩ : ∃ g, f = g + 1 := ⟨f - 1, by omega⟩
        simp only [iter, S_slices_stableCmpFunc_int_e48_2]
        unfold L_slices_stableCmpFunc_int_e48_4
        have h4 := c3 fl (fun v => iter (S_slices_stableCmpFunc_int_e48_2 fl) f v T) (by omega)
        simp only [List.length_nil, Nat.zero_add, List.nil_append] at h4
        rw [dec_t (by omega), wrap64 (x := 2 * (bs : Int)) (by omega) (by omega), show 2 * (bs : Int) = ((2 * bs : Nat) : Int) by omega]
        refine Eq.trans h4 ?_
        obtain ⟨f, rfl⟩ : ∃ g, f = g + 1 := ⟨f - 1, by omega⟩
        simp only [iter, S_slices_stableCmpFunc_int_e48_2]
        rw [dec_f (by omega)]
    · refine ⟨D, hD.srt hb (by omega), Stb.refl _, fun f T hf => ?_⟩
      obtain ⟨f, rfl⟩ : ∃ g, f = g + 1 := ⟨f - 1, by omega⟩
      simp only [iter, S_slices_stableCmpFunc_int_e48_2]
      rw [dec_f (by omega)]
/-- What the sort comes to. -/
theorem sort_ok (hfl : 9223372036854775808 ≤ fl) (hc : Cmp fl bl key V) {D : List Int} (hV : ∀ y ∈ D, V y) (hl : D.length ≤ 400000) : ∃ C, Srt key C ∧ Stb key C D ∧ ∀ K, F_slices_SortStableFunc_int_int_a59 fl D bl K = K (C, bl) := by
  obtain ⟨B, b1, b2, b3⟩ := blocks hfl hc D.length [] D (Nat.le_refl _) hV (by simp; omega)
  have lB := b2.len
  obtain ⟨C, c1, c2, c3⟩ := passes hfl hc B.length 20 B (by omega) (by omega) (by omega) b1 (fun y hy => hV y (b2.1.mem_iff.1 hy)) (by omega)
  refine ⟨C, c1, c2.trans b2, fun K => ?_⟩
  unfold F_slices_SortStableFunc_int_int_a59 F_slices_stableCmpFunc_int_e48 L_slices_stableCmpFunc_int_e48_0
  have h0 := b3 fl (fun v => L_slices_stableCmpFunc_int_e48_2 fl v (fun (b2_0, b2_1) => K (b2_0, b2_1))) (by omega)
  simp only [List.length_nil, Nat.zero_add, List.nil_append] at h0
  refine Eq.trans h0 ?_
  unfold L_slices_stableCmpFunc_int_e48_2
  have := c3 fl (fun (b2_0, b2_1) => K (b2_0, b2_1)) (by omega)
  rw [lB] at this
  exact this
end
end Go.Proofs.YtmjeeaemmbkioaaGreat.Sy

set_option linter.unusedVariables false
set_option linter.unusedSimpArgs false
set_option maxHeartbeats 1000000
namespace Go.Proofs.YtmjeeaemmbkioaaGreat.Di
open Go Ev Bm So

def Hs (l : List Bmp) (i : Nat) : Int := (l.getD i (0, 0, [])).2.1
def Ws (l : List Bmp) (i : Nat) : Int := (l.getD i (0, 0, [])).1
/-- The error, and the order. -/
def oRes (l : List Bmp) : Int × List Int := if l.all shp = true then (0, ordI l.length (Hs l) (Ws l) 40 40) else (30, [])
theorem rg_of {l : List Bmp} (h : l.all shp = true) (i : Nat) (hi : i < l.length) : 1 ≤ Hs l i ∧ Hs l i ≤ 40 ∧ 1 ≤ Ws l i ∧ Ws l i ≤ 40 := by
  obtain ⟨a, b, c, d⟩ := shp_rg (all_getD (d := (0, 0, [])) h hi)
  exact ⟨c, d, a, b⟩
section
variable {fl : Nat} (hfl : 9223372036854775808 ≤ fl)
include hfl
theorem has_order {l : List Bmp} (hl : l.length ≤ 1000000000000000) {K : Bool → Option Ans} : F_slices_ContainsFunc_api_Bitmap_api_Bitmap_34d fl l K = K (!l.all shp) := by
  unfold F_slices_ContainsFunc_api_Bitmap_api_Bitmap_34d F_slices_IndexFunc_api_Bitmap_api_Bitmap_34d L_slices_IndexFunc_api_Bitmap_api_Bitmap_34d_0
  have st : ∀ i : Nat, i < l.length → ∀ c ret b, S_slices_IndexFunc_api_Bitmap_api_Bitmap_34d_0 fl (l, (l.length : Int), (i : Int)) c (ret, b) = if shp (l.getD i (0, 0, [])) = true then c (l, (l.length : Int), ((i + 1 : Nat) : Int)) else ret (i : Int) := by
    intro i hi c ret b
    simp only [S_slices_IndexFunc_api_Bitmap_api_Bitmap_34d_0, F_symbol_Order_1]
    rw [dec_t (by omega), dec_t (by omega), Int.toNat_natCast, isShape_ok hfl]
    try dsimp only
    rw [show ((l.getD i (0, 0, [])).fst, (l.getD i (0, 0, [])).snd.fst, (l.getD i (0, 0, [])).snd.snd) = l.getD i (0, 0, []) from rfl, wrap64 (by omega) (by omega)]
    cases shp (l.getD i (0, 0, [])) <;> rfl
  rcases all_or_first shp (0, 0, []) l with ha | ⟨n, hn, hb, hi⟩
  · rw [ha]
    refine iter_to (step := S_slices_IndexFunc_api_Bitmap_api_Bitmap_34d_0 fl) (fun i : Nat => (l, (l.length : Int), (i : Int))) l.length (fun i hi c => by rw [st i hi, if_pos (all_getD ha _ hi)]) (fun c => ?_) (by omega)
    simp only [S_slices_IndexFunc_api_Bitmap_api_Bitmap_34d_0]
    rw [dec_f (by omega)]
    rfl
  · rw [not_all hn hb]
    refine iter_to (step := S_slices_IndexFunc_api_Bitmap_api_Bitmap_34d_0 fl) (fun i : Nat => (l, (l.length : Int), (i : Int))) n (fun i hi' c => by rw [st i (by omega), if_pos (hi i hi')]) (fun c => ?_) (by omega)
    rw [st n hn, if_neg (by rw [hb]; simp)]
    show K (decide ((n : Int) ≥ 0)) = K true
    rw [decide_eq_true (by omega)]
omit hfl in
theorem scmp {l : List Bmp} (h : l.all shp = true) : Sy.Cmp fl l (keyI (Hs l) (Ws l)) (fun x => 0 ≤ x ∧ x < (l.length : Int)) := by
  intro x y ⟨x0, x1⟩ ⟨y0, y1⟩
  have hx := rg_of h x.toNat (by omega)
  have hy := rg_of h y.toNat (by omega)
  have key : ∀ K : Int × List Bmp → Option Ans, F_symbol_Order_2_21d fl x y l K = if Hs l x.toNat = Hs l y.toNat then K (Ws l x.toNat - Ws l y.toNat, l) else K (Hs l x.toNat - Hs l y.toNat, l) := fun K => by
    have e1 : (l.getD x.toNat (0, 0, [])).snd.fst = Hs l x.toNat := rfl
    have e2 : (l.getD y.toNat (0, 0, [])).snd.fst = Hs l y.toNat := rfl
    have e3 : (l.getD x.toNat (0, 0, [])).fst = Ws l x.toNat := rfl
    have e4 : (l.getD y.toNat (0, 0, [])).fst = Ws l y.toNat := rfl
    unfold F_symbol_Order_2_21d
    rw [e1, e2, e3, e4, dec_t ⟨x0, x1⟩, dec_t ⟨y0, y1⟩, cn, dec_t ⟨x0, x1⟩, dec_t ⟨y0, y1⟩, dec_t ⟨x0, x1⟩, dec_t ⟨y0, y1⟩, wrap64 (x := Hs l x.toNat - Hs l y.toNat) (by omega) (by omega), wrap64 (x := Ws l x.toNat - Ws l y.toNat) (by omega) (by omega)]
  unfold keyI
  by_cases hh : Hs l x.toNat = Hs l y.toNat
  · exact ⟨Ws l x.toNat - Ws l y.toNat, by omega, by omega, fun K => by rw [key K, if_pos hh]⟩
  · exact ⟨Hs l x.toNat - Hs l y.toNat, by omega, by omega, fun K => by rw [key K, if_neg hh]⟩
theorem sord {l : List Bmp} (hl : l.length ≤ 1000) {K : Int × List Int → Option Ans} : F_symbol_Order fl l K = K (oRes l) := by
  unfold F_symbol_Order oRes
  rw [has_order hfl (by omega)]
  cases h : l.all shp with
  | false => rfl
  | true =>
  rw [cond_f (b := !true) rfl, if_pos rfl]
  have hloop : ∀ b, L_symbol_Order_0 fl ((l.length : Int), 0, l, []) b = b (l, ints l.length) := fun b => by
    unfold L_symbol_Order_0
    refine iter_seq (step := S_symbol_Order_0 fl) (fun i : Nat => ((l.length : Int), (i : Int), l, ints i)) l.length rfl (fun i hi c => ?_) (fun c => ?_) (by omega)
    · simp only [S_symbol_Order_0]
      rw [dec_t (by omega), dec_t (by rw [ints_len]; simp only [List.length_cons, List.length_nil]; omega), wrap64 (by omega) (by omega), ints_succ]
      rfl
    · simp only [S_symbol_Order_0]
      rw [dec_f (by omega)]
  rw [hloop]
  try dsimp only
  obtain ⟨C, c1, c2, c3⟩ := Sy.sort_ok hfl (scmp (fl := fl) h) (D := ints l.length) (fun x hx => ints_mem hx) (by rw [ints_len]; omega)
  rw [c3]
  try dsimp only
  rw [ordI_eq (rg_of h) c1 c2]
/-! ### The reference -/
theorem rcell {l : List Bmp} (hl : l.length ≤ 1000) {h w : Int} {out : List Int} (ho : out.length ≤ 10000000) {b} : L_ref09_Order_6 fl (l, h, w, 0, out) b = b (l, h, w, out ++ cellU (Hs l) (Ws l) h w l.length) := by
  have hlen : ∀ m, (cellU (Hs l) (Ws l) h w m).length ≤ m := fun m => by
    unfold cellU
    rw [List.length_map]
    exact Nat.le_trans (List.length_filter_le _ _) (by rw [List.length_range]; exact Nat.le_refl _)
  unfold L_ref09_Order_6
  refine iter_seq (step := S_ref09_Order_6 fl) (fun i : Nat => (l, h, w, (i : Int), out ++ cellU (Hs l) (Ws l) h w i)) l.length (by simp [cellU]) (fun i hi c => ?_) (fun c => ?_) (by omega)
  · have e1 : (l.getD i (0, 0, [])).snd.fst = Hs l i := rfl
    have e3 : (l.getD i (0, 0, [])).fst = Ws l i := rfl
    simp only [S_ref09_Order_6, Int.toNat_natCast, e1, e3]
    rw [dec_t (by omega), dec_t (by omega), dec_t (by omega), cellU_succ, wrap64 (by omega) (by omega), cb, cb]
    have hm := hlen i
    by_cases q1 : Hs l i = h
    · rw [if_pos q1]
      by_cases q2 : Ws l i = w
      · rw [if_pos q2, if_pos ⟨q1, q2⟩, dec_t (by simp only [List.length_append, List.length_cons, List.length_nil]; omega), List.append_assoc]
        rfl
      · rw [if_neg q2, if_neg (fun k => q2 k.2), List.append_nil]
        rfl
    · rw [if_neg q1, if_neg (fun k => q1 k.1), List.append_nil]
      rfl
  · simp only [S_ref09_Order_6]
    rw [dec_f (by omega)]
omit hfl in
theorem cellU_len (H W : Nat → Int) (h w : Int) (m : Nat) : (cellU H W h w m).length ≤ m := by
  unfold cellU
  rw [List.length_map]
  exact Nat.le_trans (List.length_filter_le _ _) (by rw [List.length_range]; exact Nat.le_refl _)
theorem rrow {l : List Bmp} (hl : l.length ≤ 1000) {h : Int} {out : List Int} (ho : out.length ≤ 5000000) {b} : L_ref09_Order_4 fl (l, h, 1, out) b = b (l, h, out ++ rowU (Hs l) (Ws l) l.length h 40) := by
  have hlen : ∀ m, (rowU (Hs l) (Ws l) l.length h m).length ≤ m * 1000 := fun m => by
    induction m with
    | zero => simp [rowU, row1]
    | succ m ih =>
      have := cellU_len (Hs l) (Ws l) h ((m : Int) + 1) l.length
      rw [rowU_succ, List.length_append]
      omega
  unfold L_ref09_Order_4
  refine iter_seq (step := S_ref09_Order_4 fl) (fun i : Nat => (l, h, (i : Int) + 1, out ++ rowU (Hs l) (Ws l) l.length h i)) 40 (by simp [rowU, row1]) (fun i hi c => ?_) (fun c => ?_) (by omega)
  · have hm := hlen i
    simp only [S_ref09_Order_4]
    rw [dec_t (by omega), rcell hfl hl (by rw [List.length_append]; omega)]
    try dsimp only
    rw [wrap64 (by omega) (by omega), rowU_succ, List.append_assoc]
    rfl
  · simp only [S_ref09_Order_4]
    rw [dec_f (by omega)]
theorem rall {l : List Bmp} (hl : l.length ≤ 1000) {b} : L_ref09_Order_2 fl (l, 1, []) b = b (ordI l.length (Hs l) (Ws l) 40 40) := by
  have hrow : ∀ h m, (rowU (Hs l) (Ws l) l.length h m).length ≤ m * 1000 := fun h m => by
    induction m with
    | zero => simp [rowU, row1]
    | succ m ih =>
      have := cellU_len (Hs l) (Ws l) h ((m : Int) + 1) l.length
      rw [rowU_succ, List.length_append]
      omega
  have hlen : ∀ k, (ordI l.length (Hs l) (Ws l) 40 k).length ≤ k * 40000 := fun k => by
    induction k with
    | zero => simp [ordI, ord]
    | succ k ih =>
      have := hrow ((k : Int) + 1) 40
      rw [ordI_succ, List.length_append]
      omega
  unfold L_ref09_Order_2
  refine iter_seq (step := S_ref09_Order_2 fl) (fun i : Nat => (l, (i : Int) + 1, ordI l.length (Hs l) (Ws l) 40 i)) 40 (by simp [ordI, ord]) (fun i hi c => ?_) (fun c => ?_) (by omega)
  · have hm := hlen i
    simp only [S_ref09_Order_2]
    rw [dec_t (by omega), rrow hfl hl (by omega)]
    try dsimp only
    rw [wrap64 (by omega) (by omega), ordI_succ]
    rfl
  · simp only [S_ref09_Order_2]
    rw [dec_f (by omega)]
theorem rord {l : List Bmp} (hl : l.length ≤ 1000) {K : Int × List Int → Option Ans} : F_ref09_Order fl l K = K (oRes l) := by
  unfold F_ref09_Order oRes
  have st : ∀ i : Nat, i < l.length → ∀ c ret b, S_ref09_Order_0 fl (l, (i : Int), []) c (ret, b) = if shp (l.getD i (0, 0, [])) = true then c (l, ((i + 1 : Nat) : Int), []) else ret (30, []) := by
    intro i hi c ret b
    simp only [S_ref09_Order_0]
    rw [dec_t (by omega), dec_t (by omega), Int.toNat_natCast, rshape_ok hfl]
    try dsimp only
    rw [show ((l.getD i (0, 0, [])).fst, (l.getD i (0, 0, [])).snd.fst, (l.getD i (0, 0, [])).snd.snd) = l.getD i (0, 0, []) from rfl, wrap64 (by omega) (by omega)]
    cases shp (l.getD i (0, 0, [])) <;> rfl
  unfold L_ref09_Order_0
  rcases all_or_first shp (0, 0, []) l with ha | ⟨n, hn, hb, hi⟩
  · rw [ha, if_pos rfl]
    refine iter_to (step := S_ref09_Order_0 fl) (fun i : Nat => (l, (i : Int), [])) l.length (fun i hi c => by rw [st i hi, if_pos (all_getD ha _ hi)]) (fun c => ?_) (by omega)
    simp only [S_ref09_Order_0]
    rw [dec_f (by omega), rall hfl hl]
  · rw [show l.all shp = false by have := not_all hn hb; simpa using this, if_neg (by simp)]
    refine iter_to (step := S_ref09_Order_0 fl) (fun i : Nat => (l, (i : Int), [])) n (fun i hi' c => by rw [st i (by omega), if_pos (hi i hi')]) (fun c => ?_) (by omega)
    rw [st n hn, if_neg (by rw [hb]; simp)]
end
end Go.Proofs.YtmjeeaemmbkioaaGreat.Di

set_option linter.unusedVariables false
set_option linter.unusedSimpArgs false
namespace Go.Proofs.YtmjeeaemmbkioaaGreat.PureSymbolOrders
open Go Ev Bm Di So
theorem sane0 {fl : Nat} {K : Bool → Option Ans} : F_law09_Sane fl K = K true := rfl
theorem pure_fl {fl : Nat} (hfl : 9223372036854775808 ≤ fl) (l : List Bmp) (hl : l.length ≤ 1000000000000000) (K : Bool → Option Ans) : F_law09_SymbolOrders fl l K = K true := by
  unfold F_law09_SymbolOrders
  obtain ⟨s, hs0, hs⟩ : ∃ s : Nat → Int, s 0 = 0 ∧ ∀ i, s (i + 1) = IntKind.i64.wrap (s i + ((l.getD i (0, 0, [])).snd.snd.length : Int)) :=
    ⟨fun i => Nat.rec (motive := fun _ => Int) 0 (fun i a => IntKind.i64.wrap (a + ((l.getD i (0, 0, [])).snd.snd.length : Int))) i, rfl, fun i => rfl⟩
  have h1 : ∀ b, L_law09_SymbolOrders_0 fl (l, 0, 0) b = b (l, s l.length) := fun b => by
    unfold L_law09_SymbolOrders_0
    refine iter_seq (step := S_law09_SymbolOrders_0 fl) (fun i : Nat => (l, s i, (i : Int))) l.length (by rw [hs0]; rfl) (fun i hi c => ?_) (fun c => ?_) (by omega)
    · simp only [S_law09_SymbolOrders_0, Int.toNat_natCast]
      rw [dec_t (by omega), dec_t (by omega), wrap64 (x := (i : Int) + 1) (by omega) (by omega), hs]
      rfl
    · simp only [S_law09_SymbolOrders_0]
      rw [dec_f (by omega)]
  rw [h1]
  try dsimp only
  by_cases c1 : s l.length > 3000
  · rw [dec_t c1, sane0]
  rw [dec_f c1]
  by_cases c2 : (l.length : Int) > 80
  · rw [dec_t c2, sane0]
  rw [dec_f c2, sord hfl (by omega)]
  try dsimp only
  rw [rord hfl (by omega)]
  try dsimp only
  rw [cond_f (by simp), cond_f (by simp)]
  generalize hC : (oRes l).2 = C
  have hlen : C.length ≤ 1000 := by
    rw [← hC]
    unfold oRes
    split
    · rename_i h
      rw [show (0, ordI l.length (Hs l) (Ws l) 40 40).2 = ordI l.length (Hs l) (Ws l) 40 40 from rfl, (ordI_stb (rg_of h)).len, ints_len]
      omega
    · exact Nat.zero_le _
  unfold L_law09_SymbolOrders_2
  refine iter_seq (step := S_law09_SymbolOrders_2 fl) (fun i : Nat => ((i : Int), C, C)) C.length rfl (fun i hi c => ?_) (fun c => ?_) (by omega)
  · simp only [S_law09_SymbolOrders_2, both_same]
    rw [dec_t (by omega), dec_t (by omega), dec_t (by omega), cond_f (by simp), wrap64 (by omega) (by omega)]
    rfl
  · simp only [S_law09_SymbolOrders_2]
    rw [dec_f (by omega), sane0]
theorem pure (l : List Bmp) (K : Bool → Option Ans) (g0 : given (.sl (.pair (.int .i64) (.pair (.int .i64) (.sl (.int .u8))))) l) : F_law09_SymbolOrders fuel l K = K true := by
  refine pure_fl (by rw [fuel_eq]; omega) l ?_ K
  obtain ⟨h1, _⟩ := g0
  have h1 : l.length * 40 ≤ 140737488351232 := h1
  omega
end Go.Proofs.YtmjeeaemmbkioaaGreat.PureSymbolOrders

