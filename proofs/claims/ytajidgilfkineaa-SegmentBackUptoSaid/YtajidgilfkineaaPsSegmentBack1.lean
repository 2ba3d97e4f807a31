/- Laws of the typed texts that SegmentBack reaches, in plain Lean. No condition but what each theorem names. -/
import Derived.Test.YtajidgilfkineaaEvO
import Derived.Test.YtajidgilfkineaaFsSegmentBack1
import Derived.Test.YtajidgilfkineaaFsSegmentBack2
import Derived.Test.YtajidgilfkineaaEvS
set_option linter.unusedVariables false
set_option linter.unusedSimpArgs false
set_option linter.unusedVariables false
namespace Go.Proofs.Ytajidgilfkineaa.Ev
open Go

theorem cond_t {α : Sort _} {b : Bool} {x y : α} (h : b = true) : (bif b then x else y) = x := by rw [h]; rfl
theorem cond_f {α : Sort _} {b : Bool} {x y : α} (h : b = false) : (bif b then x else y) = y := by rw [h]; rfl
theorem dec_t {p : Prop} {i : Decidable p} {α : Sort _} {x y : α} (h : p) : (bif @decide p i then x else y) = x := cond_t (decide_eq_true h)
theorem dec_f {p : Prop} {i : Decidable p} {α : Sort _} {x y : α} (h : ¬p) : (bif @decide p i then x else y) = y := cond_f (decide_eq_false h)
theorem loOf_some (x : Int) : loOf (some x) = x := rfl
theorem hiOf_some (x n : Int) : hiOf (some x) n = x := rfl
theorem both_same (x : Option Ans) : both x x = x := by
  unfold both
  cases x with
  | none => rfl
  | some u => rfl

/-- A loop that comes to its end: by a measure. -/
theorem iter_ind {V B : Type} {step : V → (V → Option Ans) → B → Option Ans} {b : B} (I : V → Prop) (m : V → Nat) (r : V → Option Ans)
    (h : ∀ v c, I v → (∀ v', I v' → m v' < m v → c v' = r v') → step v c b = r v) : ∀ n v, I v → m v < n → iter step n v b = r v
  | 0, v, hI, hm => by omega
  | n + 1, v, hI, hm => h v _ hI fun v' hI' hm' => iter_ind I m r h n v' hI' (by omega)

theorem fuel_eq : fuel = 18446744073709551616 := rfl
theorem fuel_lt {n : Nat} (h : n < 18446744073709551616) : n < fuel := by rw [fuel_eq]; exact h

/-! ### Numbers -/
theorem wrap64 {x : Int} (h1 : -9223372036854775808 ≤ x) (h2 : x ≤ 9223372036854775807) : IntKind.i64.wrap x = x := by
  simp [IntKind.wrap, IntKind.min, IntKind.max, IntKind.signed, IntKind.bits]
  omega
theorem wrap8 {x : Int} (h1 : 0 ≤ x) (h2 : x ≤ 255) : IntKind.u8.wrap x = x := by
  simp [IntKind.wrap, IntKind.min, IntKind.max, IntKind.signed, IntKind.bits]
  omega
theorem wf64 {x : Int} (h : (Lit.int .i64 x).wf = true) : -9223372036854775808 ≤ x ∧ x ≤ 9223372036854775807 := by
  simp [Lit.wf, IntKind.min, IntKind.max, IntKind.signed, IntKind.bits] at h
  omega
theorem ishl_one {y : Int} (h0 : 0 ≤ y) (h : y ≤ 62) : ishl .i64 1 y = 2 ^ y.toNat := by
  unfold ishl
  have hb : min y.toNat IntKind.i64.bits = y.toNat := by
    have : IntKind.i64.bits = 64 := rfl
    rw [this]
    omega
  rw [hb, Int.one_mul]
  have h1 : (2 : Int) ^ y.toNat ≤ 2 ^ 62 := by
    have := Nat.pow_le_pow_right (n := 2) (by omega) (show y.toNat ≤ 62 by omega)
    exact_mod_cast this
  have h2 : (0 : Int) < 2 ^ y.toNat := Int.pow_pos (by omega)
  exact wrap64 (by omega) (by omega)
theorem ishr_eq {k : IntKind} {x y : Int} (h0 : 0 ≤ y) (h : y ≤ 8) (hk : 8 ≤ k.bits := by decide) : ishr k x y = x / 2 ^ y.toNat := by
  unfold ishr
  have hb : min y.toNat k.bits = y.toNat := by omega
  rw [hb, Int.fdiv_eq_ediv_of_nonneg]
  exact Int.le_of_lt (Int.pow_pos (by omega))
theorem ofInt_toNat {n : Nat} {x : Int} (h0 : 0 ≤ x) (h : x < 2 ^ n) : (BitVec.ofInt n x).toNat = x.toNat := by
  rw [BitVec.toNat_ofInt]
  rw [Int.emod_eq_of_lt h0 (by exact_mod_cast h)]
theorem ixor_eq {x y : Int} (hx : 0 ≤ x) (hx' : x < 2 ^ 63) (hy : 0 ≤ y) (hy' : y < 2 ^ 63) : ixor .i64 x y = ((x.toNat ^^^ y.toNat : Nat) : Int) := by
  unfold ixor
  have e : IntKind.i64.bits = 64 := rfl
  rw [e, BitVec.toNat_xor, ofInt_toNat hx (by omega), ofInt_toNat hy (by omega)]
  have h1 : x.toNat ^^^ y.toNat < 2 ^ 63 := Nat.xor_lt_two_pow (by omega) (by omega)
  exact wrap64 (by omega) (by omega)
theorem iand_one {x : Int} (hx : 0 ≤ x) (hx' : x < 2 ^ 63) : iand .i64 x 1 = x % 2 := by
  unfold iand
  have e : IntKind.i64.bits = 64 := rfl
  rw [e, BitVec.toNat_and, ofInt_toNat hx (by omega), ofInt_toNat (by omega) (by omega)]
  have h1 : x.toNat &&& (1 : Int).toNat = x.toNat % 2 := Nat.and_one_is_mod _
  rw [h1]
  have h2 : ((x.toNat % 2 : Nat) : Int) = x % 2 := by omega
  rw [h2]
  exact wrap64 (by omega) (by omega)
theorem xor_mod2 (a b : Nat) : (a ^^^ b) % 2 = (a + b) % 2 := by
  rw [← Nat.and_one_is_mod, ← Nat.and_one_is_mod (a + b), Nat.and_xor_distrib_right]
  simp only [Nat.and_one_is_mod]
  rcases Nat.mod_two_eq_zero_or_one a with ha | ha <;> rcases Nat.mod_two_eq_zero_or_one b with hb | hb <;> simp [ha, hb] <;> omega
/-- The Gray code's bit. -/
theorem gray_bit {x y : Int} (hx : 0 ≤ x) (hx' : x < 2 ^ 63) (hy : 0 ≤ y) (hy' : y < 2 ^ 63) : iand .i64 (ixor .i64 x y) 1 = (x + y) % 2 := by
  rw [ixor_eq hx hx' hy hy']
  have h1 : x.toNat ^^^ y.toNat < 2 ^ 63 := Nat.xor_lt_two_pow (by omega) (by omega)
  rw [iand_one (by omega) (by omega)]
  have := xor_mod2 x.toNat y.toNat
  omega
/-! ### Loops whose states are known -/
/-- A loop that goes through known states, up to the n-th one. -/
theorem iter_to {V B : Type} {step : V → (V → Option Ans) → B → Option Ans} {b : B} {r : Option Ans} (σ : Nat → V) (n : Nat)
    (h : ∀ i, i < n → ∀ c, step (σ i) c b = c (σ (i + 1))) (hn : ∀ c, step (σ n) c b = r) {m : Nat} (hm : n < m) : iter step m (σ 0) b = r := by
  have key : ∀ d i m, i + d = n → d < m → iter step m (σ i) b = r := by
    intro d
    induction d with
    | zero =>
      intro i m hi hm
      obtain ⟨m, rfl⟩ : ∃ k, m = k + 1 := ⟨m - 1, by omega⟩
      have : i = n := by omega
      subst this
      exact hn _
    | succ d ih =>
      intro i m hi hm
      obtain ⟨m, rfl⟩ : ∃ k, m = k + 1 := ⟨m - 1, by omega⟩
      simp only [iter]
      rw [h i (by omega)]
      exact ih (i + 1) m (by omega) (by omega)
  exact key n 0 m (by omega) hm
theorem iter_seq {V B : Type} {step : V → (V → Option Ans) → B → Option Ans} {b : B} {r : Option Ans} {v : V} {m : Nat} (σ : Nat → V) (n : Nat) (hv : v = σ 0)
    (h : ∀ i, i < n → ∀ c, step (σ i) c b = c (σ (i + 1))) (hn : ∀ c, step (σ n) c b = r) (hm : n < m) : iter step m v b = r := by
  rw [hv]
  exact iter_to σ n h hn hm
/-- A loop with an invariant that is told by the round's number. -/
theorem iter_inv {V B : Type} {step : V → (V → Option Ans) → B → Option Ans} {b : B} {r : Option Ans} (I : Nat → V → Prop) (n : Nat)
    (h : ∀ i v, i < n → I i v → (∃ v', I (i + 1) v' ∧ ∀ c, step v c b = c v') ∨ ∀ c, step v c b = r) (hn : ∀ v, I n v → ∀ c, step v c b = r) {v : V} (h0 : I 0 v) {m : Nat} (hm : n < m) : iter step m v b = r := by
  have key : ∀ d i v m, i + d = n → I i v → d < m → iter step m v b = r := by
    intro d
    induction d with
    | zero =>
      intro i v m hi hI hm
      obtain ⟨m, rfl⟩ : ∃ k, m = k + 1 := ⟨m - 1, by omega⟩
      have : i = n := by omega
      subst this
      exact hn _ hI _
    | succ d ih =>
      intro i v m hi hI hm
      obtain ⟨m, rfl⟩ : ∃ k, m = k + 1 := ⟨m - 1, by omega⟩
      simp only [iter]
      rcases h i v (by omega) hI with ⟨v', h1, h2⟩ | h1
      · rw [h2]
        exact ih (i + 1) v' m (by omega) h1 (by omega)
      · exact h1 _
  exact key n 0 v m (by omega) h0 hm

/-! ### Lists -/
theorem take_succ_getD {α : Type} {l : List α} {i : Nat} (h : i < l.length) (d : α) : l.take (i + 1) = l.take i ++ [l.getD i d] := by
  rw [List.take_add_one]
  simp [List.getElem?_eq_getElem h]
theorem map_take_succ {α β : Type} {l : List α} {i : Nat} (h : i < l.length) (d : α) (f : α → β) : (l.take (i + 1)).map f = (l.take i).map f ++ [f (l.getD i d)] := by
  rw [take_succ_getD h d, List.map_append]; rfl
theorem all_take_succ {α : Type} {l : List α} {i : Nat} (h : i < l.length) (d : α) (p : α → Bool) : (l.take (i + 1)).all p = ((l.take i).all p && p (l.getD i d)) := by
  rw [take_succ_getD h d, List.all_append]; simp
theorem getD_lt {α : Type} {l : List α} {i : Nat} (h : i < l.length) (d : α) : l.getD i d = l[i] := by simp [h]
theorem getD_mem {α : Type} {l : List α} {i : Nat} (h : i < l.length) (d : α) : l.getD i d ∈ l := by rw [getD_lt h]; exact List.getElem_mem h
/-- The first of a list's members, in order, that is such a one: its place. -/
theorem all_or_first {α : Type} (p : α → Bool) (d : α) (l : List α) : l.all p = true ∨ ∃ n, n < l.length ∧ p (l.getD n d) = false ∧ ∀ i, i < n → p (l.getD i d) = true := by
  induction l with
  | nil => exact .inl rfl
  | cons x l ih =>
    cases hx : p x with
    | false => exact .inr ⟨0, by simp, by simpa using hx, fun i hi => by omega⟩
    | true =>
      rcases ih with ih | ⟨n, h1, h2, h3⟩
      · left; simp [hx, ih]
      · refine .inr ⟨n + 1, by simpa using h1, by simpa using h2, fun i hi => ?_⟩
        cases i with
        | zero => simpa using hx
        | succ i => simpa using h3 i (by omega)
theorem all_getD {α : Type} {p : α → Bool} {l : List α} (h : l.all p = true) (d : α) {i : Nat} (hi : i < l.length) : p (l.getD i d) = true :=
  List.all_eq_true.1 h _ (getD_mem hi d)
theorem not_all {α : Type} {p : α → Bool} {l : List α} {d : α} {n : Nat} (h : n < l.length) (hp : p (l.getD n d) = false) : l.all p = false := by
  rw [List.all_eq_false]
  exact ⟨_, getD_mem h d, by rw [hp]; simp⟩
/-- All numbers below n, or the first that is not such a one. -/
theorem nat_or_first (P : Nat → Prop) [DecidablePred P] : ∀ n, (∀ i, i < n → P i) ∨ ∃ k, k < n ∧ ¬ P k ∧ ∀ i, i < k → P i
  | 0 => .inl fun i h => by omega
  | n + 1 => by
    rcases nat_or_first P n with h | ⟨k, h1, h2, h3⟩
    · by_cases hn : P n
      · left
        intro i hi
        rcases Nat.lt_or_ge i n with h' | h'
        · exact h i h'
        · have : i = n := by omega
          subst this; exact hn
      · exact .inr ⟨n, by omega, hn, h⟩
    · exact .inr ⟨k, by omega, h2, h3⟩
theorem list_ext_getD {α : Type} {a b : List α} (d : α) (hl : a.length = b.length) (h : ∀ i, i < a.length → a.getD i d = b.getD i d) : a = b := by
  apply List.ext_getElem hl
  intro i h1 h2
  have := h i h1
  rwa [getD_lt h1, getD_lt h2] at this
/-- A row of zeros of which the first i are written. -/
def fillL (u : Nat → Int) (n i : Nat) : List Int := (List.range n).map fun j => if j < i then u j else 0
theorem fillL_len (u : Nat → Int) (n i : Nat) : (fillL u n i).length = n := by simp [fillL]
theorem fillL_zero (u : Nat → Int) (n : Nat) : fillL u n 0 = List.replicate n 0 := by
  apply List.ext_getElem (by simp [fillL])
  intro j h1 h2
  simp [fillL]
theorem fillL_set {u : Nat → Int} {n i : Nat} : (fillL u n i).set i (u i) = fillL u n (i + 1) := by
  apply List.ext_getElem (by simp [fillL])
  intro j h1 h2
  simp only [fillL, List.getElem_set, List.getElem_map, List.getElem_range]
  split
  · rename_i e; subst e; rw [if_pos (by omega)]
  · by_cases h : j < i
    · rw [if_pos h, if_pos (by omega)]
    · rw [if_neg h, if_neg (by omega)]
theorem fillL_all {u : Nat → Int} {n : Nat} : fillL u n n = (List.range n).map u := by
  apply List.ext_getElem (by simp [fillL])
  intro j h1 h2
  simp only [fillL, List.length_map, List.length_range] at h1
  simp [fillL, h1]
theorem range_map_succ {α : Type} (f : Nat → α) (i : Nat) : (List.range (i + 1)).map f = (List.range i).map f ++ [f i] := by
  rw [List.range_succ, List.map_append]; rfl
theorem range_getD {α : Type} (f : Nat → α) {n i : Nat} (h : i < n) (d : α) : ((List.range n).map f).getD i d = f i := by
  rw [getD_lt (by simpa using h)]
  simp
end Go.Proofs.Ytajidgilfkineaa.Ev

set_option linter.unusedVariables false
set_option linter.unusedSimpArgs false
namespace Go.Proofs.Ytajidgilfkineaa.Bm
open Go Ev

theorem cd {α : Sort _} {p : Prop} {i : Decidable p} {x y : α} : (bif @decide p i then x else y) = @ite α p i x y := by by_cases h : p <;> simp [h]
theorem cb {α : Sort _} {a b : Int} {x y : α} : (bif a == b then x else y) = if a = b then x else y := by
  by_cases h : a = b
  · simp [h]
  · rw [if_neg h, cond_f (by simpa using h)]
theorem cn {α : Sort _} {a b : Int} {x y : α} : (bif a != b then x else y) = if a = b then y else x := by
  by_cases h : a = b
  · simp [h]
  · rw [if_neg h, cond_t (by simpa using h)]
theorem cnot {α : Sort _} {b : Bool} {x y : α} : (bif !b then x else y) = bif b then y else x := by cases b <;> rfl

theorem mul_le {w h a b : Int} (h0 : 0 ≤ w) (h1 : w ≤ a) (h2 : 0 ≤ h) (h3 : h ≤ b) : 0 ≤ w * h ∧ w * h ≤ a * b :=
  ⟨Int.mul_nonneg h0 h2, Int.mul_le_mul h1 h3 h2 (by omega)⟩

/-- Sides of a bitmap. -/
def fit (w h : Int) : Bool := decide (0 ≤ w ∧ 0 ≤ h ∧ w ≤ 200 ∧ h ≤ 200 ∧ w * h ≤ 8192)
theorem fit_iff {w h : Int} : fit w h = true ↔ 0 ≤ w ∧ 0 ≤ h ∧ w ≤ 200 ∧ h ≤ 200 ∧ w * h ≤ 8192 := by simp [fit]
theorem fits_ok {fl : Nat} {w h : Int} {K : Bool → Option Ans} : F_bitmap_fits fl w h K = K (fit w h) := by
  unfold F_bitmap_fits fit
  simp only [cd]
  split
  · split
    · split
      · split
        · have := mul_le (a := 200) (b := 200) (show 0 ≤ w by omega) (by omega) (show 0 ≤ h by omega) (by omega)
          rw [wrap64 (by omega) (by omega)]
          exact congrArg K (decide_eq_decide.2 (by omega))
        · exact congrArg K (decide_eq_false (by omega)).symm
      · exact congrArg K (decide_eq_false (by omega)).symm
    · exact congrArg K (decide_eq_false (by omega)).symm
  · exact congrArg K (decide_eq_false (by omega)).symm
theorem sides_ok {fl : Nat} {w h : Int} {K : Bool → Option Ans} : F_ref05_Sides fl w h K = K (fit w h) := by
  unfold F_ref05_Sides fit
  simp only [cd]
  split
  · split
    · split
      · split
        · have := mul_le (a := 200) (b := 200) (show 0 ≤ w by omega) (by omega) (show 0 ≤ h by omega) (by omega)
          rw [wrap64 (by omega) (by omega)]
          exact congrArg K (decide_eq_decide.2 (by omega))
        · exact congrArg K (decide_eq_false (by omega)).symm
      · exact congrArg K (decide_eq_false (by omega)).symm
    · exact congrArg K (decide_eq_false (by omega)).symm
  · exact congrArg K (decide_eq_false (by omega)).symm

/-- A bitmap. -/
def valid (w h : Int) (pix : List Int) : Bool := fit w h && decide ((pix.length : Int) = w * h) && pix.all fun x => decide (x ≤ 1)
theorem valid_iff {w h : Int} {pix : List Int} : valid w h pix = true ↔ (0 ≤ w ∧ 0 ≤ h ∧ w ≤ 200 ∧ h ≤ 200 ∧ w * h ≤ 8192) ∧ (pix.length : Int) = w * h ∧ ∀ x ∈ pix, x ≤ 1 := by
  unfold valid
  rw [Bool.and_eq_true, Bool.and_eq_true, fit_iff, decide_eq_true_eq, List.all_eq_true]
  simp [and_assoc]
theorem fit_mul {w h : Int} (hf : fit w h = true) : IntKind.i64.wrap (w * h) = w * h := by
  obtain ⟨h1, h2, h3, h4, h5⟩ := fit_iff.1 hf
  have := mul_le (a := 200) (b := 200) h1 h3 h2 h4
  exact wrap64 (by omega) (by omega)

theorem valid_ok {fl : Nat} (hfl : 9223372036854775808 ≤ fl) {w h : Int} {pix : List Int} {K : Bool → Option Ans} : F_bitmap_Valid fl w h pix K = K (valid w h pix) := by
  unfold F_bitmap_Valid
  rw [fits_ok]
  unfold valid
  cases hf : fit w h with
  | false => rfl
  | true =>
  rw [cond_f (b := !true) rfl, fit_mul hf, cn]
  obtain ⟨h1, h2, h3, h4, h5⟩ := fit_iff.1 hf
  split
  rotate_left
  · rename_i hne
    rw [decide_eq_false hne]
    rfl
  rename_i he
  rw [decide_eq_true he]
  simp only [Bool.true_and]
  unfold L_bitmap_Valid_0
  rcases all_or_first (fun x => decide (x ≤ 1)) 0 pix with ha | ⟨n, hn, hb, hi⟩
  · rw [ha]
    refine iter_seq (step := S_bitmap_Valid_0 fl) (fun i : Nat => (pix, (pix.length : Int), (i : Int))) pix.length rfl (fun i hi c => ?_) (fun c => ?_) (by omega)
    · have g := all_getD ha 0 hi
      simp only [decide_eq_true_eq] at g
      simp (disch := omega) only [S_bitmap_Valid_0, dec_t, dec_f, wrap64, Int.toNat_natCast]
      rfl
    · simp (disch := omega) only [S_bitmap_Valid_0, dec_f]
  · rw [not_all hn hb]
    refine iter_seq (step := S_bitmap_Valid_0 fl) (fun i : Nat => (pix, (pix.length : Int), (i : Int))) n rfl (fun i hin c => ?_) (fun c => ?_) (by omega)
    · have g := hi i hin
      simp only [decide_eq_true_eq] at g
      simp (disch := omega) only [S_bitmap_Valid_0, dec_t, dec_f, wrap64, Int.toNat_natCast]
      rfl
    · simp only [decide_eq_false_iff_not] at hb
      simp (disch := omega) only [S_bitmap_Valid_0, dec_t, Int.toNat_natCast]
theorem rvalid_ok {fl : Nat} (hfl : 9223372036854775808 ≤ fl) {w h : Int} {pix : List Int} {K : Bool → Option Ans} : F_ref05_Valid fl w h pix K = K (valid w h pix) := by
  unfold F_ref05_Valid
  rw [sides_ok]
  unfold valid
  cases hf : fit w h with
  | false => rfl
  | true =>
  rw [cond_f (b := !true) rfl, fit_mul hf, cn]
  obtain ⟨h1, h2, h3, h4, h5⟩ := fit_iff.1 hf
  split
  rotate_left
  · rename_i hne
    rw [decide_eq_false hne]
    rfl
  rename_i he
  rw [decide_eq_true he]
  simp only [Bool.true_and]
  unfold L_ref05_Valid_0
  rcases all_or_first (fun x => decide (x ≤ 1)) 0 pix with ha | ⟨n, hn, hb, hi⟩
  · rw [ha]
    refine iter_seq (step := S_ref05_Valid_0 fl) (fun i : Nat => ((i : Int), w, h, pix)) pix.length rfl (fun i hi c => ?_) (fun c => ?_) (by omega)
    · have g := all_getD ha 0 hi
      simp only [decide_eq_true_eq] at g
      simp (disch := omega) only [S_ref05_Valid_0, dec_t, dec_f, wrap64, Int.toNat_natCast]
      rfl
    · simp (disch := omega) only [S_ref05_Valid_0, dec_f]
  · rw [not_all hn hb]
    refine iter_seq (step := S_ref05_Valid_0 fl) (fun i : Nat => ((i : Int), w, h, pix)) n rfl (fun i hin c => ?_) (fun c => ?_) (by omega)
    · have g := hi i hin
      simp only [decide_eq_true_eq] at g
      simp (disch := omega) only [S_ref05_Valid_0, dec_t, dec_f, wrap64, Int.toNat_natCast]
      rfl
    · simp only [decide_eq_false_iff_not] at hb
      simp (disch := omega) only [S_ref05_Valid_0, dec_t, Int.toNat_natCast]

/-- A place in a bitmap. -/
def ins (w h x y : Int) : Prop := 0 ≤ x ∧ 0 ≤ y ∧ x < w ∧ y < h
instance {w h x y : Int} : Decidable (ins w h x y) := by unfold ins; infer_instance
/-- A pixel, white outside. -/
def px (w h : Int) (pix : List Int) (x y : Int) : Int := if ins w h x y then pix.getD (y * w + x).toNat 0 else 0
theorem place {w h x y : Int} (hi : ins w h x y) : 0 ≤ y * w + x ∧ y * w + x < w * h := by
  obtain ⟨h1, h2, h3, h4⟩ := hi
  have a : 0 ≤ y * w := Int.mul_nonneg h2 (by omega)
  have b : (y + 1) * w ≤ h * w := Int.mul_le_mul_of_nonneg_right (by omega) (by omega)
  rw [Int.add_mul, Int.one_mul, Int.mul_comm h w] at b
  omega
theorem place_y {w h x y : Int} (hi : ins w h x y) : 0 ≤ y * w ∧ y * w < w * h := by
  obtain ⟨h1, h2, h3, h4⟩ := hi
  have a : 0 ≤ y * w := Int.mul_nonneg h2 (by omega)
  have b : (y + 1) * w ≤ h * w := Int.mul_le_mul_of_nonneg_right (by omega) (by omega)
  rw [Int.add_mul, Int.one_mul, Int.mul_comm h w] at b
  omega
theorem px_01 {w h : Int} {pix : List Int} (h0 : ∀ v ∈ pix, 0 ≤ v ∧ v ≤ 1) (x y : Int) : 0 ≤ px w h pix x y ∧ px w h pix x y ≤ 1 := by
  unfold px
  split
  · by_cases hl : (y * w + x).toNat < pix.length
    · exact h0 _ (getD_mem hl 0)
    · rw [List.getD_eq_getElem?_getD, List.getElem?_eq_none (by omega)]
      simp
  · omega
theorem at_ok {fl : Nat} {w h : Int} {pix : List Int} {x y : Int} (hm : w * h ≤ 9000000000000000000) (hl : (pix.length : Int) = w * h) (h0 : ∀ v ∈ pix, 0 ≤ v ∧ v ≤ 255) {K : Int → Option Ans} : F_ref05_At fl w h pix x y K = K (px w h pix x y) := by
  unfold F_ref05_At F_ref05_inside px
  simp only [cd]
  by_cases hi : ins w h x y
  · have hp := place hi
    have hy := place_y hi
    rw [if_pos hi]
    obtain ⟨h1, h2, h3, h4⟩ := hi
    rw [if_pos (by omega), if_pos (by omega), if_pos (by omega), decide_eq_true h4, cond_f (b := !true) rfl, wrap64 (x := y * w) (by omega) (by omega), wrap64 (x := y * w + x) (by omega) (by omega), if_pos (by omega)]
    have := h0 _ (getD_mem (show (y * w + x).toNat < pix.length by omega) 0)
    rw [wrap64 (by omega) (by omega)]
  · rw [if_neg hi]
    unfold ins at hi
    split
    · split
      · split
        · rw [decide_eq_false (by omega)]; rfl
        · rfl
      · rfl
    · rfl
end Go.Proofs.Ytajidgilfkineaa.Bm

set_option linter.unusedVariables false
set_option linter.unusedSimpArgs false
namespace Go.Proofs.Ytajidgilfkineaa.Seg
open Go Ev Bm

/-! ### Sizes -/
def szGo : Nat → Int → List Int → List Int
  | 0, _, acc => acc
  | f + 1, n, acc => if n > 0 then szGo f (n / 128) ((n % 128 + 128) :: acc) else acc
/-- The bytes of a size. -/
def sz (n : Int) : List Int := szGo 5 (n / 128) [n % 128]
theorem szGo_len : ∀ f n acc, (szGo f n acc).length ≤ f + acc.length
  | 0, n, acc => by simp [szGo]
  | f + 1, n, acc => by
    simp only [szGo]
    split
    · have := szGo_len f (n / 128) ((n % 128 + 128) :: acc)
      simp at this
      omega
    · omega
theorem sz_len (n : Int) : (sz n).length ≤ 6 := szGo_len 5 _ _
theorem size_loop {fl : Nat} {b : List Int → Option Ans} : ∀ (f : Nat) (n : Int) (acc : List Int) (m : Nat), f < m → 0 ≤ n → n ≤ 2147483647 → n < 128 ^ f → acc.length + f ≤ 100 → iter (S_bits_Size_0 fl) m (n, acc) b = b (szGo f n acc)
  | 0, n, acc, m, hm, h0, h2, h1, hl => by
    obtain ⟨m, rfl⟩ : ∃ k, m = k + 1 := ⟨m - 1, by omega⟩
    have : n = 0 := by simp at h1; omega
    subst this
    simp only [iter, S_bits_Size_0, szGo]
    rw [dec_f (by omega)]
  | f + 1, n, acc, m, hm, h0, h2, h1, hl => by
    obtain ⟨m, rfl⟩ : ∃ k, m = k + 1 := ⟨m - 1, by omega⟩
    simp only [iter, S_bits_Size_0, szGo]
    by_cases hn : n > 0
    · have hq : n / 128 < 128 ^ f := by
        rw [Int.pow_succ] at h1
        exact Int.ediv_lt_of_lt_mul (by omega) h1
      rw [dec_t hn, if_pos hn, dec_t (by simp; omega)]
      have e1 : n.tmod 128 = n % 128 := Int.tmod_eq_emod_of_nonneg h0
      have e2 : n.tdiv 128 = n / 128 := Int.tdiv_eq_ediv_of_nonneg h0
      rw [e1, e2, wrap8 (x := n % 128) (by omega) (by omega), wrap8 (by omega) (by omega), List.singleton_append, wrap64 (by omega) (by omega)]
      exact size_loop f (n / 128) _ m (by omega) (by omega) (by omega) hq (by simp; omega)
    · rw [dec_f hn, if_neg hn]
theorem rsize_loop {fl : Nat} {b : List Int → Option Ans} : ∀ (f : Nat) (n : Int) (acc : List Int) (m : Nat), f < m → 0 ≤ n → n ≤ 2147483647 → n < 128 ^ f → acc.length + f ≤ 100 → iter (S_ref01_Size_0 fl) m (n, acc) b = b (szGo f n acc)
  | 0, n, acc, m, hm, h0, h2, h1, hl => by
    obtain ⟨m, rfl⟩ : ∃ k, m = k + 1 := ⟨m - 1, by omega⟩
    have : n = 0 := by simp at h1; omega
    subst this
    simp only [iter, S_ref01_Size_0, szGo]
    rw [dec_f (by omega)]
  | f + 1, n, acc, m, hm, h0, h2, h1, hl => by
    obtain ⟨m, rfl⟩ : ∃ k, m = k + 1 := ⟨m - 1, by omega⟩
    simp only [iter, S_ref01_Size_0, szGo]
    by_cases hn : n > 0
    · have hq : n / 128 < 128 ^ f := by
        rw [Int.pow_succ] at h1
        exact Int.ediv_lt_of_lt_mul (by omega) h1
      rw [dec_t hn, if_pos hn, dec_t (by simp; omega)]
      have e1 : n.tmod 128 = n % 128 := Int.tmod_eq_emod_of_nonneg h0
      have e2 : n.tdiv 128 = n / 128 := Int.tdiv_eq_ediv_of_nonneg h0
      rw [e1, e2, wrap64 (x := 128 + n % 128) (by omega) (by omega), wrap8 (by omega) (by omega), List.singleton_append, wrap64 (by omega) (by omega), Int.add_comm 128]
      exact rsize_loop f (n / 128) _ m (by omega) (by omega) (by omega) hq (by simp; omega)
    · rw [dec_f hn, if_neg hn]
/-- What Size returns. -/
def sizeR (n : Int) : Int × List Int := if 0 ≤ n ∧ n ≤ 2147483647 then (0, sz n) else (2, [])
theorem bsize {fl : Nat} (hfl : 9223372036854775808 ≤ fl) {n : Int} {K : Int × List Int → Option Ans} : F_bits_Size fl n K = K (sizeR n) := by
  unfold F_bits_Size sizeR
  by_cases h : 0 ≤ n ∧ n ≤ 2147483647
  · rw [dec_f (by omega), dec_f (by omega), if_pos h]
    unfold L_bits_Size_0
    have e1 : n.tmod 128 = n % 128 := Int.tmod_eq_emod_of_nonneg h.1
    have e2 : n.tdiv 128 = n / 128 := Int.tdiv_eq_ediv_of_nonneg h.1
    rw [e1, e2, wrap8 (by omega) (by omega), wrap64 (by omega) (by omega)]
    exact size_loop 5 (n / 128) _ fl (by omega) (by omega) (by omega) (by rw [show (128 : Int) ^ 5 = 34359738368 by decide]; omega) (by simp)
  · rw [if_neg h]
    by_cases h0 : n < 0
    · rw [dec_t h0]
    · rw [dec_f h0, dec_t (by omega)]
theorem rbsize {fl : Nat} (hfl : 9223372036854775808 ≤ fl) {n : Int} {K : Int × List Int → Option Ans} : F_ref01_Size fl n K = K (sizeR n) := by
  unfold F_ref01_Size sizeR
  by_cases h : 0 ≤ n ∧ n ≤ 2147483647
  · rw [dec_f (by omega), dec_f (by omega), if_pos h]
    unfold L_ref01_Size_0
    have e1 : n.tmod 128 = n % 128 := Int.tmod_eq_emod_of_nonneg h.1
    have e2 : n.tdiv 128 = n / 128 := Int.tdiv_eq_ediv_of_nonneg h.1
    rw [e1, e2, wrap8 (by omega) (by omega), wrap64 (by omega) (by omega)]
    exact rsize_loop 5 (n / 128) _ fl (by omega) (by omega) (by omega) (by rw [show (128 : Int) ^ 5 = 34359738368 by decide]; omega) (by simp)
  · rw [if_neg h]
    by_cases h0 : n < 0
    · rw [dec_t h0]
    · rw [dec_f h0, dec_t (by omega)]
theorem rsz {fl : Nat} (hfl : 9223372036854775808 ≤ fl) {n : Int} (h0 : 0 ≤ n) (h1 : n ≤ 2147483647) {K : List Int → Option Ans} : F_ref12_size fl n K = K (sz n) := by
  unfold F_ref12_size
  rw [rbsize hfl]
  unfold sizeR
  rw [if_pos ⟨h0, h1⟩]
theorem psz {fl : Nat} (hfl : 9223372036854775808 ≤ fl) {n : Int} {l : List Int} (h0 : 0 ≤ n) (h1 : n ≤ 2147483647) (hl : l.length ≤ 1000000) {K : List Int → Option Ans} : F_segment_Header_1_35f fl n l K = K (l ++ sz n) := by
  unfold F_segment_Header_1_35f
  have := sz_len n
  rw [bsize hfl]
  unfold sizeR
  rw [if_pos ⟨h0, h1⟩]
  dsimp only
  rw [dec_t (by omega)]

/-! ### Packed bits -/
def B8 (b0 b1 b2 b3 b4 b5 b6 b7 : Bool) : Int := b0.toNat * 128 + b1.toNat * 64 + b2.toNat * 32 + b3.toNat * 16 + b4.toNat * 8 + b5.toNat * 4 + b6.toNat * 2 + b7.toNat
theorem ior_step : ∀ (t : Fin 8) (b0 b1 b2 b3 b4 b5 b6 b7 : Bool),
    ior .u8 (B8 (b0 && decide (0 < t.val)) (b1 && decide (1 < t.val)) (b2 && decide (2 < t.val)) (b3 && decide (3 < t.val)) (b4 && decide (4 < t.val)) (b5 && decide (5 < t.val)) (b6 && decide (6 < t.val)) (b7 && decide (7 < t.val)))
      (ishl .u8 (([b0, b1, b2, b3, b4, b5, b6, b7].getD t.val false).toNat : Int) (7 - (t.val : Int)))
    = B8 (b0 && decide (0 < t.val + 1)) (b1 && decide (1 < t.val + 1)) (b2 && decide (2 < t.val + 1)) (b3 && decide (3 < t.val + 1)) (b4 && decide (4 < t.val + 1)) (b5 && decide (5 < t.val + 1)) (b6 && decide (6 < t.val + 1)) (b7 && decide (7 < t.val + 1)) := by
  decide +kernel
theorem add_step : ∀ (t : Fin 8) (b0 b1 b2 b3 b4 b5 b6 b7 : Bool),
    (if [b0, b1, b2, b3, b4, b5, b6, b7].getD t.val false = true then
      IntKind.u8.wrap (B8 (b0 && decide (0 < t.val)) (b1 && decide (1 < t.val)) (b2 && decide (2 < t.val)) (b3 && decide (3 < t.val)) (b4 && decide (4 < t.val)) (b5 && decide (5 < t.val)) (b6 && decide (6 < t.val)) (b7 && decide (7 < t.val)) + ishr .u8 128 (t.val : Int))
     else B8 (b0 && decide (0 < t.val)) (b1 && decide (1 < t.val)) (b2 && decide (2 < t.val)) (b3 && decide (3 < t.val)) (b4 && decide (4 < t.val)) (b5 && decide (5 < t.val)) (b6 && decide (6 < t.val)) (b7 && decide (7 < t.val)))
    = B8 (b0 && decide (0 < t.val + 1)) (b1 && decide (1 < t.val + 1)) (b2 && decide (2 < t.val + 1)) (b3 && decide (3 < t.val + 1)) (b4 && decide (4 < t.val + 1)) (b5 && decide (5 < t.val + 1)) (b6 && decide (6 < t.val + 1)) (b7 && decide (7 < t.val + 1)) := by
  decide +kernel
/-- Byte j of the first i bits. -/
def by8 (l : List Bool) (i j : Nat) : Int :=
  let g := fun t => l.getD (8 * j + t) false && decide (8 * j + t < i)
  B8 (g 0) (g 1) (g 2) (g 3) (g 4) (g 5) (g 6) (g 7)
def pk (l : List Bool) (i n : Nat) : List Int := (List.range n).map (by8 l i)
theorem pk_len (l : List Bool) (i n : Nat) : (pk l i n).length = n := by simp [pk]
theorem pk_zero (l : List Bool) (n : Nat) : pk l 0 n = List.replicate n 0 := by
  apply List.ext_getElem (by simp [pk])
  intro i h1 h2
  simp [pk, by8, B8]
theorem pk_get {l : List Bool} {i n j : Nat} (h : j < n) : (pk l i n).getD j 0 = by8 l i j := by
  rw [getD_lt (by rw [pk_len]; exact h)]
  simp [pk]
theorem pk_set {l : List Bool} {i n : Nat} (h : i / 8 < n) : (pk l i n).set (i / 8) (by8 l (i + 1) (i / 8)) = pk l (i + 1) n := by
  apply List.ext_getElem (by simp [pk])
  intro j h1 h2
  simp only [pk_len] at h2
  rw [List.getElem_set]
  split
  · rename_i e; subst e; simp [pk]
  · rename_i e
    simp only [pk, List.getElem_map, List.getElem_range, by8]
    have hd : ∀ t, t < 8 → (decide (8 * j + t < i)) = decide (8 * j + t < i + 1) := fun t ht => decide_eq_decide.2 (by omega)
    rw [hd 0 (by omega), hd 1 (by omega), hd 2 (by omega), hd 3 (by omega), hd 4 (by omega), hd 5 (by omega), hd 6 (by omega), hd 7 (by omega)]
theorem by8_lo {l : List Bool} {i m : Nat} (hm : m = i ∨ m = i + 1) : by8 l m (i / 8) = (let g := fun t => l.getD (8 * (i / 8) + t) false
    let u := i % 8 + (m - i)
    B8 (g 0 && decide (0 < u)) (g 1 && decide (1 < u)) (g 2 && decide (2 < u)) (g 3 && decide (3 < u)) (g 4 && decide (4 < u)) (g 5 && decide (5 < u)) (g 6 && decide (6 < u)) (g 7 && decide (7 < u))) := by
  have hd : ∀ t, decide (8 * (i / 8) + t < m) = decide (t < i % 8 + (m - i)) := fun t => decide_eq_decide.2 (by omega)
  simp only [by8, hd]
theorem get8 (l : List Bool) (a : Nat) : ∀ t, t < 8 → [l.getD (a + 0) false, l.getD (a + 1) false, l.getD (a + 2) false, l.getD (a + 3) false, l.getD (a + 4) false, l.getD (a + 5) false, l.getD (a + 6) false, l.getD (a + 7) false].getD t false = l.getD (a + t) false := by
  intro t ht
  match t, ht with
  | 0, _ => rfl
  | 1, _ => rfl
  | 2, _ => rfl
  | 3, _ => rfl
  | 4, _ => rfl
  | 5, _ => rfl
  | 6, _ => rfl
  | 7, _ => rfl
theorem by8_ior (l : List Bool) (i : Nat) : ior .u8 (by8 l i (i / 8)) (ishl .u8 ((l.getD i false).toNat : Int) (7 - ((i % 8 : Nat) : Int))) = by8 l (i + 1) (i / 8) := by
  have h := ior_step ⟨i % 8, by omega⟩ (l.getD (8 * (i / 8) + 0) false) (l.getD (8 * (i / 8) + 1) false) (l.getD (8 * (i / 8) + 2) false) (l.getD (8 * (i / 8) + 3) false) (l.getD (8 * (i / 8) + 4) false) (l.getD (8 * (i / 8) + 5) false) (l.getD (8 * (i / 8) + 6) false) (l.getD (8 * (i / 8) + 7) false)
  simp only at h
  rw [get8 l (8 * (i / 8)) (i % 8) (by omega), show 8 * (i / 8) + i % 8 = i by omega] at h
  rw [by8_lo (.inl rfl), by8_lo (i := i) (.inr rfl), Nat.sub_self, Nat.add_zero, show i + 1 - i = 1 by omega]
  exact h
theorem by8_add (l : List Bool) (i : Nat) : (if l.getD i false = true then IntKind.u8.wrap (by8 l i (i / 8) + ishr .u8 128 ((i % 8 : Nat) : Int)) else by8 l i (i / 8)) = by8 l (i + 1) (i / 8) := by
  have h := add_step ⟨i % 8, by omega⟩ (l.getD (8 * (i / 8) + 0) false) (l.getD (8 * (i / 8) + 1) false) (l.getD (8 * (i / 8) + 2) false) (l.getD (8 * (i / 8) + 3) false) (l.getD (8 * (i / 8) + 4) false) (l.getD (8 * (i / 8) + 5) false) (l.getD (8 * (i / 8) + 6) false) (l.getD (8 * (i / 8) + 7) false)
  simp only at h
  rw [get8 l (8 * (i / 8)) (i % 8) (by omega), show 8 * (i / 8) + i % 8 = i by omega] at h
  rw [by8_lo (.inl rfl), by8_lo (i := i) (.inr rfl), Nat.sub_self, Nat.add_zero, show i + 1 - i = 1 by omega]
  exact h

/-- The bits as bytes. -/
def bits (l : List Bool) : List Int := l.map fun b => (b.toNat : Int)
theorem bits_len (l : List Bool) : (bits l).length = l.length := by simp [bits]
theorem bits_get {l : List Bool} {i : Nat} (h : i < l.length) : (bits l).getD i 0 = ((l.getD i false).toNat : Int) := by
  rw [getD_lt (by rw [bits_len]; exact h), getD_lt h]
  simp [bits]
/-- The packed bits. -/
def packed (l : List Bool) : List Int := pk l l.length ((l.length + 7) / 8)
theorem packed_len (l : List Bool) : (packed l).length = (l.length + 7) / 8 := pk_len _ _ _
theorem tdiv8 (i : Nat) : (i : Int).tdiv 8 = ((i / 8 : Nat) : Int) := by rw [Int.tdiv_eq_ediv_of_nonneg (by omega)]; omega
theorem tmod8 (i : Nat) : (i : Int).tmod 8 = ((i % 8 : Nat) : Int) := by rw [Int.tmod_eq_emod_of_nonneg (by omega)]; omega
theorem up8 (n : Nat) (h : n ≤ 1000000000) : IntKind.i64.wrap ((IntKind.i64.wrap ((n : Int) + 7)).tdiv 8) = (((n + 7) / 8 : Nat) : Int) := by
  rw [wrap64 (x := (n : Int) + 7) (by omega) (by omega)]
  have := tdiv8 (n + 7)
  rw [show ((n + 7 : Nat) : Int) = (n : Int) + 7 by omega] at this
  rw [this]
  exact wrap64 (by omega) (by omega)
theorem pack {fl : Nat} (hfl : 9223372036854775808 ≤ fl) {l : List Bool} (hl : l.length ≤ 1000000000) {K : Int × List Int → Option Ans} : F_bits_Pack fl (bits l) K = K (0, packed l) := by
  unfold F_bits_Pack
  rw [bits_len, up8 _ hl, dec_t (by omega), Int.toNat_natCast]
  unfold L_bits_Pack_0 packed
  refine iter_seq (step := S_bits_Pack_0 fl) (fun i : Nat => (bits l, (l.length : Int), (i : Int), pk l i ((l.length + 7) / 8))) l.length (by simp only [pk_zero]; rfl) (fun i hi c => ?_) (fun c => ?_) (by omega)
  · have hb : ((l.getD i false).toNat : Int) ≤ 1 := by cases l.getD i false <;> simp
    simp (disch := first | omega | (simp only [bits_len, pk_len]; omega)) only [S_bits_Pack_0, dec_t, dec_f, tdiv8, tmod8, wrap64, Int.toNat_natCast, bits_get hi, pk_get, by8_ior, pk_set]
    rfl
  · simp (disch := omega) only [S_bits_Pack_0, dec_f]
end Go.Proofs.Ytajidgilfkineaa.Seg

set_option linter.unusedVariables false
set_option linter.unusedSimpArgs false
namespace Go.Proofs.Ytajidgilfkineaa.Seg
open Go Ev Bm

/-- The number in front of the i-th one. -/
def lastOf (refs : List Int) : Nat → Int
  | 0 => -1
  | i + 1 => refs.getD i 0
def asc (refs : List Int) (n : Int) : Prop := ∀ i, i < refs.length → lastOf refs i < refs.getD i 0 ∧ refs.getD i 0 < n
instance {refs : List Int} {n : Int} : Decidable (asc refs n) := by unfold asc; infer_instance
def nums (n k p : Int) (refs : List Int) (keep : List Bool) (data : List Int) : Prop :=
  0 ≤ n ∧ n ≤ 10000 ∧ 0 ≤ k ∧ k ≤ 15 ∧ 0 ≤ p ∧ p ≤ 1000 ∧ refs.length ≤ 20 ∧ keep.length = refs.length + 1 ∧ data.length ≤ 20000
instance {n k p : Int} {refs : List Int} {keep : List Bool} {data : List Int} : Decidable (nums n k p refs keep data) := by unfold nums; infer_instance
/-- A segment is valid. -/
def valS (n k p : Int) (refs : List Int) (keep : List Bool) (data : List Int) : Bool := decide (nums n k p refs keep data ∧ asc refs n)

theorem svalid {fl : Nat} (hfl : 9223372036854775808 ≤ fl) {n k p : Int} {refs : List Int} {keep : List Bool} {data : List Int} (h1 : refs.length ≤ 1000000000000000) (h2 : keep.length ≤ 1000000000000000) (h3 : data.length ≤ 1000000000000000) {K : Bool → Option Ans} :
    F_segment_Valid fl n k p refs keep data K = K (valS n k p refs keep data) := by
  unfold F_segment_Valid valS
  simp only [cd, cn]
  rw [wrap64 (by omega) (by omega)]
  by_cases hn : nums n k p refs keep data
  · obtain ⟨a1, a2, a3, a4, a5, a6, a7, a8, a9⟩ := hn
    have hn : nums n k p refs keep data := ⟨a1, a2, a3, a4, a5, a6, a7, a8, a9⟩
    rw [if_neg (by omega), if_neg (by omega), if_neg (by omega), if_neg (by omega), if_neg (by omega), if_neg (by omega), if_neg (by omega), if_pos (by omega), if_neg (by omega)]
    unfold L_segment_Valid_0
    rcases nat_or_first (fun i => lastOf refs i < refs.getD i 0 ∧ refs.getD i 0 < n) refs.length with h | ⟨m, hm, hb, hi⟩
    · rw [decide_eq_true (show nums n k p refs keep data ∧ asc refs n from ⟨hn, h⟩)]
      refine iter_seq (step := S_segment_Valid_0 fl) (fun i : Nat => (lastOf refs i, refs, (refs.length : Int), (i : Int), n, k, p, refs, keep, data)) refs.length rfl (fun i hi c => ?_) (fun c => ?_) (by omega)
      · have := h i hi
        simp (disch := omega) only [S_segment_Valid_0, dec_t, dec_f, wrap64, Int.toNat_natCast]
        rfl
      · simp (disch := omega) only [S_segment_Valid_0, dec_f]
    · rw [decide_eq_false (show ¬(nums n k p refs keep data ∧ asc refs n) from fun h => hb (h.2 m hm))]
      refine iter_seq (step := S_segment_Valid_0 fl) (fun i : Nat => (lastOf refs i, refs, (refs.length : Int), (i : Int), n, k, p, refs, keep, data)) m rfl (fun i him c => ?_) (fun c => ?_) (by omega)
      · have := hi i him
        simp (disch := omega) only [S_segment_Valid_0, dec_t, dec_f, wrap64, Int.toNat_natCast]
        rfl
      · simp (disch := omega) only [S_segment_Valid_0, dec_t, Int.toNat_natCast]
        by_cases hc : refs.getD m 0 ≤ lastOf refs m
        · rw [dec_t hc]
        · rw [dec_f hc, dec_t (by omega)]
  · rw [decide_eq_false (fun h => hn h.1)]
    unfold nums at hn
    split
    · rfl
    split
    · rfl
    split
    · rfl
    split
    · rfl
    split
    · rfl
    split
    · rfl
    split
    · rfl
    split
    · split
      · rfl
      · exact absurd ⟨by omega, by omega, by omega, by omega, by omega, by omega, by omega, by omega, by omega⟩ hn
    · rfl
theorem rsvalid {fl : Nat} (hfl : 9223372036854775808 ≤ fl) {n k p : Int} {refs : List Int} {keep : List Bool} {data : List Int} (h1 : refs.length ≤ 1000000000000000) (h2 : keep.length ≤ 1000000000000000) (h3 : data.length ≤ 1000000000000000) {K : Bool → Option Ans} :
    F_ref12_Valid fl n k p refs keep data K = K (valS n k p refs keep data) := by
  have e : F_ref12_Valid fl n k p refs keep data K = F_segment_Valid fl n k p refs keep data K := by kernel_rfl
  rw [e]
  exact svalid hfl h1 h2 h3

/-- What refers to other segments: the sizes of the differences. -/
def refB (n : Int) (refs : List Int) : List Int := refs.flatMap fun r => sz (n - r)
theorem refB_take {n : Int} {refs : List Int} {i : Nat} (h : i < refs.length) : refB n (refs.take (i + 1)) = refB n (refs.take i) ++ sz (n - refs.getD i 0) := by
  unfold refB
  rw [take_succ_getD h 0, List.flatMap_append]
  simp
theorem refB_len {n : Int} : ∀ (refs : List Int), (refB n refs).length ≤ 6 * refs.length
  | [] => by simp [refB]
  | r :: refs => by
    have := refB_len (n := n) refs
    have h := sz_len (n - r)
    unfold refB at this ⊢
    rw [List.flatMap_cons, List.length_append, List.length_cons]
    omega
/-- A header's bytes. -/
def hdr (n k p : Int) (refs : List Int) (keep : List Bool) (dl : Nat) : List Int :=
  sz n ++ ((if refs.length = 0 then [k] else (k + 16) :: (sz refs.length ++ refB n refs)) ++ (packed keep ++ (sz p ++ sz dl)))
/-- What Header returns. -/
def headerR (n k p : Int) (refs : List Int) (keep : List Bool) (data : List Int) : Int × List Int :=
  if valS n k p refs keep data = true then (0, hdr n k p refs keep data.length) else (2, [])
theorem valS_iff {n k p : Int} {refs : List Int} {keep : List Bool} {data : List Int} : valS n k p refs keep data = true ↔ nums n k p refs keep data ∧ asc refs n := by simp [valS]
theorem asc_get {n : Int} {refs : List Int} (h : asc refs n) {i : Nat} (hi : i < refs.length) : 0 ≤ refs.getD i 0 ∧ refs.getD i 0 < n := by
  refine ⟨?_, (h i hi).2⟩
  have : ∀ j, j ≤ i → -1 ≤ lastOf refs j := by
    intro j
    induction j with
    | zero => intro _; simp [lastOf]
    | succ j ih =>
      intro hj
      have a := ih (by omega)
      have b := (h j (by omega)).1
      simp only [lastOf]
      omega
  have a := this i (Nat.le_refl _)
  have b := (h i hi).1
  omega

theorem flag {fl : Nat} {b : Bool} {K : Int → Option Ans} : F_segment_flag fl b K = K (b.toNat : Int) := by
  unfold F_segment_flag
  cases b <;> rfl
theorem keep_loop {fl : Nat} (hfl : 9223372036854775808 ≤ fl) {n k p : Int} {refs : List Int} {keep : List Bool} {data out : List Int} {b} (hl : keep.length ≤ 1000000) :
    L_segment_Header_2 fl (keep, (keep.length : Int), 0, n, k, p, refs, keep, data, [], out) b = b (n, k, p, refs, keep, data, bits keep, out) := by
  unfold L_segment_Header_2
  refine iter_seq (step := S_segment_Header_2 fl) (fun i : Nat => (keep, (keep.length : Int), (i : Int), n, k, p, refs, keep, data, bits (keep.take i), out)) keep.length rfl (fun i hi c => ?_) (fun c => ?_) (by omega)
  · have e : bits (keep.take (i + 1)) = bits (keep.take i) ++ [((keep.getD i false).toNat : Int)] := map_take_succ hi false _
    simp (disch := first | omega | (simp only [bits_len, List.length_take, List.length_singleton]; omega)) only [S_segment_Header_2, dec_t, wrap64, Int.toNat_natCast, flag, e]
    rfl
  · simp (disch := omega) only [S_segment_Header_2, dec_f, List.take_length]
theorem refs_loop {fl : Nat} (hfl : 9223372036854775808 ≤ fl) {n k p : Int} {refs : List Int} {keep : List Bool} {data out : List Int} {b} (hn : n ≤ 10000) (ha : asc refs n) (hl : refs.length ≤ 20) (ho : out.length ≤ 100) :
    L_segment_Header_0 fl (refs, (refs.length : Int), 0, n, k, p, refs, keep, data, out) b = b (n, k, p, refs, keep, data, out ++ refB n refs) := by
  unfold L_segment_Header_0
  refine iter_seq (step := S_segment_Header_0 fl) (fun i : Nat => (refs, (refs.length : Int), (i : Int), n, k, p, refs, keep, data, out ++ refB n (refs.take i))) refs.length (by simp [refB]) (fun i hi c => ?_) (fun c => ?_) (by omega)
  · have a := asc_get ha hi
    have h6 := refB_len (n := n) (refs.take i)
    have hlen : (out ++ refB n (refs.take i)).length ≤ 1000000 := by rw [List.length_append]; simp at h6; omega
    simp (disch := omega) only [S_segment_Header_0, dec_t, wrap64, Int.toNat_natCast]
    rw [psz hfl (by omega) (by omega) hlen, refB_take hi, List.append_assoc]
    rfl
  · simp (disch := omega) only [S_segment_Header_0, dec_f, List.take_length]

theorem header {fl : Nat} (hfl : 9223372036854775808 ≤ fl) {n k p : Int} {refs : List Int} {keep : List Bool} {data : List Int} (h1 : refs.length ≤ 1000000000000000) (h2 : keep.length ≤ 1000000000000000) (h3 : data.length ≤ 1000000000000000) {K : Int × List Int → Option Ans} :
    F_segment_Header fl n k p refs keep data K = K (headerR n k p refs keep data) := by
  unfold F_segment_Header headerR
  rw [svalid hfl h1 h2 h3]
  cases hv : valS n k p refs keep data with
  | false => rfl
  | true =>
  rw [cond_f (b := !true) rfl, if_pos rfl]
  obtain ⟨⟨a1, a2, a3, a4, a5, a6, a7, a8, a9⟩, ha⟩ := valS_iff.1 hv
  have z1 := sz_len n
  have z2 := sz_len p
  have z3 := sz_len refs.length
  have z4 := packed_len keep
  have z5 := refB_len (n := n) refs
  rw [psz hfl (by omega) (by omega) (by simp), List.nil_append]
  dsimp only
  rw [cb]
  by_cases hr : (refs.length : Int) = 0
  · rw [if_pos hr, wrap8 (by omega) (by omega), dec_t (by simp; omega), keep_loop hfl (by omega)]
    try dsimp only
    rw [pack hfl (by omega)]
    try dsimp only
    rw [dec_t (by simp; omega), psz hfl (by omega) (by omega) (by simp; omega)]
    try dsimp only
    rw [psz hfl (by omega) (by omega) (by simp; omega)]
    have hr0 : refs.length = 0 := by omega
    unfold hdr
    rw [if_pos hr0]
    simp only [List.append_assoc]
  · rw [if_neg hr, wrap64 (by omega) (by omega), wrap8 (by omega) (by omega), dec_t (by simp; omega), psz hfl (by omega) (by omega) (by simp; omega)]
    try dsimp only
    rw [refs_loop hfl a2 ha a7 (by simp; omega)]
    try dsimp only
    rw [keep_loop hfl (by omega)]
    try dsimp only
    rw [pack hfl (by omega)]
    try dsimp only
    rw [dec_t (by simp; omega), psz hfl (by omega) (by omega) (by simp; omega)]
    try dsimp only
    rw [psz hfl (by omega) (by omega) (by simp; omega)]
    have hr0 : ¬ refs.length = 0 := by omega
    unfold hdr
    rw [if_neg hr0]
    simp only [List.append_assoc, List.cons_append, List.nil_append]

theorem rkeep_loop {fl : Nat} (hfl : 9223372036854775808 ≤ fl) {n k p : Int} {refs : List Int} {keep : List Bool} {data out : List Int} {b} (hl : keep.length ≤ 1000000) :
    L_ref12_Header_2 fl (keep, (keep.length : Int), 0, n, k, p, refs, keep, data, out, List.replicate ((keep.length + 7) / 8) 0) b = b (n, k, p, refs, keep, data, out, packed keep) := by
  unfold L_ref12_Header_2 packed
  refine iter_seq (step := S_ref12_Header_2 fl) (fun i : Nat => (keep, (keep.length : Int), (i : Int), n, k, p, refs, keep, data, out, pk keep i ((keep.length + 7) / 8))) keep.length (by simp only [pk_zero]; rfl) (fun i hi c => ?_) (fun c => ?_) (by omega)
  · have e := by8_add keep i
    have hs := pk_set (l := keep) (i := i) (n := (keep.length + 7) / 8) (by omega)
    simp (disch := first | omega | (simp only [pk_len]; omega)) only [S_ref12_Header_2, dec_t, dec_f, wrap64, Int.toNat_natCast, tdiv8, tmod8, pk_get]
    cases hb : keep.getD i false with
    | true =>
      rw [if_pos hb] at e
      rw [cond_true, e, hs]
      rfl
    | false =>
      rw [if_neg (by rw [hb]; simp)] at e
      rw [cond_false]
      have : pk keep (i + 1) ((keep.length + 7) / 8) = pk keep i ((keep.length + 7) / 8) := by
        rw [← hs, ← e]
        apply List.ext_getElem (by simp)
        intro j h1 h2
        rw [List.getElem_set]
        split
        · rename_i ej; subst ej; simp [pk]
        · rfl
      rw [this]
      rfl
  · simp (disch := omega) only [S_ref12_Header_2, dec_f]
theorem rrefs_loop {fl : Nat} (hfl : 9223372036854775808 ≤ fl) {n k p : Int} {refs : List Int} {keep : List Bool} {data out : List Int} {b} (hn : n ≤ 10000) (ha : asc refs n) (hl : refs.length ≤ 20) (ho : out.length ≤ 100) :
    L_ref12_Header_0 fl (refs, (refs.length : Int), 0, n, k, p, refs, keep, data, out) b = b (n, k, p, refs, keep, data, out ++ refB n refs) := by
  unfold L_ref12_Header_0
  refine iter_seq (step := S_ref12_Header_0 fl) (fun i : Nat => (refs, (refs.length : Int), (i : Int), n, k, p, refs, keep, data, out ++ refB n (refs.take i))) refs.length (by simp [refB]) (fun i hi c => ?_) (fun c => ?_) (by omega)
  · have a := asc_get ha hi
    have h6 := refB_len (n := n) (refs.take i)
    have h7 := sz_len (n - refs.getD i 0)
    have hlen : (out ++ refB n (refs.take i)).length ≤ 1000000 := by rw [List.length_append]; simp at h6; omega
    simp (disch := omega) only [S_ref12_Header_0, dec_t, wrap64, Int.toNat_natCast]
    rw [rsz hfl (by omega) (by omega), dec_t (by omega), refB_take hi, List.append_assoc]
    rfl
  · simp (disch := omega) only [S_ref12_Header_0, dec_f, List.take_length]
theorem rheader {fl : Nat} (hfl : 9223372036854775808 ≤ fl) {n k p : Int} {refs : List Int} {keep : List Bool} {data : List Int} (h1 : refs.length ≤ 1000000000000000) (h2 : keep.length ≤ 1000000000000000) (h3 : data.length ≤ 1000000000000000) {K : Int × List Int → Option Ans} :
    F_ref12_Header fl n k p refs keep data K = K (headerR n k p refs keep data) := by
  unfold F_ref12_Header headerR
  rw [rsvalid hfl h1 h2 h3]
  cases hv : valS n k p refs keep data with
  | false => rfl
  | true =>
  rw [cond_f (b := !true) rfl, if_pos rfl]
  obtain ⟨⟨a1, a2, a3, a4, a5, a6, a7, a8, a9⟩, ha⟩ := valS_iff.1 hv
  have z1 := sz_len n
  have z2 := sz_len p
  have z3 := sz_len refs.length
  have z4 := packed_len keep
  have z5 := refB_len (n := n) refs
  have z6 := sz_len data.length
  rw [rsz hfl (by omega) (by omega)]
  dsimp only
  rw [cb, up8 _ (by omega)]
  by_cases hr : (refs.length : Int) = 0
  · rw [if_pos hr, wrap8 (by omega) (by omega), dec_t (by simp; omega), dec_t (by omega), Int.toNat_natCast, rkeep_loop hfl (by omega)]
    try dsimp only
    rw [dec_t (by simp; omega), rsz hfl (by omega) (by omega)]
    try dsimp only
    rw [dec_t (by simp; omega), rsz hfl (by omega) (by omega)]
    try dsimp only
    rw [dec_t (by simp; omega)]
    have hr0 : refs.length = 0 := by omega
    unfold hdr
    rw [if_pos hr0]
    simp only [List.append_assoc]
  · rw [if_neg hr, wrap64 (by omega) (by omega), wrap8 (by omega) (by omega), dec_t (by simp; omega), rsz hfl (by omega) (by omega)]
    try dsimp only
    rw [dec_t (by simp; omega), rrefs_loop hfl a2 ha a7 (by simp; omega)]
    try dsimp only
    rw [up8 _ (by omega), dec_t (by omega), Int.toNat_natCast, rkeep_loop hfl (by omega)]
    try dsimp only
    rw [dec_t (by simp; omega), rsz hfl (by omega) (by omega)]
    try dsimp only
    rw [dec_t (by simp; omega), rsz hfl (by omega) (by omega)]
    try dsimp only
    rw [dec_t (by simp; omega)]
    have hr0 : ¬ refs.length = 0 := by omega
    unfold hdr
    rw [if_neg hr0]
    simp only [List.append_assoc, List.cons_append, List.nil_append]

theorem sameB {fl : Nat} (hfl : 9223372036854775808 ≤ fl) {l : List Int} (hl : l.length ≤ 1000000000000000) {K : Bool → Option Ans} : F_ref02_SameBytes fl l l K = K true := by
  unfold F_ref02_SameBytes L_ref02_SameBytes_0
  rw [cond_f (by simp)]
  refine iter_seq (step := S_ref02_SameBytes_0 fl) (fun i : Nat => (l, l, (l.length : Int), (i : Int))) l.length rfl (fun i hi c => ?_) (fun c => ?_) (by omega)
  · simp (disch := omega) only [S_ref02_SameBytes_0, dec_t, wrap64, Int.toNat_natCast]
    simp
  · simp (disch := omega) only [S_ref02_SameBytes_0, dec_f]

theorem awake {fl : Nat} (hfl : 9223372036854775808 ≤ fl) {K : Bool → Option Ans} : F_law12_Awake fl K = K true := by
  unfold F_law12_Awake
  rw [header hfl (by simp) (by simp) (by simp)]
  have e : headerR 3 1 1 [0, 2] [true, false, true] [] = (0, [3, 17, 2, 3, 1, 160, 1, 0]) := by decide +kernel
  rw [e]
  dsimp only
  rw [cond_t (by rfl), sameB hfl (by simp)]
end Go.Proofs.Ytajidgilfkineaa.Seg

set_option linter.unusedVariables false
set_option linter.unusedSimpArgs false
namespace Go.Proofs.Ytajidgilfkineaa.Seg
open Go Ev Bm

theorem eqInts {fl : Nat} (hfl : 9223372036854775808 ≤ fl) {a b : List Int} (hl : a.length ≤ 1000000000000000) {K : Bool → Option Ans} : F_slices_Equal_int_int fl a b K = K (decide (a = b)) := by
  unfold F_slices_Equal_int_int L_slices_Equal_int_int_0
  rw [cn]
  by_cases h : (a.length : Int) = b.length
  · rw [if_pos h]
    rcases nat_or_first (fun i => a.getD i 0 = b.getD i 0) a.length with h1 | ⟨m, hm, hb, hi⟩
    · rw [decide_eq_true (list_ext_getD 0 (by omega) h1)]
      refine iter_seq (step := S_slices_Equal_int_int_0 fl) (fun i : Nat => (a, b, (a.length : Int), (i : Int))) a.length rfl (fun i hi c => ?_) (fun c => ?_) (by omega)
      · have e := h1 i hi
        simp (disch := omega) only [S_slices_Equal_int_int_0, dec_t, wrap64, Int.toNat_natCast]
        rw [cond_f (by rw [e]; simp)]
        rfl
      · simp (disch := omega) only [S_slices_Equal_int_int_0, dec_f]
    · rw [decide_eq_false (fun e => hb (by rw [e]))]
      refine iter_seq (step := S_slices_Equal_int_int_0 fl) (fun i : Nat => (a, b, (a.length : Int), (i : Int))) m rfl (fun i him c => ?_) (fun c => ?_) (by omega)
      · have e := hi i him
        simp (disch := omega) only [S_slices_Equal_int_int_0, dec_t, wrap64, Int.toNat_natCast]
        rw [cond_f (by rw [e]; simp)]
        rfl
      · simp (disch := omega) only [S_slices_Equal_int_int_0, dec_t, Int.toNat_natCast]
        rw [cond_t (by simpa using hb)]
  · rw [if_neg h, decide_eq_false (fun e => h (by rw [e]))]
theorem eqBools {fl : Nat} (hfl : 9223372036854775808 ≤ fl) {a b : List Bool} (hl : a.length ≤ 1000000000000000) {K : Bool → Option Ans} : F_slices_Equal_bool_bool fl a b K = K (decide (a = b)) := by
  unfold F_slices_Equal_bool_bool L_slices_Equal_bool_bool_0
  rw [cn]
  by_cases h : (a.length : Int) = b.length
  · rw [if_pos h]
    rcases nat_or_first (fun i => a.getD i false = b.getD i false) a.length with h1 | ⟨m, hm, hb, hi⟩
    · rw [decide_eq_true (list_ext_getD false (by omega) h1)]
      refine iter_seq (step := S_slices_Equal_bool_bool_0 fl) (fun i : Nat => (a, b, (a.length : Int), (i : Int))) a.length rfl (fun i hi c => ?_) (fun c => ?_) (by omega)
      · have e := h1 i hi
        simp (disch := omega) only [S_slices_Equal_bool_bool_0, dec_t, wrap64, Int.toNat_natCast]
        rw [cond_f (by rw [e]; simp)]
        rfl
      · simp (disch := omega) only [S_slices_Equal_bool_bool_0, dec_f]
    · rw [decide_eq_false (fun e => hb (by rw [e]))]
      refine iter_seq (step := S_slices_Equal_bool_bool_0 fl) (fun i : Nat => (a, b, (a.length : Int), (i : Int))) m rfl (fun i him c => ?_) (fun c => ?_) (by omega)
      · have e := hi i him
        simp (disch := omega) only [S_slices_Equal_bool_bool_0, dec_t, wrap64, Int.toNat_natCast]
        rw [cond_f (by rw [e]; simp)]
        rfl
      · simp (disch := omega) only [S_slices_Equal_bool_bool_0, dec_t, Int.toNat_natCast]
        rw [cond_t (by simpa using hb)]
  · rw [if_neg h, decide_eq_false (fun e => h (by rw [e]))]

/-- The same bytes. -/
def sameD (x y : List Int) : Bool := (strOfNums x).toList == (strOfNums y).toList
theorem sameD_self (x : List Int) : sameD x x = true := by unfold sameD; rw [beq_self_eq_true]
/-- The same segment. -/
def same (n k p : Int) (refs : List Int) (keep : List Bool) (data : List Int) (n' k' p' : Int) (refs' : List Int) (keep' : List Bool) (data' : List Int) : Bool :=
  decide (n = n' ∧ k = k' ∧ p = p' ∧ refs = refs' ∧ keep = keep') && sameD data data'
theorem same_self (n k p : Int) (refs : List Int) (keep : List Bool) (data : List Int) : same n k p refs keep data n k p refs keep data = true := by simp [same, sameD_self]
theorem ssame {fl : Nat} (hfl : 9223372036854775808 ≤ fl) {n k p n' k' p' : Int} {refs refs' : List Int} {keep keep' : List Bool} {data data' : List Int} (h1 : refs.length ≤ 1000000000000000) (h2 : keep.length ≤ 1000000000000000) {K : Bool → Option Ans} :
    F_segment_Same fl n k p refs keep data n' k' p' refs' keep' data' K = K (same n k p refs keep data n' k' p' refs' keep' data') := by
  unfold F_segment_Same same F_bytes_Equal
  simp only [eqInts hfl h1, eqBools hfl h2, cb, cd]
  by_cases hall : n = n' ∧ k = k' ∧ p = p' ∧ refs = refs' ∧ keep = keep'
  · obtain ⟨a, b, c, d, e⟩ := hall
    rw [if_pos a, if_pos b, if_pos c, if_pos d, if_pos e, decide_eq_true ⟨a, b, c, d, e⟩]
    rfl
  · rw [decide_eq_false hall, Bool.false_and]
    repeat' split
    all_goals first
      | rfl
      | exact absurd ⟨by assumption, by assumption, by assumption, by assumption, by assumption⟩ hall
theorem rsame {fl : Nat} (hfl : 9223372036854775808 ≤ fl) {n k p n' k' p' : Int} {refs refs' : List Int} {keep keep' : List Bool} {data data' : List Int} (h1 : refs.length ≤ 1000000000000000) (h2 : keep.length ≤ 1000000000000000) {K : Bool → Option Ans} :
    F_ref12_Same fl n k p refs keep data n' k' p' refs' keep' data' K = K (same n k p refs keep data n' k' p' refs' keep' data') := by
  unfold F_ref12_Same same
  simp only [cn]
  by_cases c1 : n = n'
  rotate_left
  · rw [if_neg c1, decide_eq_false (fun h => c1 h.1)]; rfl
  rw [if_pos c1]
  by_cases c2 : k = k'
  rotate_left
  · rw [if_neg c2, decide_eq_false (fun h => c2 h.2.1)]; rfl
  rw [if_pos c2]
  by_cases c3 : p = p'
  rotate_left
  · rw [if_neg c3, decide_eq_false (fun h => c3 h.2.2.1)]; rfl
  rw [if_pos c3]
  by_cases c4 : (refs.length : Int) = refs'.length
  rotate_left
  · rw [if_neg c4, decide_eq_false (fun h => c4 (by rw [h.2.2.2.1]))]; rfl
  rw [if_pos c4]
  by_cases c5 : (keep.length : Int) = keep'.length
  rotate_left
  · rw [if_neg c5, decide_eq_false (fun h => c5 (by rw [h.2.2.2.2]))]; rfl
  rw [if_pos c5]
  have hd : ((strOfNums data).toList == (strOfNums data').toList) = sameD data data' := rfl
  rw [hd]
  cases c6 : sameD data data' with
  | false => rw [Bool.and_false]; rfl
  | true =>
  rw [cond_f (b := !true) rfl, Bool.and_true]
  unfold L_ref12_Same_0
  rcases nat_or_first (fun i => refs.getD i 0 = refs'.getD i 0) refs.length with g1 | ⟨m, hm, hb, hi⟩
  rotate_left
  · rw [decide_eq_false (fun h => hb (by rw [h.2.2.2.1]))]
    refine iter_seq (step := S_ref12_Same_0 fl) (fun i : Nat => ((refs.length : Int), (i : Int), n, k, p, refs, keep, data, n', k', p', refs', keep', data')) m rfl (fun i him c => ?_) (fun c => ?_) (by omega)
    · have e := hi i him
      simp (disch := omega) only [S_ref12_Same_0, dec_t, wrap64, Int.toNat_natCast]
      rw [cond_f (by rw [e]; simp)]
      rfl
    · simp (disch := omega) only [S_ref12_Same_0, dec_t, Int.toNat_natCast]
      rw [cond_t (by simpa using hb)]
  have e4 := list_ext_getD 0 (by omega) g1
  have key : ∀ ret b, iter (S_ref12_Same_0 fl) fl ((refs.length : Int), 0, n, k, p, refs, keep, data, n', k', p', refs', keep', data') (ret, b) = b (n, k, p, refs, keep, data, n', k', p', refs', keep', data') := by
    intro ret b
    refine iter_seq (step := S_ref12_Same_0 fl) (fun i : Nat => ((refs.length : Int), (i : Int), n, k, p, refs, keep, data, n', k', p', refs', keep', data')) refs.length rfl (fun i hi c => ?_) (fun c => ?_) (by omega)
    · have e := g1 i hi
      simp (disch := omega) only [S_ref12_Same_0, dec_t, wrap64, Int.toNat_natCast]
      rw [cond_f (by rw [e]; simp)]
      rfl
    · simp (disch := omega) only [S_ref12_Same_0, dec_f]
  rw [key]
  dsimp only
  unfold L_ref12_Same_2
  rcases nat_or_first (fun i => keep.getD i false = keep'.getD i false) keep.length with g2 | ⟨m, hm, hb, hi⟩
  · have e5 := list_ext_getD false (by omega) g2
    rw [decide_eq_true ⟨c1, c2, c3, e4, e5⟩]
    refine iter_seq (step := S_ref12_Same_2 fl) (fun i : Nat => ((keep.length : Int), (i : Int), n, k, p, refs, keep, data, n', k', p', refs', keep', data')) keep.length rfl (fun i hi c => ?_) (fun c => ?_) (by omega)
    · have e := g2 i hi
      simp (disch := omega) only [S_ref12_Same_2, dec_t, wrap64, Int.toNat_natCast]
      rw [cond_f (by rw [e]; simp)]
      rfl
    · simp (disch := omega) only [S_ref12_Same_2, dec_f]
  · rw [decide_eq_false (fun h => hb (by rw [h.2.2.2.2]))]
    refine iter_seq (step := S_ref12_Same_2 fl) (fun i : Nat => ((keep.length : Int), (i : Int), n, k, p, refs, keep, data, n', k', p', refs', keep', data')) m rfl (fun i him c => ?_) (fun c => ?_) (by omega)
    · have e := hi i him
      simp (disch := omega) only [S_ref12_Same_2, dec_t, wrap64, Int.toNat_natCast]
      rw [cond_f (by rw [e]; simp)]
      rfl
    · simp (disch := omega) only [S_ref12_Same_2, dec_t, Int.toNat_natCast]
      rw [cond_t (by cases h1 : keep.getD m false <;> cases h2 : keep'.getD m false <;> simp_all)]

abbrev SegT := Int × Int × Int × List Int × List Bool × List Int
def lgW (l : List SegT) : Nat → Int
  | 0 => 0
  | i + 1 => IntKind.i64.wrap (lgW l i + IntKind.i64.wrap (((l.getD i (0, 0, 0, [], [], [])).2.2.2.2.2.length : Int) + ((l.getD i (0, 0, 0, [], [], [])).2.2.2.1.length : Int)))
def large (l : List SegT) : Bool := decide ((l.length : Int) > 300) || decide (lgW l l.length > 200000)
theorem llarge {fl : Nat} (hfl : 9223372036854775808 ≤ fl) {l : List SegT} (hl : l.length ≤ 1000000000000000) {K : Bool → Option Ans} : F_law12_large fl l K = K (large l) := by
  unfold F_law12_large L_law12_large_0 large
  refine iter_seq (step := S_law12_large_0 fl) (fun i : Nat => (l, lgW l i, l, (l.length : Int), (i : Int))) l.length rfl (fun i hi c => ?_) (fun c => ?_) (by omega)
  · simp (disch := omega) only [S_law12_large_0, dec_t, wrap64 (x := (i : Int) + 1), Int.toNat_natCast]
    rfl
  · simp (disch := omega) only [S_law12_large_0, dec_f, cd]
    by_cases h : (l.length : Int) > 300
    · rw [if_pos h, decide_eq_true h]; rfl
    · rw [if_neg h, decide_eq_false h]; rfl
end Go.Proofs.Ytajidgilfkineaa.Seg

set_option linter.unusedVariables false
set_option linter.unusedSimpArgs false
namespace Go.Proofs.Ytajidgilfkineaa.Seg
open Go Ev Bm

/-- Bytes. -/
def Bytes (b : List Int) : Prop := b.length ≤ 1000000000000000 ∧ ∀ x ∈ b, 0 ≤ x ∧ x ≤ 255
theorem Bytes.get {b : List Int} (h : Bytes b) (i : Nat) : 0 ≤ b.getD i 0 ∧ b.getD i 0 ≤ 255 := by
  by_cases hi : i < b.length
  · exact h.2 _ (getD_mem hi 0)
  · rw [List.getD_eq_getElem?_getD, List.getElem?_eq_none (by omega)]
    simp

/-! ### GetSize -/
def gsGo (b : List Int) (at_ : Nat) : Nat → Nat → Int → Int × Int × Int
  | 0, _, _ => (0, 0, 3)
  | f + 1, i, n =>
    if at_ + i ≥ b.length then (0, 0, 6)
    else if b.getD (at_ + i) 0 < 128 then (if n * 128 + b.getD (at_ + i) 0 % 128 > 2147483647 ∨ (i > 0 ∧ b.getD at_ 0 = 128) then (0, 0, 3) else (n * 128 + b.getD (at_ + i) 0 % 128, ((at_ + i + 1 : Nat) : Int), 0))
    else gsGo b at_ f (i + 1) (n * 128 + b.getD (at_ + i) 0 % 128)
/-- What GetSize returns. -/
def getR (b : List Int) (p : Int) : Int × Int × Int := if p < 0 ∨ p > b.length then (0, 0, 2) else gsGo b p.toNat 5 0 0
theorem gs_loop {fl : Nat} {b : List Int} (hb : Bytes b) {q : Nat} (hq : q ≤ b.length) {K : Int × Int × Int → Option Ans} : ∀ (f i : Nat) (n : Int) (m : Nat), f + i = 5 → f < m → 0 ≤ n → n < 128 ^ i →
    iter (S_bits_GetSize_0 fl) m (b, (q : Int), n, (i : Int)) (fun r => match r with | (r0, r1, r2) => K (r0, r1, r2), fun _ => K (0, 0, 3)) = K (gsGo b q f i n)
  | 0, i, n, m, hi, hm, h0, h1 => by
    obtain ⟨m, rfl⟩ : ∃ k, m = k + 1 := ⟨m - 1, by omega⟩
    simp only [iter, S_bits_GetSize_0, gsGo]
    rw [dec_f (by omega)]
  | f + 1, i, n, m, hi, hm, h0, h1 => by
    obtain ⟨m, rfl⟩ : ∃ k, m = k + 1 := ⟨m - 1, by omega⟩
    have hl := hb.1
    have hc := hb.get (q + i)
    have hc0 := hb.get q
    have hn : n < 268435456 := by
      have a : (128 : Int) ^ i ≤ 128 ^ 4 := by
        have := Nat.pow_le_pow_right (n := 128) (by omega) (show i ≤ 4 by omega)
        exact_mod_cast this
      have c : (128 : Int) ^ 4 = 268435456 := by decide
      omega
    have e : ((q : Int) + (i : Int)) = ((q + i : Nat) : Int) := by omega
    simp only [iter, S_bits_GetSize_0, gsGo]
    rw [dec_t (by omega), wrap64 (x := (q : Int) + i) (by omega) (by omega), e]
    by_cases hlen : q + i ≥ b.length
    · rw [dec_t (by omega), if_pos hlen]
    · rw [dec_f (by omega), if_neg hlen, dec_t (by omega), Int.toNat_natCast, wrap64 (x := b.getD (q + i) 0) (by omega) (by omega)]
      have em : (b.getD (q + i) 0).tmod 128 = b.getD (q + i) 0 % 128 := Int.tmod_eq_emod_of_nonneg hc.1
      rw [em, wrap64 (x := n * 128) (by omega) (by omega), wrap64 (x := n * 128 + b.getD (q + i) 0 % 128) (by omega) (by omega)]
      by_cases hs : b.getD (q + i) 0 < 128
      · rw [dec_t hs, if_pos hs]
        by_cases hbig : n * 128 + b.getD (q + i) 0 % 128 > 2147483647
        · rw [dec_t hbig, if_pos (.inl hbig)]
        · rw [dec_f hbig]
          have hw : IntKind.i64.wrap (((q + i : Nat) : Int) + 1) = ((q + i + 1 : Nat) : Int) := by rw [wrap64 (by omega) (by omega)]; rfl
          by_cases h00 : i > 0
          · rw [dec_t (by omega), dec_t (by omega), Int.toNat_natCast, cb]
            by_cases h128 : b.getD q 0 = 128
            · rw [if_pos h128, if_pos (.inr ⟨h00, h128⟩)]
            · rw [if_neg h128, if_neg (by rintro (h | h); exact hbig h; exact h128 h.2), hw]
          · rw [dec_f (by omega), if_neg (by rintro (h | h); exact hbig h; exact h00 h.1), hw]
      · rw [dec_f hs, if_neg hs, wrap64 (by omega) (by omega)]
        have hp : n * 128 + b.getD (q + i) 0 % 128 < 128 ^ (i + 1) := by rw [Int.pow_succ]; omega
        exact gs_loop hb hq f (i + 1) _ m (by omega) (by omega) (by omega) hp
theorem rgs_eq {fl : Nat} (v : List Int × Int × Int × Int) (c) (B) : S_ref01_GetSize_0 fl v c B = S_bits_GetSize_0 fl v c B := by
  obtain ⟨x0, x1, x2, x3⟩ := v
  obtain ⟨B1, B2⟩ := B
  simp only [S_ref01_GetSize_0, S_bits_GetSize_0, Int.mul_comm 128]
theorem getsize {fl : Nat} (hfl : 9223372036854775808 ≤ fl) {b : List Int} (hb : Bytes b) {p : Int} {K : Int × Int × Int → Option Ans} : F_bits_GetSize fl b p K = K (getR b p) := by
  unfold F_bits_GetSize getR
  by_cases h0 : p < 0
  · rw [dec_t h0, if_pos (.inl h0)]
  by_cases h1 : p > b.length
  · rw [dec_f h0, dec_t h1, if_pos (.inr h1)]
  rw [dec_f h0, dec_f h1, if_neg (by rintro (h | h) <;> omega)]
  obtain ⟨q, rfl⟩ : ∃ q : Nat, p = q := ⟨p.toNat, by omega⟩
  rw [Int.toNat_natCast]
  unfold L_bits_GetSize_0
  exact gs_loop hb (by omega) 5 0 0 fl (by omega) (by omega) (by omega) (by decide)
theorem rgetsize {fl : Nat} (hfl : 9223372036854775808 ≤ fl) {b : List Int} (hb : Bytes b) {p : Int} {K : Int × Int × Int → Option Ans} : F_ref01_GetSize fl b p K = K (getR b p) := by
  refine Eq.trans ?_ (getsize hfl hb)
  unfold F_ref01_GetSize F_bits_GetSize L_ref01_GetSize_0 L_bits_GetSize_0
  rw [show S_ref01_GetSize_0 fl = S_bits_GetSize_0 fl from by funext v c B; exact rgs_eq v c B]
theorem gsGo_ok {b : List Int} (hb : Bytes b) {q : Nat} : ∀ (f i : Nat) (n : Int) {v x : Int}, 0 ≤ n → gsGo b q f i n = (v, x, 0) → 0 ≤ v ∧ v ≤ 2147483647 ∧ (q : Int) < x ∧ x ≤ b.length
  | 0, i, n, v, x, h0, h => by simp [gsGo] at h
  | f + 1, i, n, v, x, h0, h => by
    have hc := hb.get (q + i)
    simp only [gsGo] at h
    split at h
    · simp at h
    · split at h
      · split at h
        · simp at h
        · rename_i h3
          simp only [Prod.mk.injEq, and_true] at h
          obtain ⟨rfl, rfl⟩ := h
          have : ¬ (n * 128 + b.getD (q + i) 0 % 128 > 2147483647) := fun h => h3 (.inl h)
          omega
      · exact gsGo_ok hb f (i + 1) _ (by omega) h
theorem getR_ok {b : List Int} (hb : Bytes b) {p v x : Int} (h : getR b p = (v, x, 0)) : 0 ≤ p ∧ 0 ≤ v ∧ v ≤ 2147483647 ∧ p < x ∧ x ≤ b.length := by
  unfold getR at h
  split at h
  · simp at h
  · rename_i hp
    have := gsGo_ok hb 5 0 0 (by omega) h
    omega
theorem gsGo_err {b : List Int} {q : Nat} : ∀ (f i : Nat) (n : Int), (gsGo b q f i n).2.2 = 0 ∨ (gsGo b q f i n).2.2 = 3 ∨ (gsGo b q f i n).2.2 = 6
  | 0, i, n => by simp [gsGo]
  | f + 1, i, n => by
    simp only [gsGo]
    split
    · simp
    · split
      · split <;> simp
      · exact gsGo_err f (i + 1) _

/-! ### What is read -/
inductive Rd (α : Type) where
  | bad (e : Int)
  | ok (a : α) (p : Int)
def numR (b : List Int) (p most : Int) : Rd Int :=
  if (getR b p).2.2 = 0 then (if (getR b p).1 > most then .bad 3 else .ok (getR b p).1 (getR b p).2.1) else .bad (getR b p).2.2
theorem numR_bad {b : List Int} {p most e : Int} (h : numR b p most = .bad e) : e ≠ 0 := by
  unfold numR at h
  split at h
  · split at h
    · cases h; omega
    · cases h
  · rename_i h1; cases h; exact h1
theorem numR_ok {b : List Int} (hb : Bytes b) {p most v x : Int} (h : numR b p most = .ok v x) : 0 ≤ p ∧ 0 ≤ v ∧ v ≤ most ∧ p < x ∧ x ≤ b.length ∧ v ≤ 2147483647 := by
  unfold numR at h
  split at h
  · rename_i h1
    split at h
    · cases h
    · cases h
      have := getR_ok hb (p := p) (v := (getR b p).1) (x := (getR b p).2.1) (by rw [← h1])
      omega
  · cases h
/-- What the reference's 'number' returns. -/
theorem rnumber {fl : Nat} (hfl : 9223372036854775808 ≤ fl) {b : List Int} (hb : Bytes b) {p most : Int} : ∃ x y : Int, ∀ K : Int × Int × Int → Option Ans, F_ref12_number fl b p most K = match numR b p most with | .bad e => K (x, y, e) | .ok v q => K (v, q, 0) := by
  refine ⟨(getR b p).1, (getR b p).2.1, fun K => ?_⟩
  unfold F_ref12_number numR
  rw [rgetsize hfl hb]
  simp only [cb, cd]
  by_cases h : (getR b p).2.2 = 0
  · rw [if_pos h, if_pos h]
    by_cases h2 : (getR b p).1 > most
    · rw [if_pos h2, if_pos h2]
    · rw [if_neg h2, if_neg h2, h]
  · rw [if_neg h, if_neg h]

def refsGo (b : List Int) (of_ : Int) : Nat → Int → Int → List Int → Rd (List Int)
  | 0, p, _, out => .ok out p
  | f + 1, p, last, out => match numR b p of_ with
    | .bad e => .bad e
    | .ok d q => if d = 0 then .bad 3 else if d ≥ last then .bad 3 else refsGo b of_ f q d (out ++ [of_ - d])
def refsR (b : List Int) (p of_ : Int) : Rd (List Int) := match numR b p 20 with
  | .bad e => .bad e
  | .ok many q => if many = 0 then .bad 3 else refsGo b of_ many.toNat q (of_ + 1) []
theorem refsGo_bad {b : List Int} {of_ : Int} : ∀ {f : Nat} {p last : Int} {out : List Int} {e : Int}, refsGo b of_ f p last out = .bad e → e ≠ 0
  | 0, _, _, _, _, h => by cases h
  | f + 1, p, last, out, e, h => by
    simp only [refsGo] at h
    split at h
    · rename_i e' he; cases h; exact numR_bad he
    · split at h
      · cases h; omega
      · split at h
        · cases h; omega
        · exact refsGo_bad h
theorem refsGo_ok {b : List Int} (hb : Bytes b) {of_ : Int} : ∀ {f : Nat} {p last : Int} {out r : List Int} {x : Int}, 0 ≤ p → p ≤ b.length → refsGo b of_ f p last out = .ok r x → r.length = out.length + f ∧ 0 ≤ x ∧ x ≤ b.length
  | 0, p, _, _, _, _, h0, h1, h => by cases h; exact ⟨rfl, h0, h1⟩
  | f + 1, p, last, out, r, x, h0, h1, h => by
    simp only [refsGo] at h
    split at h
    · cases h
    · rename_i d q hd
      obtain ⟨a1, a2, a3, a4, a5, a6⟩ := numR_ok hb hd
      split at h
      · cases h
      · split at h
        · cases h
        · have := refsGo_ok hb (by omega) (by omega) h
          simp at this
          omega
theorem rrefs_go {fl : Nat} (hfl : 9223372036854775808 ≤ fl) {b : List Int} (hb : Bytes b) {of_ : Int} (h0 : 0 ≤ of_) (h1 : of_ ≤ 100000) {many : Nat} (hm : many ≤ 20) {ret : Int × Int × List Int → Option Ans} {brk : Int × List Int → Option Ans} :
    ∀ (f i : Nat) (p last : Int) (out : List Int) (m : Nat), f + i = many → f < m → out.length ≤ i →
      iter (S_ref12_refs_0 fl) m (b, p, of_, (many : Int), last, (i : Int), out) (ret, brk) = match refsGo b of_ f p last out with | .bad e => ret (0, e, []) | .ok r q => brk (q, r)
  | 0, i, p, last, out, m, hi, hm', ho => by
    obtain ⟨m, rfl⟩ : ∃ k, m = k + 1 := ⟨m - 1, by omega⟩
    simp only [iter, S_ref12_refs_0, refsGo]
    rw [dec_f (by omega)]
  | f + 1, i, p, last, out, m, hi, hm', ho => by
    obtain ⟨m, rfl⟩ : ∃ k, m = k + 1 := ⟨m - 1, by omega⟩
    obtain ⟨x, y, hN⟩ := rnumber hfl hb (p := p) (most := of_)
    simp only [iter, S_ref12_refs_0, refsGo]
    rw [dec_t (by omega), hN]
    cases hn : numR b p of_ with
    | bad e =>
      have := numR_bad hn
      dsimp only
      rw [cond_t (by simpa using this)]
    | ok d q =>
      obtain ⟨a1, a2, a3, a4, a5, a6⟩ := numR_ok hb hn
      dsimp only
      rw [cond_f (by rfl), cb]
      by_cases hd : d = 0
      · rw [if_pos hd, if_pos hd]
      · rw [if_neg hd, if_neg hd, cd]
        by_cases hl : d ≥ last
        · rw [if_pos hl, if_pos hl]
        · rw [if_neg hl, if_neg hl, wrap64 (x := of_ - d) (by omega) (by omega), dec_t (by simp; omega), wrap64 (by omega) (by omega)]
          exact rrefs_go hfl hb h0 h1 hm f (i + 1) q d _ m (by omega) (by omega) (by simp; omega)
theorem rrefs {fl : Nat} (hfl : 9223372036854775808 ≤ fl) {b : List Int} (hb : Bytes b) {p of_ : Int} (h0 : 0 ≤ of_) (h1 : of_ ≤ 100000) {K : Int × Int × List Int → Option Ans} :
    F_ref12_refs fl b p of_ K = match refsR b p of_ with | .bad e => K (0, e, []) | .ok r q => K (q, 0, r) := by
  unfold F_ref12_refs refsR
  obtain ⟨x, y, hN⟩ := rnumber hfl hb (p := p) (most := 20)
  rw [hN]
  cases hn : numR b p 20 with
  | bad e =>
    have := numR_bad hn
    dsimp only
    rw [cond_t (by simpa using this)]
  | ok d q =>
    obtain ⟨a1, a2, a3, a4, a5, a6⟩ := numR_ok hb hn
    dsimp only
    rw [cond_f (by rfl), cb]
    by_cases hd : d = 0
    · rw [if_pos hd, if_pos hd]
    · rw [if_neg hd, if_neg hd, wrap64 (by omega) (by omega)]
      obtain ⟨many, rfl⟩ : ∃ k : Nat, d = k := ⟨d.toNat, by omega⟩
      rw [Int.toNat_natCast]
      unfold L_ref12_refs_0
      exact rrefs_go hfl hb h0 h1 (by omega) many 0 q (of_ + 1) [] fl (by omega) (by omega) (by simp)
end Go.Proofs.Ytajidgilfkineaa.Seg

set_option linter.unusedVariables false
set_option linter.unusedSimpArgs false
namespace Go.Proofs.Ytajidgilfkineaa.Seg
open Go Ev Bm

/-! ### What is kept -/
theorem and_bit : ∀ (c : Fin 256) (t : Fin 8), decide (iand .u8 (c.val : Int) (ishr .u8 128 (t.val : Int)) > 0) = decide ((c.val : Int) / 2 ^ (7 - t.val) % 2 = 1) := by decide +kernel
theorem shr_bit : ∀ (c : Fin 256) (t : Fin 8), iand .u8 (ishr .u8 (c.val : Int) (7 - (t.val : Int))) 1 = (c.val : Int) / 2 ^ (7 - t.val) % 2 := by decide +kernel
/-- Bit i of a byte. -/
def bit8 (c : Int) (t : Nat) : Int := c / 2 ^ (7 - t) % 2
theorem bit8_01 (c : Int) (t : Nat) : bit8 c t = 0 ∨ bit8 c t = 1 := by unfold bit8; omega
theorem and_bit8 {c : Int} (h0 : 0 ≤ c) (h1 : c ≤ 255) (i : Nat) : decide (iand .u8 c (ishr .u8 128 ((i % 8 : Nat) : Int)) > 0) = decide (bit8 c (i % 8) = 1) := by
  have := and_bit ⟨c.toNat, by omega⟩ ⟨i % 8, by omega⟩
  simp only [Int.toNat_of_nonneg h0] at this
  exact this
theorem shr_bit8 {c : Int} (h0 : 0 ≤ c) (h1 : c ≤ 255) (i : Nat) : iand .u8 (ishr .u8 c (7 - ((i % 8 : Nat) : Int))) 1 = bit8 c (i % 8) := by
  have := shr_bit ⟨c.toNat, by omega⟩ ⟨i % 8, by omega⟩
  simp only [Int.toNat_of_nonneg h0] at this
  exact this
/-- Bit i behind an offset. -/
def bitA (b : List Int) (q i : Nat) : Int := bit8 (b.getD (q + i / 8) 0) (i % 8)
theorem bitA_01 (b : List Int) (q i : Nat) : bitA b q i = 0 ∨ bitA b q i = 1 := bit8_01 _ _
def keepL (b : List Int) (q many : Nat) : List Bool := (List.range many).map fun i => decide (bitA b q i = 1)
def restK (b : List Int) (q many : Nat) : Prop := ∀ i, i < 8 * ((many + 7) / 8) → i < many ∨ bitA b q i = 0
instance {b : List Int} {q many : Nat} : Decidable (restK b q many) := by unfold restK; infer_instance
def keepsR (b : List Int) (p : Int) (many : Nat) : Rd (List Bool) :=
  if p + ((many + 7) / 8 : Nat) > b.length then .bad 6
  else if restK b p.toNat many then .ok (keepL b p.toNat many) (p + ((many + 7) / 8 : Nat)) else .bad 3
theorem rkeeps {fl : Nat} (hfl : 9223372036854775808 ≤ fl) {b : List Int} (hb : Bytes b) {p : Int} (h0 : 0 ≤ p) (h1 : p ≤ b.length) {many : Nat} (hm : many ≤ 1000) {K : Int × Int × List Bool → Option Ans} :
    F_ref12_keeps fl b p (many : Int) K = match keepsR b p many with | .bad e => K (0, e, []) | .ok r q => K (q, 0, r) := by
  obtain ⟨q, rfl⟩ : ∃ q : Nat, p = q := ⟨p.toNat, by omega⟩
  have hl := hb.1
  unfold F_ref12_keeps keepsR
  rw [up8 _ (by omega), wrap64 (by omega) (by omega), cd]
  by_cases hend : (q : Int) + ((many + 7) / 8 : Nat) > b.length
  · rw [if_pos hend, if_pos hend]
  rw [if_neg hend, if_neg hend, Int.toNat_natCast]
  unfold L_ref12_keeps_0
  have round : ∀ i, i < 8 * ((many + 7) / 8) → (i < many ∨ bitA b q i = 0) → ∀ c B, S_ref12_keeps_0 fl (b, (q : Int), (many : Int), (((many + 7) / 8 : Nat) : Int), (i : Int), keepL b q (min i many)) c B = c (b, (q : Int), (many : Int), (((many + 7) / 8 : Nat) : Int), ((i + 1 : Nat) : Int), keepL b q (min (i + 1) many)) := by
    intro i hi hk c B
    obtain ⟨B1, B2⟩ := B
    have hc := hb.get (q + i / 8)
    have e : (q : Int) + ((i / 8 : Nat) : Int) = ((q + i / 8 : Nat) : Int) := by omega
    simp only [S_ref12_keeps_0]
    rw [wrap64 (x := 8 * (((many + 7) / 8 : Nat) : Int)) (by omega) (by omega), dec_t (by omega), tdiv8, tmod8, wrap64 (x := ((i / 8 : Nat) : Int)) (by omega) (by omega), e, wrap64 (x := ((q + i / 8 : Nat) : Int)) (by omega) (by omega), dec_t (by omega), dec_f (by omega), Int.toNat_natCast, and_bit8 hc.1 hc.2, wrap64 (x := (i : Int) + 1) (by omega) (by omega), cd]
    by_cases him : i < many
    · rw [if_pos (by omega), dec_t (by simp [keepL]; omega)]
      have e1 : min i many = i := by omega
      have e2 : min (i + 1) many = i + 1 := by omega
      rw [e1, e2]
      unfold keepL
      rw [range_map_succ]
      rfl
    · rw [if_neg (by omega)]
      have hz : bit8 (b.getD (q + i / 8) 0) (i % 8) = 0 := by rcases hk with h | h; exact absurd h him; exact h
      rw [hz, dec_f (by omega)]
      have e1 : min i many = many := by omega
      have e2 : min (i + 1) many = many := by omega
      rw [e1, e2]
      rfl
  rcases nat_or_first (fun i => i < many ∨ bitA b q i = 0) (8 * ((many + 7) / 8)) with h | ⟨n, hn, hbad, hall⟩
  · rw [if_pos (show restK b q many from h)]
    refine iter_seq (step := S_ref12_keeps_0 fl) (fun i : Nat => (b, (q : Int), (many : Int), (((many + 7) / 8 : Nat) : Int), (i : Int), keepL b q (min i many))) (8 * ((many + 7) / 8)) rfl (fun i hi c => round i hi (h i hi) c _) (fun c => ?_) (by omega)
    simp only [S_ref12_keeps_0]
    rw [wrap64 (x := 8 * (((many + 7) / 8 : Nat) : Int)) (by omega) (by omega), dec_f (by omega), show min (8 * ((many + 7) / 8)) many = many by omega, wrap64 (by omega) (by omega)]
  · rw [if_neg (show ¬ restK b q many from fun h => hbad (h n hn))]
    refine iter_seq (step := S_ref12_keeps_0 fl) (fun i : Nat => (b, (q : Int), (many : Int), (((many + 7) / 8 : Nat) : Int), (i : Int), keepL b q (min i many))) n rfl (fun i hi c => round i (by omega) (hall i hi) c _) (fun c => ?_) (by omega)
    have hc := hb.get (q + n / 8)
    have e : (q : Int) + ((n / 8 : Nat) : Int) = ((q + n / 8 : Nat) : Int) := by omega
    have hb1 : bit8 (b.getD (q + n / 8) 0) (n % 8) = 1 := by
      rcases bitA_01 b q n with h | h
      · exact absurd (.inr h) hbad
      · exact h
    have hnm : ¬ n < many := fun h => hbad (.inl h)
    simp only [S_ref12_keeps_0]
    rw [wrap64 (x := 8 * (((many + 7) / 8 : Nat) : Int)) (by omega) (by omega), dec_t (by omega), tdiv8, tmod8, wrap64 (x := ((n / 8 : Nat) : Int)) (by omega) (by omega), e, wrap64 (x := ((q + n / 8 : Nat) : Int)) (by omega) (by omega), dec_t (by omega), dec_f (by omega), Int.toNat_natCast, dec_f (by omega), and_bit8 hc.1 hc.2, hb1, dec_t rfl]

/-! ### The program's reader -/
theorem psize0 {fl : Nat} (hfl : 9223372036854775808 ≤ fl) {b : List Int} (hb : Bytes b) {p most : Int} {K : Int × List Int × Int × Int → Option Ans} : F_segment_reader_size fl b p 0 most K = match numR b p most with | .bad e => K (0, b, p, e) | .ok v q => K (v, b, q, 0) := by
  unfold F_segment_reader_size numR
  rw [cond_f (by rfl)]
  simp only [getsize hfl hb, cb, cn, cd, both_same]
  by_cases h : (getR b p).2.2 = 0
  · by_cases h2 : (getR b p).1 > most
    · simp [h, h2]
    · simp [h, h2]
  · simp [h]
theorem psizeE {fl : Nat} {b : List Int} {p most e : Int} (he : e ≠ 0) {K : Int × List Int × Int × Int → Option Ans} : F_segment_reader_size fl b p e most K = K (0, b, p, e) := by
  unfold F_segment_reader_size
  rw [cond_t (by simpa using he)]
theorem pbytes0 {fl : Nat} {b : List Int} (hb : Bytes b) {p : Int} (h0 : 0 ≤ p) (h1 : p ≤ b.length) {n : Nat} (hn : n ≤ 1000000) {K : List Int × List Int × Int × Int → Option Ans} :
    F_segment_reader_bytes fl b p 0 (n : Int) K = if p + n > b.length then K (List.replicate n 0, b, p, 6) else K ((b.drop p.toNat).take n, b, p + n, 0) := by
  have hl := hb.1
  unfold F_segment_reader_bytes
  simp only [loOf, hiOf]
  rw [cond_t (by rfl), wrap64 (x := (b.length : Int) - p) (by omega) (by omega), wrap64 (x := p + n) (by omega) (by omega), show p + (n : Int) - n = p by omega, wrap64 (x := p) (by omega) (by omega), cd]
  by_cases h : p + (n : Int) > b.length
  · rw [if_pos (by omega), if_pos h, dec_t (by simp; omega), Int.toNat_natCast]
  · rw [if_neg (by omega), if_neg h, cond_f (by rfl)]
    refine (cond_t (decide_eq_true (p := 0 ≤ p ∧ p ≤ p + (n : Int) ∧ p + (n : Int) ≤ b.length) ⟨by omega, by omega, by omega⟩)).trans ?_
    rw [show (p + (n : Int) - p).toNat = n by omega]
theorem pbytesE {fl : Nat} {b : List Int} {p e : Int} (he : e ≠ 0) {n : Nat} (hn : n ≤ 1000000) {K : List Int × List Int × Int × Int → Option Ans} :
    F_segment_reader_bytes fl b p e (n : Int) K = K (List.replicate n 0, b, p, e) := by
  unfold F_segment_reader_bytes
  rw [cond_f (by simpa using he), cond_t (by simpa using he), dec_t (by omega), Int.toNat_natCast]
theorem pform0 {fl : Nat} {b : List Int} {p : Int} {c : Bool} {K : List Int × Int × Int → Option Ans} : F_segment_reader_form fl b p 0 c K = K (b, p, if c = true then 0 else 3) := by
  unfold F_segment_reader_form
  cases c <;> rfl
theorem pformE {fl : Nat} {b : List Int} {p e : Int} (he : e ≠ 0) {c : Bool} {K : List Int × Int × Int → Option Ans} : F_segment_reader_form fl b p e c K = K (b, p, e) := by
  unfold F_segment_reader_form
  rw [cond_f (by simpa using he)]

theorem prefs_err {fl : Nat} {b : List Int} {p e of_ : Int} (he : e ≠ 0) (h0 : 0 ≤ of_) (h1 : of_ ≤ 100000) {many : Nat} (hm : many ≤ 20) {brk : List Int × Int × Int × List Int → Option Ans} :
    ∀ (f i : Nat) (out : List Int) (m : Nat), f + i = many → f < m → out.length ≤ i →
      iter (S_segment_reader_refs_0 fl) m (of_, (many : Int), (i : Int), b, p, e, out) brk = brk (b, p, e, out ++ List.replicate f of_)
  | 0, i, out, m, hi, hm', ho => by
    obtain ⟨m, rfl⟩ : ∃ k, m = k + 1 := ⟨m - 1, by omega⟩
    simp only [iter, S_segment_reader_refs_0]
    rw [dec_f (by omega)]
    simp
  | f + 1, i, out, m, hi, hm', ho => by
    obtain ⟨m, rfl⟩ : ∃ k, m = k + 1 := ⟨m - 1, by omega⟩
    simp only [iter, S_segment_reader_refs_0]
    rw [dec_t (by omega), psizeE he]
    dsimp only
    rw [dec_f (by omega), pformE he]
    dsimp only
    rw [show of_ - 0 = of_ by omega, wrap64 (by omega) (by omega), dec_t (by simp; omega), wrap64 (by omega) (by omega)]
    have := prefs_err (fl := fl) (b := b) (p := p) he h0 h1 hm (brk := brk) f (i + 1) (out ++ [of_]) m (by omega) (by omega) (by simp; omega)
    rw [List.append_assoc, show [of_] ++ List.replicate f of_ = List.replicate (f + 1) of_ from rfl] at this
    exact this
theorem prefs_go {fl : Nat} (hfl : 9223372036854775808 ≤ fl) {b : List Int} (hb : Bytes b) {of_ : Int} (h0 : 0 ≤ of_) (h1 : of_ ≤ 100000) {many : Nat} (hm : many ≤ 20) :
    ∀ (f i : Nat) (p last : Int) (out : List Int), f + i = many → out.length = i → ((out.length = 0 ∧ last = of_ + 1) ∨ (0 < out.length ∧ out.getD (out.length - 1) 0 = of_ - last)) →
      ∃ (p' : Int) (out' : List Int), out'.length = many ∧ ∀ m brk, f < m → iter (S_segment_reader_refs_0 fl) m (of_, (many : Int), (i : Int), b, p, 0, out) brk = match refsGo b of_ f p last out with | .bad e => brk (b, p', e, out') | .ok r q => brk (b, q, 0, r)
  | 0, i, p, last, out, hi, ho, hlast => by
    refine ⟨p, out, by omega, fun m brk hm' => ?_⟩
    obtain ⟨m, rfl⟩ : ∃ k, m = k + 1 := ⟨m - 1, by omega⟩
    simp only [iter, S_segment_reader_refs_0, refsGo]
    rw [dec_f (by omega)]
  | f + 1, i, p, last, out, hi, ho, hlast => by
    cases hn : numR b p of_ with
    | bad e =>
      have he := numR_bad hn
      refine ⟨p, out ++ [of_] ++ List.replicate f of_, by simp; omega, fun m brk hm' => ?_⟩
      obtain ⟨m, rfl⟩ : ∃ k, m = k + 1 := ⟨m - 1, by omega⟩
      simp only [iter, S_segment_reader_refs_0, refsGo, hn]
      rw [dec_t (by omega), psize0 hfl hb, hn]
      dsimp only
      rw [dec_f (by omega), pformE he]
      dsimp only
      rw [show of_ - 0 = of_ by omega, wrap64 (x := of_) (by omega) (by omega), dec_t (by simp; omega), wrap64 (by omega) (by omega)]
      exact prefs_err he h0 h1 hm f (i + 1) (out ++ [of_]) m (by omega) (by omega) (by simp; omega)
    | ok d q =>
      obtain ⟨a1, a2, a3, a4, a5, a6⟩ := numR_ok hb hn
      by_cases hd : d = 0
      · refine ⟨q, out ++ [of_ - d] ++ List.replicate f of_, by simp; omega, fun m brk hm' => ?_⟩
        obtain ⟨m, rfl⟩ : ∃ k, m = k + 1 := ⟨m - 1, by omega⟩
        simp only [iter, S_segment_reader_refs_0, refsGo, hn]
        rw [dec_t (by omega), psize0 hfl hb, hn]
        dsimp only
        rw [dec_f (by omega), pform0, if_pos hd]
        dsimp only
        rw [if_neg (by simp), wrap64 (x := of_ - d) (by omega) (by omega), dec_t (by simp; omega), wrap64 (by omega) (by omega)]
        exact prefs_err (by omega) h0 h1 hm f (i + 1) _ m (by omega) (by omega) (by simp; omega)
      · by_cases hl : d ≥ last
        · have hne : 0 < out.length := by rcases hlast with h | h; omega; exact h.1
          have hlv : out.getD (out.length - 1) 0 = of_ - last := by rcases hlast with h | h; omega; exact h.2
          refine ⟨q, out ++ [of_ - d] ++ List.replicate f of_, by simp; omega, fun m brk hm' => ?_⟩
          obtain ⟨m, rfl⟩ : ∃ k, m = k + 1 := ⟨m - 1, by omega⟩
          simp only [iter, S_segment_reader_refs_0, refsGo, hn]
          rw [dec_t (by omega), psize0 hfl hb, hn]
          dsimp only
          rw [dec_t (by omega), cond_f (by simp; intro e; subst e; simp at hne), wrap64 (x := (out.length : Int) - 1) (by omega) (by omega), dec_t (by omega), show ((out.length : Int) - 1).toNat = out.length - 1 by omega, hlv, wrap64 (x := of_ - d) (by omega) (by omega), decide_eq_false (show ¬ of_ - d > of_ - last by omega), pform0, if_neg hd, if_pos hl]
          dsimp only
          rw [if_neg (by simp), dec_t (by simp; omega), wrap64 (by omega) (by omega)]
          exact prefs_err (by omega) h0 h1 hm f (i + 1) _ m (by omega) (by omega) (by simp; omega)
        · obtain ⟨p', out', e1, e2⟩ := prefs_go hfl hb h0 h1 hm f (i + 1) q d (out ++ [of_ - d]) (by omega) (by simp; omega) (.inr ⟨by simp, by simp⟩)
          refine ⟨p', out', e1, fun m brk hm' => ?_⟩
          obtain ⟨m, rfl⟩ : ∃ k, m = k + 1 := ⟨m - 1, by omega⟩
          simp only [iter, S_segment_reader_refs_0, refsGo, hn]
          rw [dec_t (by omega), psize0 hfl hb, hn]
          dsimp only
          rw [dec_t (by omega), if_neg hd, if_neg hl, wrap64 (x := of_ - d) (by omega) (by omega)]
          rcases hlast with ⟨hz, hv⟩ | ⟨hz, hv⟩
          · rw [cond_t (by simp; exact List.eq_nil_of_length_eq_zero hz), pform0]
            dsimp only
            rw [if_pos rfl, dec_t (by simp; omega), wrap64 (by omega) (by omega)]
            exact e2 m brk (by omega)
          · rw [cond_f (by simp; intro e; subst e; simp at hz), wrap64 (x := (out.length : Int) - 1) (by omega) (by omega), dec_t (by omega), show ((out.length : Int) - 1).toNat = out.length - 1 by omega, hv, decide_eq_true (show of_ - d > of_ - last by omega), pform0]
            dsimp only
            rw [if_pos rfl, dec_t (by simp; omega), wrap64 (by omega) (by omega)]
            exact e2 m brk (by omega)
theorem prefs {fl : Nat} (hfl : 9223372036854775808 ≤ fl) {b : List Int} (hb : Bytes b) {p of_ : Int} (h0 : 0 ≤ of_) (h1 : of_ ≤ 100000) :
    ∃ (p' : Int) (out' : List Int), out'.length ≤ 20 ∧ ∀ K : List Int × Int × Int × List Int → Option Ans, F_segment_reader_refs fl b p 0 of_ K = match refsR b p of_ with | .bad e => K (b, p', e, out') | .ok r q => K (b, q, 0, r) := by
  unfold F_segment_reader_refs refsR
  cases hn : numR b p 20 with
  | bad e =>
    have he := numR_bad hn
    refine ⟨p, [], by simp, fun K => ?_⟩
    rw [psize0 hfl hb, hn]
    dsimp only
    rw [pformE he]
    dsimp only
    unfold L_segment_reader_refs_0
    rw [show ((0 : Int)) = ((0 : Nat) : Int) from rfl, prefs_err he h0 h1 (many := 0) (by omega) 0 0 [] fl rfl (by omega) (by simp)]
    simp
  | ok d q =>
    obtain ⟨a1, a2, a3, a4, a5, a6⟩ := numR_ok hb hn
    by_cases hd : d = 0
    · refine ⟨q, [], by simp, fun K => ?_⟩
      subst hd
      rw [psize0 hfl hb, hn]
      dsimp only
      rw [decide_eq_false (show ¬ (0 : Int) > 0 by omega), pform0, if_pos rfl]
      dsimp only
      rw [if_neg (by simp)]
      unfold L_segment_reader_refs_0
      rw [show ((0 : Int)) = ((0 : Nat) : Int) from rfl, prefs_err (by omega) h0 h1 (many := 0) (by omega) 0 0 [] fl rfl (by omega) (by simp)]
      simp
    · obtain ⟨many, rfl⟩ : ∃ k : Nat, d = k := ⟨d.toNat, by omega⟩
      obtain ⟨p', out', e1, e2⟩ := prefs_go hfl hb h0 h1 (many := many) (by omega) many 0 q (of_ + 1) [] (by omega) rfl (.inl ⟨rfl, rfl⟩)
      refine ⟨p', out', by omega, fun K => ?_⟩
      rw [psize0 hfl hb, hn]
      dsimp only
      rw [decide_eq_true (show (many : Int) > 0 by omega), pform0, if_neg hd, Int.toNat_natCast]
      dsimp only
      rw [if_pos rfl]
      unfold L_segment_reader_refs_0
      exact e2 fl _ (by omega)

/-! ### Unpack -/
def bitsU (l : List Int) : List Int := (List.range (8 * l.length)).map fun i => bit8 (l.getD (i / 8) 0) (i % 8)
theorem bitsU_len (l : List Int) : (bitsU l).length = 8 * l.length := by simp [bitsU]
theorem unpack {fl : Nat} (hfl : 9223372036854775808 ≤ fl) {l : List Int} (hb : ∀ x ∈ l, 0 ≤ x ∧ x ≤ 255) (hl : l.length ≤ 1000000) {K : Int × List Int → Option Ans} : F_bits_Unpack fl l (IntKind.i64.wrap (8 * (l.length : Int))) K = K (0, bitsU l) := by
  unfold F_bits_Unpack
  rw [wrap64 (by omega) (by omega), dec_f (by omega), dec_f (by omega), dec_t (by omega), show (8 * (l.length : Int)).toNat = 8 * l.length by omega, List.length_replicate]
  unfold L_bits_Unpack_1
  refine iter_seq (step := S_bits_Unpack_1 fl) (fun i : Nat => (l, ((8 * l.length : Nat) : Int), (i : Int), fillL (fun i => bit8 (l.getD (i / 8) 0) (i % 8)) (8 * l.length) i)) (8 * l.length) (by simp only [fillL_zero]; rfl) (fun i hi c => ?_) (fun c => ?_) (by omega)
  · have hc := hb _ (getD_mem (show i / 8 < l.length by omega) 0)
    simp only [S_bits_Unpack_1]
    rw [dec_t (by omega), tdiv8, tmod8, wrap64 (x := ((i / 8 : Nat) : Int)) (by omega) (by omega), dec_t (by omega), wrap64 (x := 7 - ((i % 8 : Nat) : Int)) (by omega) (by omega), dec_f (by omega), dec_t (by rw [fillL_len]; omega), Int.toNat_natCast, Int.toNat_natCast, shr_bit8 hc.1 hc.2, wrap64 (by omega) (by omega)]
    rw [show (fillL (fun i => bit8 (l.getD (i / 8) 0) (i % 8)) (8 * l.length) i).set i (bit8 (l.getD (i / 8) 0) (i % 8)) = fillL (fun i => bit8 (l.getD (i / 8) 0) (i % 8)) (8 * l.length) (i + 1) from fillL_set]
    rfl
  · simp (disch := omega) only [S_bits_Unpack_1, dec_f]
    rw [fillL_all]
    rfl
end Go.Proofs.Ytajidgilfkineaa.Seg

set_option linter.unusedVariables false
set_option linter.unusedSimpArgs false
namespace Go.Proofs.Ytajidgilfkineaa.Seg
open Go Ev Bm

/-- A header: number, kind, page, how many bytes of data, what is referred to, what is kept. -/
abbrev HdT := Int × Int × Int × Int × List Int × List Bool
def tailG (b : List Int) (n k : Int) (refs : List Int) (p : Int) (keep : List Bool) : Rd HdT := match numR b p 1000 with
  | .bad e => .bad e
  | .ok pg q => match numR b q 20000 with
    | .bad e => .bad e
    | .ok ln r => .ok (n, k, pg, ln, refs, keep) r
def keepG (b : List Int) (n k : Int) (refs : List Int) (p : Int) : Rd HdT := match keepsR b p (refs.length + 1) with
  | .bad e => .bad e
  | .ok keep q => tailG b n k refs q keep
def headG (b : List Int) (p : Int) : Rd HdT := match numR b p 10000 with
  | .bad e => .bad e
  | .ok n q =>
    if q ≥ b.length then .bad 6
    else if b.getD q.toNat 0 > 31 then .bad 3
    else if b.getD q.toNat 0 ≥ 16 then (match refsR b (q + 1) n with
      | .bad e => .bad e
      | .ok refs r => keepG b n (b.getD q.toNat 0 % 16) refs r)
    else keepG b n (b.getD q.toNat 0 % 16) [] (q + 1)
/-- What GetHeader returns. -/
def outG : Rd HdT → Int × Int × Int × Int × Int × Int × List Int × List Bool × List Int
  | .bad e => (0, 0, 0, 0, 0, e, [], [], [])
  | .ok (n, k, pg, ln, refs, keep) q => (n, k, pg, ln, q, 0, refs, keep, [])
def getH (b : List Int) (p : Int) : Int × Int × Int × Int × Int × Int × List Int × List Bool × List Int :=
  if p < 0 ∨ p > b.length then (0, 0, 0, 0, 0, 2, [], [], []) else outG (headG b p)

theorem keepsR_bad {b : List Int} {p e : Int} {many : Nat} (h : keepsR b p many = .bad e) : e ≠ 0 := by
  unfold keepsR at h
  split at h
  · cases h; omega
  · split at h
    · cases h
    · cases h; omega
theorem keepsR_ok {b : List Int} {p x : Int} {many : Nat} {r : List Bool} (h0 : 0 ≤ p) (h : keepsR b p many = .ok r x) : 0 ≤ x ∧ x ≤ b.length := by
  unfold keepsR at h
  split at h
  · cases h
  · split at h
    · cases h; omega
    · cases h
theorem refsR_bad {b : List Int} {p n e : Int} (h : refsR b p n = .bad e) : e ≠ 0 := by
  unfold refsR at h
  split at h
  · rename_i h1; cases h; exact numR_bad h1
  · split at h
    · cases h; omega
    · exact refsGo_bad h
theorem refsR_ok {b : List Int} (hb : Bytes b) {p n x : Int} {r : List Int} (h : refsR b p n = .ok r x) : r.length ≤ 20 ∧ 0 ≤ x ∧ x ≤ b.length := by
  unfold refsR at h
  split at h
  · cases h
  · rename_i d q h1
    obtain ⟨a1, a2, a3, a4, a5, a6⟩ := numR_ok hb h1
    split at h
    · cases h
    · have := refsGo_ok hb (by omega) (by omega) h
      simp at this
      omega

/-! ### The reference -/
theorem rtail {fl : Nat} (hfl : 9223372036854775808 ≤ fl) {b : List Int} (hb : Bytes b) {n k p : Int} {refs : List Int} (h0 : 0 ≤ p) (h1 : p ≤ b.length) (hr : refs.length ≤ 20) :
    ∃ (j : Int × Int × Int × Int × Int × List Int × List Bool), ∀ K : Int × Int × Int × Int × Int × Int × List Int × List Bool × List Int → Option Ans,
    (F_ref12_keeps fl b p (IntKind.i64.wrap ((refs.length : Int) + 1)) (fun (y16_0, y16_1, y16_2) =>
      bif y16_1 != 0 then K (n, k, 0, 0, 0, y16_1, refs, y16_2, [])
      else F_ref12_number fl b y16_0 1000 (fun (y21_0, y21_1, y21_2) =>
        bif y21_2 != 0 then K (n, k, y21_0, 0, 0, y21_2, refs, y16_2, [])
        else F_ref12_number fl b y21_1 20000 (fun (y26_0, y26_1, y26_2) => K (n, k, y21_0, y26_0, y26_1, y26_2, refs, y16_2, [])))))
    = match keepG b n k refs p with
      | .bad e => K (j.1, j.2.1, j.2.2.1, j.2.2.2.1, j.2.2.2.2.1, e, j.2.2.2.2.2.1, j.2.2.2.2.2.2, [])
      | .ok (n, k, pg, ln, refs, keep) q => K (n, k, pg, ln, q, 0, refs, keep, []) := by
  have ew : IntKind.i64.wrap ((refs.length : Int) + 1) = ((refs.length + 1 : Nat) : Int) := by rw [wrap64 (by omega) (by omega)]; rfl
  rw [ew]
  unfold keepG
  cases hk : keepsR b p (refs.length + 1) with
  | bad e =>
    have he := keepsR_bad hk
    refine ⟨(n, k, 0, 0, 0, refs, []), fun K => ?_⟩
    rw [rkeeps hfl hb h0 h1 (by omega), hk]
    dsimp only
    rw [cond_t (by simpa using he)]
  | ok keep q =>
    obtain ⟨q0, q1⟩ := keepsR_ok h0 hk
    obtain ⟨x, y, hN⟩ := rnumber hfl hb (p := q) (most := 1000)
    unfold tailG
    cases hn : numR b q 1000 with
    | bad e =>
      have he := numR_bad hn
      refine ⟨(n, k, x, 0, 0, refs, keep), fun K => ?_⟩
      rw [rkeeps hfl hb h0 h1 (by omega), hk]
      dsimp only
      rw [cond_f (by rfl), hN, hn]
      dsimp only
      rw [cond_t (by simpa using he)]
    | ok pg r =>
      obtain ⟨x2, y2, hN2⟩ := rnumber hfl hb (p := r) (most := 20000)
      refine ⟨(n, k, pg, x2, y2, refs, keep), fun K => ?_⟩
      rw [rkeeps hfl hb h0 h1 (by omega), hk]
      dsimp only
      rw [cond_f (by rfl), hN, hn]
      dsimp only
      rw [cond_f (by rfl), hN2]
      cases numR b r 20000 with
      | bad e => rfl
      | ok ln s => rfl
theorem keepG_bad {b : List Int} {n k p e : Int} {refs : List Int} (h : keepG b n k refs p = .bad e) : e ≠ 0 := by
  unfold keepG tailG at h
  split at h
  · rename_i h1; cases h; exact keepsR_bad h1
  · split at h
    · rename_i h1; cases h; exact numR_bad h1
    · split at h
      · rename_i h1; cases h; exact numR_bad h1
      · cases h
theorem rgetheader {fl : Nat} (hfl : 9223372036854775808 ≤ fl) {b : List Int} (hb : Bytes b) {p : Int} {K : Int × Int × Int × Int × Int × Int × List Int × List Bool × List Int → Option Ans} : F_ref12_GetHeader fl b p K = K (getH b p) := by
  unfold F_ref12_GetHeader getH
  by_cases h0 : p < 0
  · rw [dec_t h0, if_pos (.inl h0)]
  by_cases h1 : p > b.length
  · rw [dec_f h0, dec_t h1, if_pos (.inr h1)]
  rw [dec_f h0, dec_f h1, if_neg (by rintro (h | h) <;> omega)]
  unfold F_ref12_header headG
  obtain ⟨x, y, hN⟩ := rnumber hfl hb (p := p) (most := 10000)
  rw [hN]
  cases hn : numR b p 10000 with
  | bad e =>
    have he := numR_bad hn
    dsimp only
    rw [cond_t (by simpa using he)]
    try dsimp only
    rw [cond_t (by simpa using he)]
    rfl
  | ok n q =>
    obtain ⟨a1, a2, a3, a4, a5, a6⟩ := numR_ok hb hn
    have hl := hb.1
    have hc := hb.get q.toNat
    dsimp only
    rw [cond_f (by rfl)]
    by_cases hq : q ≥ b.length
    · rw [dec_t hq, if_pos hq]
      rfl
    rw [dec_f hq, if_neg hq, dec_t (by omega), wrap64 (x := b.getD q.toNat 0) (by omega) (by omega)]
    by_cases h31 : b.getD q.toNat 0 > 31
    · rw [dec_t h31, if_pos h31]
      rfl
    rw [dec_f h31, if_neg h31, wrap64 (x := q + 1) (by omega) (by omega)]
    have em : (b.getD q.toNat 0).tmod 16 = b.getD q.toNat 0 % 16 := Int.tmod_eq_emod_of_nonneg hc.1
    rw [em]
    by_cases h16 : b.getD q.toNat 0 ≥ 16
    · rw [dec_t h16, if_pos h16, rrefs hfl hb a2 (by omega)]
      cases hr : refsR b (q + 1) n with
      | bad e =>
        have he := refsR_bad hr
        dsimp only
        rw [cond_t (by simpa using he)]
        try dsimp only
        rw [cond_t (by simpa using he)]
        rfl
      | ok refs r =>
        obtain ⟨r1, r2, r3⟩ := refsR_ok hb hr
        dsimp only
        rw [cond_f (by rfl)]
        obtain ⟨j, hj⟩ := rtail hfl hb (n := n) (k := b.getD q.toNat 0 % 16) (p := r) (refs := refs) r2 r3 r1
        refine (hj (fun (y : Int × Int × Int × Int × Int × Int × List Int × List Bool × List Int) => bif y.2.2.2.2.2.1 != 0 then K (0, 0, 0, 0, 0, y.2.2.2.2.2.1, [], [], []) else K (y.1, y.2.1, y.2.2.1, y.2.2.2.1, y.2.2.2.2.1, 0, y.2.2.2.2.2.2.1, y.2.2.2.2.2.2.2.1, y.2.2.2.2.2.2.2.2))).trans ?_
        cases hk : keepG b n (b.getD q.toNat 0 % 16) refs r with
        | bad e =>
          have he := keepG_bad hk
          dsimp only
          rw [cond_t (by simpa using he)]
          rfl
        | ok h s => rfl
    · rw [dec_f h16, if_neg h16]
      obtain ⟨j, hj⟩ := rtail hfl hb (n := n) (k := b.getD q.toNat 0 % 16) (p := q + 1) (refs := []) (by omega) (by omega) (by simp)
      refine (hj (fun (y : Int × Int × Int × Int × Int × Int × List Int × List Bool × List Int) => bif y.2.2.2.2.2.1 != 0 then K (0, 0, 0, 0, 0, y.2.2.2.2.2.1, [], [], []) else K (y.1, y.2.1, y.2.2.1, y.2.2.2.1, y.2.2.2.2.1, 0, y.2.2.2.2.2.2.1, y.2.2.2.2.2.2.2.1, y.2.2.2.2.2.2.2.2))).trans ?_
      cases hk : keepG b n (b.getD q.toNat 0 % 16) [] (q + 1) with
      | bad e =>
        have he := keepG_bad hk
        dsimp only
        rw [cond_t (by simpa using he)]
        rfl
      | ok h s => rfl

/-! ### The program -/
def errK (e : Int) (many : Nat) (bits : List Int) (i : Nat) : Int := if e = 0 ∧ ((List.range i).any fun j => decide (many ≤ j) && bits.getD j 0 != 0) = true then 3 else e
theorem errK_succ {e : Int} {many : Nat} {bits : List Int} {i : Nat} : errK e many bits (i + 1) = if errK e many bits i = 0 ∧ (decide (many ≤ i) && bits.getD i 0 != 0) = true then 3 else errK e many bits i := by
  unfold errK
  rw [List.range_succ, List.any_append]
  simp only [List.any_cons, List.any_nil, Bool.or_false, Bool.or_eq_true]
  generalize ((List.range i).any fun j => decide (many ≤ j) && bits.getD j 0 != 0) = A
  generalize (decide (many ≤ i) && bits.getD i 0 != 0) = C
  by_cases he : e = 0 <;> cases A <;> cases C <;> simp [he]
theorem pkeep_loop {fl : Nat} (hfl : 9223372036854775808 ≤ fl) {b : List Int} {many : Nat} {n k p e : Int} {bits refs : List Int} (hm : many ≤ 1000) (hl : bits.length ≤ 1000000) {B} :
    L_segment_GetHeader_0 fl ((many : Int), (bits.length : Int), 0, n, k, 0, b, p, e, bits, refs, [], []) B = B (n, k, 0, b, p, errK e many bits bits.length, refs, (List.range (min bits.length many)).map fun i => bits.getD i 0 == 1, []) := by
  unfold L_segment_GetHeader_0
  refine iter_seq (step := S_segment_GetHeader_0 fl) (fun i : Nat => ((many : Int), (bits.length : Int), (i : Int), n, k, 0, b, p, errK e many bits i, bits, refs, (List.range (min i many)).map fun i => bits.getD i 0 == 1, [])) bits.length (by simp [errK]) (fun i hi c => ?_) (fun c => ?_) (by omega)
  · simp only [S_segment_GetHeader_0]
    rw [dec_t (by omega), dec_t (by omega), wrap64 (by omega) (by omega), Int.toNat_natCast, errK_succ]
    by_cases him : i < many
    · have e1 : min i many = i := by omega
      have e2 : min (i + 1) many = i + 1 := by omega
      rw [dec_t (by omega), dec_t (by simp; omega), e1, e2, range_map_succ, if_neg (by simp; omega)]
      rfl
    · have e1 : min i many = many := by omega
      have e2 : min (i + 1) many = many := by omega
      rw [dec_f (by omega), e1, e2]
      by_cases he : errK e many bits i = 0
      · rw [he, pform0]
        by_cases hz : bits.getD i 0 = 0
        · rw [if_pos (by simpa using hz), if_neg (by rw [hz]; simp)]
          rfl
        · rw [if_neg (by simpa using hz), if_pos ⟨rfl, by simp; exact ⟨by omega, by simpa using hz⟩⟩]
          rfl
      · rw [pformE he, if_neg (fun h => he h.1)]
        rfl
  · simp (disch := omega) only [S_segment_GetHeader_0, dec_f]

theorem bitsU_get {b : List Int} {q n i : Nat} (hi : i < 8 * n) (hq : q + n ≤ b.length) : (bitsU ((b.drop q).take n)).getD i 0 = bitA b q i := by
  have hl : ((b.drop q).take n).length = n := by rw [List.length_take, List.length_drop]; omega
  unfold bitsU bitA
  rw [range_getD _ (by rw [hl]; exact hi)]
  congr 1
  rw [getD_lt (by rw [hl]; omega), getD_lt (by omega)]
  simp
/-- What follows behind the keep's place. -/
theorem ptail {fl : Nat} (hfl : 9223372036854775808 ≤ fl) {b : List Int} (hb : Bytes b) {n k p e : Int} {refs : List Int} (h01 : e = 0 → 0 ≤ p ∧ p ≤ b.length) (hr : refs.length ≤ 20) {K : Int × Int × Int × Int × Int × Int × List Int × List Bool × List Int → Option Ans} :
    (F_segment_reader_bytes fl b p e (IntKind.i64.wrap ((IntKind.i64.wrap (IntKind.i64.wrap ((refs.length : Int) + 1) + 7)).tdiv 8)) (fun (y0, y1, y2, y3) =>
      F_bits_Unpack fl y0 (IntKind.i64.wrap (8 * (y0.length : Int))) (fun (z0, z1) =>
        L_segment_GetHeader_0 fl (IntKind.i64.wrap ((refs.length : Int) + 1), (z1.length : Int), 0, n, k, 0, y1, y2, y3, z1, refs, [], []) (fun (b0, b1, b2, b3, b4, b5, b6, b7, b8) =>
          F_segment_reader_size fl b3 b4 b5 1000 (fun (s0, s1, s2, s3) =>
            F_segment_reader_size fl s1 s2 s3 20000 (fun (t0, t1, t2, t3) =>
              bif t3 != 0 then K (0, 0, 0, 0, 0, t3, [], [], []) else K (b0, b1, s0, t0, t2, 0, b6, b7, b8)))))))
    = if e = 0 then K (outG (keepG b n k refs p)) else K (0, 0, 0, 0, 0, e, [], [], []) := by
  have ew : IntKind.i64.wrap ((refs.length : Int) + 1) = ((refs.length + 1 : Nat) : Int) := by rw [wrap64 (by omega) (by omega)]; rfl
  rw [ew, up8 _ (by omega)]
  generalize hm : refs.length + 1 = many
  have hm1 : many ≤ 21 := by omega
  have err : ∀ (p e : Int) (l : List Int), e ≠ 0 → l.length ≤ 1000 → (∀ x ∈ l, 0 ≤ x ∧ x ≤ 255) → (F_bits_Unpack fl l (IntKind.i64.wrap (8 * (l.length : Int))) (fun (z0, z1) =>
        L_segment_GetHeader_0 fl ((many : Int), (z1.length : Int), 0, n, k, 0, b, p, e, z1, refs, [], []) (fun (b0, b1, b2, b3, b4, b5, b6, b7, b8) =>
          F_segment_reader_size fl b3 b4 b5 1000 (fun (s0, s1, s2, s3) =>
            F_segment_reader_size fl s1 s2 s3 20000 (fun (t0, t1, t2, t3) =>
              bif t3 != 0 then K (0, 0, 0, 0, 0, t3, [], [], []) else K (b0, b1, s0, t0, t2, 0, b6, b7, b8)))))) = K (0, 0, 0, 0, 0, e, [], [], []) := by
    intro p e l he hl hx
    rw [unpack hfl hx (by omega)]
    dsimp only
    rw [pkeep_loop hfl (by omega) (by rw [bitsU_len]; omega)]
    dsimp only
    have ee : errK e many (bitsU l) (bitsU l).length = e := by unfold errK; rw [if_neg (fun h => he h.1)]
    rw [ee, psizeE he]
    dsimp only
    rw [psizeE he]
    dsimp only
    rw [cond_t (by simpa using he)]
  by_cases he : e = 0
  · obtain ⟨h0, h1⟩ := h01 he
    subst he
    rw [if_pos rfl, pbytes0 hb h0 h1 (by omega)]
    unfold keepG keepsR
    rw [hm]
    by_cases hend : p + ((many + 7) / 8 : Nat) > b.length
    · rw [if_pos hend, if_pos hend]
      dsimp only
      rw [err p 6 _ (by omega) (by simp; omega) (by intro x hx; have := List.eq_of_mem_replicate hx; omega)]
      rfl
    rw [if_neg hend, if_neg hend]
    dsimp only
    obtain ⟨q, rfl⟩ : ∃ q : Nat, p = q := ⟨p.toNat, by omega⟩
    rw [Int.toNat_natCast]
    have hq : q + (many + 7) / 8 ≤ b.length := by omega
    have hll : ((b.drop q).take ((many + 7) / 8)).length = (many + 7) / 8 := by rw [List.length_take, List.length_drop]; omega
    have hx : ∀ x ∈ (b.drop q).take ((many + 7) / 8), 0 ≤ x ∧ x ≤ 255 := fun x hx => hb.2 x (List.mem_of_mem_drop (List.mem_of_mem_take hx))
    rw [unpack hfl hx (by omega)]
    dsimp only
    rw [pkeep_loop hfl (by omega) (by rw [bitsU_len]; omega)]
    dsimp only
    have hkl : ((List.range (min (bitsU ((b.drop q).take ((many + 7) / 8))).length many)).map fun i => (bitsU ((b.drop q).take ((many + 7) / 8))).getD i 0 == 1) = keepL b q many := by
      rw [bitsU_len, hll, show min (8 * ((many + 7) / 8)) many = many by omega]
      unfold keepL
      apply List.map_congr_left
      intro i hi
      have hi := List.mem_range.1 hi
      rw [bitsU_get (by omega) hq]
      by_cases h : bitA b q i = 1 <;> simp [h]
    rw [hkl]
    by_cases hrest : restK b q many
    · have ee : errK 0 many (bitsU ((b.drop q).take ((many + 7) / 8))) (bitsU ((b.drop q).take ((many + 7) / 8))).length = 0 := by
        unfold errK
        rw [if_neg]
        rintro ⟨_, h⟩
        obtain ⟨j, hj, hb2⟩ := List.any_eq_true.1 h
        rw [List.mem_range, bitsU_len, hll] at hj
        rw [bitsU_get hj hq] at hb2
        simp only [Bool.and_eq_true, decide_eq_true_eq, bne_iff_ne, ne_eq] at hb2
        rcases hrest j hj with h | h
        · omega
        · exact hb2.2 h
      rw [ee, if_pos hrest]
      dsimp only
      unfold tailG
      rw [psize0 hfl hb]
      cases hn : numR b ((q : Int) + ((many + 7) / 8 : Nat)) 1000 with
      | bad e =>
        have he := numR_bad hn
        dsimp only
        rw [psizeE he]
        dsimp only
        rw [cond_t (by simpa using he)]
        rfl
      | ok pg r =>
        dsimp only
        rw [psize0 hfl hb]
        cases hn2 : numR b r 20000 with
        | bad e =>
          have he := numR_bad hn2
          dsimp only
          rw [cond_t (by simpa using he)]
          rfl
        | ok ln s => rfl
    · have ee : errK 0 many (bitsU ((b.drop q).take ((many + 7) / 8))) (bitsU ((b.drop q).take ((many + 7) / 8))).length = 3 := by
        unfold errK
        rw [if_pos]
        refine ⟨rfl, ?_⟩
        rcases nat_or_first (fun i => i < many ∨ bitA b q i = 0) (8 * ((many + 7) / 8)) with h | ⟨j, hj, hbad, _⟩
        · exact absurd h hrest
        · refine List.any_eq_true.2 ⟨j, by rw [List.mem_range, bitsU_len, hll]; exact hj, ?_⟩
          rw [bitsU_get hj hq]
          simp only [Bool.and_eq_true, decide_eq_true_eq, bne_iff_ne, ne_eq]
          exact ⟨Nat.le_of_not_lt fun h => hbad (.inl h), fun h => hbad (.inr h)⟩
      rw [ee, if_neg hrest, psizeE (by omega)]
      dsimp only
      rw [psizeE (by omega)]
      rfl
  · rw [if_neg he, pbytesE he (by omega)]
    dsimp only
    rw [err p e _ he (by simp; omega) (by intro x hx; have := List.eq_of_mem_replicate hx; omega)]
theorem pgetheader {fl : Nat} (hfl : 9223372036854775808 ≤ fl) {b : List Int} (hb : Bytes b) {p : Int} {K : Int × Int × Int × Int × Int × Int × List Int × List Bool × List Int → Option Ans} : F_segment_GetHeader fl b p K = K (getH b p) := by
  unfold F_segment_GetHeader getH
  by_cases h0 : p < 0
  · rw [dec_t h0, if_pos (.inl h0)]
  by_cases h1 : p > b.length
  · rw [dec_f h0, dec_t h1, if_pos (.inr h1)]
  rw [dec_f h0, dec_f h1, if_neg (by rintro (h | h) <;> omega)]
  simp only [both_same]
  have hl := hb.1
  rw [psize0 hfl hb]
  unfold headG
  have e1 : (1 : Int) = ((1 : Nat) : Int) := rfl
  cases hn : numR b p 10000 with
  | bad e =>
    have he := numR_bad hn
    dsimp only
    rw [e1, pbytesE he (by omega)]
    dsimp only
    rw [dec_t (by simp), pformE he]
    dsimp only
    have e0 : IntKind.i64.wrap ((List.replicate 1 (0 : Int)).getD (Int.toNat 0) 0) = 0 := by decide
    rw [e0, dec_f (by omega)]
    have := ptail hfl hb (n := 0) (k := Int.tmod 0 16) (p := p) (e := e) (refs := []) (fun _ => by omega) (by simp) (K := K)
    rw [if_neg he] at this
    exact this
  | ok n q =>
    obtain ⟨a1, a2, a3, a4, a5, a6⟩ := numR_ok hb hn
    dsimp only
    rw [e1, pbytes0 hb (by omega) a5 (by omega)]
    by_cases hq : q ≥ b.length
    · rw [if_pos (by omega), if_pos hq]
      dsimp only
      rw [dec_t (by simp), pformE (by omega)]
      dsimp only
      have e0 : IntKind.i64.wrap ((List.replicate 1 (0 : Int)).getD (Int.toNat 0) 0) = 0 := by decide
      rw [e0, dec_f (by omega)]
      have := ptail hfl hb (n := n) (k := Int.tmod 0 16) (p := q) (e := 6) (refs := []) (fun _ => by omega) (by simp) (K := K)
      rw [if_neg (by omega)] at this
      exact this
    rw [if_neg (by omega), if_neg hq]
    have hc := hb.get q.toNat
    have hget : ((b.drop q.toNat).take 1).getD (Int.toNat 0) 0 = b.getD q.toNat 0 := by
      rw [show Int.toNat 0 = 0 from rfl, getD_lt (by simp; omega), getD_lt (by omega)]
      simp
    dsimp only
    rw [dec_t (by simp; omega), hget, wrap64 (x := b.getD q.toNat 0) (by omega) (by omega), pform0]
    dsimp only
    have em : (b.getD q.toNat 0).tmod 16 = b.getD q.toNat 0 % 16 := Int.tmod_eq_emod_of_nonneg hc.1
    rw [em, show q + ((1 : Nat) : Int) = q + 1 from rfl]
    by_cases h31 : b.getD q.toNat 0 > 31
    · rw [decide_eq_false (show ¬ b.getD q.toNat 0 ≤ 31 by omega), if_pos h31, if_neg (by simp), dec_t (by omega), cond_f (by rfl)]
      have := ptail hfl hb (n := n) (k := b.getD q.toNat 0 % 16) (p := q + 1) (e := 3) (refs := []) (fun _ => by omega) (by simp) (K := K)
      rw [if_neg (by omega)] at this
      exact this
    rw [decide_eq_true (show b.getD q.toNat 0 ≤ 31 by omega), if_neg h31, if_pos rfl]
    by_cases h16 : b.getD q.toNat 0 ≥ 16
    · rw [dec_t h16, if_pos h16, cond_t (by rfl)]
      obtain ⟨p', out', o1, o2⟩ := prefs hfl hb (p := q + 1) (of_ := n) a2 (by omega)
      rw [o2]
      cases hr : refsR b (q + 1) n with
      | bad e =>
        have he := refsR_bad hr
        dsimp only
        have := ptail hfl hb (n := n) (k := b.getD q.toNat 0 % 16) (p := p') (e := e) (refs := out') (fun h => absurd h he) o1 (K := K)
        rw [if_neg he] at this
        exact this
      | ok refs r =>
        obtain ⟨r1, r2, r3⟩ := refsR_ok hb hr
        dsimp only
        have := ptail hfl hb (n := n) (k := b.getD q.toNat 0 % 16) (p := r) (e := 0) (refs := refs) (fun _ => ⟨r2, r3⟩) r1 (K := K)
        rw [if_pos rfl] at this
        exact this
    · rw [dec_f h16, if_neg h16]
      have := ptail hfl hb (n := n) (k := b.getD q.toNat 0 % 16) (p := q + 1) (e := 0) (refs := []) (fun _ => by omega) (by simp) (K := K)
      rw [if_pos rfl] at this
      exact this
end Go.Proofs.Ytajidgilfkineaa.Seg

set_option linter.unusedVariables false
set_option linter.unusedSimpArgs false
namespace Go.Proofs.Ytajidgilfkineaa.Seg
open Go Ev Bm

/-- A list stands in another one. -/
def Has (b : List Int) (p : Nat) (l : List Int) : Prop := ∃ pre post, b = pre ++ (l ++ post) ∧ pre.length = p
theorem Has.left {b : List Int} {p : Nat} {l m : List Int} (h : Has b p (l ++ m)) : Has b p l := by
  obtain ⟨pre, post, e, hp⟩ := h
  exact ⟨pre, m ++ post, by rw [e, List.append_assoc], hp⟩
theorem Has.right {b : List Int} {p : Nat} {l m : List Int} (h : Has b p (l ++ m)) : Has b (p + l.length) m := by
  obtain ⟨pre, post, e, hp⟩ := h
  exact ⟨pre ++ l, post, by rw [e]; simp only [List.append_assoc], by rw [List.length_append, hp]⟩
theorem Has.join {b : List Int} {p : Nat} {l m : List Int} (h : Has b p l) (k : Has b (p + l.length) m) : Has b p (l ++ m) := by
  obtain ⟨pre, post, e, hp⟩ := h
  obtain ⟨pre', post', e', hp'⟩ := k
  have : (pre ++ l) ++ post = pre' ++ (m ++ post') := by rw [← e', e, List.append_assoc]
  obtain ⟨h1, h2⟩ := List.append_inj this (by rw [List.length_append, hp, hp'])
  exact ⟨pre, post', by rw [e, h2, List.append_assoc], hp⟩
theorem Has.len {b : List Int} {p : Nat} {l : List Int} (h : Has b p l) : p + l.length ≤ b.length := by
  obtain ⟨pre, post, e, hp⟩ := h
  rw [e]
  simp
  omega
theorem Has.get {b : List Int} {p : Nat} {l : List Int} (h : Has b p l) {i : Nat} (hi : i < l.length) : b.getD (p + i) 0 = l.getD i 0 := by
  obtain ⟨pre, post, e, hp⟩ := h
  subst hp
  rw [e, getD_lt (by simp; omega), getD_lt hi, List.getElem_append_right (by omega)]
  simp only [Nat.add_sub_cancel_left]
  rw [List.getElem_append_left hi]
theorem has_of {b : List Int} {p : Nat} {l : List Int} (hl : p + l.length ≤ b.length) (h : ∀ i, i < l.length → b.getD (p + i) 0 = l.getD i 0) : Has b p l := by
  refine ⟨b.take p, b.drop (p + l.length), ?_, by rw [List.length_take]; omega⟩
  have e : (b.drop p).take l.length = l := by
    apply List.ext_getElem (by rw [List.length_take, List.length_drop]; omega)
    intro i h1 h2
    have := h i h2
    rw [getD_lt (by omega), getD_lt h2] at this
    simpa using this
  have e2 : l ++ b.drop (p + l.length) = b.drop p := by
    conv => lhs; lhs; rw [← e]
    rw [← List.drop_drop, List.take_append_drop]
  rw [e2, List.take_append_drop]
theorem Has.slice {b : List Int} {p : Nat} {l : List Int} (h : Has b p l) : (b.drop p).take l.length = l := by
  obtain ⟨pre, post, e, hp⟩ := h
  subst hp
  rw [e]
  simp

/-! ### Sizes -/
def hiF : Nat → Int → List Int
  | 0, _ => []
  | f + 1, u => if u > 0 then hiF f (u / 128) ++ [u % 128 + 128] else []
theorem szGo_hi : ∀ (f : Nat) (u : Int) (acc : List Int), szGo f u acc = hiF f u ++ acc
  | 0, u, acc => rfl
  | f + 1, u, acc => by
    simp only [szGo, hiF]
    split
    · rw [szGo_hi f]; simp
    · simp
theorem sz_hi (v : Int) : sz v = hiF 5 (v / 128) ++ [v % 128] := szGo_hi 5 _ _
def vl (ds : List Int) : Int := ds.foldl (fun n d => n * 128 + d % 128) 0
theorem vl_append (ds : List Int) (d : Int) : vl (ds ++ [d]) = vl ds * 128 + d % 128 := by simp [vl]
theorem vl_lt : ∀ (ds : List Int), 0 ≤ vl ds ∧ vl ds < 128 ^ ds.length := by
  intro ds
  generalize hn : ds.length = n
  induction n generalizing ds with
  | zero => have := List.eq_nil_of_length_eq_zero hn; subst this; simp [vl]
  | succ n ih =>
    rcases List.eq_nil_or_concat ds with rfl | ⟨es, e, he'⟩
    · simp at hn
    · rw [List.concat_eq_append] at he'
      subst he'
      rw [vl_append]
      have := ih es (by simpa using hn)
      rw [Int.pow_succ]
      omega
theorem hiF_ok : ∀ (f : Nat) (u : Int), 0 ≤ u → u < 128 ^ f → vl (hiF f u) = u ∧ (∀ d ∈ hiF f u, 128 ≤ d ∧ d ≤ 255) ∧ (hiF f u).length ≤ f ∧ (u > 0 → ∃ d r, hiF f u = d :: r ∧ d ≠ 128)
  | 0, u, h0, h1 => by
    have : u = 0 := by simp at h1; omega
    subst this
    simp [hiF, vl]
  | f + 1, u, h0, h1 => by
    simp only [hiF]
    by_cases hu : u > 0
    · rw [if_pos hu]
      have hq : u / 128 < 128 ^ f := by rw [Int.pow_succ] at h1; exact Int.ediv_lt_of_lt_mul (by omega) h1
      obtain ⟨a, b, c, d⟩ := hiF_ok f (u / 128) (by omega) hq
      refine ⟨by rw [vl_append, a]; omega, ?_, by simp; omega, fun _ => ?_⟩
      · intro x hx
        rcases List.mem_append.1 hx with hx | hx
        · exact b x hx
        · simp at hx; omega
      · by_cases hq0 : u / 128 > 0
        · obtain ⟨x, r, e1, e2⟩ := d hq0
          exact ⟨x, r ++ [u % 128 + 128], by rw [e1]; rfl, e2⟩
        · have : u / 128 = 0 := by omega
          rw [this]
          have e0 : hiF f 0 = [] := by cases f <;> simp [hiF]
          rw [e0]
          exact ⟨_, [], rfl, by omega⟩
    · have : u = 0 := by omega
      subst this
      simp [vl]
theorem hiF_vl : ∀ (f : Nat) (ds : List Int), ds.length ≤ f → (∀ d ∈ ds, 128 ≤ d ∧ d ≤ 255) → (ds = [] ∨ ∃ d r, ds = d :: r ∧ d ≠ 128) → hiF f (vl ds) = ds ∧ (ds ≠ [] → vl ds > 0)
  | 0, ds, hl, hd, hh => by
    have : ds = [] := List.eq_nil_of_length_eq_zero (by omega)
    subst this
    simp [hiF]
  | f + 1, ds, hl, hd, hh => by
    rcases List.eq_nil_or_concat ds with rfl | ⟨es, e, he'⟩
    · simp [hiF, vl]
    · rw [List.concat_eq_append] at he'
      subst he'
      have he := hd e (by simp)
      have hes : es = [] ∨ ∃ d r, es = d :: r ∧ d ≠ 128 := by
        cases es with
        | nil => exact .inl rfl
        | cons x r =>
          rcases hh with hh | ⟨d, r', e1, e2⟩
          · simp at hh
          · simp at e1
            exact .inr ⟨x, r, rfl, by rw [e1.1]; exact e2⟩
      obtain ⟨a, b⟩ := hiF_vl f es (by simp at hl; omega) (fun d hd' => hd d (by simp [hd'])) hes
      have h0 := (vl_lt es).1
      have hpos : vl (es ++ [e]) > 0 := by
        rw [vl_append]
        by_cases hn : es = []
        · subst hn
          rcases hh with hh | ⟨d, r', e1, e2⟩
          · simp at hh
          · simp at e1
            have : vl [] = 0 := rfl
            omega
        · have := b hn
          omega
      refine ⟨?_, fun _ => hpos⟩
      simp only [hiF]
      rw [if_pos hpos, vl_append]
      have e1 : (vl es * 128 + e % 128) / 128 = vl es := by omega
      have e2 : (vl es * 128 + e % 128) % 128 + 128 = e := by omega
      rw [e1, e2, a]

theorem gs_read {b : List Int} {p : Nat} {ds : List Int} {r : Int} (hk : ds.length ≤ 4) (h : Has b p (ds ++ [r])) (hd : ∀ d ∈ ds, 128 ≤ d ∧ d ≤ 255) (hr : 0 ≤ r ∧ r < 128) : ∀ (f i : Nat), f + i = 5 → i ≤ ds.length →
    gsGo b p f i (vl (ds.take i)) = if vl ds * 128 + r > 2147483647 ∨ (ds.length > 0 ∧ b.getD p 0 = 128) then (0, 0, 3) else (vl ds * 128 + r, ((p + ds.length + 1 : Nat) : Int), 0)
  | 0, i, hi, hle => by omega
  | f + 1, i, hi, hle => by
    have hlen := h.len
    simp at hlen
    simp only [gsGo]
    rw [if_neg (by omega)]
    have hg := h.get (i := i) (by simp; omega)
    rw [hg]
    by_cases hlt : i < ds.length
    · have e : (ds ++ [r]).getD i 0 = ds.getD i 0 := by
        rw [getD_lt (by simp; omega), getD_lt hlt, List.getElem_append_left hlt]
      have hdi := hd _ (getD_mem hlt 0)
      rw [e, if_neg (by omega)]
      have e2 : vl (ds.take i) * 128 + ds.getD i 0 % 128 = vl (ds.take (i + 1)) := by rw [take_succ_getD hlt 0, vl_append]
      rw [e2]
      exact gs_read hk h hd hr f (i + 1) (by omega) (by omega)
    · have hi' : i = ds.length := by omega
      subst hi'
      have e : (ds ++ [r]).getD ds.length 0 = r := by rw [getD_lt (by simp)]; simp
      rw [e, if_pos (by omega), List.take_length, show r % 128 = r by omega]
theorem getR_of {b : List Int} {p : Nat} {v : Int} (h0 : 0 ≤ v) (h1 : v ≤ 2147483647) (h : Has b p (sz v)) : getR b (p : Int) = (v, ((p + (sz v).length : Nat) : Int), 0) := by
  have hlen := h.len
  rw [sz_hi] at h hlen ⊢
  obtain ⟨a1, a2, a3, a4⟩ := hiF_ok 5 (v / 128) (by omega) (by rw [show (128 : Int) ^ 5 = 34359738368 by decide]; omega)
  have hk : (hiF 5 (v / 128)).length ≤ 4 := by
    have e5 : hiF 5 (v / 128) = hiF 4 (v / 128) := by
      have hb := hiF_ok 4 (v / 128) (by omega) (by rw [show (128 : Int) ^ 4 = 268435456 by decide]; omega)
      have := (hiF_vl 5 (hiF 4 (v / 128)) (by omega) hb.2.1 (by
        by_cases h : v / 128 > 0
        · exact .inr (hb.2.2.2 h)
        · left
          have : v / 128 = 0 := by omega
          rw [this]; simp [hiF])).1
      rw [hb.1] at this
      exact this
    rw [e5]
    exact (hiF_ok 4 (v / 128) (by omega) (by rw [show (128 : Int) ^ 4 = 268435456 by decide]; omega)).2.2.1
  unfold getR
  rw [if_neg (by simp at hlen; omega), Int.toNat_natCast]
  have hg := gs_read hk h a2 (by omega) 5 0 (by omega) (by omega)
  rw [List.take_zero] at hg
  have e0 : vl [] = 0 := rfl
  rw [e0] at hg
  rw [hg, a1, show v / 128 * 128 + v % 128 = v by omega, if_neg]
  · simp only [List.length_append, List.length_singleton]
    rfl
  · rintro (h' | ⟨h', h''⟩)
    · omega
    · have hv : v / 128 > 0 := by
        rcases Int.lt_or_le 0 (v / 128) with h3 | h3
        · exact h3
        · have : v / 128 = 0 := by omega
          rw [this] at h'
          simp [hiF] at h'
      obtain ⟨d, r, e1, e2⟩ := a4 hv
      have hg0 := h.get (i := 0) (by simp)
      rw [e1, Nat.add_zero] at hg0
      have h128 : d = 128 := by rw [← h'', hg0]; rfl
      exact e2 h128
theorem gsGo_inv {b : List Int} (hb : Bytes b) {p : Nat} : ∀ (f i : Nat) (ds : List Int) {v x : Int}, f + i = 5 → ds.length = i → Has b p ds → (∀ d ∈ ds, 128 ≤ d ∧ d ≤ 255) → gsGo b p f i (vl ds) = (v, x, 0) →
    ∃ (es : List Int) (r : Int), Has b p (es ++ [r]) ∧ (∀ d ∈ es, 128 ≤ d ∧ d ≤ 255) ∧ 0 ≤ r ∧ r < 128 ∧ es.length ≤ 4 ∧ v = vl es * 128 + r ∧ x = ((p + es.length + 1 : Nat) : Int) ∧ v ≤ 2147483647 ∧ (es = [] ∨ b.getD p 0 ≠ 128)
  | 0, i, ds, v, x, hi, hl, hh, hd, h => by simp [gsGo] at h
  | f + 1, i, ds, v, x, hi, hl, hh, hd, h => by
    have hc := hb.get (p + i)
    simp only [gsGo] at h
    split at h
    · simp at h
    · rename_i hlen
      have hj : Has b p (ds ++ [b.getD (p + i) 0]) := by
        refine hh.join (has_of (by simp; omega) fun j hj => ?_)
        simp at hj
        subst hj
        rw [hl]
        simp
      split at h
      · rename_i hs
        split at h
        · simp at h
        · rename_i hn
          simp only [Prod.mk.injEq, and_true] at h
          obtain ⟨rfl, rfl⟩ := h
          refine ⟨ds, b.getD (p + i) 0, hj, hd, hc.1, hs, by omega, by omega, by rw [hl], by omega, ?_⟩
          by_cases h0 : ds = []
          · exact .inl h0
          · right
            intro h128
            have : ds.length ≠ 0 := fun e => h0 (List.eq_nil_of_length_eq_zero e)
            exact hn (.inr ⟨by omega, h128⟩)
      · rename_i hs
        refine gsGo_inv hb f (i + 1) (ds ++ [b.getD (p + i) 0]) (by omega) (by simp [hl]) hj ?_ (by rw [vl_append]; exact h)
        intro d hd'
        rcases List.mem_append.1 hd' with hd' | hd'
        · exact hd d hd'
        · rw [List.mem_singleton] at hd'
          omega
theorem getR_inv {b : List Int} (hb : Bytes b) {p : Nat} {v x : Int} (h : getR b (p : Int) = (v, x, 0)) : Has b p (sz v) ∧ x = ((p + (sz v).length : Nat) : Int) := by
  unfold getR at h
  split at h
  · simp at h
  · rename_i hp
    rw [Int.toNat_natCast] at h
    obtain ⟨es, r, a1, a2, a3, a4, a5, a6, a7, a8, a9⟩ := gsGo_inv hb 5 0 [] (by omega) rfl (has_of (by simp; omega) (by simp)) (by simp) h
    have hh : es = [] ∨ ∃ d r, es = d :: r ∧ d ≠ 128 := by
      cases es with
      | nil => exact .inl rfl
      | cons d t =>
        right
        refine ⟨d, t, rfl, ?_⟩
        rcases a9 with h9 | h9
        · simp at h9
        · have := a1.get (i := 0) (by simp)
          rw [Nat.add_zero] at this
          rw [this] at h9
          simpa using h9
    have hv := (hiF_vl 5 es (by omega) a2 hh).1
    have h0 := (vl_lt es).1
    have e1 : v / 128 = vl es := by omega
    have e2 : v % 128 = r := by omega
    have e : sz v = es ++ [r] := by rw [sz_hi, e1, e2, hv]
    rw [e]
    exact ⟨a1, by rw [a7]; simp; omega⟩
theorem numR_of {b : List Int} {p : Nat} {v most : Int} (h0 : 0 ≤ v) (h1 : v ≤ most) (h2 : most ≤ 2147483647) (h : Has b p (sz v)) : numR b (p : Int) most = .ok v ((p + (sz v).length : Nat) : Int) := by
  unfold numR
  rw [getR_of h0 (by omega) h]
  simp only [if_true]
  rw [if_neg (by omega)]
theorem numR_inv {b : List Int} (hb : Bytes b) {p : Nat} {v x most : Int} (h : numR b (p : Int) most = .ok v x) : Has b p (sz v) ∧ x = ((p + (sz v).length : Nat) : Int) ∧ 0 ≤ v ∧ v ≤ most := by
  obtain ⟨a1, a2, a3, a4, a5, a6⟩ := numR_ok hb h
  unfold numR at h
  split at h
  · rename_i h1
    split at h
    · cases h
    · cases h
      obtain ⟨b1, b2⟩ := getR_inv hb (p := p) (v := (getR b p).1) (x := (getR b p).2.1) (by rw [← h1])
      exact ⟨b1, b2, a2, a3⟩
  · cases h
end Go.Proofs.Ytajidgilfkineaa.Seg

set_option linter.unusedVariables false
set_option linter.unusedSimpArgs false
namespace Go.Proofs.Ytajidgilfkineaa.Seg
open Go Ev Bm

/-! ### What is referred to -/
def chain (n : Int) : Int → List Int → Prop
  | _, [] => True
  | lo, r :: t => lo < r ∧ r < n ∧ chain n r t
theorem chain_iff {n : Int} : ∀ (refs : List Int) (lo : Int), chain n lo refs ↔ ∀ i, i < refs.length → (if i = 0 then lo else refs.getD (i - 1) 0) < refs.getD i 0 ∧ refs.getD i 0 < n
  | [], lo => by simp [chain]
  | r :: t, lo => by
    simp only [chain, chain_iff t r]
    constructor
    · rintro ⟨h1, h2, h3⟩ i hi
      match i, hi with
      | 0, _ => exact ⟨h1, h2⟩
      | 1, hi => have := h3 0 (by simpa using hi); simpa using this
      | i + 2, hi => have := h3 (i + 1) (by simp at hi; omega); simpa using this
    · intro h
      have h0 := h 0 (by simp)
      refine ⟨h0.1, h0.2, fun i hi => ?_⟩
      have := h (i + 1) (by simpa using hi)
      match i, hi with
      | 0, _ => simpa using this
      | i + 1, hi => simpa using this
theorem asc_chain {n : Int} {refs : List Int} : asc refs n ↔ chain n (-1) refs := by
  rw [chain_iff]
  have e : ∀ i, lastOf refs i = if i = 0 then -1 else refs.getD (i - 1) 0 := by
    intro i
    cases i with
    | zero => rfl
    | succ i => rw [if_neg (by omega)]; rfl
  unfold asc
  simp only [e]
theorem refB_cons (n r : Int) (t : List Int) : refB n (r :: t) = sz (n - r) ++ refB n t := rfl
theorem refsGo_of {b : List Int} {n : Int} (hn : n ≤ 100000) : ∀ (refs : List Int) {lo : Int} {p : Nat} (out : List Int), -1 ≤ lo → chain n lo refs → Has b p (refB n refs) →
    refsGo b n refs.length (p : Int) (n - lo) out = .ok (out ++ refs) ((p + (refB n refs).length : Nat) : Int)
  | [], lo, p, out, hlo, hc, h => by simp [refsGo, refB]
  | r :: t, lo, p, out, hlo, hc, h => by
    obtain ⟨h1, h2, h3⟩ := hc
    rw [refB_cons] at h ⊢
    simp only [List.length_cons, refsGo]
    rw [numR_of (v := n - r) (by omega) (by omega) (by omega) h.left]
    dsimp only
    rw [if_neg (by omega), if_neg (by omega), refsGo_of hn t (lo := r) (out ++ [n - (n - r)]) (by omega) h3 h.right, show n - (n - r) = r by omega, List.append_assoc, List.length_append, Nat.add_assoc]
    rfl
theorem has_nil {b : List Int} {p : Nat} (h : p ≤ b.length) : Has b p [] := has_of (by simpa using h) (by simp)
theorem refsGo_inv {b : List Int} (hb : Bytes b) {n : Int} : ∀ (f : Nat) {lo x : Int} {p : Nat} {out r : List Int}, p ≤ b.length → refsGo b n f (p : Int) (n - lo) out = .ok r x →
    ∃ refs, r = out ++ refs ∧ refs.length = f ∧ chain n lo refs ∧ Has b p (refB n refs) ∧ x = ((p + (refB n refs).length : Nat) : Int)
  | 0, lo, x, p, out, r, hp, h => by
    simp only [refsGo] at h
    cases h
    exact ⟨[], by simp, rfl, trivial, has_nil hp, by simp [refB]⟩
  | f + 1, lo, x, p, out, r, hp, h => by
    simp only [refsGo] at h
    split at h
    · cases h
    · rename_i d q hd
      obtain ⟨a1, a2, a3, a4⟩ := numR_inv hb hd
      split at h
      · cases h
      · split at h
        · cases h
        · rename_i h1 h2
          subst a2
          have e : d = n - (n - d) := by omega
          have h' : refsGo b n f ((p + (sz d).length : Nat) : Int) (n - (n - d)) (out ++ [n - d]) = .ok r x := by rw [← e]; exact h
          obtain ⟨refs, b1, b2, b3, b4, b5⟩ := refsGo_inv hb f a1.len h'
          refine ⟨(n - d) :: refs, by rw [b1]; simp, by simp [b2], ⟨by omega, by omega, b3⟩, ?_, ?_⟩
          · rw [refB_cons, ← e]
            exact a1.join b4
          · rw [b5, refB_cons, ← e, List.length_append, Nat.add_assoc]

/-! ### What is kept -/
theorem bit_B8 : ∀ (t : Fin 8) (b0 b1 b2 b3 b4 b5 b6 b7 : Bool), bit8 (B8 b0 b1 b2 b3 b4 b5 b6 b7) t.val = (([b0, b1, b2, b3, b4, b5, b6, b7].getD t.val false).toNat : Int) := by decide +kernel
theorem B8_bit : ∀ (c : Fin 256), B8 (decide (bit8 (c.val : Int) 0 = 1)) (decide (bit8 (c.val : Int) 1 = 1)) (decide (bit8 (c.val : Int) 2 = 1)) (decide (bit8 (c.val : Int) 3 = 1)) (decide (bit8 (c.val : Int) 4 = 1)) (decide (bit8 (c.val : Int) 5 = 1)) (decide (bit8 (c.val : Int) 6 = 1)) (decide (bit8 (c.val : Int) 7 = 1)) = (c.val : Int) := by decide +kernel
theorem get8' (g : Nat → Bool) : ∀ t, t < 8 → [g 0, g 1, g 2, g 3, g 4, g 5, g 6, g 7].getD t false = g t := by
  intro t ht
  match t, ht with
  | 0, _ => rfl
  | 1, _ => rfl
  | 2, _ => rfl
  | 3, _ => rfl
  | 4, _ => rfl
  | 5, _ => rfl
  | 6, _ => rfl
  | 7, _ => rfl
theorem bitA_packed {b : List Int} {p : Nat} {l : List Bool} (h : Has b p (packed l)) {i : Nat} (hi : i < 8 * ((l.length + 7) / 8)) : bitA b p i = ((l.getD i false && decide (i < l.length)).toNat : Int) := by
  unfold bitA
  have hg := h.get (i := i / 8) (by rw [packed_len]; omega)
  unfold packed at hg
  rw [pk_get (by omega)] at hg
  rw [hg]
  unfold by8
  have := bit_B8 ⟨i % 8, by omega⟩ (l.getD (8 * (i / 8) + 0) false && decide (8 * (i / 8) + 0 < l.length)) (l.getD (8 * (i / 8) + 1) false && decide (8 * (i / 8) + 1 < l.length)) (l.getD (8 * (i / 8) + 2) false && decide (8 * (i / 8) + 2 < l.length)) (l.getD (8 * (i / 8) + 3) false && decide (8 * (i / 8) + 3 < l.length)) (l.getD (8 * (i / 8) + 4) false && decide (8 * (i / 8) + 4 < l.length)) (l.getD (8 * (i / 8) + 5) false && decide (8 * (i / 8) + 5 < l.length)) (l.getD (8 * (i / 8) + 6) false && decide (8 * (i / 8) + 6 < l.length)) (l.getD (8 * (i / 8) + 7) false && decide (8 * (i / 8) + 7 < l.length))
  simp only at this
  refine this.trans ?_
  rw [get8' (fun t => l.getD (8 * (i / 8) + t) false && decide (8 * (i / 8) + t < l.length)) (i % 8) (by omega), show 8 * (i / 8) + i % 8 = i by omega]
theorem keepsR_of {b : List Int} {p : Nat} {l : List Bool} (h : Has b p (packed l)) : keepsR b (p : Int) l.length = .ok l ((p + (packed l).length : Nat) : Int) := by
  have hlen := h.len
  rw [packed_len] at hlen ⊢
  have hB : ∀ i, i < 8 * ((l.length + 7) / 8) → bitA b p i = ((l.getD i false && decide (i < l.length)).toNat : Int) := fun i hi => bitA_packed h hi
  unfold keepsR
  rw [if_neg (by omega), Int.toNat_natCast, if_pos]
  · have e : keepL b p l.length = l := by
      apply List.ext_getElem (by simp [keepL])
      intro i h1 h2
      simp only [keepL, List.getElem_map, List.getElem_range]
      rw [hB i (by omega), getD_lt h2, decide_eq_true h2]
      cases l[i] <;> rfl
    rw [e]
    rfl
  · intro i hi
    by_cases hl : i < l.length
    · exact .inl hl
    · right
      rw [hB i hi, decide_eq_false hl, Bool.and_false]
      rfl
theorem keepsR_inv {b : List Int} (hb : Bytes b) {p many : Nat} {l : List Bool} {x : Int} (h : keepsR b (p : Int) many = .ok l x) : Has b p (packed l) ∧ l.length = many ∧ x = ((p + (packed l).length : Nat) : Int) := by
  unfold keepsR at h
  rw [Int.toNat_natCast] at h
  split at h
  · cases h
  · rename_i hend
    split at h
    · rename_i hr
      cases h
      have hl : (keepL b p many).length = many := by simp [keepL]
      refine ⟨has_of (by rw [packed_len, hl]; omega) fun j hj => ?_, hl, by rw [packed_len, hl]; rfl⟩
      rw [packed_len, hl] at hj
      unfold packed
      rw [hl, pk_get hj]
      unfold by8
      have hg : ∀ t, t < 8 → ((keepL b p many).getD (8 * j + t) false && decide (8 * j + t < many)) = decide (bit8 (b.getD (p + j) 0) t = 1) := by
        intro t ht
        have ea : bitA b p (8 * j + t) = bit8 (b.getD (p + j) 0) t := by
          unfold bitA
          rw [show (8 * j + t) / 8 = j by omega, show (8 * j + t) % 8 = t by omega]
        rw [← ea]
        by_cases hm : 8 * j + t < many
        · rw [decide_eq_true hm, Bool.and_true]
          unfold keepL
          rw [range_getD _ hm]
        · rw [decide_eq_false hm, Bool.and_false]
          rcases hr (8 * j + t) (by omega) with h | h
          · omega
          · rw [h]; rfl
      have hc := hb.get (p + j)
      have := B8_bit ⟨(b.getD (p + j) 0).toNat, by omega⟩
      simp only [Int.toNat_of_nonneg hc.1] at this
      dsimp only
      rw [hg 0 (by omega), hg 1 (by omega), hg 2 (by omega), hg 3 (by omega), hg 4 (by omega), hg 5 (by omega), hg 6 (by omega), hg 7 (by omega)]
      exact this.symm
    · cases h

/-! ### Headers -/
theorem keepG_of {b : List Int} {p : Nat} {n k pg : Int} {refs : List Int} {keep : List Bool} {dl : Nat} (hk : keep.length = refs.length + 1) (h0 : 0 ≤ pg) (h1 : pg ≤ 1000) (h2 : dl ≤ 20000) (h : Has b p (packed keep ++ (sz pg ++ sz dl))) :
    keepG b n k refs (p : Int) = .ok (n, k, pg, (dl : Int), refs, keep) ((p + (packed keep ++ (sz pg ++ sz dl)).length : Nat) : Int) := by
  unfold keepG tailG
  rw [← hk, keepsR_of h.left]
  dsimp only
  rw [numR_of h0 h1 (by omega) h.right.left]
  dsimp only
  rw [numR_of (by omega) (by omega) (by omega) h.right.right]
  simp only [List.length_append, Nat.add_assoc]
theorem keepG_inv {b : List Int} (hb : Bytes b) {p : Nat} {n k x : Int} {refs : List Int} {hd : HdT} (h : keepG b n k refs (p : Int) = .ok hd x) :
    ∃ (pg : Int) (dl : Nat) (keep : List Bool), hd = (n, k, pg, (dl : Int), refs, keep) ∧ keep.length = refs.length + 1 ∧ 0 ≤ pg ∧ pg ≤ 1000 ∧ dl ≤ 20000 ∧ Has b p (packed keep ++ (sz pg ++ sz dl)) ∧ x = ((p + (packed keep ++ (sz pg ++ sz dl)).length : Nat) : Int) := by
  unfold keepG tailG at h
  split at h
  · cases h
  · rename_i keep q hq
    obtain ⟨a1, a2, a3⟩ := keepsR_inv hb hq
    subst a3
    split at h
    · cases h
    · rename_i pg r hr
      obtain ⟨b1, b2, b3, b4⟩ := numR_inv hb hr
      subst b2
      split at h
      · cases h
      · rename_i ln s hs
        obtain ⟨c1, c2, c3, c4⟩ := numR_inv hb hs
        cases h
        obtain ⟨dl, rfl⟩ : ∃ d : Nat, ln = d := ⟨ln.toNat, by omega⟩
        refine ⟨pg, dl, keep, rfl, a2, b3, b4, by omega, a1.join (b1.join c1), ?_⟩
        rw [c2]
        simp only [List.length_append, Nat.add_assoc]
theorem headG_of {b : List Int} (hb : Bytes b) {p : Nat} {n k pg : Int} {refs : List Int} {keep : List Bool} {data : List Int} (hv : valS n k pg refs keep data = true) (h : Has b p (hdr n k pg refs keep data.length)) :
    headG b (p : Int) = .ok (n, k, pg, (data.length : Int), refs, keep) ((p + (hdr n k pg refs keep data.length).length : Nat) : Int) := by
  obtain ⟨⟨v1, v2, v3, v4, v5, v6, v7, v8, v9⟩, va⟩ := valS_iff.1 hv
  unfold hdr at h ⊢
  unfold headG
  rw [numR_of v1 v2 (by omega) h.left]
  dsimp only
  have hr := h.right
  rw [Int.toNat_natCast]
  by_cases h0 : refs.length = 0
  · rw [if_pos h0] at hr ⊢
    have hq := hr.left.len
    have hg := hr.left.get (i := 0) (by simp)
    rw [Nat.add_zero] at hg
    rw [hg]
    simp only [List.length_singleton] at hq
    have hr2 := hr.right
    simp only [List.length_singleton] at hr2
    have e0 : refs = [] := List.eq_nil_of_length_eq_zero h0
    subst e0
    have ek : ([k] : List Int).getD 0 0 = k := rfl
    rw [ek, if_neg (by omega), if_neg (by omega), if_neg (by omega), show k % 16 = k by omega]
    have := keepG_of (n := n) (k := k) (refs := []) v8 v5 v6 v9 hr2
    refine Eq.trans (by rfl) (this.trans ?_)
    simp only [List.length_append, List.length_singleton, Nat.add_assoc]
  · rw [if_neg h0] at hr ⊢
    have hq := hr.left.len
    have hg := hr.left.get (i := 0) (by simp)
    rw [Nat.add_zero] at hg
    rw [hg]
    have ek : ((k + 16) :: (sz refs.length ++ refB n refs)).getD 0 0 = k + 16 := rfl
    simp only [List.length_cons] at hq
    rw [ek, if_neg (by omega), if_neg (by omega), if_pos (by omega), show (k + 16) % 16 = k by omega]
    have hh : Has b (p + (sz n).length + 1) (sz refs.length ++ refB n refs) := by
      have := hr.left
      rw [show (k + 16) :: (sz (refs.length : Int) ++ refB n refs) = [k + 16] ++ (sz (refs.length : Int) ++ refB n refs) from rfl] at this
      exact this.right
    have e1 : ((p + (sz n).length : Nat) : Int) + 1 = ((p + (sz n).length + 1 : Nat) : Int) := rfl
    have hR : refsR b (((p + (sz n).length : Nat) : Int) + 1) n = .ok refs ((p + (sz n).length + 1 + (sz (refs.length : Int) ++ refB n refs).length : Nat) : Int) := by
      rw [e1]
      unfold refsR
      rw [numR_of (by omega) (by omega) (by omega) hh.left]
      dsimp only
      rw [if_neg (by omega), Int.toNat_natCast]
      have := refsGo_of (b := b) (n := n) (by omega) refs (lo := -1) [] (by omega) (asc_chain.1 va) hh.right
      rw [show n - -1 = n + 1 by omega] at this
      rw [this]
      simp only [List.length_append, List.nil_append, Nat.add_assoc]
    rw [hR]
    dsimp only
    have hr2 := hr.right
    have el : p + (sz n).length + ((k + 16) :: (sz (refs.length : Int) ++ refB n refs)).length = p + (sz n).length + 1 + (sz (refs.length : Int) ++ refB n refs).length := by
      simp only [List.length_cons]
      omega
    rw [el] at hr2
    rw [keepG_of (n := n) (k := k) v8 v5 v6 v9 hr2]
    congr 2
    simp only [List.length_append, List.length_cons]
    omega
theorem headG_inv {b : List Int} (hb : Bytes b) {p : Nat} {x : Int} {hd : HdT} (h : headG b (p : Int) = .ok hd x) :
    ∃ (n k pg : Int) (dl : Nat) (refs : List Int) (keep : List Bool), hd = (n, k, pg, (dl : Int), refs, keep) ∧ valS n k pg refs keep (List.replicate dl 0) = true ∧ Has b p (hdr n k pg refs keep dl) ∧ x = ((p + (hdr n k pg refs keep dl).length : Nat) : Int) := by
  unfold headG at h
  split at h
  · cases h
  · rename_i n q hq
    obtain ⟨a1, a2, a3, a4⟩ := numR_inv hb hq
    subst a2
    rw [Int.toNat_natCast] at h
    have hc := hb.get (p + (sz n).length)
    split at h
    · cases h
    · rename_i hend
      split at h
      · cases h
      · rename_i h31
        have hone : ∀ k : Int, b.getD (p + (sz n).length) 0 = k → Has b (p + (sz n).length) [k] := fun k e => has_of (by simp; omega) fun j hj => by
          have : j = 0 := by simpa using hj
          subst this
          rw [Nat.add_zero, e]
          rfl
        generalize b.getD (p + (sz n).length) 0 = c at *
        have h1 := hone c rfl
        have e1 : ((p + (sz n).length : Nat) : Int) + 1 = ((p + (sz n).length + 1 : Nat) : Int) := rfl
        rw [e1] at h
        split at h
        · rename_i h16
          split at h
          · cases h
          · rename_i refs r hr
            unfold refsR at hr
            split at hr
            · cases hr
            · rename_i many s hs
              obtain ⟨b1, b2, b3, b4⟩ := numR_inv hb hs
              subst b2
              split at hr
              · cases hr
              · rename_i hm0
                have hr' : refsGo b n many.toNat ((p + (sz n).length + 1 + (sz many).length : Nat) : Int) (n - -1) [] = .ok refs r := by
                  rw [show n - -1 = n + 1 by omega]
                  exact hr
                obtain ⟨rs, c1, c2, c3, c4, c5⟩ := refsGo_inv hb many.toNat b1.len hr'
                rw [List.nil_append] at c1
                subst c1 c5
                have em : many = (refs.length : Int) := by omega
                subst em
                obtain ⟨pg, dl, keep, d1, d2, d3, d4, d5, d6, d7⟩ := keepG_inv hb h
                have hH : hdr n (c % 16) pg refs keep dl = sz n ++ ((c :: (sz refs.length ++ refB n refs)) ++ (packed keep ++ (sz pg ++ sz dl))) := by
                  unfold hdr
                  rw [if_neg (by omega), show c % 16 + 16 = c by omega]
                have hA : Has b (p + (sz n).length) (c :: (sz (refs.length : Int) ++ refB n refs)) := h1.join (l := [c]) (b1.join c4)
                have el : p + (sz n).length + (c :: (sz (refs.length : Int) ++ refB n refs)).length = p + (sz n).length + 1 + (sz (refs.length : Int)).length + (refB n refs).length := by
                  simp only [List.length_cons, List.length_append]
                  omega
                refine ⟨n, c % 16, pg, dl, refs, keep, d1, valS_iff.2 ⟨⟨a3, a4, by omega, by omega, d3, d4, by omega, d2, by simp; omega⟩, asc_chain.2 c3⟩, ?_, ?_⟩
                · rw [hH]
                  exact a1.join (hA.join (by rw [el]; exact d6))
                · rw [hH, d7]
                  simp only [List.length_append, List.length_cons]
                  omega
        · rename_i h16
          obtain ⟨pg, dl, keep, d1, d2, d3, d4, d5, d6, d7⟩ := keepG_inv hb h
          have hH : hdr n (c % 16) pg [] keep dl = sz n ++ ([c] ++ (packed keep ++ (sz pg ++ sz dl))) := by
            unfold hdr
            rw [if_pos (by simp), show c % 16 = c by omega]
          refine ⟨n, c % 16, pg, dl, [], keep, d1, valS_iff.2 ⟨⟨a3, a4, by omega, by omega, d3, d4, by simp, d2, by simp; omega⟩, asc_chain.2 trivial⟩, ?_, ?_⟩
          · rw [hH]
            exact a1.join (h1.join d6)
          · rw [hH, d7]
            simp only [List.length_append, List.length_singleton]
            omega
end Go.Proofs.Ytajidgilfkineaa.Seg

set_option linter.unusedVariables false
set_option linter.unusedSimpArgs false
namespace Go.Proofs.Ytajidgilfkineaa.Seg
open Go Ev Bm
theorem bytes_of {b : List Int} (h : given (.sl (.int .u8)) b) : Bytes b := by
  obtain ⟨h1, h2⟩ := h
  have h1 : b.length * 1 ≤ 140737488351232 := h1
  refine ⟨by omega, fun x hx => ?_⟩
  have h : (Lit.int .u8 x).wf = true := h2 x hx
  simp [Lit.wf, IntKind.min, IntKind.max, IntKind.signed, IntKind.bits] at h
  omega
theorem keepsR_len {b : List Int} {p x : Int} {many : Nat} {r : List Bool} (h : keepsR b p many = .ok r x) : r.length = many := by
  unfold keepsR at h
  split at h
  · cases h
  · split at h
    · cases h; simp [keepL]
    · cases h
theorem keepG_len {b : List Int} {n k p x : Int} {refs : List Int} {h : HdT} (hk : keepG b n k refs p = .ok h x) : h.2.2.2.2.1 = refs ∧ h.2.2.2.2.2.length = refs.length + 1 := by
  unfold keepG tailG at hk
  split at hk
  · cases hk
  · rename_i keep q hq
    split at hk
    · cases hk
    · split at hk
      · cases hk
      · rename_i ln r hr
        cases hk
        exact ⟨rfl, keepsR_len hq⟩
theorem getH_len {b : List Int} (hb : Bytes b) {p : Int} : (getH b p).2.2.2.2.2.2.1.length ≤ 20 ∧ (getH b p).2.2.2.2.2.2.2.1.length ≤ 21 := by
  unfold getH
  split
  · simp
  · unfold headG
    split
    · simp [outG]
    · split
      · simp [outG]
      · split
        · simp [outG]
        · split
          · split
            · simp [outG]
            · rename_i refs r hr
              have h1 := refsR_ok hb hr
              cases hk : keepG b _ _ refs r with
              | bad e => simp [outG]
              | ok h x =>
                obtain ⟨a1, a2⟩ := keepG_len hk
                obtain ⟨_, _, _, _, _, _⟩ := h
                simp only at a1 a2
                subst a1
                simp only [outG]
                omega
          · cases hk : keepG b _ _ [] _ with
            | bad e => simp [outG]
            | ok h x =>
              obtain ⟨a1, a2⟩ := keepG_len hk
              obtain ⟨_, _, _, _, _, _⟩ := h
              simp only at a1 a2
              subst a1
              simp only [outG]
              simp at a2
              simp
              omega
end Go.Proofs.Ytajidgilfkineaa.Seg
namespace Go.Proofs.Ytajidgilfkineaa.PureSegmentGets
open Go Ev Bm Seg
theorem pure_fl {fl : Nat} (hfl : 9223372036854775808 ≤ fl) (b : List Int) (p : Int) (hb : Bytes b) (K : Bool → Option Ans) : F_law12_SegmentGets fl b p K = K true := by
  unfold F_law12_SegmentGets
  by_cases hl : (b.length : Int) > 100000
  · rw [dec_t hl]
    exact awake hfl
  rw [dec_f hl, pgetheader hfl hb]
  have h := getH_len hb (p := p)
  dsimp only
  rw [rgetheader hfl hb]
  try dsimp only
  rw [cond_t (by simp), cond_t (by simp), cond_t (by simp), rsame hfl (Nat.le_trans h.1 (by omega)) (Nat.le_trans h.2 (by omega)), same_self]
  exact awake hfl
theorem pure (b : List Int) (p : Int) (K : Bool → Option Ans) (h : given (.sl (.int .u8)) b) (h' : (Lit.int .i64 p).wf = true) : F_law12_SegmentGets fuel b p K = K true :=
  pure_fl (by rw [fuel_eq]; omega) b p (bytes_of h) K
end Go.Proofs.Ytajidgilfkineaa.PureSegmentGets

set_option linter.unusedVariables false
set_option linter.unusedSimpArgs false
namespace Go.Proofs.Ytajidgilfkineaa.PureSegmentHeader
open Go Ev Bm Seg
theorem both_ways {b : Bool} {x : Option Ans} : (bif b then x else x) = x := by cases b <;> rfl
theorem hdr_len (n k p : Int) (refs : List Int) (keep : List Bool) (dl : Nat) (h1 : refs.length ≤ 20) (h2 : keep.length ≤ 21) : (hdr n k p refs keep dl).length ≤ 1000 := by
  have z1 := sz_len n
  have z2 := sz_len p
  have z3 := sz_len refs.length
  have z4 := packed_len keep
  have z5 := refB_len (n := n) refs
  have z6 := sz_len dl
  unfold hdr
  split <;> simp <;> omega
theorem pure_fl {fl : Nat} (hfl : 9223372036854775808 ≤ fl) (n k p : Int) (refs : List Int) (keep : List Bool) (data : List Int) (n' k' p' : Int) (refs' : List Int) (keep' : List Bool) (data' : List Int)
    (h1 : refs.length ≤ 1000000000000000) (h2 : keep.length ≤ 1000000000000000) (h3 : data.length ≤ 1000000000000000) (K : Bool → Option Ans) :
    F_law12_SegmentHeader fl n k p refs keep data n' k' p' refs' keep' data' K = K true := by
  unfold F_law12_SegmentHeader
  rw [llarge hfl (by simp)]
  have hh : (headerR n k p refs keep data).2.length ≤ 1000000000000000 := by
    unfold headerR
    split
    · rename_i h
      obtain ⟨⟨a1, a2, a3, a4, a5, a6, a7, a8, a9⟩, ha⟩ := valS_iff.1 h
      have := hdr_len n k p refs keep data.length a7 (by omega)
      dsimp only
      omega
    · simp
  have main : ∀ x, x = K true → (bif large [(n, k, p, refs, keep, data), (n', k', p', refs', keep', data')] then F_law12_Awake fl (fun y => K y) else x) = K true := by
    intro x hx
    rw [awake hfl, hx]
    exact both_ways
  refine main _ ?_
  rw [header hfl h1 h2 h3]
  try dsimp only
  rw [rheader hfl h1 h2 h3]
  try dsimp only
  rw [svalid hfl h1 h2 h3, rsvalid hfl h1 h2 h3, cond_t (by simp), cond_t (by simp), sameB hfl hh, cond_true, ssame hfl h1 h2, rsame hfl h1 h2, cond_t (by simp), ssame hfl h1 h2, same_self, cond_true, awake hfl]
abbrev SEG : Ty := .pair (.int .i64) (.pair (.int .i64) (.pair (.int .i64) (.pair (.sl (.int .i64)) (.pair (.sl .bool) (.sl (.int .u8))))))
theorem seg_lens {n k p : Int} {refs : List Int} {keep : List Bool} {data : List Int} (h : given SEG (n, k, p, refs, keep, data)) : refs.length ≤ 1000000000000000 ∧ keep.length ≤ 1000000000000000 ∧ data.length ≤ 1000000000000000 := by
  obtain ⟨_, _, _, ⟨h1, _⟩, ⟨h2, _⟩, ⟨h3, _⟩⟩ := h
  have h1 : refs.length * 8 ≤ 140737488351232 := h1
  have h2 : keep.length * 1 ≤ 140737488351232 := h2
  have h3 : data.length * 1 ≤ 140737488351232 := h3
  omega
theorem pure (n k p : Int) (refs : List Int) (keep : List Bool) (data : List Int) (n' k' p' : Int) (refs' : List Int) (keep' : List Bool) (data' : List Int) (K : Bool → Option Ans) (h : given SEG (n, k, p, refs, keep, data)) (h' : given SEG (n', k', p', refs', keep', data')) :
    F_law12_SegmentHeader fuel n k p refs keep data n' k' p' refs' keep' data' K = K true := by
  obtain ⟨h1, h2, h3⟩ := seg_lens h
  exact pure_fl (by rw [fuel_eq]; omega) _ _ _ _ _ _ _ _ _ _ _ _ h1 h2 h3 K
end Go.Proofs.Ytajidgilfkineaa.PureSegmentHeader

set_option linter.unusedVariables false
set_option linter.unusedSimpArgs false
namespace Go.Proofs.Ytajidgilfkineaa.PureSegmentBack
open Go Ev Bm Seg
theorem sz_byte {v : Int} (h0 : 0 ≤ v) (h1 : v ≤ 2147483647) : ∀ x ∈ sz v, 0 ≤ x ∧ x ≤ 255 := by
  intro x hx
  rw [sz_hi] at hx
  rcases List.mem_append.1 hx with hx | hx
  · have := (hiF_ok 5 (v / 128) (by omega) (by rw [show (128 : Int) ^ 5 = 34359738368 by decide]; omega)).2.1 x hx
    omega
  · rw [List.mem_singleton] at hx
    omega
theorem B8_byte (b0 b1 b2 b3 b4 b5 b6 b7 : Bool) : 0 ≤ B8 b0 b1 b2 b3 b4 b5 b6 b7 ∧ B8 b0 b1 b2 b3 b4 b5 b6 b7 ≤ 255 := by
  revert b0 b1 b2 b3 b4 b5 b6 b7
  decide +kernel
theorem packed_byte (l : List Bool) : ∀ x ∈ packed l, 0 ≤ x ∧ x ≤ 255 := by
  intro x hx
  unfold packed pk at hx
  obtain ⟨j, _, rfl⟩ := List.mem_map.1 hx
  exact B8_byte _ _ _ _ _ _ _ _
theorem refB_byte {n : Int} (hn : n ≤ 10000) : ∀ (refs : List Int) (lo : Int), -1 ≤ lo → chain n lo refs → ∀ x ∈ refB n refs, 0 ≤ x ∧ x ≤ 255
  | [], lo, h, hc => by simp [refB]
  | r :: t, lo, h, ⟨h1, h2, h3⟩ => by
    intro x hx
    rw [refB_cons] at hx
    rcases List.mem_append.1 hx with hx | hx
    · exact sz_byte (by omega) (by omega) x hx
    · exact refB_byte hn t r (by omega) h3 x hx
theorem hdr_byte {n k p : Int} {refs : List Int} {keep : List Bool} {data : List Int} (hv : valS n k p refs keep data = true) : ∀ x ∈ hdr n k p refs keep data.length, 0 ≤ x ∧ x ≤ 255 := by
  obtain ⟨⟨v1, v2, v3, v4, v5, v6, v7, v8, v9⟩, va⟩ := valS_iff.1 hv
  intro x hx
  unfold hdr at hx
  rcases List.mem_append.1 hx with hx | hx
  · exact sz_byte v1 (by omega) x hx
  rcases List.mem_append.1 hx with hx | hx
  · split at hx
    · rw [List.mem_singleton] at hx; omega
    · rcases List.mem_cons.1 hx with hx | hx
      · omega
      rcases List.mem_append.1 hx with hx | hx
      · exact sz_byte (by omega) (by omega) x hx
      · exact refB_byte v2 refs (-1) (by omega) (asc_chain.1 va) x hx
  rcases List.mem_append.1 hx with hx | hx
  · exact packed_byte keep x hx
  rcases List.mem_append.1 hx with hx | hx
  · exact sz_byte v5 (by omega) x hx
  · exact sz_byte (by omega) (by omega) x hx
theorem pure_fl {fl : Nat} (hfl : 9223372036854775808 ≤ fl) (n k p : Int) (refs : List Int) (keep : List Bool) (data front behind : List Int)
    (h1 : refs.length ≤ 1000000000000000) (h2 : keep.length ≤ 1000000000000000) (h3 : data.length ≤ 1000000000000000) (hf : Bytes front) (hb : Bytes behind) (lf : front.length ≤ 1048576) (lb : behind.length ≤ 1048576) (K : Bool → Option Ans) :
    F_law12_SegmentBack fl n k p refs keep data front behind K = K true := by
  unfold F_law12_SegmentBack
  rw [llarge hfl (by simp)]
  have main : ∀ x, x = K true → (bif large [(n, k, p, refs, keep, data)] then F_law12_Awake fl (fun y => K y) else x) = K true := by
    intro x hx
    rw [awake hfl, hx]
    exact PureSegmentHeader.both_ways
  refine main _ ?_
  rw [header hfl h1 h2 h3]
  unfold headerR
  by_cases hv : valS n k p refs keep data = true
  · rw [if_pos hv]
    obtain ⟨⟨v1, v2, v3, v4, v5, v6, v7, v8, v9⟩, va⟩ := valS_iff.1 hv
    have hl := PureSegmentHeader.hdr_len n k p refs keep data.length v7 (by omega)
    have hB : Bytes (([] ++ front ++ hdr n k p refs keep data.length) ++ behind) := by
      refine ⟨by simp; omega, fun x hx => ?_⟩
      rcases List.mem_append.1 hx with hx | hx
      · rcases List.mem_append.1 hx with hx | hx
        · exact hf.2 x (by simpa using hx)
        · exact hdr_byte hv x hx
      · exact hb.2 x hx
    have hH : Has (([] ++ front ++ hdr n k p refs keep data.length) ++ behind) front.length (hdr n k p refs keep data.length) := ⟨front, behind, by simp, rfl⟩
    have hG := headG_of hB hv hH
    dsimp only
    rw [cond_f (b := (0 : Int) != 0) rfl]
    rw [dec_t (by omega), dec_t (by simp; omega), dec_t (by simp; omega), pgetheader hfl hB]
    unfold getH
    rw [if_neg (by simp; omega), hG]
    unfold outG
    dsimp only
    rw [cond_t (by rfl), wrap64 (by omega) (by omega), cond_t (by simp), wrap64 (by omega) (by omega), cond_t (by simp), rsame hfl h1 h2, same_self, cond_t (by rfl)]
    exact awake hfl
  · rw [if_neg hv]
    dsimp only
    rw [cond_t (b := (2 : Int) != 0) rfl, cond_t (by rfl), cond_t (by rfl)]
    exact awake hfl
theorem pure (n k p : Int) (refs : List Int) (keep : List Bool) (data front behind : List Int) (K : Bool → Option Ans) (h : given PureSegmentHeader.SEG (n, k, p, refs, keep, data)) (hf : given (.sl (.int .u8)) front) (lf : front.length ≤ 1048576) (hb : given (.sl (.int .u8)) behind) (lb : behind.length ≤ 1048576) :
    F_law12_SegmentBack fuel n k p refs keep data front behind K = K true := by
  obtain ⟨h1, h2, h3⟩ := PureSegmentHeader.seg_lens h
  exact pure_fl (by rw [fuel_eq]; omega) _ _ _ _ _ _ _ _ h1 h2 h3 (bytes_of hf) (bytes_of hb) lf lb K
end Go.Proofs.Ytajidgilfkineaa.PureSegmentBack

