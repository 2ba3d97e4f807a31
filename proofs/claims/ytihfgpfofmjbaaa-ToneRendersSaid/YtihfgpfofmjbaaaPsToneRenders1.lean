/- Laws of the typed texts that ToneRenders reaches, in plain Lean. No condition but what each theorem names. -/
import Derived.Test.YtihfgpfofmjbaaaEvO
import Derived.Test.YtihfgpfofmjbaaaFsToneRenders1
import Derived.Test.YtihfgpfofmjbaaaFsToneRenders2
import Derived.Test.YtihfgpfofmjbaaaFsToneRenders3
import Derived.Test.YtihfgpfofmjbaaaEvS
set_option linter.unusedVariables false
set_option linter.unusedSimpArgs false
set_option linter.unusedVariables false
namespace Go.Proofs.Ytihfgpfofmjbaaa.Ev
open Go

theorem cond_t {α : Sort _} {b : Bool} {x y : α} (h : b = true) : (bif b then x else y) = x := by rw [h]; rfl
theorem cond_f {α : Sort _} {b : Bool} {x y : α} (h : b = false) : (bif b then x else y) = y := by rw [h]; rfl
theorem dec_t {p : Prop} {i : Decidable p} {α : Sort _} {x y : α} (h : p) : (bif @decide p i then x else y) = x := cond_t (decide_eq_true h)
theorem dec_f {p : Prop} {i : Decidable p} {α : Sort _} {x y : α} (h : ¬p) : (bif @decide p i then x else y) = y := cond_f (decide_eq_false h)
theorem loOf_some (x : Int) : loOf (some x) = x := rfl
theorem hiOf_some (x n : Int) : hiOf (some x) n = x := rfl
theorem both_same (x : Option Ans) : both x x = x := by
  unfold both
  cases x with
  | none => rfl
  | some u => rfl

/-- A loop that comes to its end: by a measure. -/
theorem iter_ind {V B : Type} {step : V → (V → Option Ans) → B → Option Ans} {b : B} (I : V → Prop) (m : V → Nat) (r : V → Option Ans)
    (h : ∀ v c, I v → (∀ v', I v' → m v' < m v → c v' = r v') → step v c b = r v) : ∀ n v, I v → m v < n → iter step n v b = r v
  | 0, v, hI, hm => by omega
  | n + 1, v, hI, hm => h v _ hI fun v' hI' hm' => iter_ind I m r h n v' hI' (by omega)

theorem fuel_eq : fuel = 18446744073709551616 := rfl
theorem fuel_lt {n : Nat} (h : n < 18446744073709551616) : n < fuel := by rw [fuel_eq]; exact h

/-! ### Numbers -/
theorem wrap64 {x : Int} (h1 : -9223372036854775808 ≤ x) (h2 : x ≤ 9223372036854775807) : IntKind.i64.wrap x = x := by
  simp [IntKind.wrap, IntKind.min, IntKind.max, IntKind.signed, IntKind.bits]
  omega
theorem wrap8 {x : Int} (h1 : 0 ≤ x) (h2 : x ≤ 255) : IntKind.u8.wrap x = x := by
  simp [IntKind.wrap, IntKind.min, IntKind.max, IntKind.signed, IntKind.bits]
  omega
theorem wf64 {x : Int} (h : (Lit.int .i64 x).wf = true) : -9223372036854775808 ≤ x ∧ x ≤ 9223372036854775807 := by
  simp [Lit.wf, IntKind.min, IntKind.max, IntKind.signed, IntKind.bits] at h
  omega
theorem ishl_one {y : Int} (h0 : 0 ≤ y) (h : y ≤ 62) : ishl .i64 1 y = 2 ^ y.toNat := by
  unfold ishl
  have hb : min y.toNat IntKind.i64.bits = y.toNat := by
    have : IntKind.i64.bits = 64 := rfl
    rw [this]
    omega
  rw [hb, Int.one_mul]
  have h1 : (2 : Int) ^ y.toNat ≤ 2 ^ 62 := by
    have := Nat.pow_le_pow_right (n := 2) (by omega) (show y.toNat ≤ 62 by omega)
    exact_mod_cast this
  have h2 : (0 : Int) < 2 ^ y.toNat := Int.pow_pos (by omega)
  exact wrap64 (by omega) (by omega)
theorem ishr_eq {k : IntKind} {x y : Int} (h0 : 0 ≤ y) (h : y ≤ 8) (hk : 8 ≤ k.bits := by decide) : ishr k x y = x / 2 ^ y.toNat := by
  unfold ishr
  have hb : min y.toNat k.bits = y.toNat := by omega
  rw [hb, Int.fdiv_eq_ediv_of_nonneg]
  exact Int.le_of_lt (Int.pow_pos (by omega))
theorem ofInt_toNat {n : Nat} {x : Int} (h0 : 0 ≤ x) (h : x < 2 ^ n) : (BitVec.ofInt n x).toNat = x.toNat := by
  rw [BitVec.toNat_ofInt]
  rw [Int.emod_eq_of_lt h0 (by exact_mod_cast h)]
theorem ixor_eq {x y : Int} (hx : 0 ≤ x) (hx' : x < 2 ^ 63) (hy : 0 ≤ y) (hy' : y < 2 ^ 63) : ixor .i64 x y = ((x.toNat ^^^ y.toNat : Nat) : Int) := by
  unfold ixor
  have e : IntKind.i64.bits = 64 := rfl
  rw [e, BitVec.toNat_xor, ofInt_toNat hx (by omega), ofInt_toNat hy (by omega)]
  have h1 : x.toNat ^^^ y.toNat < 2 ^ 63 := Nat.xor_lt_two_pow (by omega) (by omega)
  exact wrap64 (by omega) (by omega)
theorem iand_one {x : Int} (hx : 0 ≤ x) (hx' : x < 2 ^ 63) : iand .i64 x 1 = x % 2 := by
  unfold iand
  have e : IntKind.i64.bits = 64 := rfl
  rw [e, BitVec.toNat_and, ofInt_toNat hx (by omega), ofInt_toNat (by omega) (by omega)]
  have h1 : x.toNat &&& (1 : Int).toNat = x.toNat % 2 := Nat.and_one_is_mod _
  rw [h1]
  have h2 : ((x.toNat % 2 : Nat) : Int) = x % 2 := by omega
  rw [h2]
  exact wrap64 (by omega) (by omega)
theorem xor_mod2 (a b : Nat) : (a ^^^ b) % 2 = (a + b) % 2 := by
  rw [← Nat.and_one_is_mod, ← Nat.and_one_is_mod (a + b), Nat.and_xor_distrib_right]
  simp only [Nat.and_one_is_mod]
  rcases Nat.mod_two_eq_zero_or_one a with ha | ha <;> rcases Nat.mod_two_eq_zero_or_one b with hb | hb <;> simp [ha, hb] <;> omega
/-- The Gray code's bit. -/
theorem gray_bit {x y : Int} (hx : 0 ≤ x) (hx' : x < 2 ^ 63) (hy : 0 ≤ y) (hy' : y < 2 ^ 63) : iand .i64 (ixor .i64 x y) 1 = (x + y) % 2 := by
  rw [ixor_eq hx hx' hy hy']
  have h1 : x.toNat ^^^ y.toNat < 2 ^ 63 := Nat.xor_lt_two_pow (by omega) (by omega)
  rw [iand_one (by omega) (by omega)]
  have := xor_mod2 x.toNat y.toNat
  omega
/-! ### Loops whose states are known -/
/-- A loop that goes through known states, up to the n-th one. -/
theorem iter_to {V B : Type} {step : V → (V → Option Ans) → B → Option Ans} {b : B} {r : Option Ans} (σ : Nat → V) (n : Nat)
    (h : ∀ i, i < n → ∀ c, step (σ i) c b = c (σ (i + 1))) (hn : ∀ c, step (σ n) c b = r) {m : Nat} (hm : n < m) : iter step m (σ 0) b = r := by
  have key : ∀ d i m, i + d = n → d < m → iter step m (σ i) b = r := by
    intro d
    induction d with
    | zero =>
      intro i m hi hm
      obtain ⟨m, rfl⟩ : ∃ k, m = k + 1 := ⟨m - 1, by omega⟩
      have : i = n := by omega
      subst this
      exact hn _
    | succ d ih =>
      intro i m hi hm
      obtain ⟨m, rfl⟩ : ∃ k, m = k + 1 := ⟨m - 1, by omega⟩
      simp only [iter]
      rw [h i (by omega)]
      exact ih (i + 1) m (by omega) (by omega)
  exact key n 0 m (by omega) hm
theorem iter_seq {V B : Type} {step : V → (V → Option Ans) → B → Option Ans} {b : B} {r : Option Ans} {v : V} {m : Nat} (σ : Nat → V) (n : Nat) (hv : v = σ 0)
    (h : ∀ i, i < n → ∀ c, step (σ i) c b = c (σ (i + 1))) (hn : ∀ c, step (σ n) c b = r) (hm : n < m) : iter step m v b = r := by
  rw [hv]
  exact iter_to σ n h hn hm
/-- A loop with an invariant that is told by the round's number. -/
theorem iter_inv {V B : Type} {step : V → (V → Option Ans) → B → Option Ans} {b : B} {r : Option Ans} (I : Nat → V → Prop) (n : Nat)
    (h : ∀ i v, i < n → I i v → (∃ v', I (i + 1) v' ∧ ∀ c, step v c b = c v') ∨ ∀ c, step v c b = r) (hn : ∀ v, I n v → ∀ c, step v c b = r) {v : V} (h0 : I 0 v) {m : Nat} (hm : n < m) : iter step m v b = r := by
  have key : ∀ d i v m, i + d = n → I i v → d < m → iter step m v b = r := by
    intro d
    induction d with
    | zero =>
      intro i v m hi hI hm
      obtain ⟨m, rfl⟩ : ∃ k, m = k + 1 := ⟨m - 1, by omega⟩
      have : i = n := by omega
      subst this
      exact hn _ hI _
    | succ d ih =>
      intro i v m hi hI hm
      obtain ⟨m, rfl⟩ : ∃ k, m = k + 1 := ⟨m - 1, by omega⟩
      simp only [iter]
      rcases h i v (by omega) hI with ⟨v', h1, h2⟩ | h1
      · rw [h2]
        exact ih (i + 1) v' m (by omega) h1 (by omega)
      · exact h1 _
  exact key n 0 v m (by omega) h0 hm

/-! ### Lists -/
theorem take_succ_getD {α : Type} {l : List α} {i : Nat} (h : i < l.length) (d : α) : l.take (i + 1) = l.take i ++ [l.getD i d] := by
  rw [List.take_add_one]
  simp [List.getElem?_eq_getElem h]
theorem map_take_succ {α β : Type} {l : List α} {i : Nat} (h : i < l.length) (d : α) (f : α → β) : (l.take (i + 1)).map f = (l.take i).map f ++ [f (l.getD i d)] := by
  rw [take_succ_getD h d, List.map_append]; rfl
theorem all_take_succ {α : Type} {l : List α} {i : Nat} (h : i < l.length) (d : α) (p : α → Bool) : (l.take (i + 1)).all p = ((l.take i).all p && p (l.getD i d)) := by
  rw [take_succ_getD h d, List.all_append]; simp
theorem getD_lt {α : Type} {l : List α} {i : Nat} (h : i < l.length) (d : α) : l.getD i d = l[i] := by simp [h]
theorem getD_mem {α : Type} {l : List α} {i : Nat} (h : i < l.length) (d : α) : l.getD i d ∈ l := by rw [getD_lt h]; exact List.getElem_mem h
/-- The first of a list's members, in order, that is such a one: its place. -/
theorem all_or_first {α : Type} (p : α → Bool) (d : α) (l : List α) : l.all p = true ∨ ∃ n, n < l.length ∧ p (l.getD n d) = false ∧ ∀ i, i < n → p (l.getD i d) = true := by
  induction l with
  | nil => exact .inl rfl
  | cons x l ih =>
    cases hx : p x with
    | false => exact .inr ⟨0, by simp, by simpa using hx, fun i hi => by omega⟩
    | true =>
      rcases ih with ih | ⟨n, h1, h2, h3⟩
      · left; simp [hx, ih]
      · refine .inr ⟨n + 1, by simpa using h1, by simpa using h2, fun i hi => ?_⟩
        cases i with
        | zero => simpa using hx
        | succ i => simpa using h3 i (by omega)
theorem all_getD {α : Type} {p : α → Bool} {l : List α} (h : l.all p = true) (d : α) {i : Nat} (hi : i < l.length) : p (l.getD i d) = true :=
  List.all_eq_true.1 h _ (getD_mem hi d)
theorem not_all {α : Type} {p : α → Bool} {l : List α} {d : α} {n : Nat} (h : n < l.length) (hp : p (l.getD n d) = false) : l.all p = false := by
  rw [List.all_eq_false]
  exact ⟨_, getD_mem h d, by rw [hp]; simp⟩
/-- All numbers below n, or the first that is not such a one. -/
theorem nat_or_first (P : Nat → Prop) [DecidablePred P] : ∀ n, (∀ i, i < n → P i) ∨ ∃ k, k < n ∧ ¬ P k ∧ ∀ i, i < k → P i
  | 0 => .inl fun i h => by omega
  | n + 1 => by
    rcases nat_or_first P n with h | ⟨k, h1, h2, h3⟩
    · by_cases hn : P n
      · left
        intro i hi
        rcases Nat.lt_or_ge i n with h' | h'
        · exact h i h'
        · have : i = n := by omega
          subst this; exact hn
      · exact .inr ⟨n, by omega, hn, h⟩
    · exact .inr ⟨k, by omega, h2, h3⟩
theorem list_ext_getD {α : Type} {a b : List α} (d : α) (hl : a.length = b.length) (h : ∀ i, i < a.length → a.getD i d = b.getD i d) : a = b := by
  apply List.ext_getElem hl
  intro i h1 h2
  have := h i h1
  rwa [getD_lt h1, getD_lt h2] at this
/-- A row of zeros of which the first i are written. -/
def fillL (u : Nat → Int) (n i : Nat) : List Int := (List.range n).map fun j => if j < i then u j else 0
theorem fillL_len (u : Nat → Int) (n i : Nat) : (fillL u n i).length = n := by simp [fillL]
theorem fillL_zero (u : Nat → Int) (n : Nat) : fillL u n 0 = List.replicate n 0 := by
  apply List.ext_getElem (by simp [fillL])
  intro j h1 h2
  simp [fillL]
theorem fillL_set {u : Nat → Int} {n i : Nat} : (fillL u n i).set i (u i) = fillL u n (i + 1) := by
  apply List.ext_getElem (by simp [fillL])
  intro j h1 h2
  simp only [fillL, List.getElem_set, List.getElem_map, List.getElem_range]
  split
  · rename_i e; subst e; rw [if_pos (by omega)]
  · by_cases h : j < i
    · rw [if_pos h, if_pos (by omega)]
    · rw [if_neg h, if_neg (by omega)]
theorem fillL_all {u : Nat → Int} {n : Nat} : fillL u n n = (List.range n).map u := by
  apply List.ext_getElem (by simp [fillL])
  intro j h1 h2
  simp only [fillL, List.length_map, List.length_range] at h1
  simp [fillL, h1]
theorem range_map_succ {α : Type} (f : Nat → α) (i : Nat) : (List.range (i + 1)).map f = (List.range i).map f ++ [f i] := by
  rw [List.range_succ, List.map_append]; rfl
theorem range_getD {α : Type} (f : Nat → α) {n i : Nat} (h : i < n) (d : α) : ((List.range n).map f).getD i d = f i := by
  rw [getD_lt (by simpa using h)]
  simp
end Go.Proofs.Ytihfgpfofmjbaaa.Ev

set_option linter.unusedVariables false
set_option linter.unusedSimpArgs false
namespace Go.Proofs.Ytihfgpfofmjbaaa.Bm
open Go Ev

theorem cd {α : Sort _} {p : Prop} {i : Decidable p} {x y : α} : (bif @decide p i then x else y) = @ite α p i x y := by by_cases h : p <;> simp [h]
theorem cb {α : Sort _} {a b : Int} {x y : α} : (bif a == b then x else y) = if a = b then x else y := by
  by_cases h : a = b
  · simp [h]
  · rw [if_neg h, cond_f (by simpa using h)]
theorem cn {α : Sort _} {a b : Int} {x y : α} : (bif a != b then x else y) = if a = b then y else x := by
  by_cases h : a = b
  · simp [h]
  · rw [if_neg h, cond_t (by simpa using h)]
theorem cnot {α : Sort _} {b : Bool} {x y : α} : (bif !b then x else y) = bif b then y else x := by cases b <;> rfl

theorem mul_le {w h a b : Int} (h0 : 0 ≤ w) (h1 : w ≤ a) (h2 : 0 ≤ h) (h3 : h ≤ b) : 0 ≤ w * h ∧ w * h ≤ a * b :=
  ⟨Int.mul_nonneg h0 h2, Int.mul_le_mul h1 h3 h2 (by omega)⟩

/-- Sides of a bitmap. -/
def fit (w h : Int) : Bool := decide (0 ≤ w ∧ 0 ≤ h ∧ w ≤ 200 ∧ h ≤ 200 ∧ w * h ≤ 8192)
theorem fit_iff {w h : Int} : fit w h = true ↔ 0 ≤ w ∧ 0 ≤ h ∧ w ≤ 200 ∧ h ≤ 200 ∧ w * h ≤ 8192 := by simp [fit]
theorem fits_ok {fl : Nat} {w h : Int} {K : Bool → Option Ans} : F_bitmap_fits fl w h K = K (fit w h) := by
  unfold F_bitmap_fits fit
  simp only [cd]
  split
  · split
    · split
      · split
        · have := mul_le (a := 200) (b := 200) (show 0 ≤ w by omega) (by omega) (show 0 ≤ h by omega) (by omega)
          rw [wrap64 (by omega) (by omega)]
          exact congrArg K (decide_eq_decide.2 (by omega))
        · exact congrArg K (decide_eq_false (by omega)).symm
      · exact congrArg K (decide_eq_false (by omega)).symm
    · exact congrArg K (decide_eq_false (by omega)).symm
  · exact congrArg K (decide_eq_false (by omega)).symm
theorem sides_ok {fl : Nat} {w h : Int} {K : Bool → Option Ans} : F_ref05_Sides fl w h K = K (fit w h) := by
  unfold F_ref05_Sides fit
  simp only [cd]
  split
  · split
    · split
      · split
        · have := mul_le (a := 200) (b := 200) (show 0 ≤ w by omega) (by omega) (show 0 ≤ h by omega) (by omega)
          rw [wrap64 (by omega) (by omega)]
          exact congrArg K (decide_eq_decide.2 (by omega))
        · exact congrArg K (decide_eq_false (by omega)).symm
      · exact congrArg K (decide_eq_false (by omega)).symm
    · exact congrArg K (decide_eq_false (by omega)).symm
  · exact congrArg K (decide_eq_false (by omega)).symm

/-- A bitmap. -/
def valid (w h : Int) (pix : List Int) : Bool := fit w h && decide ((pix.length : Int) = w * h) && pix.all fun x => decide (x ≤ 1)
theorem valid_iff {w h : Int} {pix : List Int} : valid w h pix = true ↔ (0 ≤ w ∧ 0 ≤ h ∧ w ≤ 200 ∧ h ≤ 200 ∧ w * h ≤ 8192) ∧ (pix.length : Int) = w * h ∧ ∀ x ∈ pix, x ≤ 1 := by
  unfold valid
  rw [Bool.and_eq_true, Bool.and_eq_true, fit_iff, decide_eq_true_eq, List.all_eq_true]
  simp [and_assoc]
theorem fit_mul {w h : Int} (hf : fit w h = true) : IntKind.i64.wrap (w * h) = w * h := by
  obtain ⟨h1, h2, h3, h4, h5⟩ := fit_iff.1 hf
  have := mul_le (a := 200) (b := 200) h1 h3 h2 h4
  exact wrap64 (by omega) (by omega)

theorem valid_ok {fl : Nat} (hfl : 9223372036854775808 ≤ fl) {w h : Int} {pix : List Int} {K : Bool → Option Ans} : F_bitmap_Valid fl w h pix K = K (valid w h pix) := by
  unfold F_bitmap_Valid
  rw [fits_ok]
  unfold valid
  cases hf : fit w h with
  | false => rfl
  | true =>
  rw [cond_f (b := !true) rfl, fit_mul hf, cn]
  obtain ⟨h1, h2, h3, h4, h5⟩ := fit_iff.1 hf
  split
  rotate_left
  · rename_i hne
    rw [decide_eq_false hne]
    rfl
  rename_i he
  rw [decide_eq_true he]
  simp only [Bool.true_and]
  unfold L_bitmap_Valid_0
  rcases all_or_first (fun x => decide (x ≤ 1)) 0 pix with ha | ⟨n, hn, hb, hi⟩
  · rw [ha]
    refine iter_seq (step := S_bitmap_Valid_0 fl) (fun i : Nat => (pix, (pix.length : Int), (i : Int))) pix.length rfl (fun i hi c => ?_) (fun c => ?_) (by omega)
    · have g := all_getD ha 0 hi
      simp only [decide_eq_true_eq] at g
      simp (disch := omega) only [S_bitmap_Valid_0, dec_t, dec_f, wrap64, Int.toNat_natCast]
      rfl
    · simp (disch := omega) only [S_bitmap_Valid_0, dec_f]
  · rw [not_all hn hb]
    refine iter_seq (step := S_bitmap_Valid_0 fl) (fun i : Nat => (pix, (pix.length : Int), (i : Int))) n rfl (fun i hin c => ?_) (fun c => ?_) (by omega)
    · have g := hi i hin
      simp only [decide_eq_true_eq] at g
      simp (disch := omega) only [S_bitmap_Valid_0, dec_t, dec_f, wrap64, Int.toNat_natCast]
      rfl
    · simp only [decide_eq_false_iff_not] at hb
      simp (disch := omega) only [S_bitmap_Valid_0, dec_t, Int.toNat_natCast]
theorem rvalid_ok {fl : Nat} (hfl : 9223372036854775808 ≤ fl) {w h : Int} {pix : List Int} {K : Bool → Option Ans} : F_ref05_Valid fl w h pix K = K (valid w h pix) := by
  unfold F_ref05_Valid
  rw [sides_ok]
  unfold valid
  cases hf : fit w h with
  | false => rfl
  | true =>
  rw [cond_f (b := !true) rfl, fit_mul hf, cn]
  obtain ⟨h1, h2, h3, h4, h5⟩ := fit_iff.1 hf
  split
  rotate_left
  · rename_i hne
    rw [decide_eq_false hne]
    rfl
  rename_i he
  rw [decide_eq_true he]
  simp only [Bool.true_and]
  unfold L_ref05_Valid_0
  rcases all_or_first (fun x => decide (x ≤ 1)) 0 pix with ha | ⟨n, hn, hb, hi⟩
  · rw [ha]
    refine iter_seq (step := S_ref05_Valid_0 fl) (fun i : Nat => ((i : Int), w, h, pix)) pix.length rfl (fun i hi c => ?_) (fun c => ?_) (by omega)
    · have g := all_getD ha 0 hi
      simp only [decide_eq_true_eq] at g
      simp (disch := omega) only [S_ref05_Valid_0, dec_t, dec_f, wrap64, Int.toNat_natCast]
      rfl
    · simp (disch := omega) only [S_ref05_Valid_0, dec_f]
  · rw [not_all hn hb]
    refine iter_seq (step := S_ref05_Valid_0 fl) (fun i : Nat => ((i : Int), w, h, pix)) n rfl (fun i hin c => ?_) (fun c => ?_) (by omega)
    · have g := hi i hin
      simp only [decide_eq_true_eq] at g
      simp (disch := omega) only [S_ref05_Valid_0, dec_t, dec_f, wrap64, Int.toNat_natCast]
      rfl
    · simp only [decide_eq_false_iff_not] at hb
      simp (disch := omega) only [S_ref05_Valid_0, dec_t, Int.toNat_natCast]

/-- A place in a bitmap. -/
def ins (w h x y : Int) : Prop := 0 ≤ x ∧ 0 ≤ y ∧ x < w ∧ y < h
instance {w h x y : Int} : Decidable (ins w h x y) := by unfold ins; infer_instance
/-- A pixel, white outside. -/
def px (w h : Int) (pix : List Int) (x y : Int) : Int := if ins w h x y then pix.getD (y * w + x).toNat 0 else 0
theorem place {w h x y : Int} (hi : ins w h x y) : 0 ≤ y * w + x ∧ y * w + x < w * h := by
  obtain ⟨h1, h2, h3, h4⟩ := hi
  have a : 0 ≤ y * w := Int.mul_nonneg h2 (by omega)
  have b : (y + 1) * w ≤ h * w := Int.mul_le_mul_of_nonneg_right (by omega) (by omega)
  rw [Int.add_mul, Int.one_mul, Int.mul_comm h w] at b
  omega
theorem place_y {w h x y : Int} (hi : ins w h x y) : 0 ≤ y * w ∧ y * w < w * h := by
  obtain ⟨h1, h2, h3, h4⟩ := hi
  have a : 0 ≤ y * w := Int.mul_nonneg h2 (by omega)
  have b : (y + 1) * w ≤ h * w := Int.mul_le_mul_of_nonneg_right (by omega) (by omega)
  rw [Int.add_mul, Int.one_mul, Int.mul_comm h w] at b
  omega
theorem px_01 {w h : Int} {pix : List Int} (h0 : ∀ v ∈ pix, 0 ≤ v ∧ v ≤ 1) (x y : Int) : 0 ≤ px w h pix x y ∧ px w h pix x y ≤ 1 := by
  unfold px
  split
  · by_cases hl : (y * w + x).toNat < pix.length
    · exact h0 _ (getD_mem hl 0)
    · rw [List.getD_eq_getElem?_getD, List.getElem?_eq_none (by omega)]
      simp
  · omega
theorem at_ok {fl : Nat} {w h : Int} {pix : List Int} {x y : Int} (hm : w * h ≤ 9000000000000000000) (hl : (pix.length : Int) = w * h) (h0 : ∀ v ∈ pix, 0 ≤ v ∧ v ≤ 255) {K : Int → Option Ans} : F_ref05_At fl w h pix x y K = K (px w h pix x y) := by
  unfold F_ref05_At F_ref05_inside px
  simp only [cd]
  by_cases hi : ins w h x y
  · have hp := place hi
    have hy := place_y hi
    rw [if_pos hi]
    obtain ⟨h1, h2, h3, h4⟩ := hi
    rw [if_pos (by omega), if_pos (by omega), if_pos (by omega), decide_eq_true h4, cond_f (b := !true) rfl, wrap64 (x := y * w) (by omega) (by omega), wrap64 (x := y * w + x) (by omega) (by omega), if_pos (by omega)]
    have := h0 _ (getD_mem (show (y * w + x).toNat < pix.length by omega) 0)
    rw [wrap64 (by omega) (by omega)]
  · rw [if_neg hi]
    unfold ins at hi
    split
    · split
      · split
        · rw [decide_eq_false (by omega)]; rfl
        · rfl
      · rfl
    · rfl
end Go.Proofs.Ytihfgpfofmjbaaa.Bm

set_option linter.unusedVariables false
set_option linter.unusedSimpArgs false
namespace Go.Proofs.Ytihfgpfofmjbaaa.Gen
open Go Ev Bm

def vr (t ax ay kd : Int) : Bool := decide (0 ≤ t ∧ t ≤ 3 ∧ (kd = 0 ∨ kd = 1) ∧ -8 ≤ ax ∧ ax ≤ 8 ∧ -8 ≤ ay ∧ ay ≤ 0 ∧ (ay < 0 ∨ ax < 0))
theorem vr_iff {t ax ay kd : Int} : vr t ax ay kd = true ↔ 0 ≤ t ∧ t ≤ 3 ∧ (kd = 0 ∨ kd = 1) ∧ -8 ≤ ax ∧ ax ≤ 8 ∧ -8 ≤ ay ∧ ay ≤ 0 ∧ (ay < 0 ∨ ax < 0) := by simp [vr]
theorem gvalid {fl : Nat} {t ax ay kd : Int} {ty : Bool} {K : Bool → Option Ans} : F_generic_Valid fl t ax ay ty kd K = K (vr t ax ay kd) := by
  unfold F_generic_Valid vr
  simp only [cd, cb]
  repeat' split
  all_goals first
    | exact congrArg K (decide_eq_true (by omega)).symm
    | exact congrArg K (decide_eq_false (by omega)).symm
    | exact congrArg K (decide_eq_decide.2 (by omega))
theorem rvalid {fl : Nat} {t ax ay kd : Int} {ty : Bool} {K : Bool → Option Ans} : F_ref07_Valid fl t ax ay ty kd K = K (vr t ax ay kd) := by
  unfold F_ref07_Valid vr
  simp only [cd, cb]
  repeat' split
  all_goals first
    | exact congrArg K (decide_eq_true (by omega)).symm
    | exact congrArg K (decide_eq_false (by omega)).symm
    | exact congrArg K (decide_eq_decide.2 (by omega))

/-- The offsets of a template. -/
def tpl (t : Int) : List (Int × Int) :=
  if t = 0 then [(-1, -2), (0, -2), (1, -2), (-2, -1), (-1, -1), (0, -1), (1, -1), (2, -1), (-2, 0), (-1, 0)]
  else if t = 1 then [(-1, -2), (0, -2), (-1, -1), (0, -1), (1, -1), (-2, 0), (-1, 0)]
  else if t = 2 then [(-2, -1), (-1, -1), (0, -1), (1, -1), (2, -1), (-2, 0), (-1, 0)]
  else [(-1, -1), (0, -1), (1, -1), (-1, 0)]
theorem gpixels {fl : Nat} {t : Int} {K : List (Int × Int) → Option Ans} : F_generic_pixels fl t K = K (tpl t) := by
  unfold F_generic_pixels tpl
  simp only [cb, apply_ite K]
theorem rtemplate {fl : Nat} {t : Int} {K : List (Int × Int) → Option Ans} : F_ref07_template fl t K = K (tpl t) := by
  unfold F_ref07_template tpl
  simp only [cb, apply_ite K]
theorem tpl_len (t : Int) : (tpl t).length ≤ 10 := by
  unfold tpl
  repeat' split
  all_goals simp
theorem tpl_near (t : Int) : ∀ d ∈ tpl t, -8 ≤ d.1 ∧ d.1 ≤ 8 ∧ -8 ≤ d.2 ∧ d.2 ≤ 0 := by
  unfold tpl
  repeat' split
  all_goals decide

/-- All offsets of a context. -/
def around (t ax ay : Int) : List (Int × Int) := tpl t ++ [(ax, ay)]
theorem around_len (t ax ay : Int) : (around t ax ay).length = (tpl t).length + 1 := by simp [around]
theorem rpixels {fl : Nat} {t ax ay kd : Int} {ty : Bool} {K : List (Int × Int) → Option Ans} : F_ref07_pixels fl t ax ay ty kd K = K (around t ax ay) := by
  have := tpl_len t
  unfold F_ref07_pixels around
  simp only [rtemplate]
  rw [dec_t (by simp; omega)]
  simp only [both_same]

/-- How many contexts a region takes. -/
def size (t : Int) : Int := 2 ^ ((tpl t).length + 1) + 1
theorem size_eq {t : Int} : size t = 2048 + 1 ∨ size t = 256 + 1 ∨ size t = 32 + 1 := by
  unfold size tpl
  repeat' split
  all_goals decide
theorem ishl_two {n : Nat} (h : n ≤ 60) : ishl .i64 2 (n : Int) = 2 ^ (n + 1) := by
  unfold ishl
  have hb : min (n : Int).toNat IntKind.i64.bits = n := by
    have : IntKind.i64.bits = 64 := rfl
    rw [this]
    omega
  rw [hb]
  have e : (2 : Int) * 2 ^ n = 2 ^ (n + 1) := by rw [Int.pow_succ]; omega
  rw [e]
  have h1 : (2 : Int) ^ (n + 1) ≤ 2 ^ 61 := by
    have := Nat.pow_le_pow_right (n := 2) (by omega) (show n + 1 ≤ 61 by omega)
    exact_mod_cast this
  have h2 : (0 : Int) < 2 ^ (n + 1) := Int.pow_pos (by omega)
  exact wrap64 (by omega) (by omega)
/-- What Size returns. -/
def sizeR (t ax ay kd : Int) : Int × Int := if vr t ax ay kd = true then (size t, 0) else (0, 2)
theorem gcontexts {fl : Nat} {t ax ay kd : Int} {ty : Bool} {K : Int → Option Ans} : F_generic_contexts fl t ax ay ty kd K = K (size t - 1) := by
  have := tpl_len t
  unfold F_generic_contexts
  rw [gpixels, ishl_two (by omega)]
  unfold size
  rw [Int.add_sub_cancel]
theorem gsize {fl : Nat} {t ax ay kd : Int} {ty : Bool} {K : Int × Int → Option Ans} : F_generic_Size fl t ax ay ty kd K = K (sizeR t ax ay kd) := by
  unfold F_generic_Size sizeR
  rw [gvalid]
  cases h : vr t ax ay kd with
  | false => rfl
  | true =>
    rw [cond_f (b := !true) rfl, gcontexts, if_pos rfl]
    have := size_eq (t := t)
    rw [wrap64 (by omega) (by omega), Int.sub_add_cancel]
theorem rsize {fl : Nat} {t ax ay kd : Int} {ty : Bool} {K : Int × Int → Option Ans} : F_ref07_Size fl t ax ay ty kd K = K (sizeR t ax ay kd) := by
  unfold F_ref07_Size sizeR
  rw [rvalid]
  cases h : vr t ax ay kd with
  | false => rfl
  | true =>
    have hl := tpl_len t
    have := size_eq (t := t)
    rw [cond_f (b := !true) rfl, rpixels, if_pos rfl, around_len, ishl_one (by omega) (by omega), Int.toNat_natCast]
    unfold size at this ⊢
    rw [wrap64 (by omega) (by omega)]

theorem gplane {fl : Nat} {t ax ay kd w h : Int} {ty : Bool} {K : Int × Int × List Int × List (Int × Int) → Option Ans} (h0 : 0 ≤ w * h) (h1 : w * h ≤ 1000000000) :
    F_generic_newPlane fl t ax ay ty kd w h K = K (w, h, List.replicate (w * h).toNat 0, around t ax ay) := by
  have := tpl_len t
  unfold F_generic_newPlane around
  simp only [gpixels, wrap64 (show -9223372036854775808 ≤ w * h by omega) (show w * h ≤ 9223372036854775807 by omega)]
  have c1 : decide ((0 : Int) ≤ w * h ∧ True ∧ ((1 : Nat) : Int) * (w * h) ≤ 281474976710656 ∧ w * h ≤ 281474976710656) = true := decide_eq_true ⟨h0, trivial, by omega, by omega⟩
  have c2 : decide (((tpl t).length + [(ax, ay)].length) * 16 ≤ 140737488355328 ∧ (tpl t).length + [(ax, ay)].length ≤ 140737488355328) = true := decide_eq_true (by simp; omega)
  simp only [c1, c2, cond_true, both_same]

/-! ### The context of a pixel -/
def ctxv (w h : Int) (p : List Int) (x y : Int) (l : List (Int × Int)) : Int := l.foldl (fun n d => 2 * n + px w h p (x + d.1) (y + d.2)) 0
theorem ctxv_take {w h : Int} {p : List Int} {x y : Int} {l : List (Int × Int)} {i : Nat} (hi : i < l.length) :
    ctxv w h p x y (l.take (i + 1)) = 2 * ctxv w h p x y (l.take i) + px w h p (x + (l.getD i (0, 0)).1) (y + (l.getD i (0, 0)).2) := by
  unfold ctxv
  rw [take_succ_getD hi (0, 0), List.foldl_append]
  rfl
theorem ctxv_lt {w h : Int} {p : List Int} (h0 : ∀ v ∈ p, 0 ≤ v ∧ v ≤ 1) {x y : Int} {l : List (Int × Int)} : ∀ i, i ≤ l.length → 0 ≤ ctxv w h p x y (l.take i) ∧ ctxv w h p x y (l.take i) < 2 ^ i
  | 0, _ => by simp [ctxv]
  | i + 1, hi => by
    obtain ⟨a, b⟩ := ctxv_lt h0 (w := w) (h := h) (x := x) (y := y) (l := l) i (by omega)
    have c := px_01 (w := w) (h := h) h0 (x + (l.getD i (0, 0)).1) (y + (l.getD i (0, 0)).2)
    rw [ctxv_take (by omega), Int.pow_succ]
    omega
theorem ctxv_small {w h : Int} {p : List Int} (h0 : ∀ v ∈ p, 0 ≤ v ∧ v ≤ 1) {x y : Int} {l : List (Int × Int)} (hl : l.length ≤ 11) {i : Nat} (hi : i ≤ l.length) : 0 ≤ ctxv w h p x y (l.take i) ∧ ctxv w h p x y (l.take i) < 2048 := by
  have a := ctxv_lt h0 (w := w) (h := h) (x := x) (y := y) i hi
  have b : (2 : Int) ^ i ≤ 2 ^ 11 := by
    have := Nat.pow_le_pow_right (n := 2) (by omega) (show i ≤ 11 by omega)
    exact_mod_cast this
  have c : (2 : Int) ^ 11 = 2048 := by decide
  omega

/-- A bitmap's pixels. -/
structure Pix (w h : Int) (p : List Int) : Prop where
  w0 : 0 ≤ w
  h0 : 0 ≤ h
  w1 : w ≤ 200
  h1 : h ≤ 200
  n : w * h ≤ 8192
  len : (p.length : Int) = w * h
  bit : ∀ v ∈ p, 0 ≤ v ∧ v ≤ 1
theorem pix_of {w h : Int} {p : List Int} (hv : valid w h p = true) (h0 : ∀ v ∈ p, 0 ≤ v) : Pix w h p := by
  obtain ⟨⟨a, b, c, d, e⟩, f, g⟩ := valid_iff.1 hv
  exact ⟨a, b, c, d, e, f, fun v hv => ⟨h0 v hv, g v hv⟩⟩
theorem Pix.mul0 {w h : Int} {p : List Int} (hp : Pix w h p) : 0 ≤ w * h := by have := hp.len; omega

theorem gat {fl : Nat} {w h : Int} {p : List Int} (hp : Pix w h p) {x y : Int} {l : List (Int × Int)} {K : Int × Int × Int × List Int × List (Int × Int) → Option Ans} :
    F_generic_plane_at_a34 fl x y w h p l K = K (px w h p x y, w, h, p, l) := by
  have hl := hp.len
  have hn := hp.n
  unfold F_generic_plane_at_a34 px
  simp only [cd]
  by_cases hi : ins w h x y
  · have hq := place hi
    have hy := place_y hi
    rw [if_pos hi]
    obtain ⟨h1, h2, h3, h4⟩ := hi
    rw [if_neg (by omega), if_neg (by omega), if_neg (by omega), if_neg (by omega), wrap64 (x := y * w) (by omega) (by omega), wrap64 (x := y * w + x) (by omega) (by omega), if_pos (by omega)]
    try rw [both_same]
  · rw [if_neg hi]
    unfold ins at hi
    repeat' split
    all_goals first | rfl | omega

theorem gcontext {fl : Nat} (hfl : 9223372036854775808 ≤ fl) {w h : Int} {p : List Int} (hp : Pix w h p) {x y : Int} {l : List (Int × Int)} (hx : -1000 ≤ x ∧ x ≤ 1000) (hy : -1000 ≤ y ∧ y ≤ 1000) (hl : l.length ≤ 11) (hd : ∀ d ∈ l, -8 ≤ d.1 ∧ d.1 ≤ 8 ∧ -8 ≤ d.2 ∧ d.2 ≤ 0)
    {K : Int × Int × Int × List Int × List (Int × Int) → Option Ans} : F_generic_plane_context_a34 fl x y w h p l K = K (ctxv w h p x y l, w, h, p, l) := by
  unfold F_generic_plane_context_a34 L_generic_plane_context_a34_0
  refine iter_seq (step := S_generic_plane_context_a34_0 fl) (fun i : Nat => (x, y, ctxv w h p x y (l.take i), (l.length : Int), (i : Int), w, h, p, l)) l.length rfl (fun i hi c => ?_) (fun c => ?_) (by omega)
  · have e := hd _ (getD_mem hi (0, 0))
    have a := ctxv_small hp.bit (w := w) (h := h) (x := x) (y := y) hl (show i ≤ l.length by omega)
    have b := px_01 (w := w) (h := h) hp.bit (x + (l.getD i (0, 0)).1) (y + (l.getD i (0, 0)).2)
    simp (disch := omega) only [S_generic_plane_context_a34_0, dec_t, Int.toNat_natCast, wrap64, gat hp]
    rw [ctxv_take hi]
    rfl
  · simp (disch := omega) only [S_generic_plane_context_a34_0, dec_f, List.take_length]

theorem rcontext {fl : Nat} (hfl : 9223372036854775808 ≤ fl) {w h : Int} {p : List Int} (hp : Pix w h p) {t ax ay kd x y : Int} {ty : Bool} (hv : vr t ax ay kd = true) (hx : -1000 ≤ x ∧ x ≤ 1000) (hy : -1000 ≤ y ∧ y ≤ 1000)
    {K : Int → Option Ans} : F_ref07_context fl t ax ay ty kd w h p x y K = K (ctxv w h p x y (around t ax ay)) := by
  obtain ⟨_, _, _, v1, v2, v3, v4, _⟩ := vr_iff.1 hv
  unfold F_ref07_context
  rw [rpixels]
  have hl : (around t ax ay).length ≤ 11 := by have := tpl_len t; rw [around_len]; omega
  have hd : ∀ d ∈ around t ax ay, -8 ≤ d.1 ∧ d.1 ≤ 8 ∧ -8 ≤ d.2 ∧ d.2 ≤ 0 := by
    intro d hd
    unfold around at hd
    rcases List.mem_append.1 hd with hd | hd
    · exact tpl_near t d hd
    · simp at hd; subst hd; exact ⟨v1, v2, v3, v4⟩
  have hn := hp.n
  generalize around t ax ay = l at hl hd
  unfold L_ref07_context_0
  refine iter_seq (step := S_ref07_context_0 fl) (fun i : Nat => (x, y, ctxv w h p x y (l.take i), (i : Int), w, h, p, l)) l.length rfl (fun i hi c => ?_) (fun c => ?_) (by omega)
  · have e := hd _ (getD_mem hi (0, 0))
    have a := ctxv_small hp.bit (w := w) (h := h) (x := x) (y := y) hl (show i ≤ l.length by omega)
    have b := px_01 (w := w) (h := h) hp.bit (x + (l.getD i (0, 0)).1) (y + (l.getD i (0, 0)).2)
    have hat : ∀ x y K, F_ref05_At fl w h p x y K = K (px w h p x y) := fun x y K => at_ok (by omega) hp.len (fun v hv => by have := hp.bit v hv; omega)
    simp (disch := omega) only [S_ref07_context_0, dec_t, Int.toNat_natCast, wrap64, hat, both_same]
    rw [ctxv_take hi]
    rfl
  · simp (disch := omega) only [S_ref07_context_0, dec_f, List.take_length]

/-- What Context returns. -/
def contextR (t ax ay kd w h : Int) (p : List Int) (x y : Int) : Int × Int :=
  if vr t ax ay kd = true then (if valid w h p = true then (if ins w h x y then (ctxv w h p x y (around t ax ay), 0) else (0, 2)) else (0, 30)) else (0, 2)
theorem gContext {fl : Nat} (hfl : 9223372036854775808 ≤ fl) {w h : Int} {p : List Int} (h0 : ∀ v ∈ p, 0 ≤ v) {t ax ay kd x y : Int} {ty : Bool} {K : Int × Int → Option Ans} :
    F_generic_Context fl t ax ay ty kd w h p x y K = K (contextR t ax ay kd w h p x y) := by
  unfold F_generic_Context contextR
  rw [gvalid]
  cases hv : vr t ax ay kd with
  | false => rfl
  | true =>
    rw [cond_f (b := !true) rfl, valid_ok hfl, if_pos rfl]
    cases hb : valid w h p with
    | false => rfl
    | true =>
      rw [cond_f (b := !true) rfl, if_pos rfl]
      have hp := pix_of hb h0
      simp only [cd]
      by_cases hi : ins w h x y
      · rw [if_pos hi]
        obtain ⟨h1, h2, h3, h4⟩ := hi
        have := hp.mul0; have := hp.n; have := hp.w1; have := hp.h1
        obtain ⟨_, _, _, v1, v2, v3, v4, _⟩ := vr_iff.1 hv
        rw [if_neg (by omega), if_neg (by omega), if_neg (by omega), if_neg (by omega), gplane (by omega) (by omega)]
        dsimp only
        rw [gcontext hfl hp (by omega) (by omega) (by have := tpl_len t; rw [around_len]; omega)]
        intro d hd
        unfold around at hd
        rcases List.mem_append.1 hd with hd | hd
        · exact tpl_near t d hd
        · simp at hd; subst hd; exact ⟨v1, v2, v3, v4⟩
      · rw [if_neg hi]
        unfold ins at hi
        repeat' split
        all_goals first | rfl | omega
theorem sane {fl : Nat} (hfl : 9223372036854775808 ≤ fl) {K : Bool → Option Ans} : F_law07_Sane fl K = K true := by
  unfold F_law07_Sane
  rw [gsize]
  have e1 : sizeR 3 2 (-1) 0 = (33, 0) := by decide
  rw [e1]
  dsimp only
  rw [gContext hfl (by decide)]
  have e2 : contextR 3 (-2) 0 0 4 1 [1, 0, 1, 1] 2 0 = (1, 0) := by decide
  rw [e2]
  rfl
end Go.Proofs.Ytihfgpfofmjbaaa.Gen

set_option linter.unusedVariables false
set_option linter.unusedSimpArgs false
namespace Go.Proofs.Ytihfgpfofmjbaaa.Ton
open Go Ev Bm Gen

theorem bat {fl : Nat} {w h : Int} {p : List Int} (hp : Pix w h p) {x y : Int} {K : Int → Option Ans} : F_bitmap_at fl w h p x y K = K (px w h p x y) := by
  have hl := hp.len
  have hn := hp.n
  unfold F_bitmap_at px
  simp only [cd]
  by_cases hi : ins w h x y
  · have hq := place hi
    have hy := place_y hi
    rw [if_pos hi]
    obtain ⟨h1, h2, h3, h4⟩ := hi
    rw [if_neg (by omega), if_neg (by omega), if_neg (by omega), if_neg (by omega), wrap64 (x := y * w) (by omega) (by omega), wrap64 (x := y * w + x) (by omega) (by omega), if_pos (by omega)]
  · rw [if_neg hi]
    unfold ins at hi
    repeat' split
    all_goals first | rfl | omega
theorem rat {fl : Nat} {w h : Int} {p : List Int} (hp : Pix w h p) {x y : Int} {K : Int → Option Ans} : F_ref05_At fl w h p x y K = K (px w h p x y) :=
  at_ok (by have := hp.n; omega) hp.len (fun v hv => by have := hp.bit v hv; omega)
def cmb (op d s : Int) : Int := if op = 0 then s else if op = 1 then max d s else if op = 2 then min d s else if op = 3 then (d + s) % 2 else (d + s + 1) % 2
theorem cmb_01 {op d s : Int} (hd : d = 0 ∨ d = 1) (hs : s = 0 ∨ s = 1) : 0 ≤ cmb op d s ∧ cmb op d s ≤ 1 := by
  unfold cmb
  repeat' split
  all_goals omega
theorem combine_ok {fl : Nat} {op d s : Int} (ho : 0 ≤ op ∧ op ≤ 4) (hd : d = 0 ∨ d = 1) (hs : s = 0 ∨ s = 1) {K : Int → Option Ans} : F_bitmap_combine fl d s op K = K (cmb op d s) := by
  have : op = 0 ∨ op = 1 ∨ op = 2 ∨ op = 3 ∨ op = 4 := by omega
  rcases this with rfl | rfl | rfl | rfl | rfl <;> rcases hd with rfl | rfl <;> rcases hs with rfl | rfl <;> rfl
theorem mix_ok {fl : Nat} {op d s : Int} (ho : 0 ≤ op ∧ op ≤ 4) (hd : d = 0 ∨ d = 1) (hs : s = 0 ∨ s = 1) {K : Int → Option Ans} : F_ref05_Mix fl op d s K = K (cmb op d s) := by
  have : op = 0 ∨ op = 1 ∨ op = 2 ∨ op = 3 ∨ op = 4 := by omega
  rcases this with rfl | rfl | rfl | rfl | rfl <;> rcases hd with rfl | rfl <;> rcases hs with rfl | rfl <;> rfl
section
variable (W H x y op w h : Int) (q : List Int)
def drPx (j i : Nat) (p : List Int) : List Int :=
  if ins W H (x + i) (y + j) then p.set ((y + j) * W + (x + i)).toNat (cmb op (p.getD ((y + j) * W + (x + i)).toNat 0) (px w h q (i : Int) (j : Int))) else p
def drRow (j : Nat) (p : List Int) : Nat → List Int
  | 0 => p
  | i + 1 => drPx W H x y op w h q j i (drRow j p i)
def drAll (p : List Int) : Nat → List Int
  | 0 => p
  | j + 1 => drRow W H x y op w h q j (drAll p j) w.toNat
end
theorem ins_dec (W H x y : Int) : ins W H x y ∨ ¬ ins W H x y := Classical.em _
theorem getD_b {p : List Int} (h0 : ∀ v ∈ p, 0 ≤ v ∧ v ≤ 1) (i : Nat) : p.getD i 0 = 0 ∨ p.getD i 0 = 1 := by
  by_cases hi : i < p.length
  · have := h0 _ (getD_mem hi 0)
    omega
  · rw [List.getD_eq_getElem?_getD, List.getElem?_eq_none (by omega)]
    exact .inl rfl
section
variable {W H x y op w h : Int} {p q : List Int}
theorem px_b (hq : Pix w h q) (i j : Int) : px w h q i j = 0 ∨ px w h q i j = 1 := by
  have := px_01 (w := w) (h := h) hq.bit i j
  omega
theorem drPx_pix (hp : Pix W H p) (hq : Pix w h q) (j i : Nat) : Pix W H (drPx W H x y op w h q j i p) := by
  unfold drPx
  split
  · have hc := cmb_01 (op := op) (getD_b hp.bit ((y + j) * W + (x + i)).toNat) (px_b hq (i : Int) (j : Int))
    exact ⟨hp.w0, hp.h0, hp.w1, hp.h1, hp.n, by rw [List.length_set]; exact hp.len, fun v hv => by
      rcases List.mem_or_eq_of_mem_set hv with hv | rfl
      · exact hp.bit v hv
      · exact hc⟩
  · exact hp
theorem drRow_pix (hp : Pix W H p) (hq : Pix w h q) (j : Nat) : ∀ n, Pix W H (drRow W H x y op w h q j p n)
  | 0 => hp
  | n + 1 => drPx_pix (drRow_pix hp hq j n) hq j n
theorem drAll_pix (hp : Pix W H p) (hq : Pix w h q) : ∀ n, Pix W H (drAll W H x y op w h q p n)
  | 0 => hp
  | n + 1 => drRow_pix (drAll_pix hp hq n) hq n _
/-- Where no pixel falls onto the bitmap, it stays. -/
theorem drAll_off (ho : ∀ i j : Nat, (i : Int) < w → (j : Int) < h → ¬ ins W H (x + i) (y + j)) : ∀ n : Nat, (n : Int) ≤ h → drAll W H x y op w h q p n = p
  | 0, _ => rfl
  | n + 1, hn => by
    unfold drAll
    rw [drAll_off ho n (by omega)]
    have : ∀ m : Nat, (m : Int) ≤ w → drRow W H x y op w h q n p m = p := by
      intro m
      induction m with
      | zero => intro _; rfl
      | succ m ih =>
        intro hm
        unfold drRow drPx
        rw [ih (by omega), if_neg (ho m n (by omega) (by omega))]
    by_cases hw : 0 ≤ w
    · exact this _ (by omega)
    · rw [show w.toNat = 0 by omega]
      rfl
theorem clone_b {fl : Nat} {p : List Int} (hp : p.length ≤ 1000000) {K : List Int → Option Ans} : F_bytes_Clone fl p K = K p := by
  unfold F_bytes_Clone
  by_cases h0 : (p.length : Int) = 0
  · have : p = [] := List.length_eq_zero_iff.1 (by omega)
    subst this
    rw [dec_t h0, dec_t (by simp)]
    exact both_same _
  · rw [dec_f h0, dec_t (by omega), List.nil_append]
theorem draw_row {fl : Nat} (hfl : 9223372036854775808 ≤ fl) (hq : Pix w h q) (ho : 0 ≤ op ∧ op ≤ 4) (hx : -100000 ≤ x ∧ x ≤ 100000) (hy : -100000 ≤ y ∧ y ≤ 100000) {j : Nat} (hj : (j : Int) < h) {o1 o2 : Int} {o3 o4 p : List Int} {o5 o6 : Int} (hp : Pix W H p) {K} :
    L_bitmap_Draw_3 fl (x, y, op, (j : Int), h, (j : Int), w, 0, W, H, o3, w, h, q, o1, o2, o5, o6, o4, p) K = K (x, y, op, h, (j : Int), W, H, o3, w, h, q, o1, o2, o5, o6, o4, drRow W H x y op w h q j p w.toNat) := by
  have hw0 := hq.w0; have hw1 := hq.w1; have hh0 := hq.h0; have hh1 := hq.h1
  have hW1 := hp.w1; have hH1 := hp.h1; have hn := hp.n
  unfold L_bitmap_Draw_3
  refine iter_to (step := S_bitmap_Draw_3 fl) (fun i : Nat => (x, y, op, (j : Int), h, (j : Int), w, (i : Int), W, H, o3, w, h, q, o1, o2, o5, o6, o4, drRow W H x y op w h q j p i)) w.toNat (fun i hi c => ?_) (fun c => ?_) (by omega)
  · have hpi := drRow_pix (x := x) (y := y) (op := op) hp hq j i
    have hlen := hpi.len
    simp only [S_bitmap_Draw_3, both_same]
    rw [dec_t (by omega), wrap64 (x := x + (i : Int)) (by omega) (by omega), wrap64 (x := y + (j : Int)) (by omega) (by omega), wrap64 (x := (i : Int) + 1) (by omega) (by omega)]
    have e : drRow W H x y op w h q j p (i + 1) = drPx W H x y op w h q j i (drRow W H x y op w h q j p i) := rfl
    rw [show ((i + 1 : Nat) : Int) = (i : Int) + 1 from rfl, e]
    unfold drPx
    by_cases hin : ins W H (x + i) (y + j)
    · have h1 := place hin
      have h2 := place_y hin
      rw [if_pos hin]
      obtain ⟨a, b, d, f⟩ := hin
      rw [dec_t a, dec_t b, dec_t d, dec_t f, wrap64 (x := (y + (j : Int)) * W) (by omega) (by omega), wrap64 (x := (y + (j : Int)) * W + (x + (i : Int))) (by omega) (by omega), dec_t (by omega), bat hq, combine_ok ho (getD_b hpi.bit _) (px_b hq _ _)]
    · rw [if_neg hin]
      unfold ins at hin
      by_cases a : x + (i : Int) ≥ 0
      · rw [dec_t a]
        by_cases b : y + (j : Int) ≥ 0
        · rw [dec_t b]
          by_cases d : x + (i : Int) < W
          · rw [dec_t d, dec_f (by omega)]
          · rw [dec_f d]
        · rw [dec_f b]
      · rw [dec_f a]
  · simp only [S_bitmap_Draw_3]
    rw [dec_f (by omega)]
theorem draw_ok {fl : Nat} (hfl : 9223372036854775808 ≤ fl) (hp : Pix W H p) (hq : Pix w h q) (ho : 0 ≤ op ∧ op ≤ 4) (hx : -100000 ≤ x ∧ x ≤ 100000) (hy : -100000 ≤ y ∧ y ≤ 100000) {K : Int × Int × Int × List Int → Option Ans} :
    F_bitmap_Draw fl W H p w h q x y op K = K (W, H, 0, drAll W H x y op w h q p h.toNat) := by
  have v1 : valid W H p = true := valid_iff.2 ⟨⟨hp.w0, hp.h0, hp.w1, hp.h1, hp.n⟩, hp.len, fun v hv => (hp.bit v hv).2⟩
  have v2 : valid w h q = true := valid_iff.2 ⟨⟨hq.w0, hq.h0, hq.w1, hq.h1, hq.n⟩, hq.len, fun v hv => (hq.bit v hv).2⟩
  have hh0 := hq.h0; have hh1 := hq.h1; have hn := hp.n; have hlen := hp.len
  have hsh1 : decide ((bif decide (y < x) then y else x) ≥ -100000) = true := decide_eq_true (by simp only [cd]; split <;> omega)
  have hsh2 : decide ((bif decide (y > x) then y else x) ≤ 100000) = true := decide_eq_true (by simp only [cd]; split <;> omega)
  unfold F_bitmap_Draw F_bitmap_isShift F_bitmap_clone
  dsimp only
  rw [valid_ok hfl, v1, cond_f (b := !true) rfl, valid_ok hfl, v2, cond_f (b := !true) rfl, dec_f (by omega), dec_f (by omega), hsh1, hsh2, cond_t rfl]
  try dsimp only
  rw [cond_f (b := !true) rfl, clone_b (by omega)]
  try dsimp only
  unfold L_bitmap_Draw_1
  refine iter_to (step := S_bitmap_Draw_1 fl) (fun j : Nat => (x, y, op, h, (j : Int), W, H, p, w, h, q, 0, 0, W, H, [], drAll W H x y op w h q p j)) h.toNat (fun j hj c => ?_) (fun c => ?_) (by omega)
  · simp only [S_bitmap_Draw_1]
    rw [dec_t (by omega), draw_row hfl hq ho hx hy (by omega) (drAll_pix hp hq j)]
    dsimp only
    rw [wrap64 (by omega) (by omega)]
    rfl
  · simp only [S_bitmap_Draw_1]
    rw [dec_f (by omega)]
theorem lay_row {fl : Nat} (hfl : 9223372036854775808 ≤ fl) (hq : Pix w h q) (ho : 0 ≤ op ∧ op ≤ 4) (hx : -1000000000 ≤ x ∧ x ≤ 1000000000) (hy : -1000000000 ≤ y ∧ y ≤ 1000000000) {j : Nat} (hj : (j : Int) < h) {p : List Int} (hp : Pix W H p) {K} :
    L_ref05_Lay_65b_2 fl (x, y, op, (j : Int), 0, p, W, H, w, h, q) K = K (x, y, op, (j : Int), drRow W H x y op w h q j p w.toNat, W, H, w, h, q) := by
  have hw0 := hq.w0; have hw1 := hq.w1; have hh0 := hq.h0; have hh1 := hq.h1
  have hW1 := hp.w1; have hH1 := hp.h1; have hn := hp.n
  unfold L_ref05_Lay_65b_2
  refine iter_to (step := S_ref05_Lay_65b_2 fl) (fun i : Nat => (x, y, op, (j : Int), (i : Int), drRow W H x y op w h q j p i, W, H, w, h, q)) w.toNat (fun i hi c => ?_) (fun c => ?_) (by omega)
  · have hpi := drRow_pix (x := x) (y := y) (op := op) hp hq j i
    have hlen := hpi.len
    simp only [S_ref05_Lay_65b_2]
    unfold F_ref05_inside F_ref05_Put_a2e
    rw [dec_t (by omega), wrap64 (x := x + (i : Int)) (by omega) (by omega), wrap64 (x := y + (j : Int)) (by omega) (by omega), wrap64 (x := (i : Int) + 1) (by omega) (by omega)]
    have e : drRow W H x y op w h q j p (i + 1) = drPx W H x y op w h q j i (drRow W H x y op w h q j p i) := rfl
    rw [show ((i + 1 : Nat) : Int) = (i : Int) + 1 from rfl, e]
    unfold drPx
    by_cases hin : ins W H (x + i) (y + j)
    · have h1 := place hin
      have h2 := place_y hin
      have hpx : px W H (drRow W H x y op w h q j p i) (x + i) (y + j) = (drRow W H x y op w h q j p i).getD ((y + j) * W + (x + i)).toNat 0 := by
        unfold px
        rw [if_pos hin]
      rw [if_pos hin]
      obtain ⟨a, b, d, f⟩ := hin
      have hc := cmb_01 (op := op) (getD_b hpi.bit ((y + j) * W + (x + i)).toNat) (px_b hq (i : Int) (j : Int))
      rw [dec_t a, dec_t b, dec_t d, decide_eq_true f]
      try dsimp only
      rw [cond_t rfl, rat hpi, hpx, rat hq, mix_ok ho (getD_b hpi.bit _) (px_b hq _ _), wrap64 (x := (y + (j : Int)) * W) (by omega) (by omega), wrap64 (x := (y + (j : Int)) * W + (x + (i : Int))) (by omega) (by omega), dec_t (by omega), wrap8 hc.1 (by omega)]
    · rw [if_neg hin]
      unfold ins at hin
      by_cases a : x + (i : Int) ≥ 0
      · rw [dec_t a]
        by_cases b : y + (j : Int) ≥ 0
        · rw [dec_t b]
          by_cases d : x + (i : Int) < W
          · rw [dec_t d, decide_eq_false (p := y + (j : Int) < H) (by omega)]
            rfl
          · rw [dec_f d]
            rfl
        · rw [dec_f b]
          rfl
      · rw [dec_f a]
        rfl
  · simp only [S_ref05_Lay_65b_2]
    rw [dec_f (by omega)]
theorem lay_ok {fl : Nat} (hfl : 9223372036854775808 ≤ fl) (hp : Pix W H p) (hq : Pix w h q) (ho : 0 ≤ op ∧ op ≤ 4) (hx : -1000000000 ≤ x ∧ x ≤ 1000000000) (hy : -1000000000 ≤ y ∧ y ≤ 1000000000) {K : List Int → Option Ans} :
    F_ref05_Lay_65b fl W H w h q x y op p K = K (drAll W H x y op w h q p h.toNat) := by
  have hh0 := hq.h0; have hh1 := hq.h1
  unfold F_ref05_Lay_65b L_ref05_Lay_65b_0
  refine iter_to (step := S_ref05_Lay_65b_0 fl) (fun j : Nat => (x, y, op, (j : Int), drAll W H x y op w h q p j, W, H, w, h, q)) h.toNat (fun j hj c => ?_) (fun c => ?_) (by omega)
  · simp only [S_ref05_Lay_65b_0]
    rw [dec_t (by omega), lay_row hfl hq ho hx hy (by omega) (drAll_pix hp hq j)]
    dsimp only
    rw [wrap64 (by omega) (by omega)]
    rfl
  · simp only [S_ref05_Lay_65b_0]
    rw [dec_f (by omega)]
end
end Go.Proofs.Ytihfgpfofmjbaaa.Ton

set_option linter.unusedVariables false
set_option linter.unusedSimpArgs false
namespace Go.Proofs.Ytihfgpfofmjbaaa.Ton
open Go Ev Bm Gen

/-! ### Options -/
def nr (x : Int) : Bool := decide (-1048576 ≤ x ∧ x ≤ 1048576)
theorem near_ok {fl : Nat} {x m : Int} (hm : 0 ≤ m ∧ m ≤ 1048576) {K : Bool → Option Ans} : F_tone_near fl x m K = K (decide (-m ≤ x ∧ x ≤ m)) := by
  unfold F_tone_near
  rw [wrap64 (x := 0 - m) (by omega) (by omega)]
  simp only [cd]
  split
  · congr 1
    apply decide_eq_decide.2
    omega
  · rw [decide_eq_false (by omega)]
theorem place_ok {fl : Nat} {x : Int} {K : Bool → Option Ans} : F_ref11_isPlace fl x K = K (nr x) := by
  unfold F_ref11_isPlace nr
  simp only [cd]
  split
  · congr 1
    apply decide_eq_decide.2
    omega
  · rw [decide_eq_false (by omega)]
def tv (gw gh X Y RX RY tm kd op : Int) : Bool := decide (0 ≤ gw ∧ gw ≤ 64 ∧ 0 ≤ gh ∧ gh ≤ 64) && (nr X && (nr Y && (nr RX && (nr RY && decide (0 ≤ tm ∧ tm ≤ 3 ∧ (kd = 0 ∨ kd = 1) ∧ 0 ≤ op ∧ op ≤ 4)))))
theorem tv_iff {gw gh X Y RX RY tm kd op : Int} : tv gw gh X Y RX RY tm kd op = true ↔ (0 ≤ gw ∧ gw ≤ 64 ∧ 0 ≤ gh ∧ gh ≤ 64) ∧ (-1048576 ≤ X ∧ X ≤ 1048576) ∧ (-1048576 ≤ Y ∧ Y ≤ 1048576) ∧ (-1048576 ≤ RX ∧ RX ≤ 1048576) ∧ (-1048576 ≤ RY ∧ RY ≤ 1048576) ∧ (0 ≤ tm ∧ tm ≤ 3 ∧ (kd = 0 ∨ kd = 1) ∧ 0 ≤ op ∧ op ≤ 4) := by
  simp [tv, nr]
theorem gmul {gw gh : Int} (h : 0 ≤ gw ∧ gw ≤ 64 ∧ 0 ≤ gh ∧ gh ≤ 64) : 0 ≤ gw * gh ∧ gw * gh ≤ 4096 := mul_le (a := 64) (b := 64) h.1 h.2.1 h.2.2.1 h.2.2.2
theorem tvalid {fl : Nat} {gw gh X Y RX RY tm kd op : Int} {sk : Bool} {K : Bool → Option Ans} : F_tone_Valid fl gw gh X Y RX RY tm kd sk op K = K (tv gw gh X Y RX RY tm kd op) := by
  unfold F_tone_Valid tv
  by_cases hg : 0 ≤ gw ∧ gw ≤ 64 ∧ 0 ≤ gh ∧ gh ≤ 64
  rotate_left
  · rw [decide_eq_false hg, Bool.false_and]
    by_cases a : gw ≥ 0
    · rw [dec_t a]
      by_cases b : gw ≤ 64
      · rw [dec_t b]
        by_cases d : gh ≥ 0
        · rw [dec_t d, dec_f (p := gh ≤ 64) (by omega)]
        · rw [dec_f d]
      · rw [dec_f b]
    · rw [dec_f a]
  have hm := gmul hg
  rw [decide_eq_true hg, Bool.true_and, dec_t hg.1, dec_t hg.2.1, dec_t hg.2.2.1, dec_t hg.2.2.2, wrap64 (x := gw * gh) (by omega) (by omega), dec_t (by omega)]
  have hn : ∀ x (K : Bool → Option Ans), F_tone_near fl x 1048576 K = K (nr x) := fun x K => near_ok (by omega)
  rw [hn]
  cases nr X <;> rw [] <;> try rfl
  simp only [cond_true, Bool.true_and]
  rw [hn]
  cases nr Y <;> try rfl
  simp only [cond_true, Bool.true_and]
  rw [hn]
  cases nr RX <;> try rfl
  simp only [cond_true, Bool.true_and]
  rw [hn]
  cases nr RY <;> try rfl
  simp only [cond_true, Bool.true_and, cd, cb]
  repeat' split
  all_goals congr 1
  all_goals first | (apply Eq.symm; apply decide_eq_false; omega) | (apply decide_eq_decide.2; omega)
theorem rtvalid {fl : Nat} {gw gh X Y RX RY tm kd op : Int} {sk : Bool} {K : Bool → Option Ans} : F_ref11_Valid fl gw gh X Y RX RY tm kd sk op K = K (tv gw gh X Y RX RY tm kd op) := by
  unfold F_ref11_Valid tv
  by_cases hg : 0 ≤ gw ∧ gw ≤ 64 ∧ 0 ≤ gh ∧ gh ≤ 64
  rotate_left
  · rw [decide_eq_false hg, Bool.false_and]
    by_cases a : gw < 0
    · rw [dec_t a]
    rw [dec_f a]
    by_cases b : gh < 0
    · rw [dec_t b]
    rw [dec_f b]
    by_cases d : gw > 64
    · rw [dec_t d]
    rw [dec_f d, dec_t (by omega)]
  have hm := gmul hg
  rw [decide_eq_true hg, Bool.true_and, dec_f (by omega), dec_f (by omega), dec_f (by omega), dec_f (by omega), wrap64 (x := gw * gh) (by omega) (by omega), dec_f (by omega)]
  rw [place_ok]
  cases nr X <;> try rfl
  simp only [Bool.not_true, cond_false, Bool.true_and]
  rw [place_ok]
  cases nr Y <;> try rfl
  simp only [Bool.not_true, cond_false, Bool.true_and]
  rw [place_ok]
  cases nr RX <;> try rfl
  simp only [Bool.not_true, cond_false, Bool.true_and]
  rw [place_ok]
  cases nr RY <;> try rfl
  simp only [Bool.not_true, cond_false, Bool.true_and, cd]
  repeat' split
  all_goals congr 1
  all_goals first | (apply Eq.symm; apply decide_eq_false; omega) | (apply decide_eq_decide.2; omega)

/-! ### Patterns -/
abbrev Bmp := Int × Int × List Int
def l0 (l : List Bmp) : Bmp := l.getD 0 (0, 0, [])
def bmOk (l : List Bmp) (b : Bmp) : Bool := valid b.1 b.2.1 b.2.2 && (decide (b.1 = (l0 l).1) && decide (b.2.1 = (l0 l).2.1))
def sidesOk (n w h : Int) : Bool := decide (1 ≤ n ∧ n ≤ 64 ∧ 1 ≤ w ∧ w ≤ 16 ∧ 1 ≤ h ∧ h ≤ 16) && fit (n * w) h
theorem sidesOk_iff {n w h : Int} : sidesOk n w h = true ↔ (1 ≤ n ∧ n ≤ 64 ∧ 1 ≤ w ∧ w ≤ 16 ∧ 1 ≤ h ∧ h ≤ 16) ∧ fit (n * w) h = true := by simp [sidesOk]
theorem isides {fl : Nat} {n w h : Int} {K : Bool → Option Ans} : F_ref11_isSides fl n w h K = K (sidesOk n w h) := by
  unfold F_ref11_isSides sidesOk
  simp only [cd]
  by_cases h' : 1 ≤ n ∧ n ≤ 64 ∧ 1 ≤ w ∧ w ≤ 16 ∧ 1 ≤ h ∧ h ≤ 16
  · obtain ⟨a, b, c, d, e, f⟩ := h'
    have m1 : n * w ≤ 64 * 16 := Int.mul_le_mul b d (by omega) (by omega)
    have m2 : 0 ≤ n * w := Int.mul_nonneg (by omega) (by omega)
    rw [if_pos a, if_pos b, if_pos c, if_pos e, if_pos d, if_pos f, wrap64 (by omega) (by omega), sides_ok, decide_eq_true ⟨a, b, c, d, e, f⟩, Bool.true_and]
  · rw [decide_eq_false h', Bool.false_and]
    repeat' split
    all_goals first | rfl | omega
def pErr (l : List Bmp) : Int := if sidesOk l.length (l0 l).1 (l0 l).2.1 = true then 0 else 2
def bErr (gw gh X Y RX RY tm kd op : Int) (l : List Bmp) (w h : Int) : Int :=
  if tv gw gh X Y RX RY tm kd op = true then (if l.all (bmOk l) = true ∧ fit w h = true then pErr l else 30) else 2

/-! ### New bitmaps -/
theorem replicate_set (n i : Nat) : (List.replicate n (0 : Int)).set i 0 = List.replicate n 0 := by
  apply List.ext_getElem (by simp)
  intro j h1 h2
  simp [List.getElem_set]
theorem bnew0 {fl : Nat} (hfl : 9223372036854775808 ≤ fl) {w h : Int} (hf : fit w h = true) {K : Int × Int × Int × List Int → Option Ans} : F_bitmap_New fl w h 0 K = K (w, h, 0, List.replicate (w * h).toNat 0) := by
  obtain ⟨f1, f2, f3, f4, f5⟩ := fit_iff.1 hf
  have hm := Int.mul_nonneg f1 f2
  unfold F_bitmap_New F_bitmap_blank
  rw [dec_f (by omega), dec_f (by omega), cond_f (b := (0 : Int) != 0) rfl, fits_ok, hf, cond_f (b := !true) rfl, wrap64 (x := w * h) (by omega) (by omega), dec_t (by refine ⟨by omega, ?_, by omega, by omega⟩; first | rfl | trivial)]
  dsimp only
  unfold L_bitmap_New_0
  refine iter_seq (step := S_bitmap_New_0 fl) (fun i : Nat => (0, 0, ((List.replicate (w * h).toNat (0 : Int)).length : Int), (i : Int), 0, 0, w, h, [], List.replicate (w * h).toNat 0)) (w * h).toNat rfl (fun i hi c => ?_) (fun c => ?_) (by omega)
  · simp only [S_bitmap_New_0, List.length_replicate]
    rw [dec_t (by omega), dec_t (by omega), wrap64 (by omega) (by omega), wrap8 (by omega) (by omega), replicate_set]
    rfl
  · simp only [S_bitmap_New_0, List.length_replicate]
    rw [dec_f (by omega)]
theorem bnew_bad {fl : Nat} (hfl : 9223372036854775808 ≤ fl) {w h : Int} (hf : fit w h = false) : ∃ e : Int, e ≠ 0 ∧ ∀ K : Int × Int × Int × List Int → Option Ans, F_bitmap_New fl w h 0 K = K (0, 0, e, []) := by
  unfold F_bitmap_New F_bitmap_blank
  by_cases h1 : w < 0
  · exact ⟨2, by omega, fun K => by rw [dec_t h1]⟩
  by_cases h2 : h < 0
  · exact ⟨2, by omega, fun K => by rw [dec_f h1, dec_t h2]⟩
  refine ⟨4, by omega, fun K => ?_⟩
  rw [dec_f h1, dec_f h2, cond_f (b := (0 : Int) != 0) rfl, fits_ok, hf, cond_t (b := !false) rfl]
  dsimp only
  unfold L_bitmap_New_0
  refine iter_to (step := S_bitmap_New_0 fl) (fun i : Nat => (0, 4, (([] : List Int).length : Int), (i : Int), 0, 0, 0, 0, [], [])) 0 (fun i hi c => by omega) (fun c => ?_) (by omega)
  · simp only [S_bitmap_New_0]
    rw [dec_f (by simp)]
theorem rbnew0 {fl : Nat} (hfl : 9223372036854775808 ≤ fl) {w h : Int} (hf : fit w h = true) {K : Int × Int × Int × List Int → Option Ans} : F_ref05_New fl w h 0 K = K (w, h, 0, List.replicate (w * h).toNat 0) := by
  obtain ⟨f1, f2, f3, f4, f5⟩ := fit_iff.1 hf
  have hm := Int.mul_nonneg f1 f2
  unfold F_ref05_New F_ref05_make2
  rw [dec_f (by omega), dec_f (by omega), dec_f (by omega), dec_f (by omega), sides_ok, hf, cond_f (b := !true) rfl]
  unfold L_ref05_make2_0
  refine iter_seq (step := S_ref05_make2_0 fl) (fun i : Nat => (w, h, 0, (i : Int), 0, 0, w, h, [], List.replicate i 0)) (w * h).toNat rfl (fun i hi c => ?_) (fun c => ?_) (by omega)
  · simp only [S_ref05_make2_0]
    rw [wrap64 (x := w * h) (by omega) (by omega), dec_t (by omega), dec_t (by simp; omega), wrap64 (by omega) (by omega), wrap8 (by omega) (by omega), List.replicate_succ']
    rfl
  · simp only [S_ref05_make2_0]
    rw [wrap64 (x := w * h) (by omega) (by omega), dec_f (by omega)]

/-! ### The first error -/
theorem l0_dec {α : Sort _} {l : List Bmp} (hl : 0 < l.length) {x y : α} : (bif decide ((0 : Int) ≤ 0 ∧ (0 : Int) < (l.length : Int)) then x else y) = x := dec_t (by omega)
theorem rp_loop {fl : Nat} (hfl : 9223372036854775808 ≤ fl) {l : List Bmp} (hll : l.length ≤ 1000000000000000) {ret : Int → Option Ans} {b : List Bmp → Option Ans} : L_tone_rightPatterns_0 fl (l, l, (l.length : Int), 0) ret b = if l.all (bmOk l) = true then b l else ret 30 := by
  unfold L_tone_rightPatterns_0
  have hs : ∀ (i : Nat) (c : List Bmp × List Bmp × Int × Int → Option Ans), i < l.length → S_tone_rightPatterns_0 fl (l, l, (l.length : Int), (i : Int)) c (ret, b) = if bmOk l (l.getD i (0, 0, [])) = true then c (l, l, (l.length : Int), ((i + 1 : Nat) : Int)) else ret 30 := by
    intro i c hi
    simp only [S_tone_rightPatterns_0]
    rw [dec_t (by omega), dec_t (by omega), Int.toNat_natCast, valid_ok hfl, l0_dec (by omega), wrap64 (by omega) (by omega)]
    unfold bmOk
    cases valid (l.getD i (0, 0, [])).1 (l.getD i (0, 0, [])).2.1 (l.getD i (0, 0, [])).2.2 with
    | false => rfl
    | true =>
      rw [cond_f (b := !true) rfl, Bool.true_and]
      simp only [cn]
      by_cases h1 : (l.getD i (0, 0, [])).1 = (l0 l).1
      · rw [decide_eq_true h1, Bool.true_and, if_pos (show (l.getD i (0, 0, [])).1 = (l.getD (Int.toNat 0) (0, 0, [])).1 from h1), l0_dec (by omega)]
        by_cases h2 : (l.getD i (0, 0, [])).2.1 = (l0 l).2.1
        · rw [decide_eq_true h2, if_pos (show (l.getD i (0, 0, [])).2.1 = (l.getD (Int.toNat 0) (0, 0, [])).2.1 from h2), if_pos rfl]
          rfl
        · rw [decide_eq_false h2, if_neg (show ¬ (l.getD i (0, 0, [])).2.1 = (l.getD (Int.toNat 0) (0, 0, [])).2.1 from h2), if_neg (by simp)]
      · rw [decide_eq_false h1, Bool.false_and, if_neg (show ¬ (l.getD i (0, 0, [])).1 = (l.getD (Int.toNat 0) (0, 0, [])).1 from h1), if_neg (by simp)]
  rcases all_or_first (bmOk l) (0, 0, []) l with ha | ⟨n, hn, hb, hi⟩
  · rw [if_pos ha]
    refine iter_to (step := S_tone_rightPatterns_0 fl) (fun i : Nat => (l, l, (l.length : Int), (i : Int))) l.length (fun i hi c => ?_) (fun c => ?_) (by omega)
    · rw [hs i c hi, if_pos (all_getD ha _ hi)]
    · simp only [S_tone_rightPatterns_0]
      rw [dec_f (by omega)]
  · rw [if_neg (by rw [not_all hn hb]; simp)]
    refine iter_to (step := S_tone_rightPatterns_0 fl) (fun i : Nat => (l, l, (l.length : Int), (i : Int))) n (fun i hi' c => ?_) (fun c => ?_) (by omega)
    · rw [hs i c (by omega), if_pos (hi i hi')]
    · rw [hs n c hn, if_neg (by rw [hb]; simp)]
theorem rbm_loop {fl : Nat} (hfl : 9223372036854775808 ≤ fl) {l : List Bmp} (hll : l.length ≤ 1000000000000000) {ret : Int → Option Ans} {b : Unit → Option Ans} : L_ref11_bitmaps_0 fl (l, 0) ret b = if l.all (bmOk l) = true then b () else ret 30 := by
  unfold L_ref11_bitmaps_0
  have hs : ∀ (i : Nat) (c : List Bmp × Int → Option Ans), i < l.length → S_ref11_bitmaps_0 fl (l, (i : Int)) c (ret, b) = if bmOk l (l.getD i (0, 0, [])) = true then c (l, ((i + 1 : Nat) : Int)) else ret 30 := by
    intro i c hi
    simp only [S_ref11_bitmaps_0]
    rw [dec_t (by omega), dec_t (by omega), Int.toNat_natCast, rvalid_ok hfl, dec_t (p := (0 : Int) ≤ (i : Int) ∧ (i : Int) < (l.length : Int)) (by omega), l0_dec (by omega), wrap64 (by omega) (by omega)]
    unfold bmOk
    cases valid (l.getD i (0, 0, [])).1 (l.getD i (0, 0, [])).2.1 (l.getD i (0, 0, [])).2.2 with
    | false => rfl
    | true =>
      rw [cond_f (b := !true) rfl, Bool.true_and]
      simp only [cn]
      by_cases h1 : (l.getD i (0, 0, [])).1 = (l0 l).1
      · rw [decide_eq_true h1, Bool.true_and, if_pos (show (l.getD i (0, 0, [])).1 = (l.getD (Int.toNat 0) (0, 0, [])).1 from h1), dec_t (p := (0 : Int) ≤ (i : Int) ∧ (i : Int) < (l.length : Int)) (by omega), l0_dec (by omega)]
        by_cases h2 : (l.getD i (0, 0, [])).2.1 = (l0 l).2.1
        · rw [decide_eq_true h2, if_pos (show (l.getD i (0, 0, [])).2.1 = (l.getD (Int.toNat 0) (0, 0, [])).2.1 from h2), if_pos rfl]
          rfl
        · rw [decide_eq_false h2, if_neg (show ¬ (l.getD i (0, 0, [])).2.1 = (l.getD (Int.toNat 0) (0, 0, [])).2.1 from h2), if_neg (by simp)]
      · rw [decide_eq_false h1, Bool.false_and, if_neg (show ¬ (l.getD i (0, 0, [])).1 = (l.getD (Int.toNat 0) (0, 0, [])).1 from h1), if_neg (by simp)]
  rcases all_or_first (bmOk l) (0, 0, []) l with ha | ⟨n, hn, hb, hi⟩
  · rw [if_pos ha]
    refine iter_to (step := S_ref11_bitmaps_0 fl) (fun i : Nat => (l, (i : Int))) l.length (fun i hi c => ?_) (fun c => ?_) (by omega)
    · rw [hs i c hi, if_pos (all_getD ha _ hi)]
    · simp only [S_ref11_bitmaps_0]
      rw [dec_f (by omega)]
  · rw [if_neg (by rw [not_all hn hb]; simp)]
    refine iter_to (step := S_ref11_bitmaps_0 fl) (fun i : Nat => (l, (i : Int))) n (fun i hi' c => ?_) (fun c => ?_) (by omega)
    · rw [hs i c (by omega), if_pos (hi i hi')]
    · rw [hs n c hn, if_neg (by rw [hb]; simp)]
theorem rpat {fl : Nat} (hfl : 9223372036854775808 ≤ fl) {l : List Bmp} (hll : l.length ≤ 1000000000000000) {K : Int → Option Ans} : F_tone_rightPatterns fl l K = K (if l.all (bmOk l) = true then pErr l else 30) := by
  unfold F_tone_rightPatterns
  rw [rp_loop hfl hll]
  by_cases ha : l.all (bmOk l) = true
  rotate_left
  · rw [if_neg ha, if_neg ha]
  rw [if_pos ha, if_pos ha]
  dsimp only
  unfold pErr
  by_cases h0 : (l.length : Int) = 0
  · rw [cond_t (by simp [h0]), if_neg (by rw [sidesOk_iff]; omega)]
  rw [cond_f (b := (l.length : Int) == 0) (beq_eq_false_iff_ne.2 h0)]
  by_cases h64 : (l.length : Int) > 64
  · rw [dec_t h64, if_neg (by rw [sidesOk_iff]; omega)]
  rw [dec_f h64, l0_dec (by omega), l0_dec (by omega)]
  have e0 : l.getD (Int.toNat 0) (0, 0, []) = l0 l := rfl
  rw [e0]
  unfold F_tone_rightSides
  by_cases c : (l0 l).1 ≥ 1
  rotate_left
  · rw [dec_f c, if_neg (by rw [sidesOk_iff]; omega)]; rfl
  rw [dec_t c]
  by_cases d : (l0 l).1 ≤ 16
  rotate_left
  · rw [dec_f d, if_neg (by rw [sidesOk_iff]; omega)]; rfl
  rw [dec_t d]
  by_cases e : (l0 l).2.1 ≥ 1
  rotate_left
  · rw [dec_f e, if_neg (by rw [sidesOk_iff]; omega)]; rfl
  rw [dec_t e]
  by_cases f : (l0 l).2.1 ≤ 16
  rotate_left
  · rw [decide_eq_false f, if_neg (by rw [sidesOk_iff]; omega)]; rfl
  rw [decide_eq_true f]
  dsimp only
  rw [cond_f (b := !true) rfl, l0_dec (by omega), l0_dec (by omega), both_same]
  have m1 : (l.length : Int) * (l0 l).1 ≤ 64 * 16 := Int.mul_le_mul (by omega) d (by omega) (by omega)
  have m2 : 0 ≤ (l.length : Int) * (l0 l).1 := Int.mul_nonneg (by omega) (by omega)
  rw [Int.mul_comm (l0 l).1, wrap64 (x := (l.length : Int) * (l0 l).1) (by omega) (by omega)]
  cases hf : fit ((l.length : Int) * (l0 l).1) (l0 l).2.1 with
  | false =>
    obtain ⟨e', e1, e2⟩ := bnew_bad hfl hf
    rw [e2]
    dsimp only
    rw [cond_t (by simp [e1]), if_neg (by rw [sidesOk_iff, hf]; simp)]
  | true =>
    rw [bnew0 hfl hf]
    dsimp only
    rw [cond_f (b := (0 : Int) != 0) rfl, if_pos (sidesOk_iff.2 ⟨by omega, hf⟩)]
theorem begun_ok {fl : Nat} (hfl : 9223372036854775808 ≤ fl) {gw gh X Y RX RY tm kd op w h : Int} {sk : Bool} {l : List Bmp} (hll : l.length ≤ 1000000000000000) {K : Int → Option Ans} : F_tone_begun fl gw gh X Y RX RY tm kd sk op l w h K = K (bErr gw gh X Y RX RY tm kd op l w h) := by
  unfold F_tone_begun bErr
  rw [tvalid]
  cases tv gw gh X Y RX RY tm kd op with
  | false => rfl
  | true =>
  rw [cond_f (b := !true) rfl, rpat hfl hll, if_pos rfl]
  by_cases ha : l.all (bmOk l) = true
  rotate_left
  · rw [if_neg ha, if_neg (fun h => ha h.1)]
    rfl
  rw [if_pos ha]
  have hp : pErr l ≠ 30 := by
    unfold pErr
    split <;> decide
  rw [cond_f (b := pErr l == 30) (beq_eq_false_iff_ne.2 hp)]
  cases hf : fit w h with
  | false =>
    obtain ⟨e', e1, e2⟩ := bnew_bad hfl hf
    rw [e2]
    dsimp only
    rw [cond_t (by simp [e1]), if_neg (by simp)]
  | true =>
    rw [bnew0 hfl hf]
    dsimp only
    rw [cond_f (b := (0 : Int) != 0) rfl, if_pos ⟨ha, rfl⟩]
theorem asked_ok {fl : Nat} (hfl : 9223372036854775808 ≤ fl) {gw gh X Y RX RY tm kd op w h : Int} {sk : Bool} {l : List Bmp} (hll : l.length ≤ 1000000000000000) {K : Int → Option Ans} : F_ref11_asked fl gw gh X Y RX RY tm kd sk op l w h K = K (bErr gw gh X Y RX RY tm kd op l w h) := by
  unfold F_ref11_asked F_ref11_bitmaps bErr
  rw [rtvalid]
  cases tv gw gh X Y RX RY tm kd op with
  | false => rfl
  | true =>
  rw [cond_f (b := !true) rfl, rbm_loop hfl hll, if_pos rfl]
  by_cases ha : l.all (bmOk l) = true
  rotate_left
  · rw [if_neg ha, if_neg (fun h => ha h.1)]
    rfl
  rw [if_pos ha]
  dsimp only
  rw [cond_f (b := (0 : Int) != 0) rfl, sides_ok]
  cases hf : fit w h with
  | false => rw [cond_t (b := !false) rfl, if_neg (by simp)]
  | true =>
    rw [cond_f (b := !true) rfl, if_pos ⟨ha, rfl⟩]
    unfold F_ref11_patterns pErr
    by_cases h0 : (l.length : Int) = 0
    · rw [cond_t (by simp [h0]), if_neg (by rw [sidesOk_iff]; omega)]
    rw [cond_f (b := (l.length : Int) == 0) (beq_eq_false_iff_ne.2 h0), l0_dec (by omega), l0_dec (by omega), isides]
    have e0 : l.getD (Int.toNat 0) (0, 0, []) = l0 l := rfl
    rw [e0]
    cases sidesOk l.length (l0 l).1 (l0 l).2.1 <;> rfl
end Go.Proofs.Ytihfgpfofmjbaaa.Ton

set_option linter.unusedVariables false
set_option linter.unusedSimpArgs false
namespace Go.Proofs.Ytihfgpfofmjbaaa.Ton
open Go Ev Bm Gen

/-! ### Cells -/
def cX (X RX RY : Int) (m n : Int) : Int := (X + m * RY + n * RX) / 256
def cY (Y RX RY : Int) (m n : Int) : Int := (Y + m * RX - n * RY) / 256
theorem mulb {a b : Int} (ha : 0 ≤ a ∧ a ≤ 64) (hb : -1048576 ≤ b ∧ b ≤ 1048576) : -67108864 ≤ a * b ∧ a * b ≤ 67108864 := by
  have h1 : a * b ≤ a * 1048576 := Int.mul_le_mul_of_nonneg_left hb.2 ha.1
  have h2 : a * (-1048576) ≤ a * b := Int.mul_le_mul_of_nonneg_left hb.1 ha.1
  omega
section
variable {fl : Nat} {gw gh X Y RX RY tm kd op : Int} {sk : Bool}
theorem c_rg (ht : tv gw gh X Y RX RY tm kd op = true) {m n : Int} (hm : 0 ≤ m ∧ m ≤ 64) (hn : 0 ≤ n ∧ n ≤ 64) : -1000000 ≤ cX X RX RY m n ∧ cX X RX RY m n ≤ 1000000 ∧ -1000000 ≤ cY Y RX RY m n ∧ cY Y RX RY m n ≤ 1000000 := by
  obtain ⟨_, x1, y1, rx, ry, _⟩ := tv_iff.1 ht
  have a := mulb hm ry
  have b := mulb hn rx
  have c := mulb hm rx
  have d := mulb hn ry
  unfold cX cY
  omega
theorem cell_ok (ht : tv gw gh X Y RX RY tm kd op = true) {m n : Int} (hm : 0 ≤ m ∧ m ≤ 64) (hn : 0 ≤ n ∧ n ≤ 64) {K : Int × Int → Option Ans} : F_tone_cell fl gw gh X Y RX RY tm kd sk op m n K = K (cX X RX RY m n, cY Y RX RY m n) := by
  obtain ⟨_, x1, y1, rx, ry, _⟩ := tv_iff.1 ht
  have a := mulb hm ry
  have b := mulb hn rx
  have c := mulb hm rx
  have d := mulb hn ry
  unfold F_tone_cell cX cY
  rw [wrap64 (x := m * RY) (by omega) (by omega), wrap64 (x := n * RX) (by omega) (by omega), wrap64 (x := m * RX) (by omega) (by omega), wrap64 (x := n * RY) (by omega) (by omega), wrap64 (x := X + m * RY) (by omega) (by omega), wrap64 (x := Y + m * RX) (by omega) (by omega), wrap64 (by omega) (by omega), wrap64 (by omega) (by omega), ishr_eq (by omega) (by omega), ishr_eq (by omega) (by omega)]
  rfl
theorem rcell_ok (ht : tv gw gh X Y RX RY tm kd op = true) {m n : Int} (hm : 0 ≤ m ∧ m ≤ 64) (hn : 0 ≤ n ∧ n ≤ 64) {K : Int × Int → Option Ans} : F_ref11_cell fl gw gh X Y RX RY tm kd sk op m n K = K (cX X RX RY m n, cY Y RX RY m n) := by
  obtain ⟨_, x1, y1, rx, ry, _⟩ := tv_iff.1 ht
  have a := mulb hm ry
  have b := mulb hn rx
  have c := mulb hm rx
  have d := mulb hn ry
  unfold F_ref11_cell F_ref11_down cX cY
  rw [wrap64 (x := m * RY) (by omega) (by omega), wrap64 (x := n * RX) (by omega) (by omega), wrap64 (x := m * RX) (by omega) (by omega), wrap64 (x := n * RY) (by omega) (by omega), wrap64 (x := X + m * RY) (by omega) (by omega), wrap64 (x := Y + m * RX) (by omega) (by omega), wrap64 (by omega) (by omega), wrap64 (by omega) (by omega), ishr_eq (by omega) (by omega), ishr_eq (by omega) (by omega)]
  rfl
end
/-! ### What is skipped -/
section
variable (gw : Nat) (X Y RX RY : Int) (sk : Bool) (pw ph w h : Int)
/-- A cell's pattern lies off the page. -/
def off (i : Nat) : Bool := decide (cX X RX RY ((i / gw : Nat) : Int) ((i % gw : Nat) : Int) ≥ w ∨ cY Y RX RY ((i / gw : Nat) : Int) ((i % gw : Nat) : Int) ≥ h ∨ cX X RX RY ((i / gw : Nat) : Int) ((i % gw : Nat) : Int) + pw ≤ 0 ∨ cY Y RX RY ((i / gw : Nat) : Int) ((i % gw : Nat) : Int) + ph ≤ 0)
def skU (i : Nat) : Int := if sk = true ∧ off gw X Y RX RY pw ph w h i = true then 1 else 0
def skL (n : Nat) : List Int := (List.range n).map (skU gw X Y RX RY sk pw ph w h)
end
theorem skL_getD {gw : Nat} {X Y RX RY : Int} {sk : Bool} {pw ph w h : Int} {n i : Nat} (hi : i < n) : (skL gw X Y RX RY sk pw ph w h n).getD i 0 = skU gw X Y RX RY sk pw ph w h i := range_getD _ hi _
theorem skL_len (gw : Nat) (X Y RX RY : Int) (sk : Bool) (pw ph w h : Int) (n : Nat) : (skL gw X Y RX RY sk pw ph w h n).length = n := by simp [skL]
theorem divmod {g m n : Nat} (hn : n < g) : (m * g + n) / g = m ∧ (m * g + n) % g = n := by
  rw [Nat.mul_comm m g, Nat.mul_add_div (by omega), Nat.div_eq_of_lt hn, Nat.mul_add_mod, Nat.mod_eq_of_lt hn]
  exact ⟨by omega, rfl⟩
theorem idx_lt {gw gh m n : Nat} (hm : m < gh) (hn : n < gw) : m * gw + n < gw * gh := by
  have : (m + 1) * gw ≤ gh * gw := Nat.mul_le_mul_right gw hm
  rw [Nat.add_mul, Nat.one_mul, Nat.mul_comm gh gw] at this
  omega
section
variable {fl : Nat} {X Y RX RY tm kd op w h : Int} {l : List Bmp}
theorem skip_row (hfl : 9223372036854775808 ≤ fl) {gw gh : Nat} (ht : tv (gw : Int) (gh : Int) X Y RX RY tm kd op = true) (hl : 0 < l.length) (hpw : 0 ≤ (l0 l).1 ∧ (l0 l).1 ≤ 200 ∧ 0 ≤ (l0 l).2.1 ∧ (l0 l).2.1 ≤ 200) {m : Nat} (hm : m < gh) {o1 o2 : Int} {o3 : List Int} {b} {u : Nat → Int} (hu : u = skU gw X Y RX RY true (l0 l).1 (l0 l).2.1 w h) :
    L_tone_skipped_2 fl (l, w, h, (m : Int), (gh : Int), (m : Int), (gw : Int), 0, (gw : Int), (gh : Int), X, Y, RX, RY, tm, kd, true, op, o1, o2, (gw : Int), (gh : Int), o3, fillL u (gw * gh) (m * gw)) b
    = b (l, w, h, (gh : Int), (m : Int), (gw : Int), (gh : Int), X, Y, RX, RY, tm, kd, true, op, o1, o2, (gw : Int), (gh : Int), o3, fillL u (gw * gh) (m * gw + gw)) := by
  obtain ⟨⟨g1, g2, g3, g4⟩, _⟩ := tv_iff.1 ht
  have hg : gw * gh ≤ 64 * 64 := Nat.mul_le_mul (by omega) (by omega)
  unfold L_tone_skipped_2
  refine iter_seq (step := S_tone_skipped_2 fl) (fun i : Nat => (l, w, h, (m : Int), (gh : Int), (m : Int), (gw : Int), (i : Int), (gw : Int), (gh : Int), X, Y, RX, RY, tm, kd, true, op, o1, o2, (gw : Int), (gh : Int), o3, fillL u (gw * gh) (m * gw + i))) gw rfl (fun i hi c => ?_) (fun c => ?_) (by omega)
  · have hix := idx_lt hm hi
    have hc := c_rg ht (m := (m : Int)) (n := (i : Int)) (by omega) (by omega)
    obtain ⟨d1, d2⟩ := divmod (m := m) hi
    have hui : u (m * gw + i) = if (cX X RX RY (m : Int) (i : Int) ≥ w ∨ cY Y RX RY (m : Int) (i : Int) ≥ h ∨ cX X RX RY (m : Int) (i : Int) + (l0 l).1 ≤ 0 ∨ cY Y RX RY (m : Int) (i : Int) + (l0 l).2.1 ≤ 0) then 1 else 0 := by
      rw [hu]
      unfold skU off
      rw [d1, d2]
      simp
    simp only [S_tone_skipped_2]
    rw [dec_t (by omega), cell_ok ht (by omega) (by omega)]
    dsimp only
    have e0 : l.getD (Int.toNat 0) (0, 0, []) = l0 l := rfl
    have e1 : (m : Int) * (gw : Int) = ((m * gw : Nat) : Int) := (Int.natCast_mul m gw).symm
    have hm2 : m * gw ≤ m * gw + i := Nat.le_add_right _ _
    rw [e1, wrap64 (x := ((m * gw : Nat) : Int)) (by omega) (by omega), ← Int.natCast_add, wrap64 (x := ((m * gw + i : Nat) : Int)) (by omega) (by omega), wrap64 (x := (i : Int) + 1) (by omega) (by omega), e0, l0_dec hl, l0_dec hl, Int.toNat_natCast, wrap64 (x := cX X RX RY (m : Int) (i : Int) + _) (by omega) (by omega), wrap64 (x := cY Y RX RY (m : Int) (i : Int) + _) (by omega) (by omega)]
    have ds : ∀ {α : Type} (a b : α), (bif decide ((0 : Int) ≤ ((m * gw + i : Nat) : Int) ∧ ((m * gw + i : Nat) : Int) < ((fillL u (gw * gh) (m * gw + i)).length : Int)) then a else b) = a := fun a b => dec_t (by rw [fillL_len]; omega)
    simp only [ds]
    have e3 : m * gw + (i + 1) = m * gw + i + 1 := by omega
    have e5 : u (m * gw + i) = 1 → (fillL u (gw * gh) (m * gw + i)).set (m * gw + i) 1 = fillL u (gw * gh) (m * gw + i + 1) := fun h => by rw [← fillL_set, h]
    by_cases c1 : cX X RX RY (m : Int) (i : Int) ≥ w
    · rw [if_pos (.inl c1)] at hui
      rw [dec_t c1, e5 hui, e3]
      rfl
    rw [dec_f c1]
    by_cases c2 : cY Y RX RY (m : Int) (i : Int) ≥ h
    · rw [if_pos (.inr (.inl c2))] at hui
      rw [dec_t c2, e5 hui, e3]
      rfl
    rw [dec_f c2]
    by_cases c3 : cX X RX RY (m : Int) (i : Int) + (l0 l).1 ≤ 0
    · rw [if_pos (.inr (.inr (.inl c3)))] at hui
      rw [dec_t c3, e5 hui, e3]
      rfl
    rw [dec_f c3]
    by_cases c4 : cY Y RX RY (m : Int) (i : Int) + (l0 l).2.1 ≤ 0
    · rw [if_pos (.inr (.inr (.inr c4)))] at hui
      rw [dec_t c4, e5 hui, e3]
      rfl
    rw [dec_f c4]
    rw [if_neg (by omega)] at hui
    rw [e3]
    have e4 : fillL u (gw * gh) (m * gw + i) = fillL u (gw * gh) (m * gw + i + 1) := by
      apply List.ext_getElem (by simp [fillL])
      intro j h1 h2
      simp only [fillL, List.getElem_map, List.getElem_range]
      by_cases hj : j < m * gw + i
      · rw [if_pos hj, if_pos (by omega)]
      · rw [if_neg hj]
        by_cases hji : j = m * gw + i
        · subst hji
          rw [if_pos (by omega), hui]
        · rw [if_neg (by omega)]
    rw [e4]
    rfl
  · simp only [S_tone_skipped_2]
    rw [dec_f (by omega)]
theorem fit_g {gw gh : Nat} (ht : tv (gw : Int) (gh : Int) X Y RX RY tm kd op = true) : fit (gw : Int) (gh : Int) = true := by
  obtain ⟨hg, _⟩ := tv_iff.1 ht
  have := gmul hg
  exact fit_iff.2 ⟨by omega, by omega, by omega, by omega, by omega⟩
theorem skip_none {gw : Nat} {pw ph : Int} (n : Nat) : skL gw X Y RX RY false pw ph w h n = List.replicate n 0 := by
  unfold skL
  apply List.ext_getElem (by simp)
  intro j h1 h2
  simp [skU]
theorem skipped_ok (hfl : 9223372036854775808 ≤ fl) {gw gh : Nat} {sk : Bool} (ht : tv (gw : Int) (gh : Int) X Y RX RY tm kd op = true) (hl : 0 < l.length) (hpw : 0 ≤ (l0 l).1 ∧ (l0 l).1 ≤ 200 ∧ 0 ≤ (l0 l).2.1 ∧ (l0 l).2.1 ≤ 200) {K : Int × Int × List Int → Option Ans} :
    F_tone_skipped fl (gw : Int) (gh : Int) X Y RX RY tm kd sk op l w h K = K ((gw : Int), (gh : Int), skL gw X Y RX RY sk (l0 l).1 (l0 l).2.1 w h (gw * gh)) := by
  obtain ⟨⟨g1, g2, g3, g4⟩, _⟩ := tv_iff.1 ht
  have en : ((gw : Int) * (gh : Int)).toNat = gw * gh := by rw [← Int.natCast_mul, Int.toNat_natCast]
  unfold F_tone_skipped
  rw [bnew0 hfl (fit_g ht), en]
  dsimp only
  cases sk with
  | false =>
    rw [cond_t (b := !false) rfl, skip_none]
  | true =>
  rw [cond_f (b := !true) rfl]
  unfold L_tone_skipped_0
  refine iter_seq (step := S_tone_skipped_0 fl) (fun i : Nat => (l, w, h, (gh : Int), (i : Int), (gw : Int), (gh : Int), X, Y, RX, RY, tm, kd, true, op, 0, 0, (gw : Int), (gh : Int), [], fillL (skU gw X Y RX RY true (l0 l).1 (l0 l).2.1 w h) (gw * gh) (i * gw))) gh (by rw [Nat.zero_mul, fillL_zero]; rfl) (fun i hi c => ?_) (fun c => ?_) (by omega)
  · simp only [S_tone_skipped_0]
    rw [dec_t (by omega), skip_row hfl ht hl hpw hi rfl]
    dsimp only
    rw [wrap64 (by omega) (by omega), show i * gw + gw = (i + 1) * gw by rw [Nat.add_mul, Nat.one_mul]]
    rfl
  · simp only [S_tone_skipped_0]
    rw [dec_f (by omega), Nat.mul_comm gh gw, fillL_all]
    rfl
theorem rskip_row (hfl : 9223372036854775808 ≤ fl) {gw gh : Nat} {sk : Bool} (ht : tv (gw : Int) (gh : Int) X Y RX RY tm kd op = true) (hl : 0 < l.length) (hpw : 0 ≤ (l0 l).1 ∧ (l0 l).1 ≤ 200 ∧ 0 ≤ (l0 l).2.1 ∧ (l0 l).2.1 ≤ 200) {m : Nat} (hm : m < gh) {o1 o2 : Int} {o3 : List Int} {b} {u : Nat → Int} (hu : u = skU gw X Y RX RY sk (l0 l).1 (l0 l).2.1 w h) :
    L_ref11_skipped_2 fl (l, w, h, (m : Int), 0, (gw : Int), (gh : Int), X, Y, RX, RY, tm, kd, sk, op, o1, o2, (gw : Int), (gh : Int), o3, fillL u (gw * gh) (m * gw)) b
    = b (l, w, h, (m : Int), (gw : Int), (gh : Int), X, Y, RX, RY, tm, kd, sk, op, o1, o2, (gw : Int), (gh : Int), o3, fillL u (gw * gh) (m * gw + gw)) := by
  obtain ⟨⟨g1, g2, g3, g4⟩, _⟩ := tv_iff.1 ht
  have hg : gw * gh ≤ 64 * 64 := Nat.mul_le_mul (by omega) (by omega)
  unfold L_ref11_skipped_2
  refine iter_seq (step := S_ref11_skipped_2 fl) (fun i : Nat => (l, w, h, (m : Int), (i : Int), (gw : Int), (gh : Int), X, Y, RX, RY, tm, kd, sk, op, o1, o2, (gw : Int), (gh : Int), o3, fillL u (gw * gh) (m * gw + i))) gw rfl (fun i hi c => ?_) (fun c => ?_) (by omega)
  · have hix := idx_lt hm hi
    have hc := c_rg ht (m := (m : Int)) (n := (i : Int)) (by omega) (by omega)
    obtain ⟨d1, d2⟩ := divmod (m := m) hi
    have hui : u (m * gw + i) = if sk = true ∧ (cX X RX RY (m : Int) (i : Int) ≥ w ∨ cY Y RX RY (m : Int) (i : Int) ≥ h ∨ cX X RX RY (m : Int) (i : Int) + (l0 l).1 ≤ 0 ∨ cY Y RX RY (m : Int) (i : Int) + (l0 l).2.1 ≤ 0) then 1 else 0 := by
      rw [hu]
      unfold skU off
      rw [d1, d2]
      simp
    simp only [S_ref11_skipped_2]
    rw [dec_t (by omega), rcell_ok ht (by omega) (by omega)]
    unfold F_ref05_Put_a2e
    dsimp only
    have e0 : l.getD (Int.toNat 0) (0, 0, []) = l0 l := rfl
    have e1 : (m : Int) * (gw : Int) = ((m * gw : Nat) : Int) := (Int.natCast_mul m gw).symm
    have hm2 : m * gw ≤ m * gw + i := Nat.le_add_right _ _
    rw [e1, wrap64 (x := ((m * gw : Nat) : Int)) (by omega) (by omega), ← Int.natCast_add, wrap64 (x := ((m * gw + i : Nat) : Int)) (by omega) (by omega), wrap64 (x := (i : Int) + 1) (by omega) (by omega), e0, l0_dec hl, l0_dec hl, Int.toNat_natCast, wrap64 (x := cX X RX RY (m : Int) (i : Int) + _) (by omega) (by omega), wrap64 (x := cY Y RX RY (m : Int) (i : Int) + _) (by omega) (by omega)]
    have ds : ∀ {α : Type} (a b : α), (bif decide ((0 : Int) ≤ ((m * gw + i : Nat) : Int) ∧ ((m * gw + i : Nat) : Int) < ((fillL u (gw * gh) (m * gw + i)).length : Int)) then a else b) = a := fun a b => dec_t (by rw [fillL_len]; omega)
    have w1 : IntKind.u8.wrap 1 = 1 := rfl
    simp only [ds, w1]
    have e3 : m * gw + (i + 1) = m * gw + i + 1 := by omega
    have e5 : u (m * gw + i) = 1 → (fillL u (gw * gh) (m * gw + i)).set (m * gw + i) 1 = fillL u (gw * gh) (m * gw + i + 1) := fun h => by rw [← fillL_set, h]
    have e4 : u (m * gw + i) = 0 → fillL u (gw * gh) (m * gw + i) = fillL u (gw * gh) (m * gw + i + 1) := by
      intro hui
      apply List.ext_getElem (by simp [fillL])
      intro j h1 h2
      simp only [fillL, List.getElem_map, List.getElem_range]
      by_cases hj : j < m * gw + i
      · rw [if_pos hj, if_pos (by omega)]
      · rw [if_neg hj]
        by_cases hji : j = m * gw + i
        · subst hji
          rw [if_pos (by omega), hui]
        · rw [if_neg (by omega)]
    cases sk with
    | false =>
      rw [if_neg (by simp)] at hui
      rw [cond_f (b := false) rfl, e4 hui, e3]
      rfl
    | true =>
    rw [cond_t (b := true) rfl]
    by_cases c3 : cX X RX RY (m : Int) (i : Int) + (l0 l).1 ≤ 0
    · rw [if_pos ⟨rfl, .inr (.inr (.inl c3))⟩] at hui
      rw [dec_t c3, e5 hui, e3]
      rfl
    rw [dec_f c3]
    by_cases c4 : cY Y RX RY (m : Int) (i : Int) + (l0 l).2.1 ≤ 0
    · rw [if_pos ⟨rfl, .inr (.inr (.inr c4))⟩] at hui
      rw [dec_t c4, e5 hui, e3]
      rfl
    rw [dec_f c4]
    by_cases c1 : cX X RX RY (m : Int) (i : Int) ≥ w
    · rw [if_pos ⟨rfl, .inl c1⟩] at hui
      rw [dec_t c1, e5 hui, e3]
      rfl
    rw [dec_f c1]
    by_cases c2 : cY Y RX RY (m : Int) (i : Int) ≥ h
    · rw [if_pos ⟨rfl, .inr (.inl c2)⟩] at hui
      rw [dec_t c2, e5 hui, e3]
      rfl
    rw [dec_f c2]
    rw [if_neg (by omega)] at hui
    rw [e4 hui, e3]
    rfl
  · simp only [S_ref11_skipped_2]
    rw [dec_f (by omega)]
theorem rskipped_ok (hfl : 9223372036854775808 ≤ fl) {gw gh : Nat} {sk : Bool} (ht : tv (gw : Int) (gh : Int) X Y RX RY tm kd op = true) (hl : 0 < l.length) (hpw : 0 ≤ (l0 l).1 ∧ (l0 l).1 ≤ 200 ∧ 0 ≤ (l0 l).2.1 ∧ (l0 l).2.1 ≤ 200) {K : Int × Int × List Int → Option Ans} :
    F_ref11_skipped fl (gw : Int) (gh : Int) X Y RX RY tm kd sk op l w h K = K ((gw : Int), (gh : Int), skL gw X Y RX RY sk (l0 l).1 (l0 l).2.1 w h (gw * gh)) := by
  obtain ⟨⟨g1, g2, g3, g4⟩, _⟩ := tv_iff.1 ht
  have en : ((gw : Int) * (gh : Int)).toNat = gw * gh := by rw [← Int.natCast_mul, Int.toNat_natCast]
  unfold F_ref11_skipped
  rw [rbnew0 hfl (fit_g ht), en]
  dsimp only
  unfold L_ref11_skipped_0
  refine iter_seq (step := S_ref11_skipped_0 fl) (fun i : Nat => (l, w, h, (i : Int), (gw : Int), (gh : Int), X, Y, RX, RY, tm, kd, sk, op, 0, 0, (gw : Int), (gh : Int), [], fillL (skU gw X Y RX RY sk (l0 l).1 (l0 l).2.1 w h) (gw * gh) (i * gw))) gh (by rw [Nat.zero_mul, fillL_zero]; rfl) (fun i hi c => ?_) (fun c => ?_) (by omega)
  · simp only [S_ref11_skipped_0]
    rw [dec_t (by omega), rskip_row hfl ht hl hpw hi rfl]
    dsimp only
    rw [wrap64 (by omega) (by omega), show i * gw + gw = (i + 1) * gw by rw [Nat.add_mul, Nat.one_mul]]
    rfl
  · simp only [S_ref11_skipped_0]
    rw [dec_f (by omega), Nat.mul_comm gh gw, fillL_all]
    rfl
end
end Go.Proofs.Ytihfgpfofmjbaaa.Ton

set_option linter.unusedVariables false
set_option linter.unusedSimpArgs false
namespace Go.Proofs.Ytihfgpfofmjbaaa.Ton
open Go Ev Bm Gen

/-- A cell's value may be so. -/
abbrev vOk (n : Int) (s v : List Int) (i : Nat) : Prop := 0 ≤ v.getD i 0 ∧ v.getD i 0 < n ∧ (v.getD i 0 = 0 ∨ s.getD i 0 ≠ 1)
section
variable {fl : Nat} {n : Int} {s v : List Int}
theorem rv_step (hv : v.length ≤ 1000000) (hs : v.length ≤ s.length) {o1 o2 : Int} {i : Nat} (hi : i < v.length) {c ret b} : S_tone_rightValues_0 fl (n, v, (v.length : Int), (i : Int), o1, o2, s) c (ret, b) = if vOk n s v i then c (n, v, (v.length : Int), ((i + 1 : Nat) : Int), o1, o2, s) else ret false := by
  simp only [S_tone_rightValues_0]
  rw [dec_t (by omega), dec_t (by omega), Int.toNat_natCast, dec_t (p := (0 : Int) ≤ (i : Int) ∧ (i : Int) < (s.length : Int)) (by omega), wrap64 (by omega) (by omega)]
  unfold vOk
  by_cases a : v.getD i 0 < 0
  · rw [dec_t a, if_neg (by omega)]
  rw [dec_f a]
  by_cases b' : v.getD i 0 ≥ n
  · rw [dec_t b', if_neg (by omega)]
  rw [dec_f b', cn]
  by_cases c' : v.getD i 0 = 0
  · rw [if_pos c', if_pos ⟨by omega, by omega, .inl c'⟩]
    rfl
  · rw [if_neg c', cb]
    by_cases d : s.getD i 0 = 1
    · rw [if_pos d, if_neg (by omega)]
    · rw [if_neg d, if_pos ⟨by omega, by omega, .inr d⟩]
      rfl
theorem rv_ok (hfl : 9223372036854775808 ≤ fl) {gw gh : Nat} {X Y RX RY tm kd op : Int} {sk : Bool} (hg : gw * gh ≤ 4096) (hs : s.length = gw * gh) {o1 o2 : Int} {K : Bool → Option Ans} (hv : v.length ≤ 1000000) :
    F_tone_rightValues fl (gw : Int) (gh : Int) X Y RX RY tm kd sk op n o1 o2 s v K = K (decide (v.length = gw * gh ∧ ∀ i, i < v.length → vOk n s v i)) := by
  unfold F_tone_rightValues
  rw [← Int.natCast_mul, wrap64 (by omega) (by omega)]
  by_cases hl : v.length = gw * gh
  rotate_left
  · rw [cond_t (b := (v.length : Int) != ((gw * gh : Nat) : Int)) (by simp; omega), decide_eq_false (fun h => hl h.1)]
  rw [cond_f (b := (v.length : Int) != ((gw * gh : Nat) : Int)) (by simp; omega)]
  unfold L_tone_rightValues_0
  rcases nat_or_first (vOk n s v) v.length with ha | ⟨m, hm, hb, hi⟩
  · rw [decide_eq_true ⟨hl, ha⟩]
    refine iter_to (step := S_tone_rightValues_0 fl) (fun i : Nat => (n, v, (v.length : Int), (i : Int), o1, o2, s)) v.length (fun i hi c => ?_) (fun c => ?_) (by omega)
    · rw [rv_step hv (by omega) hi, if_pos (ha i hi)]
    · simp only [S_tone_rightValues_0]
      rw [dec_f (by omega)]
  · rw [decide_eq_false (fun h => hb (h.2 m hm))]
    refine iter_to (step := S_tone_rightValues_0 fl) (fun i : Nat => (n, v, (v.length : Int), (i : Int), o1, o2, s)) m (fun i hi' c => ?_) (fun c => ?_) (by omega)
    · rw [rv_step hv (by omega) (by omega), if_pos (hi i hi')]
    · rw [rv_step hv (by omega) hm, if_neg hb]
theorem gv_step {l : List Bmp} (hv : v.length ≤ 1000000) (hs : v.length ≤ s.length) {o1 o2 : Int} {i : Nat} (hi : i < v.length) {c ret b} : S_ref11_given_0 fl (l, v, (i : Int), o1, o2, s) c (ret, b) = if vOk (l.length : Int) s v i then c (l, v, ((i + 1 : Nat) : Int), o1, o2, s) else ret 2 := by
  simp only [S_ref11_given_0]
  have dv : ∀ {α : Type} (a b : α), (bif decide ((0 : Int) ≤ (i : Int) ∧ (i : Int) < (v.length : Int)) then a else b) = a := fun a b => dec_t (by omega)
  have dss : ∀ {α : Type} (a b : α), (bif decide ((0 : Int) ≤ (i : Int) ∧ (i : Int) < (s.length : Int)) then a else b) = a := fun a b => dec_t (by omega)
  simp only [dv, dss]
  rw [dec_t (by omega), Int.toNat_natCast, wrap64 (by omega) (by omega)]
  unfold vOk
  by_cases a : v.getD i 0 < 0
  · rw [dec_t a, if_neg (by omega)]
  rw [dec_f a]
  by_cases b' : v.getD i 0 ≥ (l.length : Int)
  · rw [dec_t b', if_neg (by omega)]
  rw [dec_f b', cb]
  by_cases d : s.getD i 0 = 1
  · rw [if_pos d, cn]
    by_cases c' : v.getD i 0 = 0
    · rw [if_pos c', if_pos ⟨by omega, by omega, .inl c'⟩]
      rfl
    · rw [if_neg c', if_neg (by omega)]
  · rw [if_neg d, if_pos ⟨by omega, by omega, .inr d⟩]
    rfl
end
/-! ### Rendering -/
def pat (l : List Bmp) (v : List Int) (i : Nat) : Bmp := l.getD (v.getD i 0).toNat (0, 0, [])
section
variable (gw : Nat) (X Y RX RY op w h : Int) (l : List Bmp) (s v : List Int)
def rnd : Nat → List Int
  | 0 => List.replicate (w * h).toNat 0
  | i + 1 => if s.getD i 0 = 0 then drAll w h (cX X RX RY ((i / gw : Nat) : Int) ((i % gw : Nat) : Int)) (cY Y RX RY ((i / gw : Nat) : Int) ((i % gw : Nat) : Int)) op (pat l v i).1 (pat l v i).2.1 (pat l v i).2.2 (rnd i) (pat l v i).2.1.toNat else rnd i
end
structure Good (fl : Nat) (gw gh : Nat) (X Y RX RY tm kd op w h : Int) (l : List Bmp) : Prop where
  hfl : 9223372036854775808 ≤ fl
  t : tv (gw : Int) (gh : Int) X Y RX RY tm kd op = true
  a : l.all (bmOk l) = true
  f : fit w h = true
  z : ∀ b ∈ l, ∀ u ∈ b.2.2, 0 ≤ u
  so : sidesOk l.length (l0 l).1 (l0 l).2.1 = true
section
variable {fl gw gh : Nat} {X Y RX RY tm kd op w h : Int} {l : List Bmp} {s v : List Int} {sk : Bool}
theorem Good.l1 (G : Good fl gw gh X Y RX RY tm kd op w h l) : 0 < l.length ∧ l.length ≤ 64 ∧ 1 ≤ (l0 l).1 ∧ (l0 l).1 ≤ 16 ∧ 1 ≤ (l0 l).2.1 ∧ (l0 l).2.1 ≤ 16 := by
  have := (sidesOk_iff.1 G.so).1
  omega
theorem Good.hpw (G : Good fl gw gh X Y RX RY tm kd op w h l) : 0 ≤ (l0 l).1 ∧ (l0 l).1 ≤ 200 ∧ 0 ≤ (l0 l).2.1 ∧ (l0 l).2.1 ≤ 200 := by
  have := G.l1
  omega
theorem Good.g (G : Good fl gw gh X Y RX RY tm kd op w h l) : gw ≤ 64 ∧ gh ≤ 64 ∧ gw * gh ≤ 4096 ∧ 0 ≤ op ∧ op ≤ 4 := by
  obtain ⟨hg, _, _, _, _, _, _, _, o1, o2⟩ := tv_iff.1 G.t
  have := gmul hg
  rw [← Int.natCast_mul] at this
  omega
theorem Good.pat (G : Good fl gw gh X Y RX RY tm kd op w h l) {i : Nat} (hv : vOk (l.length : Int) s v i) : (v.getD i 0).toNat < l.length ∧ Pix (pat l v i).1 (pat l v i).2.1 (pat l v i).2.2 ∧ (Ton.pat l v i).1 = (l0 l).1 ∧ (Ton.pat l v i).2.1 = (l0 l).2.1 := by
  have hi : (v.getD i 0).toNat < l.length := by
    obtain ⟨a, b, _⟩ := hv
    omega
  have hb := all_getD G.a (0, 0, []) hi
  unfold bmOk at hb
  simp only [Bool.and_eq_true, decide_eq_true_eq] at hb
  exact ⟨hi, pix_of hb.1 (G.z _ (getD_mem hi _)), hb.2.1, hb.2.2⟩
theorem pix_zero (hf : fit w h = true) : Pix w h (List.replicate (w * h).toNat 0) := by
  obtain ⟨f1, f2, f3, f4, f5⟩ := fit_iff.1 hf
  have hm := Int.mul_nonneg f1 f2
  exact ⟨f1, f2, f3, f4, f5, by rw [List.length_replicate]; omega, fun v hv => by have := (List.mem_replicate.1 hv).2; omega⟩
theorem rnd_pix (G : Good fl gw gh X Y RX RY tm kd op w h l) (hv : ∀ i, i < gw * gh → vOk (l.length : Int) s v i) : ∀ i, i ≤ gw * gh → Pix w h (rnd gw X Y RX RY op w h l s v i)
  | 0, _ => pix_zero G.f
  | i + 1, hi => by
    have ih := rnd_pix G hv i (by omega)
    unfold rnd
    split
    · exact drAll_pix ih (G.pat (hv i (by omega))).2.1 _
    · exact ih
theorem cell_in {i : Nat} (hi : i < gw * gh) : 0 < gw ∧ i / gw < gh ∧ i % gw < gw := by
  have hg : 0 < gw := by
    rcases Nat.eq_zero_or_pos gw with h0 | h0
    · subst h0
      rw [Nat.zero_mul] at hi
      omega
    · exact h0
  exact ⟨hg, (Nat.div_lt_iff_lt_mul hg).2 (by rw [Nat.mul_comm]; exact hi), Nat.mod_lt _ hg⟩
/-- A pattern far off draws nothing. -/
theorem far (G : Good fl gw gh X Y RX RY tm kd op w h l) {i : Nat} (hv : vOk (l.length : Int) s v i) {x y : Int} {p : List Int} (hfar : ¬ (-100000 ≤ x ∧ x ≤ 100000) ∨ ¬ (-100000 ≤ y ∧ y ≤ 100000)) : drAll w h x y op (pat l v i).1 (pat l v i).2.1 (pat l v i).2.2 p (pat l v i).2.1.toNat = p := by
  obtain ⟨_, hp, e1, e2⟩ := G.pat hv
  obtain ⟨f1, f2, f3, f4, f5⟩ := fit_iff.1 G.f
  have := hp.w1; have := hp.h1; have := hp.h0
  refine drAll_off (fun a b ha hb hin => ?_) _ (by omega)
  obtain ⟨i1, i2, i3, i4⟩ := hin
  omega
theorem rend_row (G : Good fl gw gh X Y RX RY tm kd op w h l) (hl : v.length = gw * gh) (hs : s.length = gw * gh) (hv : ∀ i, i < gw * gh → vOk (l.length : Int) s v i) {m : Nat} (hm : m < gh) {o1 o2 o3 o4 : Int} {o5 : List Int} {b} :
    L_tone_Render_2 fl (l, v, (m : Int), (gh : Int), (m : Int), (gw : Int), 0, (gw : Int), (gh : Int), X, Y, RX, RY, tm, kd, sk, op, o1, o2, o3, o4, w, h, o5, s, rnd gw X Y RX RY op w h l s v (m * gw)) b
    = b (l, v, (gh : Int), (m : Int), (gw : Int), (gh : Int), X, Y, RX, RY, tm, kd, sk, op, o1, o2, o3, o4, w, h, o5, s, rnd gw X Y RX RY op w h l s v (m * gw + gw)) := by
  have hfl := G.hfl
  obtain ⟨g1, g2, g3, g4, g5⟩ := G.g
  unfold L_tone_Render_2
  refine iter_seq (step := S_tone_Render_2 fl) (fun i : Nat => (l, v, (m : Int), (gh : Int), (m : Int), (gw : Int), (i : Int), (gw : Int), (gh : Int), X, Y, RX, RY, tm, kd, sk, op, o1, o2, o3, o4, w, h, o5, s, rnd gw X Y RX RY op w h l s v (m * gw + i))) gw rfl (fun i hi c => ?_) (fun c => ?_) (by omega)
  · have hix := idx_lt hm hi
    have hvi := hv _ hix
    obtain ⟨d1, d2⟩ := divmod (m := m) hi
    obtain ⟨hpi, hpat, _, _⟩ := G.pat hvi
    have hrp := rnd_pix G hv (m * gw + i) (by omega)
    have er : rnd gw X Y RX RY op w h l s v (m * gw + i + 1) = if s.getD (m * gw + i) 0 = 0 then drAll w h (cX X RX RY (m : Int) (i : Int)) (cY Y RX RY (m : Int) (i : Int)) op (pat l v (m * gw + i)).1 (pat l v (m * gw + i)).2.1 (pat l v (m * gw + i)).2.2 (rnd gw X Y RX RY op w h l s v (m * gw + i)) (pat l v (m * gw + i)).2.1.toNat else rnd gw X Y RX RY op w h l s v (m * gw + i) := by
      rw [rnd, d1, d2]
    simp only [S_tone_Render_2]
    rw [dec_t (by omega), cell_ok G.t (by omega) (by omega)]
    dsimp only
    have e1 : (m : Int) * (gw : Int) = ((m * gw : Nat) : Int) := (Int.natCast_mul m gw).symm
    have hm2 : m * gw ≤ m * gw + i := Nat.le_add_right _ _
    rw [e1, wrap64 (x := ((m * gw : Nat) : Int)) (by omega) (by omega), ← Int.natCast_add, wrap64 (x := ((m * gw + i : Nat) : Int)) (by omega) (by omega), wrap64 (x := (i : Int) + 1) (by omega) (by omega), Int.toNat_natCast, dec_t (by omega), near_ok (by omega), near_ok (by omega), dec_t (p := (0 : Int) ≤ ((m * gw + i : Nat) : Int) ∧ ((m * gw + i : Nat) : Int) < (v.length : Int)) (by omega), dec_t (p := (0 : Int) ≤ v.getD (m * gw + i) 0 ∧ v.getD (m * gw + i) 0 < (l.length : Int)) ⟨hvi.1, hvi.2.1⟩, cb]
    rw [show m * gw + (i + 1) = m * gw + i + 1 by omega, er, show ((i + 1 : Nat) : Int) = (i : Int) + 1 from rfl]
    by_cases hs0 : s.getD (m * gw + i) 0 = 0
    · rw [if_pos hs0, if_pos hs0]
      by_cases nx : -100000 ≤ cX X RX RY (m : Int) (i : Int) ∧ cX X RX RY (m : Int) (i : Int) ≤ 100000
      · by_cases ny : -100000 ≤ cY Y RX RY (m : Int) (i : Int) ∧ cY Y RX RY (m : Int) (i : Int) ≤ 100000
        · rw [dec_t nx, dec_t ny]
          have hd := fun K => draw_ok (op := op) (x := cX X RX RY (m : Int) (i : Int)) (y := cY Y RX RY (m : Int) (i : Int)) hfl hrp hpat ⟨g4, g5⟩ nx ny (K := K)
          unfold pat at hd
          rw [hd]
          dsimp only [pat]
        · rw [dec_t nx, dec_f ny, far G hvi (.inr ny)]
      · rw [dec_f nx, far G hvi (.inl nx)]
    · rw [if_neg hs0, if_neg hs0]
  · simp only [S_tone_Render_2]
    rw [dec_f (by omega)]
theorem rrend_all (G : Good fl gw gh X Y RX RY tm kd op w h l) (hl : v.length = gw * gh) (hs : s.length = gw * gh) (hv : ∀ i, i < gw * gh → vOk (l.length : Int) s v i) {o1 o2 o3 o4 : Int} {o5 : List Int} {b} :
    L_ref11_Render_0 fl (l, v, 0, (gw : Int), (gh : Int), X, Y, RX, RY, tm, kd, sk, op, o1, o2, w, h, o3, o4, o5, List.replicate (w * h).toNat 0, s) b
    = b (o1, o2, w, h, o5, rnd gw X Y RX RY op w h l s v (gw * gh)) := by
  have hfl := G.hfl
  obtain ⟨g1, g2, g3, g4, g5⟩ := G.g
  unfold L_ref11_Render_0
  refine iter_seq (step := S_ref11_Render_0 fl) (fun i : Nat => (l, v, (i : Int), (gw : Int), (gh : Int), X, Y, RX, RY, tm, kd, sk, op, o1, o2, w, h, o3, o4, o5, rnd gw X Y RX RY op w h l s v i, s)) (gw * gh) rfl (fun i hi c => ?_) (fun c => ?_) (by omega)
  · have hvi := hv _ hi
    obtain ⟨c1, c2, c3⟩ := cell_in hi
    obtain ⟨hpi, hpat, _, _⟩ := G.pat hvi
    have hrp := rnd_pix G hv i (by omega)
    have e1 : (i : Int).tmod (gw : Int) = ((i % gw : Nat) : Int) := by rw [Int.tmod_eq_emod_of_nonneg (by omega), Int.natCast_emod]
    have e2 : (i : Int).tdiv (gw : Int) = ((i / gw : Nat) : Int) := by rw [Int.tdiv_eq_ediv_of_nonneg (by omega), Int.natCast_ediv]
    have er : rnd gw X Y RX RY op w h l s v (i + 1) = if s.getD i 0 = 0 then drAll w h (cX X RX RY ((i / gw : Nat) : Int) ((i % gw : Nat) : Int)) (cY Y RX RY ((i / gw : Nat) : Int) ((i % gw : Nat) : Int)) op (pat l v i).1 (pat l v i).2.1 (pat l v i).2.2 (rnd gw X Y RX RY op w h l s v i) (pat l v i).2.1.toNat else rnd gw X Y RX RY op w h l s v i := by
      rw [rnd]
    simp only [S_ref11_Render_0]
    rw [dec_t (by omega), dec_t (p := (0 : Int) ≤ (i : Int) ∧ (i : Int) < (s.length : Int)) (by omega), Int.toNat_natCast, dec_f (by omega), dec_f (by omega), e1, e2, er, show ((i + 1 : Nat) : Int) = (i : Int) + 1 from rfl, wrap64 (x := (i : Int) + 1) (by omega) (by omega), cb]
    by_cases hs0 : s.getD i 0 = 0
    · rw [if_pos hs0, if_pos hs0]
      generalize i / gw = q at c2 ⊢
      generalize i % gw = r at c3 ⊢
      have hc := c_rg G.t (m := (q : Int)) (n := (r : Int)) (by omega) (by omega)
      rw [wrap64 (x := (q : Int)) (by omega) (by omega), rcell_ok G.t (by omega) (by omega)]
      dsimp only
      rw [dec_t (p := (0 : Int) ≤ (i : Int) ∧ (i : Int) < (v.length : Int)) (by omega), dec_t (p := (0 : Int) ≤ v.getD i 0 ∧ v.getD i 0 < (l.length : Int)) ⟨hvi.1, hvi.2.1⟩]
      have hd := fun K => lay_ok (op := op) (x := cX X RX RY (q : Int) (r : Int)) (y := cY Y RX RY (q : Int) (r : Int)) hfl hrp hpat ⟨g4, g5⟩ (by omega) (by omega) (K := K)
      unfold pat at hd
      rw [hd]
      dsimp only [pat]
    · rw [if_neg hs0, if_neg hs0]
  · simp only [S_ref11_Render_0]
    rw [dec_f (by omega)]
theorem rend_all (G : Good fl gw gh X Y RX RY tm kd op w h l) (hl : v.length = gw * gh) (hs : s.length = gw * gh) (hv : ∀ i, i < gw * gh → vOk (l.length : Int) s v i) {o1 o2 o3 o4 : Int} {o5 : List Int} {b} :
    L_tone_Render_0 fl (l, v, (gh : Int), 0, (gw : Int), (gh : Int), X, Y, RX, RY, tm, kd, sk, op, o1, o2, o3, o4, w, h, o5, s, List.replicate (w * h).toNat 0) b
    = b (o1, o2, w, h, o5, rnd gw X Y RX RY op w h l s v (gw * gh)) := by
  have hfl := G.hfl
  obtain ⟨g1, g2, g3, g4, g5⟩ := G.g
  unfold L_tone_Render_0
  refine iter_seq (step := S_tone_Render_0 fl) (fun i : Nat => (l, v, (gh : Int), (i : Int), (gw : Int), (gh : Int), X, Y, RX, RY, tm, kd, sk, op, o1, o2, o3, o4, w, h, o5, s, rnd gw X Y RX RY op w h l s v (i * gw))) gh (by rw [Nat.zero_mul]; rfl) (fun i hi c => ?_) (fun c => ?_) (by omega)
  · simp only [S_tone_Render_0]
    rw [dec_t (by omega), rend_row G hl hs hv hi]
    dsimp only
    rw [wrap64 (by omega) (by omega), show i * gw + gw = (i + 1) * gw by rw [Nat.add_mul, Nat.one_mul], show ((i + 1 : Nat) : Int) = (i : Int) + 1 from rfl]
  · simp only [S_tone_Render_0]
    rw [dec_f (by omega), Nat.mul_comm gh gw]
/-- The values are right. -/
abbrev okV (gw gh : Nat) (X Y RX RY : Int) (sk : Bool) (w h : Int) (l : List Bmp) (v : List Int) : Prop := v.length = gw * gh ∧ ∀ i, i < v.length → vOk (l.length : Int) (skL gw X Y RX RY sk (l0 l).1 (l0 l).2.1 w h (gw * gh)) v i
theorem trender (G : Good fl gw gh X Y RX RY tm kd op w h l) (hvl : v.length ≤ 1000000) (h0 : bErr (gw : Int) (gh : Int) X Y RX RY tm kd op l w h = 0) {K : Int × Int × Int × List Int → Option Ans} :
    F_tone_Render fl (gw : Int) (gh : Int) X Y RX RY tm kd sk op l w h v K = K (if okV gw gh X Y RX RY sk w h l v then (w, h, 0, rnd gw X Y RX RY op w h l (skL gw X Y RX RY sk (l0 l).1 (l0 l).2.1 w h (gw * gh)) v (gw * gh)) else (0, 0, 2, [])) := by
  have hfl := G.hfl
  have l1 := G.l1
  unfold F_tone_Render
  rw [begun_ok hfl (by omega), h0, cond_f (b := (0 : Int) != 0) rfl, skipped_ok hfl G.t l1.1 G.hpw]
  dsimp only
  rw [rv_ok hfl G.g.2.2.1 (skL_len _ _ _ _ _ _ _ _ _ _ _) hvl]
  by_cases hk : okV gw gh X Y RX RY sk w h l v
  · rw [if_pos hk, decide_eq_true hk, cond_f (b := !true) rfl, bnew0 hfl G.f]
    dsimp only
    rw [rend_all G hk.1 (skL_len _ _ _ _ _ _ _ _ _ _ _) (fun i hi => hk.2 i (by rw [hk.1]; exact hi))]
  · rw [if_neg hk, decide_eq_false hk, cond_t (b := !false) rfl]
theorem rrender (G : Good fl gw gh X Y RX RY tm kd op w h l) (hvl : v.length ≤ 1000000) (h0 : bErr (gw : Int) (gh : Int) X Y RX RY tm kd op l w h = 0) {K : Int × Int × Int × List Int → Option Ans} :
    F_ref11_Render fl (gw : Int) (gh : Int) X Y RX RY tm kd sk op l w h v K = K (if okV gw gh X Y RX RY sk w h l v then (w, h, 0, rnd gw X Y RX RY op w h l (skL gw X Y RX RY sk (l0 l).1 (l0 l).2.1 w h (gw * gh)) v (gw * gh)) else (0, 0, 2, [])) := by
  have hfl := G.hfl
  have l1 := G.l1
  obtain ⟨g1, g2, g3, g4, g5⟩ := G.g
  have hsl := skL_len gw X Y RX RY sk (l0 l).1 (l0 l).2.1 w h (gw * gh)
  unfold F_ref11_Render F_ref11_given
  rw [asked_ok hfl (by omega), h0, cond_f (b := (0 : Int) != 0) rfl, ← Int.natCast_mul, wrap64 (by omega) (by omega)]
  by_cases hvg : v.length = gw * gh
  rotate_left
  · rw [cond_t (b := (v.length : Int) != ((gw * gh : Nat) : Int)) (by simp; omega), if_neg (fun h => hvg h.1)]
    rfl
  rw [cond_f (b := (v.length : Int) != ((gw * gh : Nat) : Int)) (by simp; omega), rskipped_ok hfl G.t l1.1 G.hpw]
  dsimp only
  unfold L_ref11_given_0
  rcases nat_or_first (vOk (l.length : Int) (skL gw X Y RX RY sk (l0 l).1 (l0 l).2.1 w h (gw * gh)) v) v.length with ha | ⟨m, hm, hb, hi⟩
  · have hk : okV gw gh X Y RX RY sk w h l v := ⟨hvg, ha⟩
    rw [if_pos hk]
    refine iter_to (step := S_ref11_given_0 fl) (fun i : Nat => (l, v, (i : Int), (gw : Int), (gh : Int), skL gw X Y RX RY sk (l0 l).1 (l0 l).2.1 w h (gw * gh))) v.length (fun i hi c => ?_) (fun c => ?_) (by omega)
    · rw [gv_step hvl (by omega) hi, if_pos (ha i hi)]
    · simp only [S_ref11_given_0]
      rw [dec_f (by omega)]
      try dsimp only
      rw [cond_f (b := (0 : Int) != 0) rfl, rbnew0 hfl G.f]
      dsimp only
      rw [rskipped_ok hfl G.t l1.1 G.hpw]
      dsimp only
      rw [rrend_all G hk.1 hsl (fun i hi => hk.2 i (by rw [hk.1]; exact hi))]
  · rw [if_neg (fun h => hb (h.2 m hm))]
    refine iter_to (step := S_ref11_given_0 fl) (fun i : Nat => (l, v, (i : Int), (gw : Int), (gh : Int), skL gw X Y RX RY sk (l0 l).1 (l0 l).2.1 w h (gw * gh))) m (fun i hi' c => ?_) (fun c => ?_) (by omega)
    · rw [gv_step hvl (by omega) (by omega), if_pos (hi i hi')]
    · rw [gv_step hvl (by omega) hm, if_neg hb]
      rfl
/-- Cells that are skipped draw nothing. -/
theorem rnd_skip (G : Good fl gw gh X Y RX RY tm kd op w h l) (hk : okV gw gh X Y RX RY true w h l v) : ∀ i, i ≤ gw * gh → rnd gw X Y RX RY op w h l (skL gw X Y RX RY false (l0 l).1 (l0 l).2.1 w h (gw * gh)) v i = rnd gw X Y RX RY op w h l (skL gw X Y RX RY true (l0 l).1 (l0 l).2.1 w h (gw * gh)) v i
  | 0, _ => rfl
  | i + 1, hi => by
    have ih := rnd_skip G hk i (by omega)
    have hvi := hk.2 i (by rw [hk.1]; omega)
    rw [rnd, rnd, ih, skL_getD (by omega), skL_getD (by omega)]
    unfold vOk at hvi
    rw [skL_getD (by omega)] at hvi
    have e0 : skU gw X Y RX RY false (l0 l).1 (l0 l).2.1 w h i = 0 := by simp [skU]
    rw [if_pos e0]
    by_cases ho : off gw X Y RX RY (l0 l).1 (l0 l).2.1 w h i = true
    · have e1 : skU gw X Y RX RY true (l0 l).1 (l0 l).2.1 w h i = 1 := by simp [skU, ho]
      rw [e1] at hvi ⊢
      rw [if_neg (by decide)]
      have hv0 : v.getD i 0 = 0 := by
        rcases hvi.2.2 with h' | h'
        · exact h'
        · exact absurd rfl h'
      have hpat : pat l v i = l0 l := by
        unfold pat l0
        rw [hv0]
        rfl
      rw [hpat]
      unfold off at ho
      have ho := of_decide_eq_true ho
      have hh := G.hpw
      refine drAll_off (fun a b ha hb hin => ?_) _ (by omega)
      obtain ⟨i1, i2, i3, i4⟩ := hin
      omega
    · have e1 : skU gw X Y RX RY true (l0 l).1 (l0 l).2.1 w h i = 0 := by simp [skU, ho]
      rw [if_pos e1]
theorem okV_false (hk : okV gw gh X Y RX RY true w h l v) : okV gw gh X Y RX RY false w h l v := by
  refine ⟨hk.1, fun i hi => ?_⟩
  have hvi := hk.2 i hi
  refine ⟨hvi.1, hvi.2.1, .inr ?_⟩
  rw [skL_getD (by rw [← hk.1]; exact hi)]
  simp [skU]
end
end Go.Proofs.Ytihfgpfofmjbaaa.Ton

set_option linter.unusedVariables false
set_option linter.unusedSimpArgs false
namespace Go.Proofs.Ytihfgpfofmjbaaa.Tone
open Go Ev

theorem getD_mid {α : Type} (pre : List α) (x : α) (suf : List α) (d : α) : (pre ++ x :: suf).getD pre.length d = x := by simp

/-- Not a value of k bits. -/
def bad (k v : Int) : Bool := decide (v < 0) || decide (v ≥ 2 ^ k.toNat)
theorem f58 {fl : Nat} {v k : Int} {K : Bool × Int → Option Ans} (h0 : 0 ≤ k) (h : k ≤ 62) : F_tone_Planes_1_e21 fl v k K = K (bad k v, k) := by
  unfold F_tone_Planes_1_e21 bad
  by_cases hv : v < 0
  · rw [dec_t hv, decide_eq_true hv]; rfl
  · rw [dec_f hv, dec_f (by omega), decide_eq_false hv, ishl_one h0 h]; rfl

def ffind (p : Int → Bool) : List Int → Option Nat
  | [] => none
  | x :: r => bif p x then some 0 else (match ffind p r with | some j => some (j + 1) | none => none)
theorem ffind_any (p : Int → Bool) : ∀ l, (ffind p l).isSome = l.any p
  | [] => rfl
  | x :: r => by
    simp only [ffind, List.any_cons]
    cases hp : p x with
    | true => rfl
    | false =>
      simp only [cond_false, Bool.false_or]
      rw [← ffind_any p r]
      cases ffind p r <;> rfl

theorem idx_loop {fl : Nat} {k : Int} (h0 : 0 ≤ k) (h : k ≤ 62) {ret : Int × Int → Option Ans} {b : Int → Option Ans} : ∀ (suf pre : List Int) (n : Nat), suf.length < n → pre.length + suf.length < 4611686018427387904 →
    iter (S_slices_IndexFunc_int_int_69c_0 fl) n (pre ++ suf, ((pre.length + suf.length : Nat) : Int), (pre.length : Int), k) (ret, b) = match ffind (bad k) suf with | some j => ret ((pre.length : Int) + j, k) | none => b k
  | [], pre, n, hn, hl => by
    obtain ⟨m, rfl⟩ : ∃ m, n = m + 1 := ⟨n - 1, by simp at hn; omega⟩
    simp only [iter, S_slices_IndexFunc_int_int_69c_0]
    rw [dec_f (by simp)]
    rfl
  | x :: suf, pre, n, hn, hl => by
    obtain ⟨m, rfl⟩ : ∃ m, n = m + 1 := ⟨n - 1, by simp at hn; omega⟩
    simp only [List.length_cons] at hn hl
    simp only [iter, S_slices_IndexFunc_int_int_69c_0]
    rw [dec_t (by simp; omega), dec_t (by simp; omega), f58 h0 h, Int.toNat_natCast, getD_mid]
    simp only [ffind]
    cases hb : bad k x with
    | true => simp
    | false =>
      simp only [cond_false]
      have ih := idx_loop h0 h (ret := ret) (b := b) (fl := fl) suf (pre ++ [x]) m (by omega) (by simp; omega)
      rw [wrap64 (by omega) (by omega)]
      have e1 : (pre ++ [x]) ++ suf = pre ++ x :: suf := by simp
      have e2 : (((pre ++ [x]).length + suf.length : Nat) : Int) = ((pre.length + (x :: suf).length : Nat) : Int) := by simp; omega
      have e3 : (((pre ++ [x]).length : Nat) : Int) = (pre.length : Int) + 1 := by simp
      rw [e1, e2, e3] at ih
      rw [ih]
      cases ffind (bad k) suf with
      | none => rfl
      | some j => simp only []; congr 2; simp; omega

theorem f57 {k : Int} (h0 : 0 ≤ k) (h : k ≤ 62) {l : List Int} (hl : l.length < 4611686018427387904) {K : Bool × Int → Option Ans} : F_slices_ContainsFunc_int_int_69c fuel l k K = K (l.any (bad k), k) := by
  unfold F_slices_ContainsFunc_int_int_69c F_slices_IndexFunc_int_int_69c L_slices_IndexFunc_int_int_69c_0
  have := idx_loop h0 h (fl := fuel) (ret := fun v => match v with | (a, c) => K (decide (a ≥ 0), c)) (b := fun c => K (decide ((-1 : Int) ≥ 0), c)) l [] fuel (fuel_lt (by omega)) (by simpa using hl)
  simp only [List.nil_append, List.length_nil, Nat.zero_add, Int.natCast_zero] at this
  refine this.trans ?_
  rw [← ffind_any]
  cases ffind (bad k) l with
  | none => rfl
  | some j =>
    simp only [Option.isSome_some]
    rw [decide_eq_true (by omega)]

/-- Bit j of a value in Gray's code. -/
def gb (j : Nat) (v : Int) : Int := (v / 2 ^ j + v / 2 ^ (j + 1)) % 2
theorem gb_01 (j : Nat) (v : Int) : gb j v = 0 ∨ gb j v = 1 := by unfold gb; omega
theorem pow_pos' (j : Nat) : (0 : Int) < 2 ^ j := Int.pow_pos (by omega)
theorem div_le' {v : Int} (h : 0 ≤ v) (j : Nat) : 0 ≤ v / 2 ^ j ∧ v / 2 ^ j ≤ v :=
  ⟨Int.ediv_nonneg h (Int.le_of_lt (pow_pos' j)), Int.ediv_le_self _ h⟩
theorem gb_text {j v : Int} (h0 : 0 ≤ j) (h : j ≤ 7) (hv : 0 ≤ v) (hv' : v < 9223372036854775808) :
    IntKind.u8.wrap (iand .i64 (ixor .i64 (ishr .i64 v j) (ishr .i64 v (j + 1))) 1) = gb j.toNat v := by
  rw [ishr_eq h0 (by omega), ishr_eq (by omega) (by omega)]
  have a := div_le' hv j.toNat
  have b := div_le' hv (j + 1).toNat
  rw [gray_bit a.1 (by omega) b.1 (by omega)]
  have e : (j + 1).toNat = j.toNat + 1 := by omega
  rw [e]
  rw [e] at b
  unfold gb
  exact wrap8 (by omega) (by omega)

theorem plane_loop {fl : Nat} {vals out j b} (h0 : 0 ≤ j) (h : j ≤ 7) : ∀ (suf pre pl : List Int) (n : Nat), suf.length < n → pre.length + suf.length ≤ 17592186044416 → pl.length = pre.length → (∀ v ∈ suf, 0 ≤ v ∧ v < 9223372036854775808) →
    iter (S_tone_Planes_2 fl) n (vals, j, pre ++ suf, ((pre.length + suf.length : Nat) : Int), (pre.length : Int), out, pl) b = b (vals, j, out, pl ++ suf.map (gb j.toNat))
  | [], pre, pl, n, hn, hl, hp, hv => by
    obtain ⟨m, rfl⟩ : ∃ m, n = m + 1 := ⟨n - 1, by simp at hn; omega⟩
    simp only [iter, S_tone_Planes_2]
    rw [dec_f (by simp)]
    simp
  | x :: suf, pre, pl, n, hn, hl, hp, hv => by
    obtain ⟨m, rfl⟩ : ∃ m, n = m + 1 := ⟨n - 1, by simp at hn; omega⟩
    simp only [List.length_cons] at hn hl
    obtain ⟨hx0, hx1⟩ := hv x (by simp)
    simp only [iter, S_tone_Planes_2]
    rw [dec_t (by simp; omega), dec_t (by simp; omega), dec_f (by omega), wrap64 (by omega) (by omega), dec_f (by omega), Int.toNat_natCast, getD_mid, gb_text h0 h hx0 hx1, dec_t (by simp; omega)]
    have ih := plane_loop (fl := fl) (vals := vals) (out := out) (b := b) h0 h suf (pre ++ [x]) (pl ++ [gb j.toNat x]) m (by omega) (by simp; omega) (by simp [hp]) (fun v hv' => hv v (by simp [hv']))
    rw [wrap64 (by omega) (by omega)]
    have e1 : (pre ++ [x]) ++ suf = pre ++ x :: suf := by simp
    have e2 : (((pre ++ [x]).length + suf.length : Nat) : Int) = ((pre.length + (x :: suf).length : Nat) : Int) := by simp; omega
    have e3 : (((pre ++ [x]).length : Nat) : Int) = (pre.length : Int) + 1 := by simp
    rw [e1, e2, e3] at ih
    rw [ih]
    simp

/-- The planes, the highest first. -/
def plD (vals : List Int) : Nat → List (List Int)
  | 0 => []
  | t + 1 => vals.map (gb t) :: plD vals t
theorem plD_length (vals : List Int) : ∀ t, (plD vals t).length = t
  | 0 => rfl
  | t + 1 => by simp [plD, plD_length vals t]

theorem planes_loop {fl : Nat} (hfl : 17592186044416 < fl) {vals b} (hl : vals.length ≤ 17592186044416) (hv : ∀ v ∈ vals, 0 ≤ v ∧ v < 9223372036854775808) : ∀ (t : Nat) (out : List (List Int)) (n : Nat), t < n → t ≤ 8 → out.length + t ≤ 1000 →
    iter (S_tone_Planes_0 fl) n (vals, (t : Int) - 1, out) b = b (out ++ plD vals t)
  | 0, out, n, hn, ht, ho => by
    obtain ⟨m, rfl⟩ : ∃ m, n = m + 1 := ⟨n - 1, by omega⟩
    simp only [iter, S_tone_Planes_0]
    rw [dec_f (by omega)]
    simp [plD]
  | t + 1, out, n, hn, ht, ho => by
    obtain ⟨m, rfl⟩ : ∃ m, n = m + 1 := ⟨n - 1, by omega⟩
    simp only [iter, S_tone_Planes_0, L_tone_Planes_2]
    rw [dec_t (by omega)]
    have e : ((t + 1 : Nat) : Int) - 1 = t := by omega
    rw [e]
    have hp := fun b => plane_loop (fl := fl) (vals := vals) (out := out) (j := t) (b := b) (by omega) (by omega) vals [] [] fl (by omega) (by simpa using hl) rfl hv
    simp only [List.nil_append, List.length_nil, Nat.zero_add, Int.natCast_zero] at hp
    rw [hp]
    simp only
    rw [dec_t (by simp; omega), wrap64 (by omega) (by omega), planes_loop hfl hl hv t _ m (by omega) (by omega) (by simp; omega)]
    simp [plD]

theorem bad_iff {k v : Int} : bad k v = false ↔ 0 ≤ v ∧ v < 2 ^ k.toNat := by
  unfold bad
  rw [Bool.or_eq_false_iff, decide_eq_false_iff_not, decide_eq_false_iff_not]
  omega

theorem pow_le8 {k : Int} (h0 : 0 ≤ k) (h : k ≤ 8) : (2 : Int) ^ k.toNat ≤ 256 := by
  have := Nat.pow_le_pow_right (n := 2) (by omega) (show k.toNat ≤ 8 by omega)
  have h2 : (2 : Nat) ^ k.toNat ≤ 256 := this
  have h3 : (2 : Int) ^ k.toNat = ((2 ^ k.toNat : Nat) : Int) := by rw [Int.natCast_pow]; rfl
  rw [h3]
  omega

/-- What Planes returns. -/
def planes (vals : List Int) (k : Int) : Int × List (List Int) :=
  if k < 0 ∨ k > 8 ∨ vals.any (bad k) = true then (2, []) else (0, plD vals k.toNat)
theorem f16 {vals : List Int} {k : Int} (hl : vals.length ≤ 17592186044416) {K : Int × List (List Int) → Option Ans} : F_tone_Planes fuel vals k K = K (planes vals k) := by
  unfold F_tone_Planes planes
  by_cases h1 : k < 0
  · rw [dec_t h1, if_pos (.inl h1)]
  · rw [dec_f h1]
    by_cases h2 : k > 8
    · rw [dec_t h2, if_pos (.inr (.inl h2))]
    · rw [dec_f h2, f57 (by omega) (by omega) (by omega)]
      simp only
      cases h3 : vals.any (bad k) with
      | true => rw [if_pos (.inr (.inr rfl))]; rfl
      | false =>
        rw [if_neg (by simp; omega)]
        simp only [cond_false]
        unfold L_tone_Planes_0
        have hv : ∀ v ∈ vals, 0 ≤ v ∧ v < 9223372036854775808 := fun v hv => by
          have := bad_iff.1 (Bool.eq_false_iff.2 fun hb => by
            have := List.any_eq_false.1 h3 v hv
            exact this hb)
          have h8 := pow_le8 (k := k) (by omega) (by omega)
          omega
        have hp := planes_loop (fl := fuel) (fuel_lt (by omega)) (b := fun v => K (0, v)) hl hv k.toNat [] fuel (fuel_lt (by omega)) (by omega) (by simp; omega)
        rw [wrap64 (by omega) (by omega)]
        have e : ((k.toNat : Nat) : Int) = k := by omega
        rw [e] at hp
        simpa using hp

theorem f17 {K : Bool → Option Ans} : F_law11_Sane fuel K = K true := by
  unfold F_law11_Sane
  rw [f16 (by decide)]
  have : planes [0, 1, 2, 3] 2 = (0, [[0, 0, 1, 1], [0, 1, 1, 0]]) := by decide
  rw [this]
  simp only [show ([[0, 0, 1, 1], [0, 1, 1, 0]] : List (List Int)).getD (Int.toNat 0) [] = [0, 0, 1, 1] from rfl, show ([[0, 0, 1, 1], [0, 1, 1, 0]] : List (List Int)).getD (Int.toNat 1) [] = [0, 1, 1, 0] from rfl, beq_self_eq_true,
    show ((([[0, 0, 1, 1], [0, 1, 1, 0]] : List (List Int)).length : Int) == 2) = true from rfl, show decide ((0 : Int) ≤ 0 ∧ (0 : Int) < (([[0, 0, 1, 1], [0, 1, 1, 0]] : List (List Int)).length : Int)) = true from rfl,
    show decide ((0 : Int) ≤ 1 ∧ (1 : Int) < (([[0, 0, 1, 1], [0, 1, 1, 0]] : List (List Int)).length : Int)) = true from rfl, cond_true, both_same]
end Go.Proofs.Ytihfgpfofmjbaaa.Tone

set_option linter.unusedVariables false
set_option linter.unusedSimpArgs false
namespace Go.Proofs.Ytihfgpfofmjbaaa.PureToneRenders
open Go Ev Bm Gen Ton

theorem same_b {fl : Nat} {w h : Int} {p : List Int} {K : Bool → Option Ans} : F_ref05_Same fl w h p w h p K = K true := by
  unfold F_ref05_Same
  rw [cond_t (by simp), cond_t (by simp), beq_self_eq_true]
def mny (l : List Bmp) : Nat → Int
  | 0 => 0
  | i + 1 => IntKind.i64.wrap (IntKind.i64.wrap (mny l i + 1) + ((l.getD i (0, 0, [])).2.2.length : Int))
theorem many_ok {fl : Nat} (hfl : 9223372036854775808 ≤ fl) {l : List Bmp} (hll : l.length ≤ 1000000000000000) {K : Int → Option Ans} : F_law11_many fl l K = K (mny l l.length) := by
  unfold F_law11_many L_law11_many_0
  refine iter_to (step := S_law11_many_0 fl) (fun i : Nat => (l, mny l i, (i : Int))) l.length (fun i hi c => ?_) (fun c => ?_) (by omega)
  · simp only [S_law11_many_0]
    rw [dec_t (by omega), dec_t (by omega), Int.toNat_natCast, wrap64 (x := (i : Int) + 1) (by omega) (by omega)]
    rfl
  · simp only [S_law11_many_0]
    rw [dec_f (by omega)]
theorem large_ok {fl : Nat} (hfl : 9223372036854775808 ≤ fl) {gw gh X Y RX RY tm kd op w h : Int} {sk : Bool} {l : List Bmp} {v : List Int} (hll : l.length ≤ 1000000000000000) : ∃ b, (b = false → v.length ≤ 5000) ∧ ∀ K : Bool → Option Ans, F_law11_Large fl gw gh X Y RX RY tm kd sk op l w h v K = K b := by
  unfold F_law11_Large
  simp only [many_ok hfl hll, cd]
  by_cases h1 : mny l l.length > 1500
  · exact ⟨true, (fun h => absurd h (by decide)), fun K => by rw [if_pos h1]⟩
  by_cases h2 : (v.length : Int) > 5000
  · exact ⟨true, (fun h => absurd h (by decide)), fun K => by rw [if_neg h1, if_pos h2]⟩
  by_cases h3 : gw > 0 ∧ gh > 0 ∧ gw ≤ 64 ∧ gh ≤ 64
  · exact ⟨decide (IntKind.i64.wrap (gw * gh) > 300), fun _ => by omega, fun K => by rw [if_neg h1, if_neg h2, if_pos h3.1, if_pos h3.2.1, if_pos h3.2.2.1, if_pos h3.2.2.2]⟩
  · refine ⟨false, fun _ => by omega, fun K => ?_⟩
    rw [if_neg h1, if_neg h2]
    repeat' split
    all_goals first | rfl | omega
theorem pure_fl {fl : Nat} (hfl : 9223372036854775808 ≤ fl) (hs : ∀ K : Bool → Option Ans, F_law11_Sane fl K = K true) (gw gh X Y RX RY tm kd : Int) (sk : Bool) (op : Int) (l : List Bmp) (w h : Int) (v : List Int) (K : Bool → Option Ans)
    (hll : l.length ≤ 1000000000000000) (hz : ∀ b ∈ l, ∀ u ∈ b.2.2, 0 ≤ u) : F_law11_ToneRenders fl gw gh X Y RX RY tm kd sk op l w h v K = K true := by
  unfold F_law11_ToneRenders
  obtain ⟨b, hb, hb2⟩ := large_ok (gw := gw) (gh := gh) (X := X) (Y := Y) (RX := RX) (RY := RY) (tm := tm) (kd := kd) (op := op) (w := w) (h := h) (sk := sk) (v := v) hfl hll
  rw [hb2]
  cases b with
  | true => rw [cond_t rfl, hs]
  | false =>
  have hvl := hb rfl
  rw [cond_f (b := false) rfl]
  by_cases h0 : bErr gw gh X Y RX RY tm kd op l w h = 0
  rotate_left
  · have n0 : (bErr gw gh X Y RX RY tm kd op l w h != 0) = true := by simp [h0]
    have r1 : ∀ sk (K : Int × Int × Int × List Int → Option Ans), F_tone_Render fl gw gh X Y RX RY tm kd sk op l w h v K = K (0, 0, bErr gw gh X Y RX RY tm kd op l w h, []) := fun sk K => by
      unfold F_tone_Render
      rw [begun_ok hfl hll, cond_t n0]
    have r2 : ∀ sk (K : Int × Int × Int × List Int → Option Ans), F_ref11_Render fl gw gh X Y RX RY tm kd sk op l w h v K = K (0, 0, bErr gw gh X Y RX RY tm kd op l w h, []) := fun sk K => by
      unfold F_ref11_Render F_ref11_given
      rw [asked_ok hfl hll, cond_t n0]
      try dsimp only
      rw [cond_t n0]
    unfold F_tone_Skipped F_ref11_Skipped
    rw [begun_ok hfl hll, cond_t n0]
    try dsimp only
    rw [asked_ok hfl hll, cond_t n0]
    try dsimp only
    rw [r1]
    try dsimp only
    rw [r2]
    try dsimp only
    rw [cond_f (by simp), cond_f (by simp), same_b, cond_f (b := !true) rfl, same_b, cond_f (b := !true) rfl, cond_t n0, hs]
  have h0' := h0
  unfold bErr at h0'
  have ht : tv gw gh X Y RX RY tm kd op = true := by
    cases ht : tv gw gh X Y RX RY tm kd op with
    | true => rfl
    | false => rw [ht, if_neg (by simp)] at h0'; omega
  rw [if_pos ht] at h0'
  by_cases haf : l.all (bmOk l) = true ∧ fit w h = true
  rotate_left
  · rw [if_neg haf] at h0'; omega
  rw [if_pos haf] at h0'
  have hso : sidesOk l.length (l0 l).1 (l0 l).2.1 = true := by
    unfold pErr at h0'
    split at h0'
    · assumption
    · omega
  obtain ⟨⟨g1, g2, g3, g4⟩, _⟩ := tv_iff.1 ht
  obtain ⟨gw, rfl⟩ := Int.eq_ofNat_of_zero_le g1
  obtain ⟨gh, rfl⟩ := Int.eq_ofNat_of_zero_le g3
  have G : Ton.Good fl gw gh X Y RX RY tm kd op w h l := ⟨hfl, ht, haf.1, haf.2, hz, hso⟩
  unfold F_tone_Skipped F_ref11_Skipped
  rw [begun_ok hfl hll, h0, cond_f (b := (0 : Int) != 0) rfl, skipped_ok hfl G.t G.l1.1 G.hpw]
  try dsimp only
  rw [asked_ok hfl hll, h0, cond_f (b := (0 : Int) != 0) rfl, rskipped_ok hfl G.t G.l1.1 G.hpw]
  try dsimp only
  rw [trender G (by omega) h0]
  by_cases hk : okV gw gh X Y RX RY sk w h l v
  rotate_left
  · rw [if_neg hk]
    try dsimp only
    rw [rrender G (by omega) h0, if_neg hk]
    try dsimp only
    rw [cond_f (b := (0 : Int) != 0) rfl, cond_f (b := (2 : Int) != 2) rfl, same_b, cond_f (b := !true) rfl, same_b, cond_f (b := !true) rfl, cond_t (b := (2 : Int) != 0) rfl, hs]
  rw [if_pos hk]
  try dsimp only
  rw [rrender G (by omega) h0, if_pos hk]
  try dsimp only
  rw [cond_f (b := (0 : Int) != 0) rfl, same_b, cond_f (b := !true) rfl, same_b, cond_f (b := !true) rfl]
  try rw [cond_f (b := (0 : Int) != 0) rfl]
  try rw [cond_f (b := (0 : Int) != 0) rfl]
  cases sk with
  | false => rw [cond_t (b := !false) rfl, hs]
  | true =>
  rw [cond_f (b := !true) rfl, trender G (by omega) h0, if_pos (okV_false hk), rnd_skip G hk _ (Nat.le_refl _)]
  try dsimp only
  rw [cond_t (b := (0 : Int) == 0) rfl, same_b, cond_t rfl, hs]
theorem pure (gw gh X Y RX RY tm kd : Int) (sk : Bool) (op : Int) (l : List Bmp) (w h : Int) (v : List Int) (K : Bool → Option Ans)
    (g : given (.pair (.pair (.int .i64) (.pair (.int .i64) (.pair (.int .i64) (.pair (.int .i64) (.pair (.int .i64) (.pair (.int .i64) (.pair (.int .i64) (.pair (.int .i64) (.pair .bool (.int .i64)))))))))) (.pair (.sl (.pair (.int .i64) (.pair (.int .i64) (.sl (.int .u8))))) (.pair (.int .i64) (.pair (.int .i64) (.sl (.int .i64)))))) ((gw, gh, X, Y, RX, RY, tm, kd, sk, op), l, w, h, v)) :
    F_law11_ToneRenders fuel gw gh X Y RX RY tm kd sk op l w h v K = K true := by
  obtain ⟨_, ⟨h1, h2⟩, _⟩ := g
  have h1 : l.length * 40 ≤ 140737488351232 := h1
  refine pure_fl (by rw [fuel_eq]; omega) (fun _ => Tone.f17) gw gh X Y RX RY tm kd sk op l w h v K (by omega) fun b hb u hu => ?_
  obtain ⟨_, _, _, h3⟩ := h2 b hb
  have h : (Lit.int .u8 u).wf = true := h3 u hu
  simp [Lit.wf, IntKind.min, IntKind.max, IntKind.signed, IntKind.bits] at h
  omega
end Go.Proofs.Ytihfgpfofmjbaaa.PureToneRenders

