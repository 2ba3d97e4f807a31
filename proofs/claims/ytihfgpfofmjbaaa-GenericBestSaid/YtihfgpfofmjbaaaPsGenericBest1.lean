/- Laws of the typed texts that GenericBest reaches, in plain Lean. No condition but what each theorem names. -/
import Derived.Test.YtihfgpfofmjbaaaEvO
import Derived.Test.YtihfgpfofmjbaaaFsGenericBest1
import Derived.Test.YtihfgpfofmjbaaaFsGenericBest2
import Derived.Test.YtihfgpfofmjbaaaFsGenericBest3
import Derived.Test.YtihfgpfofmjbaaaEvS
set_option linter.unusedVariables false
set_option linter.unusedSimpArgs false
set_option linter.unusedVariables false
namespace Go.Proofs.Ytihfgpfofmjbaaa.Ev
open Go

theorem cond_t {α : Sort _} {b : Bool} {x y : α} (h : b = true) : (bif b then x else y) = x := by rw [h]; rfl
theorem cond_f {α : Sort _} {b : Bool} {x y : α} (h : b = false) : (bif b then x else y) = y := by rw [h]; rfl
theorem dec_t {p : Prop} {i : Decidable p} {α : Sort _} {x y : α} (h : p) : (bif @decide p i then x else y) = x := cond_t (decide_eq_true h)
theorem dec_f {p : Prop} {i : Decidable p} {α : Sort _} {x y : α} (h : ¬p) : (bif @decide p i then x else y) = y := cond_f (decide_eq_false h)
theorem loOf_some (x : Int) : loOf (some x) = x := rfl
theorem hiOf_some (x n : Int) : hiOf (some x) n = x := rfl
theorem both_same (x : Option Ans) : both x x = x := by
  unfold both
  cases x with
  | none => rfl
  | some u => rfl

/-- A loop that comes to its end: by a measure. -/
theorem iter_ind {V B : Type} {step : V → (V → Option Ans) → B → Option Ans} {b : B} (I : V → Prop) (m : V → Nat) (r : V → Option Ans)
    (h : ∀ v c, I v → (∀ v', I v' → m v' < m v → c v' = r v') → step v c b = r v) : ∀ n v, I v → m v < n → iter step n v b = r v
  | 0, v, hI, hm => by omega
  | n + 1, v, hI, hm => h v _ hI fun v' hI' hm' => iter_ind I m r h n v' hI' (by omega)

theorem fuel_eq : fuel = 18446744073709551616 := rfl
theorem fuel_lt {n : Nat} (h : n < 18446744073709551616) : n < fuel := by rw [fuel_eq]; exact h

/-! ### Numbers -/
theorem wrap64 {x : Int} (h1 : -9223372036854775808 ≤ x) (h2 : x ≤ 9223372036854775807) : IntKind.i64.wrap x = x := by
  simp [IntKind.wrap, IntKind.min, IntKind.max, IntKind.signed, IntKind.bits]
  omega
theorem wrap8 {x : Int} (h1 : 0 ≤ x) (h2 : x ≤ 255) : IntKind.u8.wrap x = x := by
  simp [IntKind.wrap, IntKind.min, IntKind.max, IntKind.signed, IntKind.bits]
  omega
theorem wf64 {x : Int} (h : (Lit.int .i64 x).wf = true) : -9223372036854775808 ≤ x ∧ x ≤ 9223372036854775807 := by
  simp [Lit.wf, IntKind.min, IntKind.max, IntKind.signed, IntKind.bits] at h
  omega
theorem ishl_one {y : Int} (h0 : 0 ≤ y) (h : y ≤ 62) : ishl .i64 1 y = 2 ^ y.toNat := by
  unfold ishl
  have hb : min y.toNat IntKind.i64.bits = y.toNat := by
    have : IntKind.i64.bits = 64 := rfl
    rw [this]
    omega
  rw [hb, Int.one_mul]
  have h1 : (2 : Int) ^ y.toNat ≤ 2 ^ 62 := by
    have := Nat.pow_le_pow_right (n := 2) (by omega) (show y.toNat ≤ 62 by omega)
    exact_mod_cast this
  have h2 : (0 : Int) < 2 ^ y.toNat := Int.pow_pos (by omega)
  exact wrap64 (by omega) (by omega)
theorem ishr_eq {k : IntKind} {x y : Int} (h0 : 0 ≤ y) (h : y ≤ 8) (hk : 8 ≤ k.bits := by decide) : ishr k x y = x / 2 ^ y.toNat := by
  unfold ishr
  have hb : min y.toNat k.bits = y.toNat := by omega
  rw [hb, Int.fdiv_eq_ediv_of_nonneg]
  exact Int.le_of_lt (Int.pow_pos (by omega))
theorem ofInt_toNat {n : Nat} {x : Int} (h0 : 0 ≤ x) (h : x < 2 ^ n) : (BitVec.ofInt n x).toNat = x.toNat := by
  rw [BitVec.toNat_ofInt]
  rw [Int.emod_eq_of_lt h0 (by exact_mod_cast h)]
theorem ixor_eq {x y : Int} (hx : 0 ≤ x) (hx' : x < 2 ^ 63) (hy : 0 ≤ y) (hy' : y < 2 ^ 63) : ixor .i64 x y = ((x.toNat ^^^ y.toNat : Nat) : Int) := by
  unfold ixor
  have e : IntKind.i64.bits = 64 := rfl
  rw [e, BitVec.toNat_xor, ofInt_toNat hx (by omega), ofInt_toNat hy (by omega)]
  have h1 : x.toNat ^^^ y.toNat < 2 ^ 63 := Nat.xor_lt_two_pow (by omega) (by omega)
  exact wrap64 (by omega) (by omega)
theorem iand_one {x : Int} (hx : 0 ≤ x) (hx' : x < 2 ^ 63) : iand .i64 x 1 = x % 2 := by
  unfold iand
  have e : IntKind.i64.bits = 64 := rfl
  rw [e, BitVec.toNat_and, ofInt_toNat hx (by omega), ofInt_toNat (by omega) (by omega)]
  have h1 : x.toNat &&& (1 : Int).toNat = x.toNat % 2 := Nat.and_one_is_mod _
  rw [h1]
  have h2 : ((x.toNat % 2 : Nat) : Int) = x % 2 := by omega
  rw [h2]
  exact wrap64 (by omega) (by omega)
theorem xor_mod2 (a b : Nat) : (a ^^^ b) % 2 = (a + b) % 2 := by
  rw [← Nat.and_one_is_mod, ← Nat.and_one_is_mod (a + b), Nat.and_xor_distrib_right]
  simp only [Nat.and_one_is_mod]
  rcases Nat.mod_two_eq_zero_or_one a with ha | ha <;> rcases Nat.mod_two_eq_zero_or_one b with hb | hb <;> simp [ha, hb] <;> omega
/-- The Gray code's bit. -/
theorem gray_bit {x y : Int} (hx : 0 ≤ x) (hx' : x < 2 ^ 63) (hy : 0 ≤ y) (hy' : y < 2 ^ 63) : iand .i64 (ixor .i64 x y) 1 = (x + y) % 2 := by
  rw [ixor_eq hx hx' hy hy']
  have h1 : x.toNat ^^^ y.toNat < 2 ^ 63 := Nat.xor_lt_two_pow (by omega) (by omega)
  rw [iand_one (by omega) (by omega)]
  have := xor_mod2 x.toNat y.toNat
  omega
/-! ### Loops whose states are known -/
/-- A loop that goes through known states, up to the n-th one. -/
theorem iter_to {V B : Type} {step : V → (V → Option Ans) → B → Option Ans} {b : B} {r : Option Ans} (σ : Nat → V) (n : Nat)
    (h : ∀ i, i < n → ∀ c, step (σ i) c b = c (σ (i + 1))) (hn : ∀ c, step (σ n) c b = r) {m : Nat} (hm : n < m) : iter step m (σ 0) b = r := by
  have key : ∀ d i m, i + d = n → d < m → iter step m (σ i) b = r := by
    intro d
    induction d with
    | zero =>
      intro i m hi hm
      obtain ⟨m, rfl⟩ : ∃ k, m = k + 1 := ⟨m - 1, by omega⟩
      have : i = n := by omega
      subst this
      exact hn _
    | succ d ih =>
      intro i m hi hm
      obtain ⟨m, rfl⟩ : ∃ k, m = k + 1 := ⟨m - 1, by omega⟩
      simp only [iter]
      rw [h i (by omega)]
      exact ih (i + 1) m (by omega) (by omega)
  exact key n 0 m (by omega) hm
theorem iter_seq {V B : Type} {step : V → (V → Option Ans) → B → Option Ans} {b : B} {r : Option Ans} {v : V} {m : Nat} (σ : Nat → V) (n : Nat) (hv : v = σ 0)
    (h : ∀ i, i < n → ∀ c, step (σ i) c b = c (σ (i + 1))) (hn : ∀ c, step (σ n) c b = r) (hm : n < m) : iter step m v b = r := by
  rw [hv]
  exact iter_to σ n h hn hm
/-- A loop with an invariant that is told by the round's number. -/
theorem iter_inv {V B : Type} {step : V → (V → Option Ans) → B → Option Ans} {b : B} {r : Option Ans} (I : Nat → V → Prop) (n : Nat)
    (h : ∀ i v, i < n → I i v → (∃ v', I (i + 1) v' ∧ ∀ c, step v c b = c v') ∨ ∀ c, step v c b = r) (hn : ∀ v, I n v → ∀ c, step v c b = r) {v : V} (h0 : I 0 v) {m : Nat} (hm : n < m) : iter step m v b = r := by
  have key : ∀ d i v m, i + d = n → I i v → d < m → iter step m v b = r := by
    intro d
    induction d with
    | zero =>
      intro i v m hi hI hm
      obtain ⟨m, rfl⟩ : ∃ k, m = k + 1 := ⟨m - 1, by omega⟩
      have : i = n := by omega
      subst this
      exact hn _ hI _
    | succ d ih =>
      intro i v m hi hI hm
      obtain ⟨m, rfl⟩ : ∃ k, m = k + 1 := ⟨m - 1, by omega⟩
      simp only [iter]
      rcases h i v (by omega) hI with ⟨v', h1, h2⟩ | h1
      · rw [h2]
        exact ih (i + 1) v' m (by omega) h1 (by omega)
      · exact h1 _
  exact key n 0 v m (by omega) h0 hm

/-! ### Lists -/
theorem take_succ_getD {α : Type} {l : List α} {i : Nat} (h : i < l.length) (d : α) : l.take (i + 1) = l.take i ++ [l.getD i d] := by
  rw [List.take_add_one]
  simp [List.getElem?_eq_getElem h]
theorem map_take_succ {α β : Type} {l : List α} {i : Nat} (h : i < l.length) (d : α) (f : α → β) : (l.take (i + 1)).map f = (l.take i).map f ++ [f (l.getD i d)] := by
  rw [take_succ_getD h d, List.map_append]; rfl
theorem all_take_succ {α : Type} {l : List α} {i : Nat} (h : i < l.length) (d : α) (p : α → Bool) : (l.take (i + 1)).all p = ((l.take i).all p && p (l.getD i d)) := by
  rw [take_succ_getD h d, List.all_append]; simp
theorem getD_lt {α : Type} {l : List α} {i : Nat} (h : i < l.length) (d : α) : l.getD i d = l[i] := by simp [h]
theorem getD_mem {α : Type} {l : List α} {i : Nat} (h : i < l.length) (d : α) : l.getD i d ∈ l := by rw [getD_lt h]; exact List.getElem_mem h
/-- The first of a list's members, in order, that is such a one: its place. -/
theorem all_or_first {α : Type} (p : α → Bool) (d : α) (l : List α) : l.all p = true ∨ ∃ n, n < l.length ∧ p (l.getD n d) = false ∧ ∀ i, i < n → p (l.getD i d) = true := by
  induction l with
  | nil => exact .inl rfl
  | cons x l ih =>
    cases hx : p x with
    | false => exact .inr ⟨0, by simp, by simpa using hx, fun i hi => by omega⟩
    | true =>
      rcases ih with ih | ⟨n, h1, h2, h3⟩
      · left; simp [hx, ih]
      · refine .inr ⟨n + 1, by simpa using h1, by simpa using h2, fun i hi => ?_⟩
        cases i with
        | zero => simpa using hx
        | succ i => simpa using h3 i (by omega)
theorem all_getD {α : Type} {p : α → Bool} {l : List α} (h : l.all p = true) (d : α) {i : Nat} (hi : i < l.length) : p (l.getD i d) = true :=
  List.all_eq_true.1 h _ (getD_mem hi d)
theorem not_all {α : Type} {p : α → Bool} {l : List α} {d : α} {n : Nat} (h : n < l.length) (hp : p (l.getD n d) = false) : l.all p = false := by
  rw [List.all_eq_false]
  exact ⟨_, getD_mem h d, by rw [hp]; simp⟩
/-- All numbers below n, or the first that is not such a one. -/
theorem nat_or_first (P : Nat → Prop) [DecidablePred P] : ∀ n, (∀ i, i < n → P i) ∨ ∃ k, k < n ∧ ¬ P k ∧ ∀ i, i < k → P i
  | 0 => .inl fun i h => by omega
  | n + 1 => by
    rcases nat_or_first P n with h | ⟨k, h1, h2, h3⟩
    · by_cases hn : P n
      · left
        intro i hi
        rcases Nat.lt_or_ge i n with h' | h'
        · exact h i h'
        · have : i = n := by omega
          subst this; exact hn
      · exact .inr ⟨n, by omega, hn, h⟩
    · exact .inr ⟨k, by omega, h2, h3⟩
theorem list_ext_getD {α : Type} {a b : List α} (d : α) (hl : a.length = b.length) (h : ∀ i, i < a.length → a.getD i d = b.getD i d) : a = b := by
  apply List.ext_getElem hl
  intro i h1 h2
  have := h i h1
  rwa [getD_lt h1, getD_lt h2] at this
/-- A row of zeros of which the first i are written. -/
def fillL (u : Nat → Int) (n i : Nat) : List Int := (List.range n).map fun j => if j < i then u j else 0
theorem fillL_len (u : Nat → Int) (n i : Nat) : (fillL u n i).length = n := by simp [fillL]
theorem fillL_zero (u : Nat → Int) (n : Nat) : fillL u n 0 = List.replicate n 0 := by
  apply List.ext_getElem (by simp [fillL])
  intro j h1 h2
  simp [fillL]
theorem fillL_set {u : Nat → Int} {n i : Nat} : (fillL u n i).set i (u i) = fillL u n (i + 1) := by
  apply List.ext_getElem (by simp [fillL])
  intro j h1 h2
  simp only [fillL, List.getElem_set, List.getElem_map, List.getElem_range]
  split
  · rename_i e; subst e; rw [if_pos (by omega)]
  · by_cases h : j < i
    · rw [if_pos h, if_pos (by omega)]
    · rw [if_neg h, if_neg (by omega)]
theorem fillL_all {u : Nat → Int} {n : Nat} : fillL u n n = (List.range n).map u := by
  apply List.ext_getElem (by simp [fillL])
  intro j h1 h2
  simp only [fillL, List.length_map, List.length_range] at h1
  simp [fillL, h1]
theorem range_map_succ {α : Type} (f : Nat → α) (i : Nat) : (List.range (i + 1)).map f = (List.range i).map f ++ [f i] := by
  rw [List.range_succ, List.map_append]; rfl
theorem range_getD {α : Type} (f : Nat → α) {n i : Nat} (h : i < n) (d : α) : ((List.range n).map f).getD i d = f i := by
  rw [getD_lt (by simpa using h)]
  simp
end Go.Proofs.Ytihfgpfofmjbaaa.Ev

set_option linter.unusedVariables false
set_option linter.unusedSimpArgs false
namespace Go.Proofs.Ytihfgpfofmjbaaa.Bm
open Go Ev

theorem cd {α : Sort _} {p : Prop} {i : Decidable p} {x y : α} : (bif @decide p i then x else y) = @ite α p i x y := by by_cases h : p <;> simp [h]
theorem cb {α : Sort _} {a b : Int} {x y : α} : (bif a == b then x else y) = if a = b then x else y := by
  by_cases h : a = b
  · simp [h]
  · rw [if_neg h, cond_f (by simpa using h)]
theorem cn {α : Sort _} {a b : Int} {x y : α} : (bif a != b then x else y) = if a = b then y else x := by
  by_cases h : a = b
  · simp [h]
  · rw [if_neg h, cond_t (by simpa using h)]
theorem cnot {α : Sort _} {b : Bool} {x y : α} : (bif !b then x else y) = bif b then y else x := by cases b <;> rfl

theorem mul_le {w h a b : Int} (h0 : 0 ≤ w) (h1 : w ≤ a) (h2 : 0 ≤ h) (h3 : h ≤ b) : 0 ≤ w * h ∧ w * h ≤ a * b :=
  ⟨Int.mul_nonneg h0 h2, Int.mul_le_mul h1 h3 h2 (by omega)⟩

/-- Sides of a bitmap. -/
def fit (w h : Int) : Bool := decide (0 ≤ w ∧ 0 ≤ h ∧ w ≤ 200 ∧ h ≤ 200 ∧ w * h ≤ 8192)
theorem fit_iff {w h : Int} : fit w h = true ↔ 0 ≤ w ∧ 0 ≤ h ∧ w ≤ 200 ∧ h ≤ 200 ∧ w * h ≤ 8192 := by simp [fit]
theorem fits_ok {fl : Nat} {w h : Int} {K : Bool → Option Ans} : F_bitmap_fits fl w h K = K (fit w h) := by
  unfold F_bitmap_fits fit
  simp only [cd]
  split
  · split
    · split
      · split
        · have := mul_le (a := 200) (b := 200) (show 0 ≤ w by omega) (by omega) (show 0 ≤ h by omega) (by omega)
          rw [wrap64 (by omega) (by omega)]
          exact congrArg K (decide_eq_decide.2 (by omega))
        · exact congrArg K (decide_eq_false (by omega)).symm
      · exact congrArg K (decide_eq_false (by omega)).symm
    · exact congrArg K (decide_eq_false (by omega)).symm
  · exact congrArg K (decide_eq_false (by omega)).symm
theorem sides_ok {fl : Nat} {w h : Int} {K : Bool → Option Ans} : F_ref05_Sides fl w h K = K (fit w h) := by
  unfold F_ref05_Sides fit
  simp only [cd]
  split
  · split
    · split
      · split
        · have := mul_le (a := 200) (b := 200) (show 0 ≤ w by omega) (by omega) (show 0 ≤ h by omega) (by omega)
          rw [wrap64 (by omega) (by omega)]
          exact congrArg K (decide_eq_decide.2 (by omega))
        · exact congrArg K (decide_eq_false (by omega)).symm
      · exact congrArg K (decide_eq_false (by omega)).symm
    · exact congrArg K (decide_eq_false (by omega)).symm
  · exact congrArg K (decide_eq_false (by omega)).symm

/-- A bitmap. -/
def valid (w h : Int) (pix : List Int) : Bool := fit w h && decide ((pix.length : Int) = w * h) && pix.all fun x => decide (x ≤ 1)
theorem valid_iff {w h : Int} {pix : List Int} : valid w h pix = true ↔ (0 ≤ w ∧ 0 ≤ h ∧ w ≤ 200 ∧ h ≤ 200 ∧ w * h ≤ 8192) ∧ (pix.length : Int) = w * h ∧ ∀ x ∈ pix, x ≤ 1 := by
  unfold valid
  rw [Bool.and_eq_true, Bool.and_eq_true, fit_iff, decide_eq_true_eq, List.all_eq_true]
  simp [and_assoc]
theorem fit_mul {w h : Int} (hf : fit w h = true) : IntKind.i64.wrap (w * h) = w * h := by
  obtain ⟨h1, h2, h3, h4, h5⟩ := fit_iff.1 hf
  have := mul_le (a := 200) (b := 200) h1 h3 h2 h4
  exact wrap64 (by omega) (by omega)

theorem valid_ok {fl : Nat} (hfl : 9223372036854775808 ≤ fl) {w h : Int} {pix : List Int} {K : Bool → Option Ans} : F_bitmap_Valid fl w h pix K = K (valid w h pix) := by
  unfold F_bitmap_Valid
  rw [fits_ok]
  unfold valid
  cases hf : fit w h with
  | false => rfl
  | true =>
  rw [cond_f (b := !true) rfl, fit_mul hf, cn]
  obtain ⟨h1, h2, h3, h4, h5⟩ := fit_iff.1 hf
  split
  rotate_left
  · rename_i hne
    rw [decide_eq_false hne]
    rfl
  rename_i he
  rw [decide_eq_true he]
  simp only [Bool.true_and]
  unfold L_bitmap_Valid_0
  rcases all_or_first (fun x => decide (x ≤ 1)) 0 pix with ha | ⟨n, hn, hb, hi⟩
  · rw [ha]
    refine iter_seq (step := S_bitmap_Valid_0 fl) (fun i : Nat => (pix, (pix.length : Int), (i : Int))) pix.length rfl (fun i hi c => ?_) (fun c => ?_) (by omega)
    · have g := all_getD ha 0 hi
      simp only [decide_eq_true_eq] at g
      simp (disch := omega) only [S_bitmap_Valid_0, dec_t, dec_f, wrap64, Int.toNat_natCast]
      rfl
    · simp (disch := omega) only [S_bitmap_Valid_0, dec_f]
  · rw [not_all hn hb]
    refine iter_seq (step := S_bitmap_Valid_0 fl) (fun i : Nat => (pix, (pix.length : Int), (i : Int))) n rfl (fun i hin c => ?_) (fun c => ?_) (by omega)
    · have g := hi i hin
      simp only [decide_eq_true_eq] at g
      simp (disch := omega) only [S_bitmap_Valid_0, dec_t, dec_f, wrap64, Int.toNat_natCast]
      rfl
    · simp only [decide_eq_false_iff_not] at hb
      simp (disch := omega) only [S_bitmap_Valid_0, dec_t, Int.toNat_natCast]
theorem rvalid_ok {fl : Nat} (hfl : 9223372036854775808 ≤ fl) {w h : Int} {pix : List Int} {K : Bool → Option Ans} : F_ref05_Valid fl w h pix K = K (valid w h pix) := by
  unfold F_ref05_Valid
  rw [sides_ok]
  unfold valid
  cases hf : fit w h with
  | false => rfl
  | true =>
  rw [cond_f (b := !true) rfl, fit_mul hf, cn]
  obtain ⟨h1, h2, h3, h4, h5⟩ := fit_iff.1 hf
  split
  rotate_left
  · rename_i hne
    rw [decide_eq_false hne]
    rfl
  rename_i he
  rw [decide_eq_true he]
  simp only [Bool.true_and]
  unfold L_ref05_Valid_0
  rcases all_or_first (fun x => decide (x ≤ 1)) 0 pix with ha | ⟨n, hn, hb, hi⟩
  · rw [ha]
    refine iter_seq (step := S_ref05_Valid_0 fl) (fun i : Nat => ((i : Int), w, h, pix)) pix.length rfl (fun i hi c => ?_) (fun c => ?_) (by omega)
    · have g := all_getD ha 0 hi
      simp only [decide_eq_true_eq] at g
      simp (disch := omega) only [S_ref05_Valid_0, dec_t, dec_f, wrap64, Int.toNat_natCast]
      rfl
    · simp (disch := omega) only [S_ref05_Valid_0, dec_f]
  · rw [not_all hn hb]
    refine iter_seq (step := S_ref05_Valid_0 fl) (fun i : Nat => ((i : Int), w, h, pix)) n rfl (fun i hin c => ?_) (fun c => ?_) (by omega)
    · have g := hi i hin
      simp only [decide_eq_true_eq] at g
      simp (disch := omega) only [S_ref05_Valid_0, dec_t, dec_f, wrap64, Int.toNat_natCast]
      rfl
    · simp only [decide_eq_false_iff_not] at hb
      simp (disch := omega) only [S_ref05_Valid_0, dec_t, Int.toNat_natCast]

/-- A place in a bitmap. -/
def ins (w h x y : Int) : Prop := 0 ≤ x ∧ 0 ≤ y ∧ x < w ∧ y < h
instance {w h x y : Int} : Decidable (ins w h x y) := by unfold ins; infer_instance
/-- A pixel, white outside. -/
def px (w h : Int) (pix : List Int) (x y : Int) : Int := if ins w h x y then pix.getD (y * w + x).toNat 0 else 0
theorem place {w h x y : Int} (hi : ins w h x y) : 0 ≤ y * w + x ∧ y * w + x < w * h := by
  obtain ⟨h1, h2, h3, h4⟩ := hi
  have a : 0 ≤ y * w := Int.mul_nonneg h2 (by omega)
  have b : (y + 1) * w ≤ h * w := Int.mul_le_mul_of_nonneg_right (by omega) (by omega)
  rw [Int.add_mul, Int.one_mul, Int.mul_comm h w] at b
  omega
theorem place_y {w h x y : Int} (hi : ins w h x y) : 0 ≤ y * w ∧ y * w < w * h := by
  obtain ⟨h1, h2, h3, h4⟩ := hi
  have a : 0 ≤ y * w := Int.mul_nonneg h2 (by omega)
  have b : (y + 1) * w ≤ h * w := Int.mul_le_mul_of_nonneg_right (by omega) (by omega)
  rw [Int.add_mul, Int.one_mul, Int.mul_comm h w] at b
  omega
theorem px_01 {w h : Int} {pix : List Int} (h0 : ∀ v ∈ pix, 0 ≤ v ∧ v ≤ 1) (x y : Int) : 0 ≤ px w h pix x y ∧ px w h pix x y ≤ 1 := by
  unfold px
  split
  · by_cases hl : (y * w + x).toNat < pix.length
    · exact h0 _ (getD_mem hl 0)
    · rw [List.getD_eq_getElem?_getD, List.getElem?_eq_none (by omega)]
      simp
  · omega
theorem at_ok {fl : Nat} {w h : Int} {pix : List Int} {x y : Int} (hm : w * h ≤ 9000000000000000000) (hl : (pix.length : Int) = w * h) (h0 : ∀ v ∈ pix, 0 ≤ v ∧ v ≤ 255) {K : Int → Option Ans} : F_ref05_At fl w h pix x y K = K (px w h pix x y) := by
  unfold F_ref05_At F_ref05_inside px
  simp only [cd]
  by_cases hi : ins w h x y
  · have hp := place hi
    have hy := place_y hi
    rw [if_pos hi]
    obtain ⟨h1, h2, h3, h4⟩ := hi
    rw [if_pos (by omega), if_pos (by omega), if_pos (by omega), decide_eq_true h4, cond_f (b := !true) rfl, wrap64 (x := y * w) (by omega) (by omega), wrap64 (x := y * w + x) (by omega) (by omega), if_pos (by omega)]
    have := h0 _ (getD_mem (show (y * w + x).toNat < pix.length by omega) 0)
    rw [wrap64 (by omega) (by omega)]
  · rw [if_neg hi]
    unfold ins at hi
    split
    · split
      · split
        · rw [decide_eq_false (by omega)]; rfl
        · rfl
      · rfl
    · rfl
end Go.Proofs.Ytihfgpfofmjbaaa.Bm

set_option linter.unusedVariables false
set_option linter.unusedSimpArgs false
namespace Go.Proofs.Ytihfgpfofmjbaaa.Gen
open Go Ev Bm

def vr (t ax ay kd : Int) : Bool := decide (0 ≤ t ∧ t ≤ 3 ∧ (kd = 0 ∨ kd = 1) ∧ -8 ≤ ax ∧ ax ≤ 8 ∧ -8 ≤ ay ∧ ay ≤ 0 ∧ (ay < 0 ∨ ax < 0))
theorem vr_iff {t ax ay kd : Int} : vr t ax ay kd = true ↔ 0 ≤ t ∧ t ≤ 3 ∧ (kd = 0 ∨ kd = 1) ∧ -8 ≤ ax ∧ ax ≤ 8 ∧ -8 ≤ ay ∧ ay ≤ 0 ∧ (ay < 0 ∨ ax < 0) := by simp [vr]
theorem gvalid {fl : Nat} {t ax ay kd : Int} {ty : Bool} {K : Bool → Option Ans} : F_generic_Valid fl t ax ay ty kd K = K (vr t ax ay kd) := by
  unfold F_generic_Valid vr
  simp only [cd, cb]
  repeat' split
  all_goals first
    | exact congrArg K (decide_eq_true (by omega)).symm
    | exact congrArg K (decide_eq_false (by omega)).symm
    | exact congrArg K (decide_eq_decide.2 (by omega))
theorem rvalid {fl : Nat} {t ax ay kd : Int} {ty : Bool} {K : Bool → Option Ans} : F_ref07_Valid fl t ax ay ty kd K = K (vr t ax ay kd) := by
  unfold F_ref07_Valid vr
  simp only [cd, cb]
  repeat' split
  all_goals first
    | exact congrArg K (decide_eq_true (by omega)).symm
    | exact congrArg K (decide_eq_false (by omega)).symm
    | exact congrArg K (decide_eq_decide.2 (by omega))

/-- The offsets of a template. -/
def tpl (t : Int) : List (Int × Int) :=
  if t = 0 then [(-1, -2), (0, -2), (1, -2), (-2, -1), (-1, -1), (0, -1), (1, -1), (2, -1), (-2, 0), (-1, 0)]
  else if t = 1 then [(-1, -2), (0, -2), (-1, -1), (0, -1), (1, -1), (-2, 0), (-1, 0)]
  else if t = 2 then [(-2, -1), (-1, -1), (0, -1), (1, -1), (2, -1), (-2, 0), (-1, 0)]
  else [(-1, -1), (0, -1), (1, -1), (-1, 0)]
theorem gpixels {fl : Nat} {t : Int} {K : List (Int × Int) → Option Ans} : F_generic_pixels fl t K = K (tpl t) := by
  unfold F_generic_pixels tpl
  simp only [cb, apply_ite K]
theorem rtemplate {fl : Nat} {t : Int} {K : List (Int × Int) → Option Ans} : F_ref07_template fl t K = K (tpl t) := by
  unfold F_ref07_template tpl
  simp only [cb, apply_ite K]
theorem tpl_len (t : Int) : (tpl t).length ≤ 10 := by
  unfold tpl
  repeat' split
  all_goals simp
theorem tpl_near (t : Int) : ∀ d ∈ tpl t, -8 ≤ d.1 ∧ d.1 ≤ 8 ∧ -8 ≤ d.2 ∧ d.2 ≤ 0 := by
  unfold tpl
  repeat' split
  all_goals decide

/-- All offsets of a context. -/
def around (t ax ay : Int) : List (Int × Int) := tpl t ++ [(ax, ay)]
theorem around_len (t ax ay : Int) : (around t ax ay).length = (tpl t).length + 1 := by simp [around]
theorem rpixels {fl : Nat} {t ax ay kd : Int} {ty : Bool} {K : List (Int × Int) → Option Ans} : F_ref07_pixels fl t ax ay ty kd K = K (around t ax ay) := by
  have := tpl_len t
  unfold F_ref07_pixels around
  simp only [rtemplate]
  rw [dec_t (by simp; omega)]
  simp only [both_same]

/-- How many contexts a region takes. -/
def size (t : Int) : Int := 2 ^ ((tpl t).length + 1) + 1
theorem size_eq {t : Int} : size t = 2048 + 1 ∨ size t = 256 + 1 ∨ size t = 32 + 1 := by
  unfold size tpl
  repeat' split
  all_goals decide
theorem ishl_two {n : Nat} (h : n ≤ 60) : ishl .i64 2 (n : Int) = 2 ^ (n + 1) := by
  unfold ishl
  have hb : min (n : Int).toNat IntKind.i64.bits = n := by
    have : IntKind.i64.bits = 64 := rfl
    rw [this]
    omega
  rw [hb]
  have e : (2 : Int) * 2 ^ n = 2 ^ (n + 1) := by rw [Int.pow_succ]; omega
  rw [e]
  have h1 : (2 : Int) ^ (n + 1) ≤ 2 ^ 61 := by
    have := Nat.pow_le_pow_right (n := 2) (by omega) (show n + 1 ≤ 61 by omega)
    exact_mod_cast this
  have h2 : (0 : Int) < 2 ^ (n + 1) := Int.pow_pos (by omega)
  exact wrap64 (by omega) (by omega)
/-- What Size returns. -/
def sizeR (t ax ay kd : Int) : Int × Int := if vr t ax ay kd = true then (size t, 0) else (0, 2)
theorem gcontexts {fl : Nat} {t ax ay kd : Int} {ty : Bool} {K : Int → Option Ans} : F_generic_contexts fl t ax ay ty kd K = K (size t - 1) := by
  have := tpl_len t
  unfold F_generic_contexts
  rw [gpixels, ishl_two (by omega)]
  unfold size
  rw [Int.add_sub_cancel]
theorem gsize {fl : Nat} {t ax ay kd : Int} {ty : Bool} {K : Int × Int → Option Ans} : F_generic_Size fl t ax ay ty kd K = K (sizeR t ax ay kd) := by
  unfold F_generic_Size sizeR
  rw [gvalid]
  cases h : vr t ax ay kd with
  | false => rfl
  | true =>
    rw [cond_f (b := !true) rfl, gcontexts, if_pos rfl]
    have := size_eq (t := t)
    rw [wrap64 (by omega) (by omega), Int.sub_add_cancel]
theorem rsize {fl : Nat} {t ax ay kd : Int} {ty : Bool} {K : Int × Int → Option Ans} : F_ref07_Size fl t ax ay ty kd K = K (sizeR t ax ay kd) := by
  unfold F_ref07_Size sizeR
  rw [rvalid]
  cases h : vr t ax ay kd with
  | false => rfl
  | true =>
    have hl := tpl_len t
    have := size_eq (t := t)
    rw [cond_f (b := !true) rfl, rpixels, if_pos rfl, around_len, ishl_one (by omega) (by omega), Int.toNat_natCast]
    unfold size at this ⊢
    rw [wrap64 (by omega) (by omega)]

theorem gplane {fl : Nat} {t ax ay kd w h : Int} {ty : Bool} {K : Int × Int × List Int × List (Int × Int) → Option Ans} (h0 : 0 ≤ w * h) (h1 : w * h ≤ 1000000000) :
    F_generic_newPlane fl t ax ay ty kd w h K = K (w, h, List.replicate (w * h).toNat 0, around t ax ay) := by
  have := tpl_len t
  unfold F_generic_newPlane around
  simp only [gpixels, wrap64 (show -9223372036854775808 ≤ w * h by omega) (show w * h ≤ 9223372036854775807 by omega)]
  have c1 : decide ((0 : Int) ≤ w * h ∧ True ∧ ((1 : Nat) : Int) * (w * h) ≤ 281474976710656 ∧ w * h ≤ 281474976710656) = true := decide_eq_true ⟨h0, trivial, by omega, by omega⟩
  have c2 : decide (((tpl t).length + [(ax, ay)].length) * 16 ≤ 140737488355328 ∧ (tpl t).length + [(ax, ay)].length ≤ 140737488355328) = true := decide_eq_true (by simp; omega)
  simp only [c1, c2, cond_true, both_same]

/-! ### The context of a pixel -/
def ctxv (w h : Int) (p : List Int) (x y : Int) (l : List (Int × Int)) : Int := l.foldl (fun n d => 2 * n + px w h p (x + d.1) (y + d.2)) 0
theorem ctxv_take {w h : Int} {p : List Int} {x y : Int} {l : List (Int × Int)} {i : Nat} (hi : i < l.length) :
    ctxv w h p x y (l.take (i + 1)) = 2 * ctxv w h p x y (l.take i) + px w h p (x + (l.getD i (0, 0)).1) (y + (l.getD i (0, 0)).2) := by
  unfold ctxv
  rw [take_succ_getD hi (0, 0), List.foldl_append]
  rfl
theorem ctxv_lt {w h : Int} {p : List Int} (h0 : ∀ v ∈ p, 0 ≤ v ∧ v ≤ 1) {x y : Int} {l : List (Int × Int)} : ∀ i, i ≤ l.length → 0 ≤ ctxv w h p x y (l.take i) ∧ ctxv w h p x y (l.take i) < 2 ^ i
  | 0, _ => by simp [ctxv]
  | i + 1, hi => by
    obtain ⟨a, b⟩ := ctxv_lt h0 (w := w) (h := h) (x := x) (y := y) (l := l) i (by omega)
    have c := px_01 (w := w) (h := h) h0 (x + (l.getD i (0, 0)).1) (y + (l.getD i (0, 0)).2)
    rw [ctxv_take (by omega), Int.pow_succ]
    omega
theorem ctxv_small {w h : Int} {p : List Int} (h0 : ∀ v ∈ p, 0 ≤ v ∧ v ≤ 1) {x y : Int} {l : List (Int × Int)} (hl : l.length ≤ 11) {i : Nat} (hi : i ≤ l.length) : 0 ≤ ctxv w h p x y (l.take i) ∧ ctxv w h p x y (l.take i) < 2048 := by
  have a := ctxv_lt h0 (w := w) (h := h) (x := x) (y := y) i hi
  have b : (2 : Int) ^ i ≤ 2 ^ 11 := by
    have := Nat.pow_le_pow_right (n := 2) (by omega) (show i ≤ 11 by omega)
    exact_mod_cast this
  have c : (2 : Int) ^ 11 = 2048 := by decide
  omega

/-- A bitmap's pixels. -/
structure Pix (w h : Int) (p : List Int) : Prop where
  w0 : 0 ≤ w
  h0 : 0 ≤ h
  w1 : w ≤ 200
  h1 : h ≤ 200
  n : w * h ≤ 8192
  len : (p.length : Int) = w * h
  bit : ∀ v ∈ p, 0 ≤ v ∧ v ≤ 1
theorem pix_of {w h : Int} {p : List Int} (hv : valid w h p = true) (h0 : ∀ v ∈ p, 0 ≤ v) : Pix w h p := by
  obtain ⟨⟨a, b, c, d, e⟩, f, g⟩ := valid_iff.1 hv
  exact ⟨a, b, c, d, e, f, fun v hv => ⟨h0 v hv, g v hv⟩⟩
theorem Pix.mul0 {w h : Int} {p : List Int} (hp : Pix w h p) : 0 ≤ w * h := by have := hp.len; omega

theorem gat {fl : Nat} {w h : Int} {p : List Int} (hp : Pix w h p) {x y : Int} {l : List (Int × Int)} {K : Int × Int × Int × List Int × List (Int × Int) → Option Ans} :
    F_generic_plane_at_a34 fl x y w h p l K = K (px w h p x y, w, h, p, l) := by
  have hl := hp.len
  have hn := hp.n
  unfold F_generic_plane_at_a34 px
  simp only [cd]
  by_cases hi : ins w h x y
  · have hq := place hi
    have hy := place_y hi
    rw [if_pos hi]
    obtain ⟨h1, h2, h3, h4⟩ := hi
    rw [if_neg (by omega), if_neg (by omega), if_neg (by omega), if_neg (by omega), wrap64 (x := y * w) (by omega) (by omega), wrap64 (x := y * w + x) (by omega) (by omega), if_pos (by omega)]
    try rw [both_same]
  · rw [if_neg hi]
    unfold ins at hi
    repeat' split
    all_goals first | rfl | omega

theorem gcontext {fl : Nat} (hfl : 9223372036854775808 ≤ fl) {w h : Int} {p : List Int} (hp : Pix w h p) {x y : Int} {l : List (Int × Int)} (hx : -1000 ≤ x ∧ x ≤ 1000) (hy : -1000 ≤ y ∧ y ≤ 1000) (hl : l.length ≤ 11) (hd : ∀ d ∈ l, -8 ≤ d.1 ∧ d.1 ≤ 8 ∧ -8 ≤ d.2 ∧ d.2 ≤ 0)
    {K : Int × Int × Int × List Int × List (Int × Int) → Option Ans} : F_generic_plane_context_a34 fl x y w h p l K = K (ctxv w h p x y l, w, h, p, l) := by
  unfold F_generic_plane_context_a34 L_generic_plane_context_a34_0
  refine iter_seq (step := S_generic_plane_context_a34_0 fl) (fun i : Nat => (x, y, ctxv w h p x y (l.take i), (l.length : Int), (i : Int), w, h, p, l)) l.length rfl (fun i hi c => ?_) (fun c => ?_) (by omega)
  · have e := hd _ (getD_mem hi (0, 0))
    have a := ctxv_small hp.bit (w := w) (h := h) (x := x) (y := y) hl (show i ≤ l.length by omega)
    have b := px_01 (w := w) (h := h) hp.bit (x + (l.getD i (0, 0)).1) (y + (l.getD i (0, 0)).2)
    simp (disch := omega) only [S_generic_plane_context_a34_0, dec_t, Int.toNat_natCast, wrap64, gat hp]
    rw [ctxv_take hi]
    rfl
  · simp (disch := omega) only [S_generic_plane_context_a34_0, dec_f, List.take_length]

theorem rcontext {fl : Nat} (hfl : 9223372036854775808 ≤ fl) {w h : Int} {p : List Int} (hp : Pix w h p) {t ax ay kd x y : Int} {ty : Bool} (hv : vr t ax ay kd = true) (hx : -1000 ≤ x ∧ x ≤ 1000) (hy : -1000 ≤ y ∧ y ≤ 1000)
    {K : Int → Option Ans} : F_ref07_context fl t ax ay ty kd w h p x y K = K (ctxv w h p x y (around t ax ay)) := by
  obtain ⟨_, _, _, v1, v2, v3, v4, _⟩ := vr_iff.1 hv
  unfold F_ref07_context
  rw [rpixels]
  have hl : (around t ax ay).length ≤ 11 := by have := tpl_len t; rw [around_len]; omega
  have hd : ∀ d ∈ around t ax ay, -8 ≤ d.1 ∧ d.1 ≤ 8 ∧ -8 ≤ d.2 ∧ d.2 ≤ 0 := by
    intro d hd
    unfold around at hd
    rcases List.mem_append.1 hd with hd | hd
    · exact tpl_near t d hd
    · simp at hd; subst hd; exact ⟨v1, v2, v3, v4⟩
  have hn := hp.n
  generalize around t ax ay = l at hl hd
  unfold L_ref07_context_0
  refine iter_seq (step := S_ref07_context_0 fl) (fun i : Nat => (x, y, ctxv w h p x y (l.take i), (i : Int), w, h, p, l)) l.length rfl (fun i hi c => ?_) (fun c => ?_) (by omega)
  · have e := hd _ (getD_mem hi (0, 0))
    have a := ctxv_small hp.bit (w := w) (h := h) (x := x) (y := y) hl (show i ≤ l.length by omega)
    have b := px_01 (w := w) (h := h) hp.bit (x + (l.getD i (0, 0)).1) (y + (l.getD i (0, 0)).2)
    have hat : ∀ x y K, F_ref05_At fl w h p x y K = K (px w h p x y) := fun x y K => at_ok (by omega) hp.len (fun v hv => by have := hp.bit v hv; omega)
    simp (disch := omega) only [S_ref07_context_0, dec_t, Int.toNat_natCast, wrap64, hat, both_same]
    rw [ctxv_take hi]
    rfl
  · simp (disch := omega) only [S_ref07_context_0, dec_f, List.take_length]

/-- What Context returns. -/
def contextR (t ax ay kd w h : Int) (p : List Int) (x y : Int) : Int × Int :=
  if vr t ax ay kd = true then (if valid w h p = true then (if ins w h x y then (ctxv w h p x y (around t ax ay), 0) else (0, 2)) else (0, 30)) else (0, 2)
theorem gContext {fl : Nat} (hfl : 9223372036854775808 ≤ fl) {w h : Int} {p : List Int} (h0 : ∀ v ∈ p, 0 ≤ v) {t ax ay kd x y : Int} {ty : Bool} {K : Int × Int → Option Ans} :
    F_generic_Context fl t ax ay ty kd w h p x y K = K (contextR t ax ay kd w h p x y) := by
  unfold F_generic_Context contextR
  rw [gvalid]
  cases hv : vr t ax ay kd with
  | false => rfl
  | true =>
    rw [cond_f (b := !true) rfl, valid_ok hfl, if_pos rfl]
    cases hb : valid w h p with
    | false => rfl
    | true =>
      rw [cond_f (b := !true) rfl, if_pos rfl]
      have hp := pix_of hb h0
      simp only [cd]
      by_cases hi : ins w h x y
      · rw [if_pos hi]
        obtain ⟨h1, h2, h3, h4⟩ := hi
        have := hp.mul0; have := hp.n; have := hp.w1; have := hp.h1
        obtain ⟨_, _, _, v1, v2, v3, v4, _⟩ := vr_iff.1 hv
        rw [if_neg (by omega), if_neg (by omega), if_neg (by omega), if_neg (by omega), gplane (by omega) (by omega)]
        dsimp only
        rw [gcontext hfl hp (by omega) (by omega) (by have := tpl_len t; rw [around_len]; omega)]
        intro d hd
        unfold around at hd
        rcases List.mem_append.1 hd with hd | hd
        · exact tpl_near t d hd
        · simp at hd; subst hd; exact ⟨v1, v2, v3, v4⟩
      · rw [if_neg hi]
        unfold ins at hi
        repeat' split
        all_goals first | rfl | omega
theorem sane {fl : Nat} (hfl : 9223372036854775808 ≤ fl) {K : Bool → Option Ans} : F_law07_Sane fl K = K true := by
  unfold F_law07_Sane
  rw [gsize]
  have e1 : sizeR 3 2 (-1) 0 = (33, 0) := by decide
  rw [e1]
  dsimp only
  rw [gContext hfl (by decide)]
  have e2 : contextR 3 (-2) 0 0 4 1 [1, 0, 1, 1] 2 0 = (1, 0) := by decide
  rw [e2]
  rfl
end Go.Proofs.Ytihfgpfofmjbaaa.Gen

set_option linter.unusedVariables false
set_option linter.unusedSimpArgs false
namespace Go.Proofs.Ytihfgpfofmjbaaa.Co
open Go Ev

/-- Where the interval is cut. -/
def mid (lo hi p : Int) : Int := lo + (hi - lo) / 4096 * p + (hi - lo) % 4096 * p / 4096
theorem mid_in {lo hi p : Int} (h : lo < hi) (h1 : 1 ≤ p) (h2 : p ≤ 4095) : lo ≤ mid lo hi p ∧ mid lo hi p < hi := by
  unfold mid
  have hr : 1 ≤ hi - lo := by omega
  have e := Int.emod_add_mul_ediv (hi - lo) 4096
  have b0 : 0 ≤ (hi - lo) % 4096 := Int.emod_nonneg _ (by omega)
  have b1 : (hi - lo) % 4096 < 4096 := Int.emod_lt_of_pos _ (by omega)
  have a0 : 0 ≤ (hi - lo) / 4096 := Int.ediv_nonneg (by omega) (by omega)
  generalize (hi - lo) % 4096 = b at *
  generalize (hi - lo) / 4096 = a at *
  have m1 : 0 ≤ a * p := Int.mul_nonneg a0 (by omega)
  have m2 : a * p ≤ a * 4095 := Int.mul_le_mul_of_nonneg_left h2 a0
  have m3 : 0 ≤ b * p := Int.mul_nonneg b0 (by omega)
  have m4 : b * p ≤ b * 4095 := Int.mul_le_mul_of_nonneg_left h2 b0
  generalize a * p = x at *
  generalize b * p = y at *
  omega
theorem mid_parts {lo hi p : Int} (h : lo ≤ hi) (hl : 0 ≤ lo) (hh : hi < 4294967296) (h1 : 1 ≤ p) (h2 : p ≤ 4095) :
    0 ≤ (hi - lo) / 4096 * p ∧ (hi - lo) / 4096 * p < 4294967296 ∧ 0 ≤ (hi - lo) % 4096 * p ∧ (hi - lo) % 4096 * p < 4294967296 := by
  have b0 : 0 ≤ (hi - lo) % 4096 := Int.emod_nonneg _ (by omega)
  have b1 : (hi - lo) % 4096 < 4096 := Int.emod_lt_of_pos _ (by omega)
  have a0 : 0 ≤ (hi - lo) / 4096 := Int.ediv_nonneg (by omega) (by omega)
  have e := Int.emod_add_mul_ediv (hi - lo) 4096
  generalize (hi - lo) % 4096 = b at *
  generalize (hi - lo) / 4096 = a at *
  have m1 : 0 ≤ a * p := Int.mul_nonneg a0 (by omega)
  have m2 : a * p ≤ a * 4095 := Int.mul_le_mul_of_nonneg_left h2 a0
  have m3 : 0 ≤ b * p := Int.mul_nonneg b0 (by omega)
  have m4 : b * p ≤ b * 4095 := Int.mul_le_mul_of_nonneg_left h2 b0
  generalize a * p = x at *
  generalize b * p = y at *
  omega

/-- Whether both ends have the same highest byte. -/
def same (lo hi : Int) : Prop := lo / 16777216 = hi / 16777216
instance (lo hi : Int) : Decidable (same lo hi) := by unfold same; infer_instance
def nl (lo : Int) : Int := lo % 16777216 * 256
def nh (hi : Int) : Int := hi % 16777216 * 256 + 255
structure Rg (lo hi : Int) : Prop where
  l : 0 ≤ lo
  m : lo ≤ hi
  h : hi < 4294967296
theorem Rg.next {lo hi : Int} (h : Rg lo hi) (hs : same lo hi) : Rg (nl lo) (nh hi) := by
  obtain ⟨a, b, c⟩ := h
  unfold same at hs
  unfold nl nh
  constructor <;> omega
/-- The interval behind its shifts: how many, and the ends. -/
def nrm : Nat → Int → Int → Nat × Int × Int
  | 0, lo, hi => (0, lo, hi)
  | n + 1, lo, hi => if same lo hi then ((nrm n (nl lo) (nh hi)).1 + 1, (nrm n (nl lo) (nh hi)).2) else (0, lo, hi)
/-- The bytes that are shifted out. -/
def nrmB : Nat → Int → Int → List Int
  | 0, _, _ => []
  | n + 1, lo, hi => if same lo hi then lo / 16777216 :: nrmB n (nl lo) (nh hi) else []
theorem nrmB_len : ∀ (n : Nat) (lo hi : Int), (nrmB n lo hi).length = (nrm n lo hi).1
  | 0, _, _ => rfl
  | n + 1, lo, hi => by
    unfold nrmB nrm
    split
    · simp [nrmB_len n]
    · rfl
theorem nrm_le : ∀ (n : Nat) (lo hi : Int), (nrm n lo hi).1 ≤ n
  | 0, _, _ => Nat.le_refl _
  | n + 1, lo, hi => by
    unfold nrm
    split
    · have := nrm_le n (nl lo) (nh hi)
      show _ + 1 ≤ n + 1
      omega
    · exact Nat.zero_le _
theorem nrmB_byte : ∀ (n : Nat) {lo hi : Int}, Rg lo hi → ∀ b ∈ nrmB n lo hi, 0 ≤ b ∧ b ≤ 255
  | 0, _, _, _, b, hb => by cases hb
  | n + 1, lo, hi, h, b, hb => by
    unfold nrmB at hb
    split at hb
    · rename_i hs
      rcases List.mem_cons.1 hb with rfl | hb
      · obtain ⟨a, b, c⟩ := h
        omega
      · exact nrmB_byte n (h.next hs) b hb
    · cases hb
theorem nrm_rg : ∀ (n : Nat) {lo hi : Int}, Rg lo hi → Rg (nrm n lo hi).2.1 (nrm n lo hi).2.2
  | 0, _, _, h => h
  | n + 1, lo, hi, h => by
    unfold nrm
    split
    · rename_i hs
      exact nrm_rg n (h.next hs)
    · exact h
theorem nrm_same {n : Nat} {lo hi : Int} (h : same lo hi) : (nrm (n + 1) lo hi).2 = (nrm n (nl lo) (nh hi)).2 := by
  rw [nrm, if_pos h]
theorem nrm_diff {n : Nat} {lo hi : Int} (h : ¬ same lo hi) : (nrm (n + 1) lo hi).2 = (lo, hi) := by
  rw [nrm, if_neg h]
theorem ends4 {lo hi : Int} (h : Rg lo hi) (h1 : lo = 0) (h2 : hi = 4294967295) {n : Nat} : ¬ same (nrm (n + 1) lo hi).2.1 (nrm (n + 1) lo hi).2.2 := by
  have hs : ¬ same lo hi := by unfold same; omega
  rw [nrm_diff hs]
  exact hs
theorem ends3 {lo hi : Int} (h : Rg lo hi) (h1 : lo % 16777216 = 0) (h2 : hi % 16777216 = 16777215) : ¬ same (nrm 2 lo hi).2.1 (nrm 2 lo hi).2.2 := by
  by_cases hs : same lo hi
  · rw [nrm_same hs]
    exact ends4 (h.next hs) (by unfold nl; omega) (by unfold nh; omega)
  · rw [nrm_diff hs]
    exact hs
theorem ends2 {lo hi : Int} (h : Rg lo hi) (h1 : lo % 65536 = 0) (h2 : hi % 65536 = 65535) : ¬ same (nrm 3 lo hi).2.1 (nrm 3 lo hi).2.2 := by
  by_cases hs : same lo hi
  · rw [nrm_same hs]
    exact ends3 (h.next hs) (by unfold nl; omega) (by unfold nh; omega)
  · rw [nrm_diff hs]
    exact hs
theorem ends1 {lo hi : Int} (h : Rg lo hi) (h1 : lo % 256 = 0) (h2 : hi % 256 = 255) : ¬ same (nrm 4 lo hi).2.1 (nrm 4 lo hi).2.2 := by
  by_cases hs : same lo hi
  · rw [nrm_same hs]
    exact ends2 (h.next hs) (by unfold nl; omega) (by unfold nh; omega)
  · rw [nrm_diff hs]
    exact hs
/-- Four shifts are always enough. -/
theorem nrm_ends {lo hi : Int} (h : Rg lo hi) : ¬ same (nrm 5 lo hi).2.1 (nrm 5 lo hi).2.2 := by
  by_cases hs : same lo hi
  · rw [nrm_same hs]
    exact ends1 (h.next hs) (by unfold nl; omega) (by unfold nh; omega)
  · rw [nrm_diff hs]
    exact hs
theorem lt_of {lo hi : Int} (h : Rg lo hi) (hs : ¬ same lo hi) : lo < hi := by
  obtain ⟨a, b, c⟩ := h
  unfold same at hs
  omega
theorem nrm_lt {lo hi : Int} (h : Rg lo hi) : (nrm 5 lo hi).2.1 < (nrm 5 lo hi).2.2 := lt_of (nrm_rg 5 h) (nrm_ends h)

/-- A loop that shifts until the highest bytes differ. -/
theorem shifts {V B : Type} {step : V → (V → Option Ans) → B → Option Ans} {b : B} {r : Option Ans} (σ : Nat → Int → Int → V) (hstep : ∀ k lo hi c, Rg lo hi → same lo hi → step (σ k lo hi) c b = c (σ (k + 1) (nl lo) (nh hi)))
    : ∀ (n : Nat) (k : Nat) (lo hi : Int) (m : Nat), Rg lo hi → ¬ same (nrm n lo hi).2.1 (nrm n lo hi).2.2 → n < m → (∀ c, step (σ (k + (nrm n lo hi).1) (nrm n lo hi).2.1 (nrm n lo hi).2.2) c b = r) → iter step m (σ k lo hi) b = r
  | n, k, lo, hi, 0, _, _, hm, _ => by omega
  | 0, k, lo, hi, m + 1, hr, hs, hm, hn => hn _
  | n + 1, k, lo, hi, m + 1, hr, hs, hm, hn => by
    simp only [iter]
    by_cases h : same lo hi
    · rw [hstep k lo hi _ hr h]
      refine shifts σ hstep n (k + 1) (nl lo) (nh hi) m (hr.next h) (by rw [← nrm_same h]; exact hs) (by omega) fun c => ?_
      have e := hn c
      rw [nrm, if_pos h] at e
      rw [show k + 1 + (nrm n (nl lo) (nh hi)).1 = k + ((nrm n (nl lo) (nh hi)).1 + 1) by omega]
      exact e
    · have e := hn (fun v => iter step m v b)
      rw [nrm, if_neg h] at e
      exact e

/-! ### A stream of bytes, and its windows -/
def Byt (S : Nat → Int) : Prop := ∀ n, 0 ≤ S n ∧ S n ≤ 255
def win (S : Nat → Int) (n : Nat) : Int := S n * 16777216 + S (n + 1) * 65536 + S (n + 2) * 256 + S (n + 3)
theorem win_next {S : Nat → Int} (h : Byt S) (n : Nat) : win S (n + 1) = win S n % 16777216 * 256 + S (n + 4) := by
  have a := h n; have b := h (n + 1); have c := h (n + 2); have d := h (n + 3); have e := h (n + 4)
  have e0 : win S n = S n * 16777216 + S (n + 1) * 65536 + S (n + 2) * 256 + S (n + 3) := rfl
  have e1 : win S (n + 1) = S (n + 1) * 16777216 + S (n + 2) * 65536 + S (n + 3) * 256 + S (n + 4) := rfl
  omega
theorem win_rg {S : Nat → Int} (h : Byt S) (n : Nat) : 0 ≤ win S n ∧ win S n < 4294967296 := by
  have a := h n; have b := h (n + 1); have c := h (n + 2); have d := h (n + 3)
  have e0 : win S n = S n * 16777216 + S (n + 1) * 65536 + S (n + 2) * 256 + S (n + 3) := rfl
  omega
/-- Backwards through the shifts: what lies in the interval behind them lies in the one in front. -/
theorem back {S : Nat → Int} (hS : Byt S) : ∀ (f : Nat) (lo hi : Int) (n : Nat), Rg lo hi → (∀ i, i < (nrm f lo hi).1 → S (n + i) = (nrmB f lo hi).getD i 0) →
    (nrm f lo hi).2.1 ≤ win S (n + (nrm f lo hi).1) → win S (n + (nrm f lo hi).1) ≤ (nrm f lo hi).2.2 → lo ≤ win S n ∧ win S n ≤ hi
  | 0, lo, hi, n, _, _, h1, h2 => ⟨h1, h2⟩
  | f + 1, lo, hi, n, hr, hb, h1, h2 => by
    by_cases h : same lo hi
    · have e1 : nrm (f + 1) lo hi = ((nrm f (nl lo) (nh hi)).1 + 1, (nrm f (nl lo) (nh hi)).2) := by rw [nrm, if_pos h]
      have e2 : nrmB (f + 1) lo hi = lo / 16777216 :: nrmB f (nl lo) (nh hi) := by rw [nrmB, if_pos h]
      rw [e1] at h1 h2 hb
      rw [e2] at hb
      simp only at h1 h2 hb
      have h0 := hb 0 (by omega)
      simp only [Nat.add_zero, List.getD_cons_zero] at h0
      have ih := back hS f (nl lo) (nh hi) (n + 1) (hr.next h) (fun i hi' => by
        have := hb (i + 1) (by omega)
        rw [List.getD_cons_succ] at this
        rw [← this, show n + 1 + i = n + (i + 1) by omega])
        (by rw [show n + 1 + (nrm f (nl lo) (nh hi)).1 = n + ((nrm f (nl lo) (nh hi)).1 + 1) by omega]; exact h1)
        (by rw [show n + 1 + (nrm f (nl lo) (nh hi)).1 = n + ((nrm f (nl lo) (nh hi)).1 + 1) by omega]; exact h2)
      rw [win_next hS n] at ih
      have a := hS n; have b := hS (n + 1); have c := hS (n + 2); have d := hS (n + 3); have e := hS (n + 4)
      have w0 : win S n = S n * 16777216 + S (n + 1) * 65536 + S (n + 2) * 256 + S (n + 3) := rfl
      obtain ⟨r1, r2, r3⟩ := hr
      unfold same at h
      unfold nl nh at ih
      generalize win S n = w at *
      omega
    · have e1 : nrm (f + 1) lo hi = (0, lo, hi) := by rw [nrm, if_neg h]
      rw [e1] at h1 h2
      exact ⟨h1, h2⟩
end Go.Proofs.Ytihfgpfofmjbaaa.Co

set_option linter.unusedVariables false
set_option linter.unusedSimpArgs false
namespace Go.Proofs.Ytihfgpfofmjbaaa.Co
open Go Ev

def q : Nat → Int
  | 0 => 2048
  | k + 1 => q k - q k / 8
theorem q_rg : ∀ k : Fin 32, 1 ≤ q k.val ∧ q k.val ≤ 2048 := by decide
/-- How likely a 1 is. -/
def pr (kd s : Int) : Int :=
  if kd = 1 then min (max ((2 * (s % 256) + 1) * 4096 / (2 * (s / 256) + 2 * (s % 256) + 2)) 1) 4095
  else if 32 ≤ s then 4096 - q (s - 32).toNat else q s.toNat
def most (kd : Int) : Int := if kd = 1 then 65536 else 64
def vst (kd s : Int) : Prop := 0 ≤ s ∧ s < most kd
theorem pr_rg {kd s : Int} (hk : kd = 0 ∨ kd = 1) (h : vst kd s) : 1 ≤ pr kd s ∧ pr kd s ≤ 4095 := by
  unfold vst most at h
  unfold pr
  by_cases h1 : kd = 1
  · rw [if_pos h1]
    omega
  · rw [if_neg h1] at h ⊢
    split
    · have := q_rg ⟨(s - 32).toNat, by omega⟩
      simp only at this
      omega
    · have := q_rg ⟨s.toNat, by omega⟩
      simp only at this
      omega
/-- The state behind a bit. -/
def nx (kd s bit : Int) : Int :=
  if kd = 1 then
    (if bit = 0 then (if s / 256 = 255 then 256 * 128 + s % 256 / 2 else 256 * (s / 256 + 1) + s % 256)
     else (if s % 256 = 255 then 256 * (s / 256 / 2) + 128 else 256 * (s / 256) + (s % 256 + 1)))
  else if bit = s / 32 then 32 * (s / 32) + min (s % 32 + 1) 31
  else if s % 32 = 0 then 32 * bit
  else 32 * (s / 32) + (s % 32 - (1 + s % 32 / 4))
theorem nx_rg {kd s bit : Int} (hk : kd = 0 ∨ kd = 1) (h : vst kd s) (hb : bit = 0 ∨ bit = 1) : vst kd (nx kd s bit) := by
  unfold vst most at *
  unfold nx
  by_cases h1 : kd = 1
  · rw [if_pos h1] at h ⊢
    rw [if_pos h1]
    split <;> split <;> omega
  · rw [if_neg h1] at h ⊢
    rw [if_neg h1]
    split
    · omega
    · split <;> omega

/-- An interval and its model's states. -/
structure Iv where
  st : List Int
  lo : Int
  hi : Int
structure Iv.Ok (kd : Int) (x : Iv) : Prop where
  k : kd = 0 ∨ kd = 1
  r : Rg x.lo x.hi
  d : ¬ same x.lo x.hi
  s : ∀ s ∈ x.st, vst kd s
def Iv.mid (kd : Int) (x : Iv) (c : Int) : Int := Co.mid x.lo x.hi (pr kd (x.st.getD c.toNat 0))
def Iv.clo (kd : Int) (x : Iv) (c b : Int) : Int := if b = 1 then x.lo else x.mid kd c + 1
def Iv.chi (kd : Int) (x : Iv) (c b : Int) : Int := if b = 1 then x.mid kd c else x.hi
def Iv.many (kd : Int) (x : Iv) (c b : Int) : Nat := (nrm 5 (x.clo kd c b) (x.chi kd c b)).1
def Iv.bytes (kd : Int) (x : Iv) (c b : Int) : List Int := nrmB 5 (x.clo kd c b) (x.chi kd c b)
def Iv.next (kd : Int) (x : Iv) (c b : Int) : Iv :=
  ⟨x.st.set c.toNat (nx kd (x.st.getD c.toNat 0) b), (nrm 5 (x.clo kd c b) (x.chi kd c b)).2.1, (nrm 5 (x.clo kd c b) (x.chi kd c b)).2.2⟩
theorem Iv.bytes_len (kd : Int) (x : Iv) (c b : Int) : (x.bytes kd c b).length = x.many kd c b := nrmB_len _ _ _
theorem Iv.next_len (kd : Int) (x : Iv) (c b : Int) : (x.next kd c b).st.length = x.st.length := by simp [Iv.next]
theorem Iv.Ok.get {kd : Int} {x : Iv} (h : x.Ok kd) {c : Int} (h0 : 0 ≤ c) (h1 : c < x.st.length) : vst kd (x.st.getD c.toNat 0) := h.s _ (getD_mem (by omega) 0)
theorem Iv.Ok.mid_in {kd : Int} {x : Iv} (h : x.Ok kd) {c : Int} (h0 : 0 ≤ c) (h1 : c < x.st.length) : x.lo ≤ x.mid kd c ∧ x.mid kd c < x.hi := by
  obtain ⟨a, b⟩ := pr_rg h.k (h.get h0 h1)
  exact Co.mid_in (lt_of h.r h.d) a b
theorem Iv.Ok.cut {kd : Int} {x : Iv} (h : x.Ok kd) {c b : Int} (h0 : 0 ≤ c) (h1 : c < x.st.length) : Rg (x.clo kd c b) (x.chi kd c b) := by
  have hm := h.mid_in h0 h1
  obtain ⟨a, b, c⟩ := h.r
  unfold Iv.clo Iv.chi
  split <;> constructor <;> omega
theorem Iv.Ok.next {kd : Int} {x : Iv} (h : x.Ok kd) {c b : Int} (h0 : 0 ≤ c) (h1 : c < x.st.length) (hb : b = 0 ∨ b = 1) : (x.next kd c b).Ok kd := by
  refine ⟨h.k, nrm_rg 5 (h.cut h0 h1), nrm_ends (h.cut h0 h1), fun s hs => ?_⟩
  rcases List.mem_or_eq_of_mem_set hs with hs | rfl
  · exact h.s s hs
  · exact nx_rg h.k (h.get h0 h1) hb

/-- What is put, event by event. -/
def run (kd : Int) : Iv → List Int → List (Int × Int) → Iv × List Int
  | x, out, [] => (x, out)
  | x, out, (c, b) :: r => run kd (x.next kd c b) (out ++ x.bytes kd c b) r
def Evs (n : Nat) (l : List (Int × Int)) : Prop := ∀ e ∈ l, 0 ≤ e.1 ∧ e.1 < (n : Int) ∧ (e.2 = 0 ∨ e.2 = 1)
theorem run_append (kd : Int) : ∀ (a b : List (Int × Int)) (x : Iv) (out : List Int), run kd x out (a ++ b) = run kd (run kd x out a).1 (run kd x out a).2 b
  | [], b, x, out => rfl
  | (c, t) :: a, b, x, out => run_append kd a b _ _
theorem run_pre (kd : Int) : ∀ (l : List (Int × Int)) (x : Iv) (out : List Int), ∃ more, (run kd x out l).2 = out ++ more
  | [], x, out => ⟨[], by simp [run]⟩
  | (c, b) :: r, x, out => by
    obtain ⟨m, e⟩ := run_pre kd r (x.next kd c b) (out ++ x.bytes kd c b)
    exact ⟨x.bytes kd c b ++ m, by rw [run, e, List.append_assoc]⟩
theorem run_ok {kd : Int} : ∀ (l : List (Int × Int)) {x : Iv} {out : List Int}, x.Ok kd → Evs x.st.length l → (run kd x out l).1.Ok kd ∧ (run kd x out l).1.st.length = x.st.length
  | [], x, out, h, _ => ⟨h, rfl⟩
  | (c, b) :: r, x, out, h, he => by
    obtain ⟨h0, h1, hb⟩ := he (c, b) (by simp)
    have h2 := run_ok r (out := out ++ x.bytes kd c b) (h.next h0 h1 hb) (by rw [Iv.next_len]; exact fun e he' => he e (by simp [he']))
    rw [Iv.next_len] at h2
    exact h2
theorem run_byte {kd : Int} : ∀ (l : List (Int × Int)) {x : Iv} {out : List Int}, x.Ok kd → Evs x.st.length l → (∀ v ∈ out, 0 ≤ v ∧ v ≤ 255) → ∀ v ∈ (run kd x out l).2, 0 ≤ v ∧ v ≤ 255
  | [], x, out, h, _, ho => ho
  | (c, b) :: r, x, out, h, he, ho => by
    obtain ⟨h0, h1, hb⟩ := he (c, b) (by simp)
    refine run_byte r (h.next h0 h1 hb) (by rw [Iv.next_len]; exact fun e he' => he e (by simp [he'])) fun v hv => ?_
    rcases List.mem_append.1 hv with hv | hv
    · exact ho v hv
    · exact nrmB_byte 5 (h.cut h0 h1) v hv
theorem run_len_le {kd : Int} : ∀ (l : List (Int × Int)) {x : Iv} {out : List Int}, (run kd x out l).2.length ≤ out.length + 5 * l.length
  | [], x, out => by simp [run]
  | (c, b) :: r, x, out => by
    have h := run_len_le r (kd := kd) (x := x.next kd c b) (out := out ++ x.bytes kd c b)
    have hb := x.bytes_len kd c b
    have hm : x.many kd c b ≤ 5 := nrm_le _ _ _
    rw [run]
    rw [List.length_append] at h
    simp only [List.length_cons]
    omega

/-- The stream holds these bytes at its begin. -/
def Begins (S : Nat → Int) (out : List Int) : Prop := ∀ i, i < out.length → S i = out.getD i 0
/-- The window behind these bytes lies in the interval. -/
def Con (S : Nat → Int) (x : Iv) (n : Nat) : Prop := x.lo ≤ win S n ∧ win S n ≤ x.hi
/-- The bit that is read. -/
def bitOf (kd : Int) (S : Nat → Int) (x : Iv) (n : Nat) (c : Int) : Int := if win S n ≤ x.mid kd c then 1 else 0
theorem con_back {kd : Int} {S : Nat → Int} (hS : Byt S) {x : Iv} (h : x.Ok kd) {c b : Int} (h0 : 0 ≤ c) (h1 : c < x.st.length) (hb : b = 0 ∨ b = 1) {out : List Int}
    (hp : Begins S (out ++ x.bytes kd c b)) (hc : Con S (x.next kd c b) (out.length + x.many kd c b)) : Con S x out.length ∧ bitOf kd S x out.length c = b := by
  have hk := back hS 5 (x.clo kd c b) (x.chi kd c b) out.length (h.cut h0 h1) (fun i hi => by
    have hl : (nrmB 5 (x.clo kd c b) (x.chi kd c b)).length = (nrm 5 (x.clo kd c b) (x.chi kd c b)).1 := nrmB_len _ _ _
    have := hp (out.length + i) (by rw [List.length_append, Iv.bytes_len]; unfold Iv.many; omega)
    rw [this, List.getD_eq_getElem?_getD, List.getElem?_append_right (by omega), List.getD_eq_getElem?_getD, Nat.add_sub_cancel_left]
    rfl) hc.1 hc.2
  have hm := h.mid_in h0 h1
  obtain ⟨r1, r2, r3⟩ := h.r
  unfold Con bitOf
  unfold Iv.clo Iv.chi at hk
  rcases hb with rfl | rfl
  · rw [if_neg (by decide), if_neg (by decide)] at hk
    exact ⟨by omega, by rw [if_neg (by omega)]⟩
  · rw [if_pos rfl, if_pos rfl] at hk
    exact ⟨by omega, by rw [if_pos (by omega)]⟩
theorem con_run {kd : Int} {S : Nat → Int} (hS : Byt S) : ∀ (l : List (Int × Int)) {x : Iv} {out : List Int}, x.Ok kd → Evs x.st.length l → Begins S (run kd x out l).2 → Con S (run kd x out l).1 (run kd x out l).2.length → Con S x out.length
  | [], x, out, _, _, _, hc => hc
  | (c, b) :: r, x, out, h, he, hp, hc => by
    obtain ⟨h0, h1, hb⟩ := he (c, b) (by simp)
    have ih := con_run hS r (h.next h0 h1 hb) (out := out ++ x.bytes kd c b) (by rw [Iv.next_len]; exact fun e he' => he e (by simp [he'])) hp hc
    rw [List.length_append, Iv.bytes_len] at ih
    obtain ⟨m, e⟩ := run_pre kd r (x.next kd c b) (out ++ x.bytes kd c b)
    refine (con_back hS h h0 h1 hb (fun i hi => ?_) ih).1
    have hi : i < (out ++ x.bytes kd c b).length := hi
    have := hp i (by rw [run, e, List.length_append]; omega)
    rw [this, run, e, List.getD_eq_getElem?_getD, List.getElem?_append_left hi, List.getD_eq_getElem?_getD]
/-- An event that was put is got: behind those in front of it. -/
theorem got {kd : Int} {S : Nat → Int} (hS : Byt S) {l : List (Int × Int)} {c b : Int} {r : List (Int × Int)} {x : Iv} (h : x.Ok kd) (he : Evs x.st.length (l ++ (c, b) :: r))
    (hp : Begins S (run kd x [] (l ++ (c, b) :: r)).2) (hc : Con S (run kd x [] (l ++ (c, b) :: r)).1 (run kd x [] (l ++ (c, b) :: r)).2.length) :
    bitOf kd S (run kd x [] l).1 (run kd x [] l).2.length c = b ∧ (run kd x [] l).2.length + (run kd x [] l).1.many kd c b ≤ (run kd x [] (l ++ (c, b) :: r)).2.length := by
  have hl := run_ok l (out := []) h fun e he' => he e (by simp [he'])
  obtain ⟨h0, h1, hb⟩ := he (c, b) (by simp)
  rw [run_append] at hp hc ⊢
  generalize run kd x [] l = y at *
  obtain ⟨y, out⟩ := y
  obtain ⟨hy, hlen⟩ := hl
  simp only at hy hlen hp hc ⊢
  rw [← hlen] at h1
  have he2 : Evs (y.next kd c b).st.length r := by rw [Iv.next_len, hlen]; exact fun e he' => he e (by simp [he'])
  have ih := con_run hS r (hy.next h0 h1 hb) (out := out ++ y.bytes kd c b) he2 hp hc
  rw [List.length_append, Iv.bytes_len] at ih
  obtain ⟨m, e⟩ := run_pre kd r (y.next kd c b) (out ++ y.bytes kd c b)
  refine ⟨(con_back hS hy h0 h1 hb (fun i hi => ?_) ih).2, ?_⟩
  · have hi : i < (out ++ y.bytes kd c b).length := hi
    have := hp i (by rw [run, e, List.length_append]; omega)
    rw [this, run, e, List.getD_eq_getElem?_getD, List.getElem?_append_left hi, List.getD_eq_getElem?_getD]
  · rw [run, e, List.length_append, List.length_append, Iv.bytes_len]
    omega

/-! ### The end of a code -/
def endB (lo hi : Int) : List Int :=
  if lo ≤ 0 then [] else if lo ≤ hi / 16777216 * 16777216 then [hi / 16777216] else if lo ≤ hi / 65536 * 65536 then [hi / 16777216, hi / 65536 % 256]
  else if lo ≤ hi / 256 * 256 then [hi / 16777216, hi / 65536 % 256, hi / 256 % 256] else [hi / 16777216, hi / 65536 % 256, hi / 256 % 256, hi % 256]
theorem endB_byte {lo hi : Int} (h : Rg lo hi) : ∀ v ∈ endB lo hi, 0 ≤ v ∧ v ≤ 255 := by
  obtain ⟨a, b, c⟩ := h
  intro v hv
  unfold endB at hv
  repeat' split at hv
  all_goals simp only [List.mem_cons, List.not_mem_nil, or_false] at hv
  all_goals omega
def strm (code : List Int) (n : Nat) : Int := code.getD n 0
theorem strm_byt {code : List Int} (h : ∀ v ∈ code, 0 ≤ v ∧ v ≤ 255) : Byt (strm code) := by
  intro n
  unfold strm
  by_cases hn : n < code.length
  · exact h _ (getD_mem hn 0)
  · rw [List.getD_eq_getElem?_getD, List.getElem?_eq_none (by omega)]
    simp
theorem strm_app {a b : List Int} {i : Nat} : strm (a ++ b) (a.length + i) = strm b i := by
  unfold strm
  rw [List.getD_eq_getElem?_getD, List.getElem?_append_right (by omega), Nat.add_sub_cancel_left, List.getD_eq_getElem?_getD]
theorem strm_zeros (b : List Int) (n i : Nat) : strm (b ++ List.replicate n 0) i = strm b i := by
  unfold strm
  rw [List.getD_eq_getElem?_getD, List.getD_eq_getElem?_getD, List.getElem?_append]
  split
  · rfl
  · rw [List.getElem?_eq_none (l := b) (by omega), List.getElem?_replicate]
    split <;> rfl
theorem con_end {x : Iv} (h : Rg x.lo x.hi) (out : List Int) (n : Nat) : Con (strm ((out ++ endB x.lo x.hi) ++ List.replicate n 0)) x out.length := by
  have hw : win (strm ((out ++ endB x.lo x.hi) ++ List.replicate n 0)) out.length = win (strm (endB x.lo x.hi)) 0 := by
    unfold win
    simp only [strm_zeros]
    rw [strm_app (i := 1), strm_app (i := 2), strm_app (i := 3), show out.length = out.length + 0 from rfl, strm_app (i := 0)]
  unfold Con
  rw [hw]
  obtain ⟨a, b, c⟩ := h
  unfold win strm endB
  split
  · simp; omega
  · split
    · simp; omega
    · split
      · simp; omega
      · split
        · simp; omega
        · simp; omega
theorem begins_end {out more : List Int} : Begins (strm (out ++ more)) out := fun i hi => by
  unfold strm
  rw [List.getD_eq_getElem?_getD, List.getElem?_append_left hi, List.getD_eq_getElem?_getD]

/-! ### What is got from any bytes -/
def get (kd : Int) (code : List Int) (x : Iv) (k : Nat) (c : Int) : Option (Int × Iv × Nat) :=
  if code.length < k + x.many kd c (bitOf kd (strm code) x k c) then none
  else some (bitOf kd (strm code) x k c, x.next kd c (bitOf kd (strm code) x k c), k + x.many kd c (bitOf kd (strm code) x k c))
theorem bitOf_01 (kd : Int) (S : Nat → Int) (x : Iv) (n : Nat) (c : Int) : bitOf kd S x n c = 0 ∨ bitOf kd S x n c = 1 := by
  unfold bitOf
  split
  · exact .inr rfl
  · exact .inl rfl
/-- What was put is got. -/
theorem get_put {kd : Int} {x : Iv} (h : x.Ok kd) {l : List (Int × Int)} {c b : Int} {r : List (Int × Int)} (he : Evs x.st.length (l ++ (c, b) :: r)) {n : Nat} :
    get kd (((run kd x [] (l ++ (c, b) :: r)).2 ++ endB (run kd x [] (l ++ (c, b) :: r)).1.lo (run kd x [] (l ++ (c, b) :: r)).1.hi) ++ List.replicate n 0) (run kd x [] l).1 (run kd x [] l).2.length c
    = some (b, (run kd x [] (l ++ [(c, b)])).1, (run kd x [] (l ++ [(c, b)])).2.length) := by
  have hok := run_ok (l ++ (c, b) :: r) (out := []) h he
  have hby := run_byte (l ++ (c, b) :: r) (out := []) h he (fun v hv => by cases hv)
  have hS : Byt (strm (((run kd x [] (l ++ (c, b) :: r)).2 ++ endB (run kd x [] (l ++ (c, b) :: r)).1.lo (run kd x [] (l ++ (c, b) :: r)).1.hi) ++ List.replicate n 0)) := by
    refine strm_byt fun v hv => ?_
    rcases List.mem_append.1 hv with hv | hv
    · rcases List.mem_append.1 hv with hv | hv
      · exact hby v hv
      · exact endB_byte hok.1.r v hv
    · have := (List.mem_replicate.1 hv).2
      omega
  obtain ⟨g1, g2⟩ := got hS h he (by rw [List.append_assoc]; exact begins_end) (con_end hok.1.r _ n)
  unfold get
  rw [g1, if_neg (by simp only [List.length_append]; omega), run_append]
  congr 2
  simp only [run, List.length_append, Iv.bytes_len]
end Go.Proofs.Ytihfgpfofmjbaaa.Co

set_option linter.unusedVariables false
set_option linter.unusedSimpArgs false
namespace Go.Proofs.Ytihfgpfofmjbaaa.Co
open Go Ev

theorem wrapU {x : Int} (h1 : 0 ≤ x) (h2 : x < 18446744073709551616) : IntKind.u64.wrap x = x := by
  simp [IntKind.wrap, IntKind.min, IntKind.max, IntKind.signed, IntKind.bits]
  omega
theorem shrU {x : Int} (h : 0 ≤ x) : ishr .u64 x 24 = x / 16777216 := by
  unfold ishr
  have hb : min (24 : Int).toNat IntKind.u64.bits = 24 := by decide
  rw [hb, Int.fdiv_eq_ediv_of_nonneg _ (by decide)]
  rfl
theorem nlU {x : Int} (h1 : 0 ≤ x) (h2 : x < 4294967296) : iand .u64 (ishl .u64 x 8) 4294967295 = nl x := by
  unfold ishl
  have hb : min (8 : Int).toNat IntKind.u64.bits = 8 := by decide
  have e : x * 2 ^ 8 = x * 256 := rfl
  rw [hb, e, wrapU (by omega) (by omega)]
  unfold iand nl
  have e1 : IntKind.u64.bits = 64 := rfl
  rw [e1, BitVec.toNat_and, ofInt_toNat (by omega) (by omega), ofInt_toNat (by omega) (by omega)]
  have h3 : (x * 256).toNat &&& (4294967295 : Int).toNat = (x * 256).toNat % 2 ^ 32 := Nat.and_two_pow_sub_one_eq_mod _ 32
  rw [h3, wrapU (by omega) (by omega)]
  omega
theorem nhU {x : Int} (h1 : 0 ≤ x) (h2 : x < 4294967296) : ior .u64 (iand .u64 (ishl .u64 x 8) 4294967295) 255 = nh x := by
  rw [nlU h1 h2]
  unfold ior nh nl
  have e1 : IntKind.u64.bits = 64 := rfl
  rw [e1, BitVec.toNat_or, ofInt_toNat (by omega) (by omega), ofInt_toNat (by omega) (by omega)]
  have h3 : (x % 16777216 * 256).toNat = (x % 16777216).toNat <<< 8 := by rw [Nat.shiftLeft_eq]; omega
  have h4 : (255 : Int).toNat = 255 := rfl
  rw [h3, h4, ← Nat.shiftLeft_add_eq_or_of_lt (by decide), Nat.shiftLeft_eq, wrapU (by omega) (by omega)]
  omega
theorem byteU {x : Int} (h1 : 0 ≤ x) (h2 : x < 4294967296) : IntKind.u8.wrap (ishr .u64 x 24) = x / 16777216 := by
  rw [shrU h1]
  exact wrap8 (by omega) (by omega)

/-! ### Chances -/
theorem chance0 {fl : Nat} : ∀ (n : Fin 64) (K : Int → Option Ans), F_coder_table_chance_bb9 fl 0 (n.val : Int) K = K (pr 0 (n.val : Int))
  | ⟨0, _⟩, K => rfl
  | ⟨1, _⟩, K => rfl
  | ⟨2, _⟩, K => rfl
  | ⟨3, _⟩, K => rfl
  | ⟨4, _⟩, K => rfl
  | ⟨5, _⟩, K => rfl
  | ⟨6, _⟩, K => rfl
  | ⟨7, _⟩, K => rfl
  | ⟨8, _⟩, K => rfl
  | ⟨9, _⟩, K => rfl
  | ⟨10, _⟩, K => rfl
  | ⟨11, _⟩, K => rfl
  | ⟨12, _⟩, K => rfl
  | ⟨13, _⟩, K => rfl
  | ⟨14, _⟩, K => rfl
  | ⟨15, _⟩, K => rfl
  | ⟨16, _⟩, K => rfl
  | ⟨17, _⟩, K => rfl
  | ⟨18, _⟩, K => rfl
  | ⟨19, _⟩, K => rfl
  | ⟨20, _⟩, K => rfl
  | ⟨21, _⟩, K => rfl
  | ⟨22, _⟩, K => rfl
  | ⟨23, _⟩, K => rfl
  | ⟨24, _⟩, K => rfl
  | ⟨25, _⟩, K => rfl
  | ⟨26, _⟩, K => rfl
  | ⟨27, _⟩, K => rfl
  | ⟨28, _⟩, K => rfl
  | ⟨29, _⟩, K => rfl
  | ⟨30, _⟩, K => rfl
  | ⟨31, _⟩, K => rfl
  | ⟨32, _⟩, K => rfl
  | ⟨33, _⟩, K => rfl
  | ⟨34, _⟩, K => rfl
  | ⟨35, _⟩, K => rfl
  | ⟨36, _⟩, K => rfl
  | ⟨37, _⟩, K => rfl
  | ⟨38, _⟩, K => rfl
  | ⟨39, _⟩, K => rfl
  | ⟨40, _⟩, K => rfl
  | ⟨41, _⟩, K => rfl
  | ⟨42, _⟩, K => rfl
  | ⟨43, _⟩, K => rfl
  | ⟨44, _⟩, K => rfl
  | ⟨45, _⟩, K => rfl
  | ⟨46, _⟩, K => rfl
  | ⟨47, _⟩, K => rfl
  | ⟨48, _⟩, K => rfl
  | ⟨49, _⟩, K => rfl
  | ⟨50, _⟩, K => rfl
  | ⟨51, _⟩, K => rfl
  | ⟨52, _⟩, K => rfl
  | ⟨53, _⟩, K => rfl
  | ⟨54, _⟩, K => rfl
  | ⟨55, _⟩, K => rfl
  | ⟨56, _⟩, K => rfl
  | ⟨57, _⟩, K => rfl
  | ⟨58, _⟩, K => rfl
  | ⟨59, _⟩, K => rfl
  | ⟨60, _⟩, K => rfl
  | ⟨61, _⟩, K => rfl
  | ⟨62, _⟩, K => rfl
  | ⟨63, _⟩, K => rfl
  | ⟨n + 64, h⟩, _ => absurd h (by omega)
theorem tdiv_e {x k : Int} (h : 0 ≤ x) : x.tdiv k = x / k := Int.tdiv_eq_ediv_of_nonneg h
theorem tmod_e {x k : Int} (h : 0 ≤ x) : x.tmod k = x % k := Int.tmod_eq_emod_of_nonneg h
theorem chance {fl : Nat} {kd s : Int} (hk : kd = 0 ∨ kd = 1) (h : vst kd s) {K : Int → Option Ans} : F_coder_table_chance_bb9 fl kd s K = K (pr kd s) := by
  rcases hk with rfl | rfl
  · obtain ⟨h0, h1⟩ := h
    have h1 : s < 64 := h1
    have := chance0 (fl := fl) ⟨s.toNat, by omega⟩ K
    simp only at this
    rwa [show ((s.toNat : Nat) : Int) = s by omega] at this
  · obtain ⟨h0, h1⟩ := h
    have h1 : s < 65536 := h1
    unfold F_coder_table_chance_bb9 pr
    rw [cond_t (b := (1 : Int) == 1) rfl, if_pos rfl, tdiv_e h0, tmod_e h0]
    have a0 : 0 ≤ s / 256 := by omega
    have a1 : s / 256 ≤ 255 := by omega
    have b0 : 0 ≤ s % 256 := by omega
    have b1 : s % 256 ≤ 255 := by omega
    generalize s / 256 = a at *
    generalize s % 256 = b at *
    rw [wrap64 (x := a) (by omega) (by omega), wrap64 (x := 2 * a) (by omega) (by omega), wrap64 (x := 2 * b) (by omega) (by omega), wrap64 (x := 2 * a + 2 * b) (by omega) (by omega), wrap64 (x := 2 * a + 2 * b + 2) (by omega) (by omega),
      wrap64 (x := 2 * b + 1) (by omega) (by omega), wrap64 (x := (2 * b + 1) * 4096) (by omega) (by omega), tdiv_e (by omega)]
    have q0 : 0 ≤ (2 * b + 1) * 4096 / (2 * a + 2 * b + 2) := Int.ediv_nonneg (by omega) (by omega)
    have q1 : (2 * b + 1) * 4096 / (2 * a + 2 * b + 2) ≤ (2 * b + 1) * 4096 := Int.ediv_le_self _ (by omega)
    rw [dec_f (by omega), wrap64 (by omega) (by omega)]
    generalize (2 * b + 1) * 4096 / (2 * a + 2 * b + 2) = z at *
    congr 1
    by_cases c1 : 1 > z
    · rw [dec_t c1, dec_f (by omega), Int.max_eq_right (by omega), Int.min_eq_left (by omega)]
    · rw [dec_f c1, Int.max_eq_left (by omega)]
      by_cases c2 : 4095 < z
      · rw [dec_t c2, Int.min_eq_right (by omega)]
      · rw [dec_f c2, Int.min_eq_left (by omega)]
theorem next {fl : Nat} {kd s b : Int} (hk : kd = 0 ∨ kd = 1) (h : vst kd s) (hb : b = 0 ∨ b = 1) {K : Int → Option Ans} : F_coder_next fl kd s b K = K (nx kd s b) := by
  obtain ⟨h0, h1⟩ := h
  unfold F_coder_next nx
  rw [tdiv_e h0, tdiv_e h0, tmod_e h0, tmod_e h0]
  rcases hk with rfl | rfl
  · have h1 : s < 64 := h1
    rw [cond_f (b := (0 : Int) == 1) rfl, if_neg (by decide)]
    have a0 : 0 ≤ s / 32 := by omega
    have a1 : s / 32 ≤ 1 := by omega
    have b0 : 0 ≤ s % 32 := by omega
    have b1 : s % 32 ≤ 31 := by omega
    generalize s / 32 = m at *
    generalize s % 32 = k at *
    have t4 : k.tdiv 4 = k / 4 := tdiv_e b0
    rw [wrap64 (x := m) (by omega) (by omega), t4, wrap64 (x := k + 1) (by omega) (by omega), wrap64 (x := 32 * m) (by omega) (by omega)]
    rw [Bm.cb, Bm.cb]
    by_cases c1 : b = m
    · rw [if_pos c1, if_pos c1]
      by_cases c2 : 31 < k + 1
      · rw [dec_t c2, wrap64 (by omega) (by omega), Int.min_eq_right (by omega)]
      · rw [dec_f c2, wrap64 (by omega) (by omega), Int.min_eq_left (by omega)]
    · rw [if_neg c1, if_neg c1]
      by_cases c2 : k = 0
      · rw [if_pos c2, if_pos c2, wrap64 (x := 32 * b) (by omega) (by omega), wrap64 (by omega) (by omega), c2, Int.add_zero]
      · rw [if_neg c2, if_neg c2, wrap64 (x := k / 4) (by omega) (by omega), wrap64 (x := 1 + k / 4) (by omega) (by omega), wrap64 (x := k - (1 + k / 4)) (by omega) (by omega), wrap64 (by omega) (by omega)]
  · have h1 : s < 65536 := h1
    rw [cond_t (b := (1 : Int) == 1) rfl, if_pos rfl]
    have a0 : 0 ≤ s / 256 := by omega
    have a1 : s / 256 ≤ 255 := by omega
    have b0 : 0 ≤ s % 256 := by omega
    have b1 : s % 256 ≤ 255 := by omega
    generalize s / 256 = m at *
    generalize s % 256 = k at *
    have t2 : k.tdiv 2 = k / 2 := tdiv_e b0
    have t3 : m.tdiv 2 = m / 2 := tdiv_e a0
    have w1 : IntKind.i64.wrap m = m := wrap64 (by omega) (by omega)
    have w2 : IntKind.i64.wrap (m / 2) = m / 2 := wrap64 (by omega) (by omega)
    have w3 : IntKind.i64.wrap (k / 2) = k / 2 := wrap64 (by omega) (by omega)
    rw [w1, t2, t3, w2, w3]
    rcases hb with rfl | rfl
    · rw [dec_t (p := (0 : Int) ≤ 0 ∧ (0 : Int) < ((2 : Nat) : Int)) (by decide), dec_t (p := (0 : Int) = ((0 : Nat) : Int)) rfl, if_pos rfl, Bm.cb]
      by_cases c1 : m = 255
      · rw [if_pos c1, if_pos c1]
        simp (disch := decide) only [dec_t]
        rw [wrap64 (x := m / 2 + 1) (by omega) (by omega), wrap64 (x := 256 * (m / 2 + 1)) (by omega) (by omega), wrap64 (by omega) (by omega)]
        congr 1
        omega
      · rw [if_neg c1, if_neg c1]
        simp (disch := decide) only [dec_t]
        rw [wrap64 (x := m + 1) (by omega) (by omega), wrap64 (x := 256 * (m + 1)) (by omega) (by omega), wrap64 (by omega) (by omega)]
    · rw [dec_t (p := (0 : Int) ≤ 1 ∧ (1 : Int) < ((2 : Nat) : Int)) (by decide), dec_f (p := (1 : Int) = ((0 : Nat) : Int)) (by decide), dec_t (p := (1 : Int) = ((1 : Nat) : Int)) rfl, if_neg (by decide), Bm.cb]
      by_cases c1 : k = 255
      · rw [if_pos c1, if_pos c1]
        simp (disch := decide) only [dec_t, dec_f]
        rw [wrap64 (x := k / 2 + 1) (by omega) (by omega), wrap64 (x := 256 * (m / 2)) (by omega) (by omega), wrap64 (by omega) (by omega)]
        congr 1
        omega
      · rw [if_neg c1, if_neg c1]
        simp (disch := decide) only [dec_t, dec_f]
        rw [wrap64 (x := k + 1) (by omega) (by omega), wrap64 (x := 256 * m) (by omega) (by omega), wrap64 (by omega) (by omega)]
end Go.Proofs.Ytihfgpfofmjbaaa.Co

set_option linter.unusedVariables false
set_option linter.unusedSimpArgs false
namespace Go.Proofs.Ytihfgpfofmjbaaa.Co
open Go Ev

/-- A loop that shifts and writes down the bytes. -/
theorem shiftsB {V B : Type} {step : V → (V → Option Ans) → B → Option Ans} {b : B} {r : Option Ans} (N : Nat) (σ : List Int → Int → Int → V)
    (hstep : ∀ o lo hi c, Rg lo hi → same lo hi → o.length < N → step (σ o lo hi) c b = c (σ (o ++ [lo / 16777216]) (nl lo) (nh hi)))
    : ∀ (n : Nat) (o : List Int) (lo hi : Int) (m : Nat), Rg lo hi → ¬ same (nrm n lo hi).2.1 (nrm n lo hi).2.2 → n < m → o.length + n ≤ N → (∀ c, step (σ (o ++ nrmB n lo hi) (nrm n lo hi).2.1 (nrm n lo hi).2.2) c b = r) → iter step m (σ o lo hi) b = r
  | n, o, lo, hi, 0, _, _, hm, _, _ => by omega
  | 0, o, lo, hi, m + 1, hr, hs, hm, hN, hn => by
    have := hn (fun v => iter step m v b)
    simp only [nrmB, List.append_nil] at this
    exact this
  | n + 1, o, lo, hi, m + 1, hr, hs, hm, hN, hn => by
    simp only [iter]
    by_cases h : same lo hi
    · rw [hstep o lo hi _ hr h (by omega)]
      refine shiftsB N σ hstep n (o ++ [lo / 16777216]) (nl lo) (nh hi) m (hr.next h) (by rw [← nrm_same h]; exact hs) (by omega) (by simp; omega) fun c => ?_
      have e := hn c
      rw [nrm, if_pos h, nrmB, if_pos h] at e
      rw [List.append_assoc]
      exact e
    · have e := hn (fun v => iter step m v b)
      rw [nrm, if_neg h, nrmB, if_neg h, List.append_nil] at e
      exact e

theorem mid_ok {fl : Nat} {kd : Int} {x : Iv} (h : x.Ok kd) {c : Int} (h0 : 0 ≤ c) (h1 : c < x.st.length) {real : Bool} {out : List Int} {K : Int × Int × Int × Int × Bool × List Int × List Int → Option Ans} :
    F_coder_interval_mid_402 fl c kd x.lo x.hi real x.st out K = K (x.mid kd c, kd, x.lo, x.hi, real, x.st, out) := by
  unfold F_coder_interval_mid_402 Iv.mid Co.mid
  rw [dec_t ⟨h0, h1⟩, chance h.k (h.get h0 h1)]
  obtain ⟨p1, p2⟩ := pr_rg h.k (h.get h0 h1)
  obtain ⟨r1, r2, r3⟩ := h.r
  obtain ⟨m1, m2, m3, m4⟩ := mid_parts r2 r1 r3 p1 p2
  generalize pr kd (x.st.getD c.toNat 0) = p at *
  rw [wrapU (x := x.hi - x.lo) (by omega) (by omega), tdiv_e (by omega), tmod_e (by omega), wrapU (x := p) (by omega) (by omega), wrapU (x := (x.hi - x.lo) / 4096) (by omega) (by omega),
    wrapU (x := (x.hi - x.lo) / 4096 * p) (by omega) (by omega), wrapU (x := (x.hi - x.lo) % 4096 * p) (by omega) (by omega), tdiv_e m3, wrapU (x := x.lo + (x.hi - x.lo) / 4096 * p) (by omega) (by omega),
    wrapU (x := (x.hi - x.lo) % 4096 * p / 4096) (by omega) (by omega), wrapU (by omega) (by omega)]
theorem take_ok {fl : Nat} {kd : Int} {x : Iv} (h : x.Ok kd) {c b : Int} (h0 : 0 ≤ c) (h1 : c < x.st.length) (hb : b = 0 ∨ b = 1) {real : Bool} {out : List Int} {K : Int × Int × Int × Bool × List Int × List Int → Option Ans} :
    F_coder_interval_take_546 fl c b (x.mid kd c) kd x.lo x.hi real x.st out K = K (kd, x.clo kd c b, x.chi kd c b, real, x.st.set c.toNat (nx kd (x.st.getD c.toNat 0) b), out) := by
  have hm := h.mid_in h0 h1
  obtain ⟨r1, r2, r3⟩ := h.r
  unfold F_coder_interval_take_546 Iv.clo Iv.chi
  simp only [next h.k (h.get h0 h1) hb]
  rcases hb with rfl | rfl
  · rw [cond_f (b := (0 : Int) == 1) rfl, dec_t ⟨h0, h1⟩, dec_t ⟨h0, h1⟩, if_neg (by decide), if_neg (by decide), wrapU (by omega) (by omega)]
  · rw [cond_t (b := (1 : Int) == 1) rfl, dec_t ⟨h0, h1⟩, dec_t ⟨h0, h1⟩, if_pos rfl, if_pos rfl]
theorem put_loop {fl : Nat} (hfl : 9223372036854775808 ≤ fl) {kd lo hi : Int} (hr : Rg lo hi) {real : Bool} {st out : List Int} (ho : out.length ≤ 1000000000) {K : Int × Int × Int × Bool × List Int × List Int → Option Ans} :
    L_coder_Encoder_Put_cf0_1 fl (kd, lo, hi, real, st, out) K = K (kd, (nrm 5 lo hi).2.1, (nrm 5 lo hi).2.2, real, st, out ++ nrmB 5 lo hi) := by
  unfold L_coder_Encoder_Put_cf0_1
  refine shiftsB (step := S_coder_Encoder_Put_cf0_1 fl) 1000000100 (fun o lo hi => (kd, lo, hi, real, st, o)) (fun o lo hi c hr hs hl => ?_) 5 out lo hi fl hr (nrm_ends hr) (by omega) (by omega) fun c => ?_
  · obtain ⟨r1, r2, r3⟩ := hr
    simp only [S_coder_Encoder_Put_cf0_1, F_coder_interval_same_a20, F_coder_interval_lose_a20, both_same]
    rw [shrU (x := lo) r1, shrU (x := hi) (by omega), cond_t (b := lo / 16777216 == hi / 16777216) (beq_iff_eq.2 hs), dec_t (by simp; omega), nlU r1 (by omega), nhU (by omega) r3, ← shrU (x := lo) r1, byteU r1 (by omega), shrU r1]
  · have hr' := nrm_rg 5 hr
    have hs' := nrm_ends hr
    generalize (nrm 5 lo hi).2.1 = lo' at *
    generalize (nrm 5 lo hi).2.2 = hi' at *
    obtain ⟨r1, r2, r3⟩ := hr'
    simp only [S_coder_Encoder_Put_cf0_1, F_coder_interval_same_a20]
    rw [shrU (x := lo') r1, shrU (x := hi') (by omega), cond_f (b := lo' / 16777216 == hi' / 16777216) (beq_eq_false_iff_ne.2 hs')]
/-- What is put. -/
theorem put_ok {fl : Nat} (hfl : 9223372036854775808 ≤ fl) {kd : Int} {x : Iv} (h : x.Ok kd) {c b : Int} (h0 : 0 ≤ c) (h1 : c < x.st.length) (hb : b = 0 ∨ b = 1) {out : List Int} (ho : out.length ≤ 1000000000)
    {k0 k1 : Int × Int × Int × Int × Bool × List Int × List Int → Option Ans} :
    F_coder_Encoder_Put_cf0 fl c b kd x.lo x.hi true x.st out k0 k1 = k1 (0, kd, (x.next kd c b).lo, (x.next kd c b).hi, true, (x.next kd c b).st, out ++ x.bytes kd c b) := by
  unfold F_coder_Encoder_Put_cf0 F_coder_Encoder_none_a20
  dsimp only
  rw [cond_f (b := !true) rfl, dec_f (by omega), dec_f (by omega)]
  simp only [mid_ok h h0 h1, take_ok h h0 h1 hb, put_loop hfl (h.cut (b := b) h0 h1) ho]
  rcases hb with rfl | rfl
  · rw [cond_f (b := (0 : Int) != 0) rfl]
    rfl
  · rw [cond_t (b := (1 : Int) != 0) rfl, cond_f (b := (1 : Int) != 1) rfl]
    rfl
/-- The check with a context that is none. -/
theorem put_bad {fl : Nat} {kd lo hi : Int} {st out : List Int} {k0 k1 : Int × Int × Int × Int × Bool × List Int × List Int → Option Ans} :
    F_coder_Encoder_Put_cf0 fl (-1) 0 kd lo hi true st out k0 k1 = k0 (2, kd, lo, hi, true, st, out) := by
  unfold F_coder_Encoder_Put_cf0 F_coder_Encoder_none_a20
  dsimp only
  rw [cond_f (b := !true) rfl, dec_t (by omega)]

/-! ### A new encoder -/
theorem clone_ok {fl : Nat} {kd : Int} {st : List Int} (h : st.length ≤ 1000000) {K : Int × List Int → Option Ans} : F_coder_clone fl kd st K = K (kd, st) := by
  unfold F_coder_clone
  rw [dec_t (by omega), List.nil_append]
theorem begin_ok {fl : Nat} {kd : Int} {st : List Int} (h : st.length ≤ 1000000) {K : Int × Int × Int × List Int → Option Ans} : F_coder_begin fl kd st K = K (kd, 0, 4294967295, st) := by
  unfold F_coder_begin F_coder_chances
  rw [clone_ok h]
/-- Whether states are those of a kind. -/
def vM (kd : Int) (st : List Int) : Bool := decide (kd = 0 ∨ kd = 1) && decide (st.length ≤ 8192) && st.all fun s => decide (0 ≤ s ∧ s < most kd)
theorem valid_loop {fl : Nat} (hfl : 9223372036854775808 ≤ fl) {e : Int} {st : List Int} (hl : st.length ≤ 8192) {ret : Bool → Option Ans} {b : Unit → Option Ans} :
    L_coder_Valid_0 fl (e, st, (st.length : Int), 0) ret b = if st.all (fun s => decide (0 ≤ s ∧ s < e)) = true then b () else ret false := by
  unfold L_coder_Valid_0
  rcases all_or_first (fun s => decide (0 ≤ s ∧ s < e)) 0 st with ha | ⟨n, hn, hb, hi⟩
  · rw [if_pos ha]
    refine iter_to (step := S_coder_Valid_0 fl) (fun i : Nat => (e, st, (st.length : Int), (i : Int))) st.length (fun i hi c => ?_) (fun c => ?_) (by omega)
    · have g := all_getD ha 0 hi
      simp only [decide_eq_true_eq] at g
      simp only [S_coder_Valid_0]
      rw [dec_t (by omega), dec_t (by omega), Int.toNat_natCast, dec_f (by omega), dec_f (by omega), wrap64 (by omega) (by omega)]
      rfl
    · simp only [S_coder_Valid_0]
      rw [dec_f (by omega)]
  · rw [if_neg (by rw [not_all hn hb]; simp)]
    refine iter_to (step := S_coder_Valid_0 fl) (fun i : Nat => (e, st, (st.length : Int), (i : Int))) n (fun i hin c => ?_) (fun c => ?_) (by omega)
    · have g := hi i hin
      simp only [decide_eq_true_eq] at g
      simp only [S_coder_Valid_0]
      rw [dec_t (by omega), dec_t (by omega), Int.toNat_natCast, dec_f (by omega), dec_f (by omega), wrap64 (by omega) (by omega)]
      rfl
    · simp only [decide_eq_false_iff_not] at hb
      simp only [S_coder_Valid_0]
      rw [dec_t (by omega), dec_t (by omega), Int.toNat_natCast]
      by_cases h0 : st.getD n 0 < 0
      · rw [dec_t h0]
      · rw [dec_f h0, dec_t (by omega)]
theorem cvalid {fl : Nat} (hfl : 9223372036854775808 ≤ fl) {kd : Int} {st : List Int} {K : Bool → Option Ans} : F_coder_Valid fl kd st K = K (vM kd st) := by
  unfold F_coder_Valid vM
  by_cases hk : kd = 0 ∨ kd = 1
  · by_cases hl : st.length ≤ 8192
    · rcases hk with rfl | rfl
      · rw [cond_f (b := (0 : Int) != 0) rfl, dec_f (by omega), cond_f (b := (0 : Int) == 1) rfl, valid_loop hfl hl, decide_eq_true hl]
        show (if (st.all fun s => decide (0 ≤ s ∧ s < 64)) = true then K true else K false) = K (true && true && st.all fun s => decide (0 ≤ s ∧ s < 64))
        cases st.all _ <;> rfl
      · rw [cond_t (b := (1 : Int) != 0) rfl, cond_f (b := (1 : Int) != 1) rfl, dec_f (by omega), cond_t (b := (1 : Int) == 1) rfl, valid_loop hfl hl, decide_eq_true hl]
        show (if (st.all fun s => decide (0 ≤ s ∧ s < 65536)) = true then K true else K false) = K (true && true && st.all fun s => decide (0 ≤ s ∧ s < 65536))
        cases st.all _ <;> rfl
    · simp (disch := omega) only [dec_t]
      rw [decide_eq_false hl, Bool.and_false, Bool.false_and]
      cases kd != 0 <;> cases kd != 1 <;> rfl
  · have h0 : (kd != 0) = true := by simp; omega
    have h1 : (kd != 1) = true := by simp; omega
    rw [h0, h1, decide_eq_false hk]
    rfl
theorem new_enc {fl : Nat} (hfl : 9223372036854775808 ≤ fl) {kd : Int} {st : List Int} (hv : vM kd st = true) {k0 : Int → Option Ans} {k1 : Int × Int × Int × Int × Bool × List Int × List Int → Option Ans} :
    F_coder_NewEncoder fl kd st k0 k1 = k1 (0, kd, 0, 4294967295, true, st, []) := by
  have hl : st.length ≤ 8192 := by
    unfold vM at hv
    simp only [Bool.and_eq_true, decide_eq_true_eq] at hv
    exact hv.1.2
  unfold F_coder_NewEncoder
  rw [cvalid hfl, hv, cond_f (b := !true) rfl, begin_ok (by omega)]
theorem ok_new {kd : Int} {st : List Int} (hv : vM kd st = true) : (Iv.mk st 0 4294967295).Ok kd := by
  unfold vM at hv
  simp only [Bool.and_eq_true, decide_eq_true_eq, List.all_eq_true] at hv
  exact ⟨hv.1.1, ⟨(show (0 : Int) ≤ 0 by decide), (show (0 : Int) ≤ 4294967295 by decide), (show (4294967295 : Int) < 4294967296 by decide)⟩, (show ¬ same 0 4294967295 by decide), fun s hs => hv.2 s hs⟩
theorem vM_zeros {kd : Int} (hk : kd = 0 ∨ kd = 1) {n : Nat} (hn : n ≤ 8192) : vM kd (List.replicate n 0) = true := by
  unfold vM most
  simp only [Bool.and_eq_true, decide_eq_true_eq, List.all_eq_true, List.length_replicate]
  refine ⟨⟨hk, hn⟩, fun s hs => ?_⟩
  have := (List.mem_replicate.1 hs).2
  split <;> omega
end Go.Proofs.Ytihfgpfofmjbaaa.Co

set_option linter.unusedVariables false
set_option linter.unusedSimpArgs false
namespace Go.Proofs.Ytihfgpfofmjbaaa.Co
open Go Ev

theorem q_all : ∀ k : Fin 32, 0 ≤ q k.val ∧ q k.val ≤ 2048 := by decide
theorem unlikely {fl : Nat} (hfl : 9223372036854775808 ≤ fl) {n : Nat} (hn : n < 32) {K : Int → Option Ans} : F_ref02_unlikely fl (n : Int) K = K (q n) := by
  unfold F_ref02_unlikely L_ref02_unlikely_0
  refine iter_to (step := S_ref02_unlikely_0 fl) (fun i : Nat => ((n : Int), q i, (i : Int))) n (fun i hi c => ?_) (fun c => ?_) (by omega)
  · obtain ⟨a, b⟩ := q_all ⟨i, by omega⟩
    simp only at a b
    simp only [S_ref02_unlikely_0]
    rw [dec_t (by omega), tdiv_e a, wrap64 (x := q i / 8) (by omega) (by omega), wrap64 (x := q i - q i / 8) (by omega) (by omega), wrap64 (by omega) (by omega)]
    rfl
  · simp only [S_ref02_unlikely_0]
    rw [dec_f (by omega)]
theorem likely {fl : Nat} (hfl : 9223372036854775808 ≤ fl) {kd s : Int} (hk : kd = 0 ∨ kd = 1) (h : vst kd s) {K : Int → Option Ans} : F_ref02_Likely fl kd s K = K (pr kd s) := by
  rcases hk with rfl | rfl
  · obtain ⟨h0, h1⟩ := h
    have h1 : s < 64 := h1
    unfold F_ref02_Likely pr
    have e : s.tmod 32 = ((s.toNat % 32 : Nat) : Int) := by rw [tmod_e h0]; omega
    rw [cond_t (b := (0 : Int) == 0) rfl, e, unlikely hfl (by omega), if_neg (by decide)]
    try dsimp only
    by_cases c1 : s < 32
    · rw [dec_t c1, if_neg (by omega), show s.toNat % 32 = s.toNat by omega]
    · rw [dec_f c1, if_pos (by omega), unlikely hfl (by omega), show s.toNat % 32 = (s - 32).toNat by omega]
      obtain ⟨a, b⟩ := q_all ⟨(s - 32).toNat, by omega⟩
      simp only at a b
      rw [wrap64 (by omega) (by omega)]
  · exact (show F_ref02_Likely fl 1 s K = F_coder_table_chance_bb9 fl 1 s K from rfl).trans (chance (.inr rfl) h)
theorem after {fl : Nat} {kd s b : Int} (hk : kd = 0 ∨ kd = 1) (h : vst kd s) (hb : b = 0 ∨ b = 1) {K : Int → Option Ans} : F_ref02_After fl kd s b K = K (nx kd s b) := by
  rcases hk with rfl | rfl
  · obtain ⟨h0, h1⟩ := h
    have h1 : s < 64 := h1
    unfold F_ref02_After nx
    rw [tdiv_e h0, tmod_e h0, cond_t (b := (0 : Int) == 0) rfl, if_neg (by decide)]
    have a0 : 0 ≤ s / 32 := by omega
    have a1 : s / 32 ≤ 1 := by omega
    have b0 : 0 ≤ s % 32 := by omega
    have b1 : s % 32 ≤ 31 := by omega
    generalize s / 32 = m at *
    generalize s % 32 = k at *
    have t4 : k.tdiv 4 = k / 4 := tdiv_e b0
    rw [wrap64 (x := m) (by omega) (by omega), t4, wrap64 (x := k + 1) (by omega) (by omega), wrap64 (x := 32 * m) (by omega) (by omega), wrap64 (x := 32 * m + k) (by omega) (by omega)]
    rw [Bm.cb, Bm.cb]
    by_cases c1 : b = m
    · rw [if_pos c1, if_pos c1]
      by_cases c2 : 31 < k + 1
      · rw [dec_t c2, wrap64 (by omega) (by omega), Int.min_eq_right (by omega)]
      · rw [dec_f c2, wrap64 (by omega) (by omega), Int.min_eq_left (by omega)]
    · rw [if_neg c1, if_neg c1]
      by_cases c2 : k = 0
      · rw [if_pos c2, if_pos c2, wrap64 (by omega) (by omega)]
      · rw [if_neg c2, if_neg c2, wrap64 (x := 32 * m + k - 1) (by omega) (by omega), wrap64 (x := k / 4) (by omega) (by omega), wrap64 (by omega) (by omega)]
        congr 1
        omega
  · exact (show F_ref02_After fl 1 s b K = F_coder_next fl 1 s b K from rfl).trans (next (.inr rfl) h hb)
theorem rmid {fl : Nat} {lo hi p : Int} (hr : Rg lo hi) (p1 : 1 ≤ p) (p2 : p ≤ 4095) {K : Int → Option Ans} : F_ref02_Interval_Mid fl lo hi p K = K (Co.mid lo hi p) := by
  unfold F_ref02_Interval_Mid Co.mid
  obtain ⟨r1, r2, r3⟩ := hr
  obtain ⟨m1, m2, m3, m4⟩ := mid_parts r2 r1 r3 p1 p2
  rw [wrapU (x := hi - lo) (by omega) (by omega), tdiv_e (by omega), tmod_e (by omega), wrapU (x := p) (by omega) (by omega), wrapU (x := (hi - lo) / 4096) (by omega) (by omega),
    wrapU (x := (hi - lo) / 4096 * p) (by omega) (by omega), wrapU (x := (hi - lo) % 4096 * p) (by omega) (by omega), tdiv_e m3, wrapU (x := lo + (hi - lo) / 4096 * p) (by omega) (by omega),
    wrapU (x := (hi - lo) % 4096 * p / 4096) (by omega) (by omega), wrapU (by omega) (by omega)]
theorem rpart {fl : Nat} {kd : Int} {x : Iv} (h : x.Ok kd) {c b : Int} (h0 : 0 ≤ c) (h1 : c < x.st.length) (hb : b = 0 ∨ b = 1) {K : Int × Int → Option Ans} :
    F_ref02_Interval_Part fl x.lo x.hi (pr kd (x.st.getD c.toNat 0)) b K = K (x.clo kd c b, x.chi kd c b) := by
  have hm := h.mid_in h0 h1
  obtain ⟨p1, p2⟩ := pr_rg h.k (h.get h0 h1)
  unfold F_ref02_Interval_Part Iv.clo Iv.chi
  rw [rmid h.r p1 p2, rmid h.r p1 p2]
  obtain ⟨r1, r2, r3⟩ := h.r
  have e : Co.mid x.lo x.hi (pr kd (x.st.getD c.toNat 0)) = x.mid kd c := rfl
  rw [e]
  rcases hb with rfl | rfl
  · rw [cond_f (b := (0 : Int) == 1) rfl, if_neg (by decide), if_neg (by decide), wrapU (by omega) (by omega)]
  · rw [cond_t (b := (1 : Int) == 1) rfl, if_pos rfl, if_pos rfl]
theorem rfixed {fl : Nat} {lo hi : Int} (hr : Rg lo hi) {K : Bool → Option Ans} : F_ref02_Interval_Fixed fl lo hi K = K (decide (same lo hi)) := by
  obtain ⟨r1, r2, r3⟩ := hr
  unfold F_ref02_Interval_Fixed same
  rw [shrU r1, shrU (by omega)]
  congr 1
theorem rshifted {fl : Nat} {lo hi : Int} (hr : Rg lo hi) {K : Int × Int → Option Ans} : F_ref02_Interval_Shifted fl lo hi K = K (nl lo, nh hi) := by
  obtain ⟨r1, r2, r3⟩ := hr
  unfold F_ref02_Interval_Shifted nl nh
  rw [tmod_e r1, tmod_e (by omega), wrapU (x := lo % 16777216 * 256) (by omega) (by omega), wrapU (x := hi % 16777216 * 256) (by omega) (by omega), wrapU (by omega) (by omega)]

/-! ### Models -/
theorem rvalid_loop {fl : Nat} (hfl : 9223372036854775808 ≤ fl) {e : Int} {st : List Int} (hl : st.length ≤ 8192) {ret : Bool → Option Ans} {b : Unit → Option Ans} :
    L_ref02_Valid_0 fl (e, st, (st.length : Int), 0) ret b = if st.all (fun s => decide (0 ≤ s ∧ s < e + 1)) = true then b () else ret false := by
  unfold L_ref02_Valid_0
  rcases all_or_first (fun s => decide (0 ≤ s ∧ s < e + 1)) 0 st with ha | ⟨n, hn, hb, hi⟩
  · rw [if_pos ha]
    refine iter_to (step := S_ref02_Valid_0 fl) (fun i : Nat => (e, st, (st.length : Int), (i : Int))) st.length (fun i hi c => ?_) (fun c => ?_) (by omega)
    · have g := all_getD ha 0 hi
      simp only [decide_eq_true_eq] at g
      simp only [S_ref02_Valid_0]
      rw [dec_t (by omega), dec_t (by omega), Int.toNat_natCast, dec_f (by omega), dec_f (by omega), wrap64 (by omega) (by omega)]
      rfl
    · simp only [S_ref02_Valid_0]
      rw [dec_f (by omega)]
  · rw [if_neg (by rw [not_all hn hb]; simp)]
    refine iter_to (step := S_ref02_Valid_0 fl) (fun i : Nat => (e, st, (st.length : Int), (i : Int))) n (fun i hin c => ?_) (fun c => ?_) (by omega)
    · have g := hi i hin
      simp only [decide_eq_true_eq] at g
      simp only [S_ref02_Valid_0]
      rw [dec_t (by omega), dec_t (by omega), Int.toNat_natCast, dec_f (by omega), dec_f (by omega), wrap64 (by omega) (by omega)]
      rfl
    · simp only [decide_eq_false_iff_not] at hb
      simp only [S_ref02_Valid_0]
      rw [dec_t (by omega), dec_t (by omega), Int.toNat_natCast]
      by_cases h0 : st.getD n 0 < 0
      · rw [dec_t h0]
      · rw [dec_f h0, dec_t (by omega)]
theorem rmvalid {fl : Nat} (hfl : 9223372036854775808 ≤ fl) {kd : Int} {st : List Int} {K : Bool → Option Ans} : F_ref02_Valid fl kd st K = K (vM kd st) := by
  unfold F_ref02_Valid vM
  by_cases hk : kd = 0 ∨ kd = 1
  · by_cases hl : st.length ≤ 8192
    · rcases hk with rfl | rfl
      · rw [cond_f (b := (0 : Int) == 1) rfl, cond_f (b := (0 : Int) != 0) rfl, dec_f (by omega), rvalid_loop hfl hl, decide_eq_true hl]
        show (if (st.all fun s => decide (0 ≤ s ∧ s < 64)) = true then K true else K false) = K (true && true && st.all fun s => decide (0 ≤ s ∧ s < 64))
        cases st.all _ <;> rfl
      · rw [cond_t (b := (1 : Int) == 1) rfl, cond_t (b := (1 : Int) != 0) rfl, cond_f (b := (1 : Int) != 1) rfl, dec_f (by omega), rvalid_loop hfl hl, decide_eq_true hl]
        show (if (st.all fun s => decide (0 ≤ s ∧ s < 65536)) = true then K true else K false) = K (true && true && st.all fun s => decide (0 ≤ s ∧ s < 65536))
        cases st.all _ <;> rfl
    · simp (disch := omega) only [dec_t]
      rw [decide_eq_false hl, Bool.and_false, Bool.false_and]
      cases kd == 1 <;> cases kd != 0 <;> cases kd != 1 <;> rfl
  · have h0 : (kd != 0) = true := by simp; omega
    have h1 : (kd != 1) = true := by simp; omega
    rw [h0, h1, decide_eq_false hk]
    cases kd == 1 <;> rfl
/-- What New returns. -/
def newR (kd n : Int) : Int × Int × List Int := if (kd = 0 ∨ kd = 1) ∧ 0 ≤ n ∧ n ≤ 8192 then (kd, 0, List.replicate n.toNat 0) else (0, 2, [])
theorem gnew {fl : Nat} {kd n : Int} {K : Int × Int × List Int → Option Ans} : F_coder_New fl kd n K = K (newR kd n) := by
  unfold F_coder_New newR
  simp only [Bm.cn, Bm.cd]
  by_cases h0 : kd = 0
  · rw [if_pos h0]
    by_cases h1 : n < 0
    · rw [if_pos h1, if_neg (by omega)]
    rw [if_neg h1]
    by_cases h2 : n > 8192
    · rw [if_pos h2, if_neg (by omega)]
    rw [if_neg h2, if_pos (by refine ⟨by omega, ?_, by omega, by omega⟩; first | rfl | trivial), if_pos (by omega)]
  · rw [if_neg h0]
    by_cases h3 : kd = 1
    · rw [if_pos h3]
      by_cases h1 : n < 0
      · rw [if_pos h1, if_neg (by omega)]
      rw [if_neg h1]
      by_cases h2 : n > 8192
      · rw [if_pos h2, if_neg (by omega)]
      rw [if_neg h2, if_pos (by refine ⟨by omega, ?_, by omega, by omega⟩; first | rfl | trivial), if_pos (by omega)]
    · rw [if_neg h3, if_neg (by omega)]
theorem rnew {fl : Nat} {kd n : Int} {K : Int × Int × List Int → Option Ans} : F_ref02_New fl kd n K = K (newR kd n) := by
  exact (show F_ref02_New fl kd n K = F_coder_New fl kd n K from rfl).trans gnew
end Go.Proofs.Ytihfgpfofmjbaaa.Co

set_option linter.unusedVariables false
set_option linter.unusedSimpArgs false
namespace Go.Proofs.Ytihfgpfofmjbaaa.Co
open Go Ev

theorem wrap8mod {x : Int} (h : 0 ≤ x) : IntKind.u8.wrap x = x % 256 := by
  simp [IntKind.wrap, IntKind.min, IntKind.max, IntKind.signed, IntKind.bits]
theorem shrN {x : Int} (h : 0 ≤ x) {y : Nat} (hy : y ≤ 63) : ishr .u64 x (y : Int) = x / 2 ^ y := by
  unfold ishr
  have hb : min ((y : Int)).toNat IntKind.u64.bits = y := by
    have : IntKind.u64.bits = 64 := rfl
    rw [this]
    omega
  rw [hb, Int.fdiv_eq_ediv_of_nonneg _ (Int.le_of_lt (Int.pow_pos (by omega)))]
theorem shlN {x : Int} (h : 0 ≤ x) {y : Nat} (hy : y ≤ 63) (hx : x * 2 ^ y < 18446744073709551616) : ishl .u64 x (y : Int) = x * 2 ^ y := by
  unfold ishl
  have hb : min ((y : Int)).toNat IntKind.u64.bits = y := by
    have : IntKind.u64.bits = 64 := rfl
    rw [this]
    omega
  rw [hb]
  exact wrapU (Int.mul_nonneg h (Int.le_of_lt (Int.pow_pos (by omega)))) hx
/-- The highest bytes of an end, and the number that they are with zeros behind. -/
def topB (hi : Int) (n : Nat) : List Int := (List.range n).map fun i => hi / 2 ^ (24 - 8 * i) % 256
def topV (hi : Int) (n : Nat) : Int := hi / 2 ^ (32 - 8 * n) * 2 ^ (32 - 8 * n)
theorem topV_rg {hi : Int} (h0 : 0 ≤ hi) (n : Nat) : 0 ≤ topV hi n ∧ topV hi n ≤ hi := by
  unfold topV
  have hp : (0 : Int) < 2 ^ (32 - 8 * n) := Int.pow_pos (by omega)
  exact ⟨Int.mul_nonneg (Int.ediv_nonneg h0 (Int.le_of_lt hp)) (Int.le_of_lt hp), Int.ediv_mul_le _ (Int.ne_of_gt hp)⟩
theorem topV_step {hi : Int} (h0 : 0 ≤ hi) (h1 : hi < 4294967296) {n : Nat} (hn : n < 4) : topV hi (n + 1) = topV hi n + hi / 2 ^ (24 - 8 * n) % 256 * 2 ^ (24 - 8 * n) := by
  unfold topV
  match n, hn with
  | 0, _ => simp; omega
  | 1, _ => simp; omega
  | 2, _ => simp; omega
  | 3, _ => simp; omega
/-- How many bytes the end takes. -/
theorem end_first {lo hi : Int} (h : Rg lo hi) : ∃ n, n < 5 ∧ lo ≤ topV hi n ∧ (∀ i, i < n → ¬ lo ≤ topV hi i) ∧ endB lo hi = topB hi n := by
  obtain ⟨r1, r2, r3⟩ := h
  have v0 : topV hi 0 = hi / 4294967296 * 4294967296 := rfl
  have v1 : topV hi 1 = hi / 16777216 * 16777216 := rfl
  have v2 : topV hi 2 = hi / 65536 * 65536 := rfl
  have v3 : topV hi 3 = hi / 256 * 256 := rfl
  have v4 : topV hi 4 = hi / 1 * 1 := rfl
  rcases nat_or_first (fun i => ¬ lo ≤ topV hi i) 5 with h | ⟨n, hn, hb, hi'⟩
  · exact absurd (by omega) (h 4 (by omega))
  · simp only [Decidable.not_not] at hb
    refine ⟨n, hn, hb, hi', ?_⟩
    unfold endB topB
    match n, hn with
    | 0, _ => rw [if_pos (by omega)]; rfl
    | 1, _ =>
      have := hi' 0 (by omega)
      rw [if_neg (by omega), if_pos (by omega)]
      simp [List.range, List.range.loop]
      omega
    | 2, _ =>
      have := hi' 0 (by omega); have := hi' 1 (by omega)
      rw [if_neg (by omega), if_neg (by omega), if_pos (by omega)]
      simp [List.range, List.range.loop]
      omega
    | 3, _ =>
      have := hi' 0 (by omega); have := hi' 1 (by omega); have := hi' 2 (by omega)
      rw [if_neg (by omega), if_neg (by omega), if_neg (by omega), if_pos (by omega)]
      simp [List.range, List.range.loop]
      omega
    | 4, _ =>
      have := hi' 0 (by omega); have := hi' 1 (by omega); have := hi' 2 (by omega); have := hi' 3 (by omega)
      rw [if_neg (by omega), if_neg (by omega), if_neg (by omega), if_neg (by omega)]
      simp [List.range, List.range.loop]
      omega
theorem topB_succ (hi : Int) (n : Nat) : topB hi (n + 1) = topB hi n ++ [hi / 2 ^ (24 - 8 * n) % 256] := range_map_succ _ n
theorem topB_len (hi : Int) (n : Nat) : (topB hi n).length = n := by simp [topB]
theorem endB_len (lo hi : Int) : (endB lo hi).length ≤ 4 := by
  unfold endB
  repeat' split
  all_goals simp
theorem end_inner {fl : Nat} (hfl : 9223372036854775808 ≤ fl) {n : Nat} (hn : n ≤ 4) {kd lo hi : Int} (h0 : 0 ≤ hi) {real : Bool} {st out acc : List Int} (hl : acc.length ≤ 1000000000) {K : Int × Int × Int × Bool × List Int × List Int × List Int → Option Ans} :
    L_coder_Encoder_End_a20_2 fl ((n : Int), 0, kd, lo, hi, real, st, out, acc) K = K (kd, lo, hi, real, st, out, acc ++ topB hi n) := by
  unfold L_coder_Encoder_End_a20_2
  refine iter_seq (step := S_coder_Encoder_End_a20_2 fl) (fun i : Nat => ((n : Int), (i : Int), kd, lo, hi, real, st, out, acc ++ topB hi i)) n (by simp [topB]) (fun i hi' c => ?_) (fun c => ?_) (by omega)
  · simp only [S_coder_Encoder_End_a20_2]
    have e : (24 : Int) - 8 * (i : Int) = ((24 - 8 * i : Nat) : Int) := by omega
    rw [dec_t (by omega), wrap64 (x := 8 * (i : Int)) (by omega) (by omega), wrap64 (x := 24 - 8 * (i : Int)) (by omega) (by omega), wrap64 (x := (i : Int) + 1) (by omega) (by omega), dec_f (by omega), e, shrN h0 (by omega),
      wrap8mod (Int.ediv_nonneg h0 (Int.le_of_lt (Int.pow_pos (by omega)))), dec_t (by simp [topB_len]; omega), topB_succ, List.append_assoc]
    rfl
  · simp only [S_coder_Encoder_End_a20_2]
    rw [dec_f (by omega)]
/-- The program's end. -/
theorem end_ok {fl : Nat} (hfl : 9223372036854775808 ≤ fl) {kd : Int} {x : Iv} (h : Rg x.lo x.hi) {out : List Int} (hl : out.length ≤ 1000000000) {K : Int × Int × Int × Bool × List Int × List Int × List Int → Option Ans} :
    F_coder_Encoder_End_a20 fl kd x.lo x.hi true x.st out K = K (kd, x.lo, x.hi, true, x.st, out, out ++ endB x.lo x.hi) := by
  obtain ⟨n, hn, hb, hbe, he⟩ := end_first h
  rw [he]
  obtain ⟨r1, r2, r3⟩ := h
  unfold F_coder_Encoder_End_a20 F_coder_Encoder_none_a20
  dsimp only
  rw [cond_f (b := !true) rfl, dec_t (by omega), List.nil_append]
  unfold L_coder_Encoder_End_a20_0
  have cutv : ∀ i : Nat, i < 5 → ishl .u64 (ishr .u64 x.hi (IntKind.u64.wrap (IntKind.i64.wrap (32 - IntKind.i64.wrap (8 * (i : Int)))))) (IntKind.u64.wrap (IntKind.i64.wrap (32 - IntKind.i64.wrap (8 * (i : Int))))) = topV x.hi i ∧ ¬ IntKind.u64.wrap (IntKind.i64.wrap (32 - IntKind.i64.wrap (8 * (i : Int)))) < 0 := by
    intro i hi'
    have hx := topV_rg (hi := x.hi) (by omega) i
    have e : (32 : Int) - 8 * (i : Int) = ((32 - 8 * i : Nat) : Int) := by omega
    rw [wrap64 (x := 8 * (i : Int)) (by omega) (by omega), wrap64 (x := 32 - 8 * (i : Int)) (by omega) (by omega), wrapU (by omega) (by omega), e, shrN (by omega) (by omega)]
    refine ⟨?_, by omega⟩
    unfold topV at hx ⊢
    exact shlN (Int.ediv_nonneg (by omega) (Int.le_of_lt (Int.pow_pos (by omega)))) (by omega) (by omega)
  refine iter_to (step := S_coder_Encoder_End_a20_0 fl) (fun i : Nat => ((i : Int), kd, x.lo, x.hi, true, x.st, out, out)) n (fun i hi' c => ?_) (fun c => ?_) (by omega)
  · obtain ⟨c1, c2⟩ := cutv i (by omega)
    simp only [S_coder_Encoder_End_a20_0]
    rw [dec_t (by omega), dec_f c2, dec_f c2, c1, dec_f (by have := hbe i hi'; omega), wrap64 (by omega) (by omega)]
    rfl
  · obtain ⟨c1, c2⟩ := cutv n hn
    simp only [S_coder_Encoder_End_a20_0]
    rw [dec_t (by omega), dec_f c2, dec_f c2, c1, dec_t (by omega), end_inner hfl (by omega) (by omega) hl]
theorem emodel_ok {fl : Nat} {kd lo hi : Int} {st out : List Int} (hl : st.length ≤ 1000000) {K : Int × Int × Int × Int × Bool × List Int × List Int × List Int → Option Ans} :
    F_coder_Encoder_Model_a20 fl kd lo hi true st out K = K (kd, kd, lo, hi, true, st, out, st) := by
  unfold F_coder_Encoder_Model_a20 F_coder_Encoder_none_a20
  dsimp only
  rw [cond_f (b := !true) rfl, clone_ok hl]

/-! ### The reference's encoder -/
theorem rput_loop {fl : Nat} (hfl : 9223372036854775808 ≤ fl) {kd lo hi : Int} (hr : Rg lo hi) {st out : List Int} (ho : out.length ≤ 1000000000) {K : Int × Int × Int × List Int × List Int → Option Ans} :
    L_ref02_Encoder_Put_e89_0 fl (kd, lo, hi, st, out) K = K (kd, (nrm 5 lo hi).2.1, (nrm 5 lo hi).2.2, st, out ++ nrmB 5 lo hi) := by
  unfold L_ref02_Encoder_Put_e89_0
  refine shiftsB (step := S_ref02_Encoder_Put_e89_0 fl) 1000000100 (fun o lo hi => (kd, lo, hi, st, o)) (fun o lo hi c hr hs hl => ?_) 5 out lo hi fl hr (nrm_ends hr) (by omega) (by omega) fun c => ?_
  · simp only [S_ref02_Encoder_Put_e89_0, both_same]
    have hb : IntKind.u8.wrap (ishr .u64 hi 24) = lo / 16777216 := by
      rw [byteU (by have := hr.l; have := hr.m; omega) hr.h]
      exact hs.symm
    rw [rfixed hr, decide_eq_true hs, cond_true, hb, dec_t (by simp; omega), rshifted hr]
  · simp only [S_ref02_Encoder_Put_e89_0]
    rw [rfixed (nrm_rg 5 hr), decide_eq_false (nrm_ends hr), cond_false]
/-- What the reference puts. -/
theorem rput_ok {fl : Nat} (hfl : 9223372036854775808 ≤ fl) {kd : Int} {x : Iv} (h : x.Ok kd) {c b : Int} (h0 : 0 ≤ c) (h1 : c < x.st.length) (hb : b = 0 ∨ b = 1) {out : List Int} (ho : out.length ≤ 1000000000)
    {k0 k1 : Int × Int × Int × Int × List Int × List Int → Option Ans} :
    F_ref02_Encoder_Put_e89 fl c b kd x.lo x.hi x.st out k0 k1 = k1 (0, kd, (x.next kd c b).lo, (x.next kd c b).hi, (x.next kd c b).st, out ++ x.bytes kd c b) := by
  unfold F_ref02_Encoder_Put_e89
  have hd : decide (0 ≤ c ∧ c < (x.st.length : Int)) = true := decide_eq_true ⟨h0, h1⟩
  rw [dec_f (by omega), dec_f (by omega)]
  simp only [hd, cond_true, likely hfl h.k (h.get h0 h1), rpart h h0 h1 hb, after h.k (h.get h0 h1) hb, rput_loop hfl (h.cut (b := b) h0 h1) ho]
  rcases hb with rfl | rfl
  · rw [cond_f (b := (0 : Int) != 0) rfl]
    rfl
  · rw [cond_t (b := (1 : Int) != 0) rfl, cond_f (b := (1 : Int) != 1) rfl]
    rfl
theorem rend_ok {fl : Nat} (hfl : 9223372036854775808 ≤ fl) {kd : Int} {x : Iv} (h : Rg x.lo x.hi) {out : List Int} (hl : out.length ≤ 1000000000) {K : Int × Int × Int × List Int × List Int × List Int → Option Ans} :
    F_ref02_Encoder_End_2fe fl kd x.lo x.hi x.st out K = K (kd, x.lo, x.hi, x.st, out, out ++ endB x.lo x.hi) := by
  have hel := endB_len x.lo x.hi
  obtain ⟨n, hn, hb, hbe, he⟩ := end_first h
  have hlt : ∀ i, i < n → i < 4 := fun i hi' => by omega
  obtain ⟨r1, r2, r3⟩ := h
  unfold F_ref02_Encoder_End_2fe F_ref02_Interval_End L_ref02_Interval_End_0
  rw [dec_t (by omega), List.nil_append]
  refine iter_seq (step := S_ref02_Interval_End_0 fl) (fun i : Nat => (topV x.hi i, x.lo, x.hi, topB x.hi i)) n (by
    have : topV x.hi 0 = 0 := by
      show x.hi / 4294967296 * 4294967296 = 0
      omega
    rw [this]
    rfl) (fun i hi' c => ?_) (fun c => ?_) (by omega)
  · have hx := topV_rg (hi := x.hi) (by omega) i
    have hx1 := topV_rg (hi := x.hi) (by omega) (i + 1)
    have hst := topV_step (hi := x.hi) (by omega) r3 (hlt i hi')
    have e : (24 : Int) - 8 * (i : Int) = ((24 - 8 * i : Nat) : Int) := by omega
    have q0 : 0 ≤ x.hi / 2 ^ (24 - 8 * i) := Int.ediv_nonneg (by omega) (Int.le_of_lt (Int.pow_pos (by omega)))
    have q1 : 0 ≤ x.hi / 2 ^ (24 - 8 * i) % 256 * 2 ^ (24 - 8 * i) := Int.mul_nonneg (Int.emod_nonneg _ (by omega)) (Int.le_of_lt (Int.pow_pos (by omega)))
    simp only [S_ref02_Interval_End_0]
    rw [topB_len, dec_t (by have := hbe i hi'; omega), wrap64 (x := 8 * (i : Int)) (by omega) (by omega), wrap64 (x := 24 - 8 * (i : Int)) (by omega) (by omega), dec_f (by omega), e, shrN (by omega) (by omega), dec_t (by simp; omega), dec_f (by omega), dec_f (by omega),
      wrap8mod q0, tmod_e q0, shlN (Int.emod_nonneg _ (by omega)) (by omega) (by omega), ← hst, wrapU (by omega) (by omega), topB_succ]
  · simp only [S_ref02_Interval_End_0]
    rw [dec_f (by omega), ← he, dec_t (by omega)]
theorem rnew_enc {fl : Nat} (hfl : 9223372036854775808 ≤ fl) {kd : Int} {st : List Int} (hv : vM kd st = true) {k0 : Int → Option Ans} {k1 : Int × Int × Int × Int × List Int × List Int → Option Ans} :
    F_ref02_NewEncoder fl kd st k0 k1 = k1 (0, kd, 0, 4294967295, st, []) := by
  have hl : st.length ≤ 8192 := by
    unfold vM at hv
    simp only [Bool.and_eq_true, decide_eq_true_eq] at hv
    exact hv.1.2
  unfold F_ref02_NewEncoder F_ref02_Copy F_ref02_Whole
  rw [rmvalid hfl, hv, cond_f (b := !true) rfl, dec_t (by omega), List.nil_append]
theorem remodel_ok {fl : Nat} {kd lo hi : Int} {st out : List Int} (hl : st.length ≤ 1000000) {K : Int × Int × Int × Int × List Int × List Int × List Int → Option Ans} :
    F_ref02_Encoder_Model_2fe fl kd lo hi st out K = K (kd, kd, lo, hi, st, out, st) := by
  unfold F_ref02_Encoder_Model_2fe F_ref02_Copy
  rw [dec_t (by omega), List.nil_append]
end Go.Proofs.Ytihfgpfofmjbaaa.Co

set_option linter.unusedVariables false
set_option linter.unusedSimpArgs false
namespace Go.Proofs.Ytihfgpfofmjbaaa.Gen
open Go Ev Bm Co

/-- Whether a pixel is skipped. -/
def skb (sp : List Int) (i : Nat) : Bool := decide (sp.getD i 0 = 1)
/-- What is skipped has the region's sides, or none. -/
def Sk (w h : Int) (sp : List Int) : Prop := sp = [] ∨ (sp.length : Int) = w * h
theorem skips_ok {fl : Nat} {w h sw sh : Int} {sp : List Int} (hs : Sk w h sp) {i : Nat} (hi : (i : Int) < w * h) {K : Bool → Option Ans} : F_generic_skips fl sw sh sp (i : Int) K = K (skb sp i) := by
  unfold F_generic_skips skb
  rcases hs with rfl | hs
  · rw [dec_f (by simp)]
    try rfl
  · rw [dec_t (by omega), dec_t (by omega), Int.toNat_natCast]
    congr 1
/-- A place's number. -/
theorem place_nat {w h : Int} {x y : Nat} (hx : (x : Int) < w) (hy : (y : Int) < h) : ((y * w.toNat + x : Nat) : Int) = (y : Int) * w + x ∧ (y : Int) * w + x < w * h ∧ (y : Int) * w + w ≤ w * h := by
  have hp := place (w := w) (h := h) (x := x) (y := y) ⟨by omega, by omega, hx, hy⟩
  have hw : ((w.toNat : Nat) : Int) = w := by omega
  refine ⟨by rw [Int.natCast_add, Int.natCast_mul, hw], hp.2, ?_⟩
  have : ((y : Int) + 1) * w ≤ h * w := Int.mul_le_mul_of_nonneg_right (by omega) (by omega)
  rw [Int.add_mul, Int.one_mul, Int.mul_comm h w] at this
  exact this
theorem px_in {w h : Int} {p : List Int} {x y : Nat} (hx : (x : Int) < w) (hy : (y : Int) < h) : px w h p (x : Int) (y : Int) = p.getD (y * w.toNat + x) 0 := by
  unfold px
  rw [if_pos ⟨by omega, by omega, hx, hy⟩]
  congr 1
  have := (place_nat hx hy).1
  omega

/-! ### The events -/
section
variable (t ax ay base w h : Int) (ty : Bool) (p sp : List Int)
def pixEv (y x : Nat) : List (Int × Int) := if skb sp (y * w.toNat + x) = true then [] else [(base + ctxv w h p (x : Int) (y : Int) (around t ax ay), p.getD (y * w.toNat + x) 0)]
def pixEvs (y : Nat) : Nat → List (Int × Int)
  | 0 => []
  | n + 1 => pixEvs y n ++ pixEv t ax ay base w h p sp y n
/-- The row above, without what is skipped. -/
def aboveL (y : Nat) : List Int := (List.range w.toNat).map fun x => if skb sp (y * w.toNat + x) = true then 0 else px w h p (x : Int) ((y : Int) - 1)
def rowL (y : Nat) : List Int := (p.drop (y * w.toNat)).take w.toNat
def tb (y : Nat) : Bool := (strOfNums (aboveL w h p sp y)).toList == (strOfNums (rowL w p y)).toList
def rowEv (y : Nat) : List (Int × Int) :=
  if ty = true then (if tb w h p sp y = true then [(base + (size t - 1), 1)] else (base + (size t - 1), 0) :: pixEvs t ax ay base w h p sp y w.toNat) else pixEvs t ax ay base w h p sp y w.toNat
def allEv : Nat → List (Int × Int)
  | 0 => []
  | y + 1 => allEv y ++ rowEv t ax ay base w h ty p sp y
end
structure Reg (t ax ay kd base w h : Int) (p sp : List Int) (n : Nat) : Prop where
  v : vr t ax ay kd = true
  p : Pix w h p
  s : Sk w h sp
  b0 : 0 ≤ base
  b1 : base + size t ≤ (n : Int)
theorem around_near {t ax ay kd : Int} (hv : vr t ax ay kd = true) : ∀ d ∈ around t ax ay, -8 ≤ d.1 ∧ d.1 ≤ 8 ∧ -8 ≤ d.2 ∧ d.2 ≤ 0 := by
  obtain ⟨_, _, _, v1, v2, v3, v4, _⟩ := vr_iff.1 hv
  intro d hd
  unfold around at hd
  rcases List.mem_append.1 hd with hd | hd
  · exact tpl_near t d hd
  · simp at hd; subst hd; exact ⟨v1, v2, v3, v4⟩
theorem around_le (t ax ay : Int) : (around t ax ay).length ≤ 11 := by have := tpl_len t; rw [around_len]; omega
theorem ctx_rg {w h : Int} {p : List Int} (h0 : ∀ v ∈ p, 0 ≤ v ∧ v ≤ 1) (t ax ay x y : Int) : 0 ≤ ctxv w h p x y (around t ax ay) ∧ ctxv w h p x y (around t ax ay) < size t - 1 := by
  have := ctxv_lt (w := w) (h := h) (x := x) (y := y) h0 (around t ax ay).length (Nat.le_refl _)
  rw [List.take_length, around_len] at this
  unfold size
  omega
theorem getD_01 {p : List Int} (h0 : ∀ v ∈ p, 0 ≤ v ∧ v ≤ 1) (i : Nat) : p.getD i 0 = 0 ∨ p.getD i 0 = 1 := by
  by_cases hi : i < p.length
  · have := h0 _ (getD_mem hi 0)
    omega
  · rw [List.getD_eq_getElem?_getD, List.getElem?_eq_none (by omega)]
    exact .inl rfl
theorem pixEv_ok {t ax ay kd base w h : Int} {p sp : List Int} {n : Nat} (hr : Reg t ax ay kd base w h p sp n) (y x : Nat) : Evs n (pixEv t ax ay base w h p sp y x) ∧ (pixEv t ax ay base w h p sp y x).length ≤ 1 := by
  unfold pixEv
  split
  · exact ⟨fun e he => by simp at he, by simp⟩
  · refine ⟨fun e he => ?_, by simp⟩
    rw [List.mem_singleton] at he
    subst he
    have c := ctx_rg hr.p.bit (w := w) (h := h) t ax ay x y
    have := hr.b0
    have := hr.b1
    exact ⟨by omega, by omega, getD_01 hr.p.bit _⟩
theorem Evs.append {n : Nat} {a b : List (Int × Int)} (ha : Evs n a) (hb : Evs n b) : Evs n (a ++ b) := fun e he => by
  rcases List.mem_append.1 he with he | he
  · exact ha e he
  · exact hb e he
theorem pixEvs_ok {t ax ay kd base w h : Int} {p sp : List Int} {n : Nat} (hr : Reg t ax ay kd base w h p sp n) (y : Nat) : ∀ m, Evs n (pixEvs t ax ay base w h p sp y m) ∧ (pixEvs t ax ay base w h p sp y m).length ≤ m
  | 0 => ⟨fun e he => (by cases he), Nat.le_refl _⟩
  | m + 1 => by
    obtain ⟨a, b⟩ := pixEvs_ok hr y m
    obtain ⟨c, d⟩ := pixEv_ok hr y m
    refine ⟨Evs.append a c, ?_⟩
    rw [pixEvs, List.length_append]
    omega
theorem rowEv_ok {t ax ay kd base w h : Int} {p sp : List Int} {n : Nat} (hr : Reg t ax ay kd base w h p sp n) (ty : Bool) (y : Nat) : Evs n (rowEv t ax ay base w h ty p sp y) ∧ (rowEv t ax ay base w h ty p sp y).length ≤ w.toNat + 1 := by
  obtain ⟨a, b⟩ := pixEvs_ok hr y w.toNat
  have sz := size_eq (t := t)
  have := hr.b0
  have := hr.b1
  unfold rowEv
  split
  · split
    · exact ⟨fun e he => by rw [List.mem_singleton] at he; subst he; exact ⟨by simp only; omega, by simp only; omega, .inr rfl⟩, by simp⟩
    · refine ⟨fun e he => ?_, by simp; omega⟩
      rcases List.mem_cons.1 he with rfl | he
      · exact ⟨by simp only; omega, by simp only; omega, .inl rfl⟩
      · exact a e he
  · exact ⟨a, by omega⟩
theorem allEv_ok {t ax ay kd base w h : Int} {p sp : List Int} {n : Nat} (hr : Reg t ax ay kd base w h p sp n) (ty : Bool) : ∀ m, Evs n (allEv t ax ay base w h ty p sp m) ∧ (allEv t ax ay base w h ty p sp m).length ≤ (w.toNat + 1) * m
  | 0 => ⟨fun e he => (by cases he), Nat.zero_le _⟩
  | m + 1 => by
    obtain ⟨a, b⟩ := allEv_ok hr ty m
    obtain ⟨c, d⟩ := rowEv_ok hr ty m
    refine ⟨Evs.append a c, ?_⟩
    rw [allEv, List.length_append, Nat.mul_add]
    omega

/-! ### The program puts them -/
theorem put_pix {fl : Nat} (hfl : 9223372036854775808 ≤ fl) {t ax ay kd base w h : Int} {p sp : List Int} {kx : Int} {x : Iv} (hx : x.Ok kx) (hr : Reg t ax ay kd base w h p sp x.st.length) (hn : x.st.length ≤ 8192) {out : List Int} (ho : out.length ≤ 1000000) {ty : Bool} {sw sh : Int} {y : Nat} (hy : (y : Int) < h) {K} :
    L_generic_put_d0e_2 fl (base, (y : Int), h, (y : Int), w, 0, kx, x.lo, x.hi, true, x.st, out, t, ax, ay, ty, kd, w, h, p, sw, sh, sp, w, h, p, around t ax ay) K
    = K (base, h, (y : Int), kx, (run kx x out (pixEvs t ax ay base w h p sp y w.toNat)).1.lo, (run kx x out (pixEvs t ax ay base w h p sp y w.toNat)).1.hi, true, (run kx x out (pixEvs t ax ay base w h p sp y w.toNat)).1.st, (run kx x out (pixEvs t ax ay base w h p sp y w.toNat)).2, t, ax, ay, ty, kd, w, h, p, sw, sh, sp, w, h, p, around t ax ay) := by
  have hw0 := hr.p.w0; have hw1 := hr.p.w1; have hh1 := hr.p.h1; have hwh := hr.p.n; have hlen := hr.p.len
  unfold L_generic_put_d0e_2
  refine iter_to (step := S_generic_put_d0e_2 fl) (fun i : Nat => (base, (y : Int), h, (y : Int), w, (i : Int), kx, (run kx x out (pixEvs t ax ay base w h p sp y i)).1.lo, (run kx x out (pixEvs t ax ay base w h p sp y i)).1.hi, true, (run kx x out (pixEvs t ax ay base w h p sp y i)).1.st, (run kx x out (pixEvs t ax ay base w h p sp y i)).2, t, ax, ay, ty, kd, w, h, p, sw, sh, sp, w, h, p, around t ax ay)) w.toNat (fun i hi c => ?_) (fun c => ?_) (by omega)
  · obtain ⟨p1, p2, p3⟩ := place_nat (w := w) (h := h) (x := i) (y := y) (by omega) hy
    have hyw : 0 ≤ (y : Int) * w := Int.mul_nonneg (by omega) hw0
    obtain ⟨e1, e2⟩ := pixEvs_ok hr y i
    obtain ⟨g1, g2⟩ := pixEv_ok hr y i
    obtain ⟨ok, okl⟩ := run_ok (pixEvs t ax ay base w h p sp y i) (out := out) hx e1
    have hol := run_len_le (pixEvs t ax ay base w h p sp y i) (kd := kx) (x := x) (out := out)
    have er : run kx x out (pixEvs t ax ay base w h p sp y (i + 1)) = run kx (run kx x out (pixEvs t ax ay base w h p sp y i)).1 (run kx x out (pixEvs t ax ay base w h p sp y i)).2 (pixEv t ax ay base w h p sp y i) := run_append kx _ _ _ _
    simp only [S_generic_put_d0e_2]
    rw [er]
    generalize run kx x out (pixEvs t ax ay base w h p sp y i) = R at *
    obtain ⟨X, O⟩ := R
    simp only at ok okl hol ⊢
    rw [dec_t (by omega), wrap64 (x := (y : Int) * w) (by omega) (by omega), wrap64 (x := (y : Int) * w + (i : Int)) (by omega) (by omega), ← p1, skips_ok hr.s (by omega), wrap64 (x := (i : Int) + 1) (by omega) (by omega)]
    unfold pixEv at g1 ⊢
    by_cases hsk : skb sp (y * w.toNat + i) = true
    · rw [hsk, cond_f (b := !true) rfl, if_pos rfl]
      rfl
    · have hsk := Bool.eq_false_iff.2 hsk
      rw [hsk] at g1 ⊢
      rw [if_neg (by simp)] at g1
      obtain ⟨c0, c1, c2⟩ := g1 _ (List.mem_singleton.2 rfl)
      simp only at c0 c1 c2
      rw [cond_t (b := !false) rfl, if_neg (by simp), dec_t (by omega), gcontext hfl hr.p (by omega) (by omega) (around_le t ax ay) (around_near hr.v), Int.toNat_natCast]
      dsimp only
      have hb := getD_01 hr.p.bit (y * w.toNat + i)
      rw [wrap64 (x := base + _) (by omega) (by omega), wrap64 (x := p.getD (y * w.toNat + i) 0) (by omega) (by omega), Co.put_ok hfl ok c0 (by omega) c2 (by omega)]
      rfl
  · simp only [S_generic_put_d0e_2]
    rw [dec_f (by omega)]
theorem fillL_skip {u : Nat → Int} {n i : Nat} (h : u i = 0) : fillL u n i = fillL u n (i + 1) := by
  apply List.ext_getElem (by simp [fillL])
  intro j h1 h2
  simp only [fillL, List.getElem_map, List.getElem_range]
  by_cases hj : j < i
  · rw [if_pos hj, if_pos (by omega)]
  · rw [if_neg hj]
    by_cases hji : j = i
    · subst hji
      rw [if_pos (by omega), h]
    · rw [if_neg (by omega)]
theorem above_ok {fl : Nat} (hfl : 9223372036854775808 ≤ fl) {w h : Int} {p sp : List Int} (hp : Pix w h p) (hs : Sk w h sp) {sw sh : Int} {y : Nat} (hy : (y : Int) < h) {l : List (Int × Int)} {K} :
    F_generic_plane_above_b9e fl (y : Int) sw sh sp w h p l K = K (w, h, p, l, aboveL w h p sp y) := by
  have hw0 := hp.w0; have hw1 := hp.w1; have hh1 := hp.h1; have hwh := hp.n
  unfold F_generic_plane_above_b9e L_generic_plane_above_b9e_0
  rw [dec_t (by refine ⟨by omega, ?_, by omega, by omega⟩; first | rfl | trivial)]
  generalize hu : (fun x : Nat => if skb sp (y * w.toNat + x) = true then (0 : Int) else px w h p (x : Int) ((y : Int) - 1)) = u
  refine iter_seq (step := S_generic_plane_above_b9e_0 fl) (fun i : Nat => ((y : Int), w, (i : Int), w, h, p, l, sw, sh, sp, fillL u w.toNat i)) w.toNat (by
    rw [fillL_zero, List.length_replicate]
    simp
    omega) (fun i hi c => ?_) (fun c => ?_) (by omega)
  · obtain ⟨p1, p2, p3⟩ := place_nat (w := w) (h := h) (x := i) (y := y) (by omega) hy
    have hyw : 0 ≤ (y : Int) * w := Int.mul_nonneg (by omega) hw0
    have hui : u i = if skb sp (y * w.toNat + i) = true then (0 : Int) else px w h p (i : Int) ((y : Int) - 1) := by rw [← hu]
    simp only [S_generic_plane_above_b9e_0]
    rw [dec_t (by omega), wrap64 (x := (y : Int) * w) (by omega) (by omega), wrap64 (x := (y : Int) * w + (i : Int)) (by omega) (by omega), ← p1, skips_ok hs (by omega), wrap64 (x := (i : Int) + 1) (by omega) (by omega), wrap64 (x := (y : Int) - 1) (by omega) (by omega)]
    cases hsk : skb sp (y * w.toNat + i) with
    | true =>
      rw [cond_f (b := !true) rfl]
      rw [hsk, if_pos rfl] at hui
      rw [fillL_skip hui]
      rfl
    | false =>
      rw [hsk, if_neg (by simp)] at hui
      rw [cond_t (b := !false) rfl, gat hp]
      dsimp only
      rw [fillL_len, dec_t (by omega), Int.toNat_natCast, ← hui, fillL_set]
      rfl
  · simp only [S_generic_plane_above_b9e_0]
    rw [dec_f (by omega), fillL_all, ← hu]
    rfl
theorem row_slice {w h : Int} {p : List Int} (hp : Pix w h p) {y : Nat} (hy : (y : Int) < h) :
    List.take (hiOf (some (((y : Int) + 1) * w)) (p.length : Int) - loOf (some ((y : Int) * w))).toNat (List.drop (loOf (some ((y : Int) * w))).toNat p) = rowL w p y := by
  have hw0 := hp.w0
  have hyw : 0 ≤ (y : Int) * w := Int.mul_nonneg (by omega) hw0
  have e : ((y : Int) + 1) * w - (y : Int) * w = w := by rw [Int.add_mul, Int.one_mul]; omega
  have e2 : ((y : Int) * w).toNat = y * w.toNat := by
    have : ((y * w.toNat : Nat) : Int) = (y : Int) * w := by rw [Int.natCast_mul]; congr 1; omega
    omega
  show List.take (((y : Int) + 1) * w - (y : Int) * w).toNat (List.drop ((y : Int) * w).toNat p) = _
  rw [e, e2]
  rfl
theorem put_all {fl : Nat} (hfl : 9223372036854775808 ≤ fl) {t ax ay kd base w h : Int} {p sp : List Int} {kx : Int} {x : Iv} (hx : x.Ok kx) (hr : Reg t ax ay kd base w h p sp x.st.length) (hn : x.st.length ≤ 8192) {out : List Int} (ho : out.length ≤ 500000) {ty : Bool} {sw sh : Int} {K} :
    L_generic_put_d0e_0 fl (base, h, 0, kx, x.lo, x.hi, true, x.st, out, t, ax, ay, ty, kd, w, h, p, sw, sh, sp, w, h, p, around t ax ay) K
    = K (kx, (run kx x out (allEv t ax ay base w h ty p sp h.toNat)).1.lo, (run kx x out (allEv t ax ay base w h ty p sp h.toNat)).1.hi, true, (run kx x out (allEv t ax ay base w h ty p sp h.toNat)).1.st, (run kx x out (allEv t ax ay base w h ty p sp h.toNat)).2) := by
  have hw0 := hr.p.w0; have hw1 := hr.p.w1; have hh0 := hr.p.h0; have hh1 := hr.p.h1; have hwh := hr.p.n; have hlen := hr.p.len
  have sz := size_eq (t := t)
  have hb0 := hr.b0; have hb1 := hr.b1
  unfold L_generic_put_d0e_0
  refine iter_to (step := S_generic_put_d0e_0 fl) (fun i : Nat => (base, h, (i : Int), kx, (run kx x out (allEv t ax ay base w h ty p sp i)).1.lo, (run kx x out (allEv t ax ay base w h ty p sp i)).1.hi, true, (run kx x out (allEv t ax ay base w h ty p sp i)).1.st, (run kx x out (allEv t ax ay base w h ty p sp i)).2, t, ax, ay, ty, kd, w, h, p, sw, sh, sp, w, h, p, around t ax ay)) h.toNat (fun y hi c => ?_) (fun c => ?_) (by omega)
  · have hy : (y : Int) < h := by omega
    have hyw : 0 ≤ (y : Int) * w := Int.mul_nonneg (by omega) hw0
    have hyw2 : ((y : Int) + 1) * w ≤ h * w := Int.mul_le_mul_of_nonneg_right (by omega) (by omega)
    rw [Int.mul_comm h w] at hyw2
    have hyw3 : ((y : Int) + 1) * w = (y : Int) * w + w := by rw [Int.add_mul, Int.one_mul]
    obtain ⟨e1, e2⟩ := allEv_ok hr ty y
    have e2' : (allEv t ax ay base w h ty p sp y).length ≤ 201 * 200 := Nat.le_trans e2 (Nat.mul_le_mul (by omega) (by omega))
    obtain ⟨ok, okl⟩ := run_ok (allEv t ax ay base w h ty p sp y) (out := out) hx e1
    have hol := run_len_le (allEv t ax ay base w h ty p sp y) (kd := kx) (x := x) (out := out)
    have er : run kx x out (allEv t ax ay base w h ty p sp (y + 1)) = run kx (run kx x out (allEv t ax ay base w h ty p sp y)).1 (run kx x out (allEv t ax ay base w h ty p sp y)).2 (rowEv t ax ay base w h ty p sp y) := run_append kx _ _ _ _
    simp only [S_generic_put_d0e_0]
    rw [er]
    generalize run kx x out (allEv t ax ay base w h ty p sp y) = R at *
    obtain ⟨X, O⟩ := R
    simp only at ok okl hol ⊢
    have hrX : Reg t ax ay kd base w h p sp X.st.length := ⟨hr.v, hr.p, hr.s, hr.b0, by rw [okl]; exact hr.b1⟩
    rw [dec_t (by omega), wrap64 (x := (y : Int) + 1) (by omega) (by omega), wrap64 (x := (y : Int) * w) (by omega) (by omega), wrap64 (x := ((y : Int) + 1) * w) (by omega) (by omega)]
    unfold rowEv
    cases ty with
    | false =>
      rw [cond_false, if_neg (by simp), put_pix hfl ok hrX (by omega) (by omega) hy]
      dsimp only
      rw [wrap64 (x := (y : Int) + 1) (by omega) (by omega)]
      rfl
    | true =>
      rw [cond_true, if_pos rfl, dec_t (show (0 : Int) ≤ loOf (some ((y : Int) * w)) ∧ loOf (some ((y : Int) * w)) ≤ hiOf (some (((y : Int) + 1) * w)) (p.length : Int) ∧ hiOf (some (((y : Int) + 1) * w)) (p.length : Int) ≤ (p.length : Int) by simp only [loOf_some, hiOf_some]; omega), above_ok hfl hr.p hr.s hy, row_slice hr.p hy]
      dsimp only
      unfold F_bytes_Equal
      have htb : ((strOfNums (aboveL w h p sp y)).toList == (strOfNums (rowL w p y)).toList) = tb w h p sp y := rfl
      rw [htb]
      dsimp only
      cases htt : tb w h p sp y with
      | true =>
        rw [cond_true, if_pos rfl, gcontexts, wrap64 (x := base + (size t - 1)) (by omega) (by omega), Co.put_ok hfl ok (by omega) (by omega) (.inr rfl) (by omega)]
        rfl
      | false =>
        rw [cond_false, if_neg (by simp), gcontexts, wrap64 (x := base + (size t - 1)) (by omega) (by omega), Co.put_ok hfl ok (by omega) (by omega) (.inl rfl) (by omega)]
        dsimp only
        have ok2 := ok.next (c := base + (size t - 1)) (b := 0) (by omega) (by omega) (.inl rfl)
        have hl2 := X.next_len kx (base + (size t - 1)) 0
        have hb5 : X.many kx (base + (size t - 1)) 0 ≤ 5 := nrm_le _ _ _
        have hbl := X.bytes_len kx (base + (size t - 1)) 0
        rw [put_pix hfl ok2 ⟨hr.v, hr.p, hr.s, hr.b0, by rw [hl2, okl]; exact hr.b1⟩ (by omega) (by rw [List.length_append]; omega) hy]
        dsimp only
        rw [wrap64 (x := (y : Int) + 1) (by omega) (by omega)]
        rfl
  · simp only [S_generic_put_d0e_0]
    rw [dec_f (by omega)]
theorem put_reg {fl : Nat} (hfl : 9223372036854775808 ≤ fl) {t ax ay kd base w h : Int} {p sp : List Int} {kx : Int} {x : Iv} (hx : x.Ok kx) (hr : Reg t ax ay kd base w h p sp x.st.length) (hn : x.st.length ≤ 8192) {out : List Int} (ho : out.length ≤ 500000) {ty : Bool} {sw sh : Int} {K} :
    F_generic_put_d0e fl base t ax ay ty kd w h p sw sh sp kx x.lo x.hi true x.st out K
    = K (kx, (run kx x out (allEv t ax ay base w h ty p sp h.toNat)).1.lo, (run kx x out (allEv t ax ay base w h ty p sp h.toNat)).1.hi, true, (run kx x out (allEv t ax ay base w h ty p sp h.toNat)).1.st, (run kx x out (allEv t ax ay base w h ty p sp h.toNat)).2) := by
  unfold F_generic_put_d0e
  rw [gplane hr.p.mul0 (by have := hr.p.n; omega)]
  dsimp only
  rw [put_all hfl hx hr hn ho]
end Go.Proofs.Ytihfgpfofmjbaaa.Gen

set_option linter.unusedVariables false
set_option linter.unusedSimpArgs false
namespace Go.Proofs.Ytihfgpfofmjbaaa.Gen
open Go Ev Bm Co

theorem at_p {fl : Nat} {w h : Int} {p : List Int} (hp : Pix w h p) {x y : Int} {K : Int → Option Ans} : F_ref05_At fl w h p x y K = K (px w h p x y) :=
  at_ok (by have := hp.n; omega) hp.len (fun v hv => by have := hp.bit v hv; omega)
theorem at_none {fl : Nat} {x y : Int} {K : Int → Option Ans} : F_ref05_At fl 0 0 [] x y K = K 0 := by
  rw [at_ok (by omega) (by simp) (by simp)]
  unfold px
  rw [if_neg (by unfold ins; omega)]
theorem skb_nil (i : Nat) : skb [] i = false := by simp [skb]
theorem typical_ok {fl : Nat} (hfl : 9223372036854775808 ≤ fl) {w h : Int} {p : List Int} (hp : Pix w h p) {y : Nat} (hy : (y : Int) < h) {K} : F_ref07_typical fl w h p 0 0 [] (y : Int) K = K (aboveL w h p [] y) := by
  have hw0 := hp.w0; have hw1 := hp.w1; have hh1 := hp.h1; have hwh := hp.n
  unfold F_ref07_typical L_ref07_typical_0
  generalize hu : (fun x : Nat => px w h p (x : Int) ((y : Int) - 1)) = u
  have ha : aboveL w h p [] y = (List.range w.toNat).map u := by
    unfold aboveL
    rw [← hu]
    apply List.map_congr_left
    intro x _
    rw [skb_nil, if_neg (by simp)]
  rw [ha]
  refine iter_seq (step := S_ref07_typical_0 fl) (fun i : Nat => ((y : Int), (i : Int), w, h, p, 0, 0, [], (List.range i).map u)) w.toNat rfl (fun i hi c => ?_) (fun c => ?_) (by omega)
  · have hb := px_01 (w := w) (h := h) hp.bit (i : Int) ((y : Int) - 1)
    have hui : px w h p (i : Int) ((y : Int) - 1) = u i := by rw [← hu]
    simp only [S_ref07_typical_0]
    rw [dec_t (by omega), wrap64 (x := (y : Int) - 1) (by omega) (by omega), at_p hp, at_none]
    try dsimp only
    rw [cond_f (b := (0 : Int) == 1) rfl, dec_t (by simp; omega), wrap8 hb.1 (by omega), wrap64 (by omega) (by omega), hui, range_map_succ]
    rfl
  · simp only [S_ref07_typical_0]
    rw [dec_f (by omega)]
theorem rput_pix {fl : Nat} (hfl : 9223372036854775808 ≤ fl) {t ax ay kd base w h : Int} {p : List Int} {kx : Int} {x : Iv} (hx : x.Ok kx) (hr : Reg t ax ay kd base w h p [] x.st.length) (hn : x.st.length ≤ 8192) {out : List Int} (ho : out.length ≤ 1000000) {ty : Bool} {n : Int} {y : Nat} (hy : (y : Int) < h) {K} :
    L_ref07_Put_6c1_6 fl (base, n, (y : Int), 0, kx, x.lo, x.hi, x.st, out, t, ax, ay, ty, kd, w, h, p, 0, 0, []) K
    = K (base, n, (y : Int), kx, (run kx x out (pixEvs t ax ay base w h p [] y w.toNat)).1.lo, (run kx x out (pixEvs t ax ay base w h p [] y w.toNat)).1.hi, (run kx x out (pixEvs t ax ay base w h p [] y w.toNat)).1.st, (run kx x out (pixEvs t ax ay base w h p [] y w.toNat)).2, t, ax, ay, ty, kd, w, h, p, 0, 0, []) := by
  have hw0 := hr.p.w0; have hw1 := hr.p.w1; have hh1 := hr.p.h1; have hwh := hr.p.n; have hlen := hr.p.len
  unfold L_ref07_Put_6c1_6
  refine iter_to (step := S_ref07_Put_6c1_6 fl) (fun i : Nat => (base, n, (y : Int), (i : Int), kx, (run kx x out (pixEvs t ax ay base w h p [] y i)).1.lo, (run kx x out (pixEvs t ax ay base w h p [] y i)).1.hi, (run kx x out (pixEvs t ax ay base w h p [] y i)).1.st, (run kx x out (pixEvs t ax ay base w h p [] y i)).2, t, ax, ay, ty, kd, w, h, p, 0, 0, [])) w.toNat (fun i hi c => ?_) (fun c => ?_) (by omega)
  · obtain ⟨e1, e2⟩ := pixEvs_ok hr y i
    obtain ⟨g1, g2⟩ := pixEv_ok hr y i
    obtain ⟨ok, okl⟩ := run_ok (pixEvs t ax ay base w h p [] y i) (out := out) hx e1
    have hol := run_len_le (pixEvs t ax ay base w h p [] y i) (kd := kx) (x := x) (out := out)
    have er : run kx x out (pixEvs t ax ay base w h p [] y (i + 1)) = run kx (run kx x out (pixEvs t ax ay base w h p [] y i)).1 (run kx x out (pixEvs t ax ay base w h p [] y i)).2 (pixEv t ax ay base w h p [] y i) := run_append kx _ _ _ _
    simp only [S_ref07_Put_6c1_6]
    rw [er]
    generalize run kx x out (pixEvs t ax ay base w h p [] y i) = R at *
    obtain ⟨X, O⟩ := R
    simp only at ok okl hol ⊢
    have hpx := px_in (w := w) (h := h) (p := p) (x := i) (y := y) (by omega) hy
    unfold pixEv at g1 ⊢
    rw [skb_nil, if_neg (by simp)] at g1
    obtain ⟨c0, c1, c2⟩ := g1 _ (List.mem_singleton.2 rfl)
    simp only at c0 c1 c2
    rw [dec_t (by omega), wrap64 (x := (i : Int) + 1) (by omega) (by omega), at_none, cond_t (b := (0 : Int) == 0) rfl, rcontext hfl hr.p hr.v (by omega) (by omega), at_p hr.p, hpx]
    try dsimp only
    rw [wrap64 (x := base + _) (by omega) (by omega), Co.rput_ok hfl ok c0 (by omega) c2 (by omega), skb_nil, if_neg (by simp)]
    rfl
  · simp only [S_ref07_Put_6c1_6]
    rw [dec_f (by omega)]
theorem rput_all {fl : Nat} (hfl : 9223372036854775808 ≤ fl) {t ax ay kd base w h : Int} {p : List Int} {kx : Int} {x : Iv} (hx : x.Ok kx) (hr : Reg t ax ay kd base w h p [] x.st.length) (hn : x.st.length ≤ 8192) {out : List Int} (ho : out.length ≤ 500000) {ty : Bool} {K} :
    L_ref07_Put_6c1_4 fl (base, size t, 0, kx, x.lo, x.hi, x.st, out, t, ax, ay, ty, kd, w, h, p, 0, 0, []) K
    = K (kx, (run kx x out (allEv t ax ay base w h ty p [] h.toNat)).1.lo, (run kx x out (allEv t ax ay base w h ty p [] h.toNat)).1.hi, (run kx x out (allEv t ax ay base w h ty p [] h.toNat)).1.st, (run kx x out (allEv t ax ay base w h ty p [] h.toNat)).2) := by
  have hw0 := hr.p.w0; have hw1 := hr.p.w1; have hh0 := hr.p.h0; have hh1 := hr.p.h1; have hwh := hr.p.n; have hlen := hr.p.len
  have sz := size_eq (t := t)
  have hb0 := hr.b0; have hb1 := hr.b1
  unfold L_ref07_Put_6c1_4
  refine iter_to (step := S_ref07_Put_6c1_4 fl) (fun i : Nat => (base, size t, (i : Int), kx, (run kx x out (allEv t ax ay base w h ty p [] i)).1.lo, (run kx x out (allEv t ax ay base w h ty p [] i)).1.hi, (run kx x out (allEv t ax ay base w h ty p [] i)).1.st, (run kx x out (allEv t ax ay base w h ty p [] i)).2, t, ax, ay, ty, kd, w, h, p, 0, 0, [])) h.toNat (fun y hi c => ?_) (fun c => ?_) (by omega)
  · have hy : (y : Int) < h := by omega
    have hyw : 0 ≤ (y : Int) * w := Int.mul_nonneg (by omega) hw0
    have hyw2 : ((y : Int) + 1) * w ≤ h * w := Int.mul_le_mul_of_nonneg_right (by omega) (by omega)
    rw [Int.mul_comm h w] at hyw2
    have hyw3 : ((y : Int) + 1) * w = (y : Int) * w + w := by rw [Int.add_mul, Int.one_mul]
    obtain ⟨e1, e2⟩ := allEv_ok hr ty y
    have e2' : (allEv t ax ay base w h ty p [] y).length ≤ 201 * 200 := Nat.le_trans e2 (Nat.mul_le_mul (by omega) (by omega))
    obtain ⟨ok, okl⟩ := run_ok (allEv t ax ay base w h ty p [] y) (out := out) hx e1
    have hol := run_len_le (allEv t ax ay base w h ty p [] y) (kd := kx) (x := x) (out := out)
    have er : run kx x out (allEv t ax ay base w h ty p [] (y + 1)) = run kx (run kx x out (allEv t ax ay base w h ty p [] y)).1 (run kx x out (allEv t ax ay base w h ty p [] y)).2 (rowEv t ax ay base w h ty p [] y) := run_append kx _ _ _ _
    simp only [S_ref07_Put_6c1_4, both_same]
    rw [er]
    generalize run kx x out (allEv t ax ay base w h ty p [] y) = R at *
    obtain ⟨X, O⟩ := R
    simp only at ok okl hol ⊢
    have hrX : Reg t ax ay kd base w h p [] X.st.length := ⟨hr.v, hr.p, hr.s, hr.b0, by rw [okl]; exact hr.b1⟩
    rw [dec_t (by omega), wrap64 (x := (y : Int) + 1) (by omega) (by omega), wrap64 (x := (y : Int) * w) (by omega) (by omega), wrap64 (x := ((y : Int) + 1) * w) (by omega) (by omega)]
    unfold rowEv
    cases ty with
    | false =>
      rw [cond_false, if_neg (by simp), rput_pix hfl ok hrX (by omega) (by omega) hy]
      dsimp only
      rw [wrap64 (x := (y : Int) + 1) (by omega) (by omega)]
      rfl
    | true =>
      rw [cond_true, if_pos rfl, dec_t (show (0 : Int) ≤ loOf (some ((y : Int) * w)) ∧ loOf (some ((y : Int) * w)) ≤ hiOf (some (((y : Int) + 1) * w)) (p.length : Int) ∧ hiOf (some (((y : Int) + 1) * w)) (p.length : Int) ≤ (p.length : Int) by simp only [loOf_some, hiOf_some]; omega), typical_ok hfl hr.p hy, row_slice hr.p hy]
      try dsimp only
      have htb : ((strOfNums (aboveL w h p [] y)).toList == (strOfNums (rowL w p y)).toList) = tb w h p [] y := rfl
      have hbs : IntKind.i64.wrap (IntKind.i64.wrap (base + size t) - 1) = base + (size t - 1) := by
        rw [wrap64 (x := base + size t) (by omega) (by omega), wrap64 (by omega) (by omega)]
        omega
      rw [htb, hbs]
      cases htt : tb w h p [] y with
      | true =>
        rw [cond_true, if_pos rfl, Co.rput_ok hfl ok (by omega) (by omega) (.inr rfl) (by omega)]
        rfl
      | false =>
        rw [cond_false, if_neg (by simp), Co.rput_ok hfl ok (by omega) (by omega) (.inl rfl) (by omega)]
        try dsimp only
        have ok2 := ok.next (c := base + (size t - 1)) (b := 0) (by omega) (by omega) (.inl rfl)
        have hl2 := X.next_len kx (base + (size t - 1)) 0
        have hb5 : X.many kx (base + (size t - 1)) 0 ≤ 5 := nrm_le _ _ _
        have hbl := X.bytes_len kx (base + (size t - 1)) 0
        rw [rput_pix hfl ok2 ⟨hr.v, hr.p, hr.s, hr.b0, by rw [hl2, okl]; exact hr.b1⟩ (by omega) (by rw [List.length_append]; omega) hy]
        dsimp only
        rw [wrap64 (x := (y : Int) + 1) (by omega) (by omega)]
        rfl
  · simp only [S_ref07_Put_6c1_4]
    rw [dec_f (by omega)]
theorem room_none {fl : Nat} {t ax ay kd base st w h : Int} {ty : Bool} (hv : vr t ax ay kd = true) (b0 : 0 ≤ base) (b1 : base + size t ≤ st) (hs : st ≤ 100000) {K : Int → Option Ans} : F_ref07_room fl t ax ay ty kd base st w h 0 0 [] K = K 0 := by
  have sz := size_eq (t := t)
  unfold F_ref07_room F_ref07_none
  rw [rsize]
  unfold sizeR
  rw [if_pos hv]
  dsimp only
  rw [cond_t (b := (0 : Int) == 0) rfl, cond_f (b := !((0 : Int) == 0)) rfl, dec_f (by omega), dec_f (by omega), wrap64 (by omega) (by omega), dec_f (by omega)]
/-- What the reference puts: nothing is skipped. -/
theorem rput_reg {fl : Nat} (hfl : 9223372036854775808 ≤ fl) {t ax ay kd base w h : Int} {p : List Int} {kx : Int} {x : Iv} (hx : x.Ok kx) (hr : Reg t ax ay kd base w h p [] x.st.length) (hn : x.st.length ≤ 8192) {out : List Int} (ho : out.length ≤ 500000) {ty : Bool} {k0 k1} :
    F_ref07_Put_6c1 fl base t ax ay ty kd w h p 0 0 [] kx x.lo x.hi x.st out k0 k1
    = k1 (0, kx, (run kx x out (allEv t ax ay base w h ty p [] h.toNat)).1.lo, (run kx x out (allEv t ax ay base w h ty p [] h.toNat)).1.hi, (run kx x out (allEv t ax ay base w h ty p [] h.toNat)).1.st, (run kx x out (allEv t ax ay base w h ty p [] h.toNat)).2) := by
  have hw0 := hr.p.w0; have hh0 := hr.p.h0
  have hval : valid w h p = true := valid_iff.2 ⟨⟨hr.p.w0, hr.p.h0, hr.p.w1, hr.p.h1, hr.p.n⟩, hr.p.len, fun v hv => (hr.p.bit v hv).2⟩
  unfold F_ref07_Put_6c1
  rw [rvalid, hr.v, cond_f (b := !true) rfl, rvalid_ok hfl, hval, cond_f (b := !true) rfl, rvalid_ok hfl, show valid 0 0 [] = true from rfl, cond_f (b := !true) rfl]
  have hcl : ∀ ret b, L_ref07_Put_6c1_0 fl (base, 0, kx, x.lo, x.hi, x.st, out, t, ax, ay, ty, kd, w, h, p, 0, 0, []) ret b = b (base, kx, x.lo, x.hi, x.st, out, t, ax, ay, ty, kd, w, h, p, 0, 0, []) := by
    intro ret b
    unfold L_ref07_Put_6c1_0
    refine iter_to (step := S_ref07_Put_6c1_0 fl) (fun i : Nat => (base, (i : Int), kx, x.lo, x.hi, x.st, out, t, ax, ay, ty, kd, w, h, p, 0, 0, [])) 0 (fun i hi c => by omega) (fun c => ?_) (by omega)
    simp only [S_ref07_Put_6c1_0]
    by_cases h1 : ((0 : Nat) : Int) < h
    · rw [dec_t h1, cb]
      by_cases h2 : w = 0
      · rw [if_pos h2, cb, if_neg (by omega)]
      · rw [if_neg h2]
    · rw [dec_f h1]
  rw [hcl]
  dsimp only
  rw [Co.remodel_ok (by omega)]
  dsimp only
  rw [room_none hr.v hr.b0 hr.b1 (by omega), cond_f (b := (0 : Int) != 0) rfl, rsize]
  unfold sizeR
  rw [if_pos hr.v]
  dsimp only
  rw [rput_all hfl hx hr hn ho]
end Go.Proofs.Ytihfgpfofmjbaaa.Gen

set_option linter.unusedVariables false
set_option linter.unusedSimpArgs false
namespace Go.Proofs.Ytihfgpfofmjbaaa.Gen
open Go Ev Bm Co

/-- A new model's interval. -/
def iv0 (t : Int) : Iv := ⟨List.replicate (size t).toNat 0, 0, 4294967295⟩
/-- What all events of a bitmap come to. -/
def encS (t ax ay kd w h : Int) (ty : Bool) (p : List Int) : Iv × List Int := run kd (iv0 t) [] (allEv t ax ay 0 w h ty p [] h.toNat)
def encC (t ax ay kd w h : Int) (ty : Bool) (p : List Int) : List Int := (encS t ax ay kd w h ty p).2 ++ endB (encS t ax ay kd w h ty p).1.lo (encS t ax ay kd w h ty p).1.hi
/-- What Encode returns. -/
def encR (t ax ay kd w h : Int) (ty : Bool) (p : List Int) : Int × List Int :=
  if vr t ax ay kd = true then (if valid w h p = true then (0, encC t ax ay kd w h ty p) else (30, [])) else (2, [])
theorem vr_kd {t ax ay kd : Int} (hv : vr t ax ay kd = true) : kd = 0 ∨ kd = 1 := (vr_iff.1 hv).2.2.1
theorem newR_ok {t ax ay kd : Int} (hv : vr t ax ay kd = true) : newR kd (size t) = (kd, 0, List.replicate (size t).toNat 0) := by
  have sz := size_eq (t := t)
  unfold newR
  rw [if_pos ⟨vr_kd hv, by omega, by omega⟩]
theorem iv0_vM {t ax ay kd : Int} (hv : vr t ax ay kd = true) : vM kd (List.replicate (size t).toNat 0) = true := vM_zeros (vr_kd hv) (by have sz := size_eq (t := t); omega)
theorem iv0_ok {t ax ay kd : Int} (hv : vr t ax ay kd = true) : (iv0 t).Ok kd := ok_new (iv0_vM hv)
theorem reg0 {t ax ay kd w h : Int} {p : List Int} (hv : vr t ax ay kd = true) (hp : Pix w h p) : Reg t ax ay kd 0 w h p [] (iv0 t).st.length :=
  ⟨hv, hp, .inl rfl, by omega, by have sz := size_eq (t := t); show 0 + size t ≤ ((List.replicate (size t).toNat (0 : Int)).length : Int); rw [List.length_replicate]; omega⟩
theorem iv0_len (t : Int) : (iv0 t).st.length ≤ 8192 := by
  have sz := size_eq (t := t)
  show (List.replicate (size t).toNat (0 : Int)).length ≤ 8192
  rw [List.length_replicate]
  omega
theorem encS_ok {t ax ay kd w h : Int} {p : List Int} (hv : vr t ax ay kd = true) (hp : Pix w h p) (ty : Bool) : (encS t ax ay kd w h ty p).1.Ok kd ∧ (encS t ax ay kd w h ty p).2.length ≤ 300000 := by
  obtain ⟨e1, e2⟩ := allEv_ok (reg0 hv hp) ty h.toNat
  have hol := run_len_le (allEv t ax ay 0 w h ty p [] h.toNat) (kd := kd) (x := iv0 t) (out := [])
  have hw1 := hp.w1; have hh1 := hp.h1
  have e2' : (allEv t ax ay 0 w h ty p [] h.toNat).length ≤ 201 * 200 := Nat.le_trans e2 (Nat.mul_le_mul (by omega) (by omega))
  refine ⟨(run_ok _ (out := []) (iv0_ok hv) e1).1, ?_⟩
  unfold encS
  simp only [List.length_nil] at hol
  omega
theorem encC_len {t ax ay kd w h : Int} {p : List Int} (hv : vr t ax ay kd = true) (hp : Pix w h p) (ty : Bool) : (encC t ax ay kd w h ty p).length ≤ 400000 := by
  have := (encS_ok hv hp ty).2
  have := endB_len (encS t ax ay kd w h ty p).1.lo (encS t ax ay kd w h ty p).1.hi
  unfold encC
  rw [List.length_append]
  omega
theorem genc {fl : Nat} (hfl : 9223372036854775808 ≤ fl) {t ax ay kd w h : Int} {ty : Bool} {p : List Int} (h0 : ∀ v ∈ p, 0 ≤ v) {K : Int × List Int → Option Ans} : F_generic_Encode fl t ax ay ty kd w h p K = K (encR t ax ay kd w h ty p) := by
  have sz := size_eq (t := t)
  unfold F_generic_Encode encR
  simp only [both_same]
  rw [gvalid]
  cases hv : vr t ax ay kd with
  | false => rfl
  | true =>
  rw [cond_f (b := !true) rfl, if_pos rfl, valid_ok hfl]
  cases hb : valid w h p with
  | false => rfl
  | true =>
  have hp := pix_of hb h0
  obtain ⟨s1, s2⟩ := encS_ok hv hp ty
  have s1' : (run kd (iv0 t) [] (allEv t ax ay 0 w h ty p [] h.toNat)).1.Ok kd := s1
  have s2' : (run kd (iv0 t) [] (allEv t ax ay 0 w h ty p [] h.toNat)).2.length ≤ 300000 := s2
  rw [cond_f (b := !true) rfl, if_pos rfl, gcontexts]
  try dsimp only
  rw [wrap64 (by omega) (by omega), Int.sub_add_cancel, gnew, newR_ok hv]
  dsimp only
  rw [new_enc hfl (iv0_vM hv)]
  dsimp only
  have hput := fun K => put_reg (fl := fl) hfl (iv0_ok hv) (reg0 hv hp) (iv0_len t) (out := []) (by simp) (ty := ty) (sw := 0) (sh := 0) (K := K)
  rw [show F_generic_put_d0e fl 0 t ax ay ty kd w h p 0 0 [] kd 0 4294967295 true (List.replicate (size t).toNat 0) [] = F_generic_put_d0e fl 0 t ax ay ty kd w h p 0 0 [] kd (iv0 t).lo (iv0 t).hi true (iv0 t).st [] from rfl, hput]
  dsimp only
  rw [end_ok hfl (x := (run kd (iv0 t) [] (allEv t ax ay 0 w h ty p [] h.toNat)).1) s1'.r (by omega)]
  rfl
theorem renc {fl : Nat} (hfl : 9223372036854775808 ≤ fl) {t ax ay kd w h : Int} {ty : Bool} {p : List Int} (h0 : ∀ v ∈ p, 0 ≤ v) {K : Int × List Int → Option Ans} : F_ref07_Encode fl t ax ay ty kd w h p K = K (encR t ax ay kd w h ty p) := by
  unfold F_ref07_Encode encR
  rw [rsize]
  unfold sizeR
  cases hv : vr t ax ay kd with
  | false => rfl
  | true =>
  rw [if_pos rfl]
  dsimp only
  rw [cond_f (b := (0 : Int) != 0) rfl, rnew, newR_ok hv]
  dsimp only
  rw [rnew_enc hfl (iv0_vM hv), if_pos rfl]
  dsimp only
  cases hb : valid w h p with
  | false =>
    unfold F_ref07_Put_6c1
    rw [rvalid, hv, cond_f (b := !true) rfl, rvalid_ok hfl, hb, cond_t (b := !false) rfl]
    rfl
  | true =>
  have hp := pix_of hb h0
  obtain ⟨s1, s2⟩ := encS_ok hv hp ty
  have s1' : (run kd (iv0 t) [] (allEv t ax ay 0 w h ty p [] h.toNat)).1.Ok kd := s1
  have s2' : (run kd (iv0 t) [] (allEv t ax ay 0 w h ty p [] h.toNat)).2.length ≤ 300000 := s2
  have hput := fun k0 k1 => rput_reg (fl := fl) hfl (iv0_ok hv) (reg0 hv hp) (iv0_len t) (out := []) (by simp) (ty := ty) (k0 := k0) (k1 := k1)
  rw [if_pos rfl, show F_ref07_Put_6c1 fl 0 t ax ay ty kd w h p 0 0 [] kd 0 4294967295 (List.replicate (size t).toNat 0) [] = F_ref07_Put_6c1 fl 0 t ax ay ty kd w h p 0 0 [] kd (iv0 t).lo (iv0 t).hi (iv0 t).st [] from rfl, hput]
  dsimp only
  rw [cond_f (b := (0 : Int) != 0) rfl, rend_ok hfl (x := (run kd (iv0 t) [] (allEv t ax ay 0 w h ty p [] h.toNat)).1) s1'.r (by omega)]
  rfl
end Go.Proofs.Ytihfgpfofmjbaaa.Gen

set_option linter.unusedVariables false
set_option linter.unusedSimpArgs false
namespace Go.Proofs.Ytihfgpfofmjbaaa.PureGenericBest
open Go Ev Bm Co Gen
/-- A template's usual options. -/
def ua (n : Nat) : Int := 3 - ((n % 2 : Nat) : Int)
theorem usual_ok {fl : Nat} {n : Nat} (hn : n < 4) {K : Int × Int × Int × Bool × Int × Int → Option Ans} : F_generic_Usual fl (n : Int) K = K ((n : Int), ua n, -1, true, 0, 0) := by
  match n, hn with
  | 0, _ => rfl
  | 1, _ => rfl
  | 2, _ => rfl
  | 3, _ => rfl
theorem rusual_ok {fl : Nat} {n : Nat} (hn : n < 4) {K : Int × Int × Int × Bool × Int × Int → Option Ans} : F_ref07_Usual fl (n : Int) K = K ((n : Int), ua n, -1, true, 0, 0) := by
  match n, hn with
  | 0, _ => rfl
  | 1, _ => rfl
  | 2, _ => rfl
  | 3, _ => rfl
theorem usual_vr {n : Nat} (hn : n < 4) : vr (n : Int) (ua n) (-1) 0 = true := by
  match n, hn with
  | 0, _ => rfl
  | 1, _ => rfl
  | 2, _ => rfl
  | 3, _ => rfl
section
variable (w h : Int) (p : List Int)
def cd (n : Nat) : List Int := encC (n : Int) (ua n) (-1) 0 w h true p
def bl : Nat → Int
  | 0 => -1
  | i + 1 => if bl i < 0 ∨ ((cd w h p i).length : Int) < bl i then ((cd w h p i).length : Int) else bl i
def bb : Nat → Nat
  | 0 => 0
  | i + 1 => if bl w h p i < 0 ∨ ((cd w h p i).length : Int) < bl w h p i then i else bb i
theorem bl_ok : ∀ i, (0 < i → bl w h p i = ((cd w h p (bb w h p i)).length : Int) ∧ bb w h p i < i) ∧ ∀ j, j < i → bl w h p i ≤ ((cd w h p j).length : Int)
  | 0 => ⟨fun h => by omega, fun j h => by omega⟩
  | i + 1 => by
    obtain ⟨a, b⟩ := bl_ok i
    unfold bl bb
    by_cases hc : bl w h p i < 0 ∨ ((cd w h p i).length : Int) < bl w h p i
    · rw [if_pos hc, if_pos hc]
      refine ⟨fun _ => ⟨rfl, by omega⟩, fun j hj => ?_⟩
      rcases Nat.lt_or_ge j i with h' | h'
      · have := b j h'
        have := (a (by omega)).1
        omega
      · have : j = i := by omega
        subst this
        exact Int.le_refl _
    · rw [if_neg hc, if_neg hc]
      refine ⟨fun _ => ?_, fun j hj => ?_⟩
      · rcases Nat.eq_zero_or_pos i with h0 | h0
        · subst h0
          exact absurd (.inl (by show (-1 : Int) < 0; decide)) hc
        · have := a h0
          exact ⟨this.1, by omega⟩
      · rcases Nat.lt_or_ge j i with h' | h'
        · exact b j h'
        · have : j = i := by omega
          subst this
          omega
end
theorem encU {w h : Int} {p : List Int} {n : Nat} (hn : n < 4) : encR (n : Int) (ua n) (-1) 0 w h true p = if valid w h p = true then (0, cd w h p n) else (30, []) := by
  unfold encR
  rw [if_pos (usual_vr hn)]
  rfl
abbrev Opt := Int × Int × Int × Bool × Int
def us (n : Nat) : Opt := ((n : Int), ua n, -1, true, 0)
theorem best_loop {fl : Nat} (hfl : 9223372036854775808 ≤ fl) {w h : Int} {p : List Int} (h0 : ∀ v ∈ p, 0 ≤ v) (hv : valid w h p = true) {ret b} :
    L_generic_Best_0 fl (-1, 0, w, h, p, 0, 0, 0, false, 0, 0, 0, 0, false, 0) ret b = b (0, 0, 0, false, 0, us (bb w h p 4)) := by
  unfold L_generic_Best_0
  refine iter_seq (step := S_generic_Best_0 fl) (fun i : Nat => (bl w h p i, (i : Int), w, h, p, 0, 0, 0, false, 0, if i = 0 then (0, 0, 0, false, 0) else us (bb w h p i))) 4 rfl (fun i hi c => ?_) (fun c => ?_) (by omega)
  · simp only [S_generic_Best_0]
    rw [dec_t (by omega), usual_ok hi]
    dsimp only
    rw [genc hfl h0, encU hi, if_pos hv]
    dsimp only
    rw [cond_f (b := (0 : Int) != 0) rfl, wrap64 (by omega) (by omega)]
    have e : bl w h p (i + 1) = if bl w h p i < 0 ∨ ((cd w h p i).length : Int) < bl w h p i then ((cd w h p i).length : Int) else bl w h p i := rfl
    have e2 : bb w h p (i + 1) = if bl w h p i < 0 ∨ ((cd w h p i).length : Int) < bl w h p i then i else bb w h p i := rfl
    rw [if_neg (show ¬ i + 1 = 0 by omega)]
    by_cases c1 : bl w h p i < 0
    · rw [dec_t c1, e, e2, if_pos (.inl c1), if_pos (.inl c1)]
      rfl
    · rw [dec_f c1]
      by_cases c2 : ((cd w h p i).length : Int) < bl w h p i
      · rw [dec_t c2, e, e2, if_pos (.inr c2), if_pos (.inr c2)]
        rfl
      · rw [dec_f c2, e, e2, if_neg (show ¬ (bl w h p i < 0 ∨ ((cd w h p i).length : Int) < bl w h p i) by omega), if_neg (show ¬ (bl w h p i < 0 ∨ ((cd w h p i).length : Int) < bl w h p i) by omega)]
        have : i ≠ 0 := by
          intro h'
          subst h'
          exact c1 (by show (-1 : Int) < 0; decide)
        try rw [if_neg this]
        rfl
  · simp only [S_generic_Best_0]
    rw [dec_f (by omega), if_neg (by omega)]
theorem rbest_loop {fl : Nat} (hfl : 9223372036854775808 ≤ fl) {w h : Int} {p : List Int} (h0 : ∀ v ∈ p, 0 ≤ v) (hv : valid w h p = true) {b} :
    L_ref07_Best_0 fl (-1, 0, w, h, p, 0, 0, 0, false, 0, us 0) b = b (0, 0, 0, false, 0, us (bb w h p 4)) := by
  unfold L_ref07_Best_0
  refine iter_seq (step := S_ref07_Best_0 fl) (fun i : Nat => (bl w h p i, (i : Int), w, h, p, 0, 0, 0, false, 0, us (bb w h p i))) 4 rfl (fun i hi c => ?_) (fun c => ?_) (by omega)
  · simp only [S_ref07_Best_0, us]
    rw [dec_t (by omega), rusual_ok hi]
    dsimp only
    rw [renc hfl h0, encU hi, if_pos hv]
    dsimp only
    rw [wrap64 (by omega) (by omega)]
    have e : bl w h p (i + 1) = if bl w h p i < 0 ∨ ((cd w h p i).length : Int) < bl w h p i then ((cd w h p i).length : Int) else bl w h p i := rfl
    have e2 : bb w h p (i + 1) = if bl w h p i < 0 ∨ ((cd w h p i).length : Int) < bl w h p i then i else bb w h p i := rfl
    by_cases c1 : bl w h p i < 0
    · rw [dec_t c1, e, e2, if_pos (.inl c1), if_pos (.inl c1)]
      rfl
    · rw [dec_f c1]
      by_cases c2 : ((cd w h p i).length : Int) < bl w h p i
      · rw [dec_t c2, e, e2, if_pos (.inr c2), if_pos (.inr c2)]
        rfl
      · rw [dec_f c2, e, e2, if_neg (show ¬ (bl w h p i < 0 ∨ ((cd w h p i).length : Int) < bl w h p i) by omega), if_neg (show ¬ (bl w h p i < 0 ∨ ((cd w h p i).length : Int) < bl w h p i) by omega)]
        rfl
  · simp only [S_ref07_Best_0, us]
    rw [dec_f (by omega)]
theorem pure_fl {fl : Nat} (hfl : 9223372036854775808 ≤ fl) (w h : Int) (p : List Int) (K : Bool → Option Ans) (h0 : ∀ v ∈ p, 0 ≤ v) : F_law07_GenericBest fl w h p K = K true := by
  unfold F_law07_GenericBest
  by_cases hl : (p.length : Int) > 500
  · rw [dec_t hl, sane hfl]
  rw [dec_f hl]
  unfold F_generic_Best F_ref07_Best
  cases hv : valid w h p with
  | false =>
    have hb : ∀ ret b, L_generic_Best_0 fl (-1, 0, w, h, p, 0, 0, 0, false, 0, 0, 0, 0, false, 0) ret b = ret (30, 0, 0, 0, false, 0) := by
      intro ret b
      unfold L_generic_Best_0
      refine iter_to (step := S_generic_Best_0 fl) (fun i : Nat => (-1, (i : Int), w, h, p, 0, 0, 0, false, 0, 0, 0, 0, false, 0)) 0 (fun i hi c => by omega) (fun c => ?_) (by omega)
      simp only [S_generic_Best_0]
      rw [dec_t (by omega), usual_ok (by omega)]
      dsimp only
      rw [genc hfl h0, encU (by omega), if_neg (by rw [hv]; simp)]
      rfl
    rw [hb]
    dsimp only
    rw [rvalid_ok hfl, hv, cond_t (b := !false) rfl]
    try dsimp only
    rw [cond_f (by rfl), cond_f (by rfl), cond_t (by rfl), sane hfl]
  | true =>
    rw [best_loop hfl h0 hv]
    simp only [us]
    rw [rvalid_ok hfl, hv, cond_f (b := !true) rfl]
    have hu := fun K => rusual_ok (fl := fl) (n := 0) (by omega) (K := K)
    rw [show F_ref07_Usual fl 0 = F_ref07_Usual fl ((0 : Nat) : Int) from rfl, hu]
    dsimp only
    have hr := fun b => rbest_loop (fl := fl) hfl h0 hv (b := b)
    simp only [us] at hr
    rw [hr]
    dsimp only
    have hbb := bl_ok w h p 4
    obtain ⟨b1, b2⟩ := hbb.1 (by omega)
    rw [cond_f (by rfl), cond_f (by simp), cond_f (by rfl), genc hfl h0, encU b2, if_pos hv]
    dsimp only
    have hloop : ∀ ret b, L_law07_GenericBest_0 fl (0, 0, w, h, p, cd w h p (bb w h p 4)) ret b = b () := by
      intro ret b
      unfold L_law07_GenericBest_0
      refine iter_to (step := S_law07_GenericBest_0 fl) (fun i : Nat => (0, (i : Int), w, h, p, cd w h p (bb w h p 4))) 4 (fun i hi c => ?_) (fun c => ?_) (by omega)
      · simp only [S_law07_GenericBest_0]
        rw [dec_t (by omega), usual_ok hi]
        dsimp only
        rw [genc hfl h0, encU hi, if_pos hv]
        dsimp only
        have hmin := hbb.2 i hi
        rw [cond_f (b := (0 : Int) != 0) rfl, cond_f (b := (0 : Int) != 0) rfl, cond_f (b := (0 : Int) != 0) rfl, dec_f (by omega), wrap64 (by omega) (by omega)]
        rfl
      · simp only [S_law07_GenericBest_0]
        rw [dec_f (by omega)]
    rw [hloop]
    try dsimp only
    rw [sane hfl]
theorem pure (w h : Int) (p : List Int) (K : Bool → Option Ans) (g : given (.pair (.int .i64) (.pair (.int .i64) (.sl (.int .u8)))) (w, h, p)) : F_law07_GenericBest fuel w h p K = K true :=
  pure_fl (by rw [fuel_eq]; omega) w h p K fun v hv => by
    obtain ⟨_, _, _, hg⟩ := g
    have h : (Lit.int .u8 v).wf = true := hg v hv
    simp [Lit.wf, IntKind.min, IntKind.max, IntKind.signed, IntKind.bits] at h
    omega
end Go.Proofs.Ytihfgpfofmjbaaa.PureGenericBest

