/- Laws of the typed texts that GenericNil reaches, in plain Lean. No condition but what each theorem names. -/
import Derived.Test.YtihfgpfofmjbaaaEvO
import Derived.Test.YtihfgpfofmjbaaaFsGenericNil1
import Derived.Test.YtihfgpfofmjbaaaFsGenericNil2
import Derived.Test.YtihfgpfofmjbaaaEvS
set_option linter.unusedVariables false
set_option linter.unusedSimpArgs false
set_option linter.unusedVariables false
namespace Go.Proofs.Ytihfgpfofmjbaaa.Ev
open Go

theorem cond_t {α : Sort _} {b : Bool} {x y : α} (h : b = true) : (bif b then x else y) = x := by rw [h]; rfl
theorem cond_f {α : Sort _} {b : Bool} {x y : α} (h : b = false) : (bif b then x else y) = y := by rw [h]; rfl
theorem dec_t {p : Prop} {i : Decidable p} {α : Sort _} {x y : α} (h : p) : (bif @decide p i then x else y) = x := cond_t (decide_eq_true h)
theorem dec_f {p : Prop} {i : Decidable p} {α : Sort _} {x y : α} (h : ¬p) : (bif @decide p i then x else y) = y := cond_f (decide_eq_false h)
theorem loOf_some (x : Int) : loOf (some x) = x := rfl
theorem hiOf_some (x n : Int) : hiOf (some x) n = x := rfl
theorem both_same (x : Option Ans) : both x x = x := by
  unfold both
  cases x with
  | none => rfl
  | some u => rfl

/-- A loop that comes to its end: by a measure. -/
theorem iter_ind {V B : Type} {step : V → (V → Option Ans) → B → Option Ans} {b : B} (I : V → Prop) (m : V → Nat) (r : V → Option Ans)
    (h : ∀ v c, I v → (∀ v', I v' → m v' < m v → c v' = r v') → step v c b = r v) : ∀ n v, I v → m v < n → iter step n v b = r v
  | 0, v, hI, hm => by omega
  | n + 1, v, hI, hm => h v _ hI fun v' hI' hm' => iter_ind I m r h n v' hI' (by omega)

theorem fuel_eq : fuel = 18446744073709551616 := rfl
theorem fuel_lt {n : Nat} (h : n < 18446744073709551616) : n < fuel := by rw [fuel_eq]; exact h

/-! ### Numbers -/
theorem wrap64 {x : Int} (h1 : -9223372036854775808 ≤ x) (h2 : x ≤ 9223372036854775807) : IntKind.i64.wrap x = x := by
  simp [IntKind.wrap, IntKind.min, IntKind.max, IntKind.signed, IntKind.bits]
  omega
theorem wrap8 {x : Int} (h1 : 0 ≤ x) (h2 : x ≤ 255) : IntKind.u8.wrap x = x := by
  simp [IntKind.wrap, IntKind.min, IntKind.max, IntKind.signed, IntKind.bits]
  omega
theorem wf64 {x : Int} (h : (Lit.int .i64 x).wf = true) : -9223372036854775808 ≤ x ∧ x ≤ 9223372036854775807 := by
  simp [Lit.wf, IntKind.min, IntKind.max, IntKind.signed, IntKind.bits] at h
  omega
theorem ishl_one {y : Int} (h0 : 0 ≤ y) (h : y ≤ 62) : ishl .i64 1 y = 2 ^ y.toNat := by
  unfold ishl
  have hb : min y.toNat IntKind.i64.bits = y.toNat := by
    have : IntKind.i64.bits = 64 := rfl
    rw [this]
    omega
  rw [hb, Int.one_mul]
  have h1 : (2 : Int) ^ y.toNat ≤ 2 ^ 62 := by
    have := Nat.pow_le_pow_right (n := 2) (by omega) (show y.toNat ≤ 62 by omega)
    exact_mod_cast this
  have h2 : (0 : Int) < 2 ^ y.toNat := Int.pow_pos (by omega)
  exact wrap64 (by omega) (by omega)
theorem ishr_eq {k : IntKind} {x y : Int} (h0 : 0 ≤ y) (h : y ≤ 8) (hk : 8 ≤ k.bits := by decide) : ishr k x y = x / 2 ^ y.toNat := by
  unfold ishr
  have hb : min y.toNat k.bits = y.toNat := by omega
  rw [hb, Int.fdiv_eq_ediv_of_nonneg]
  exact Int.le_of_lt (Int.pow_pos (by omega))
theorem ofInt_toNat {n : Nat} {x : Int} (h0 : 0 ≤ x) (h : x < 2 ^ n) : (BitVec.ofInt n x).toNat = x.toNat := by
  rw [BitVec.toNat_ofInt]
  rw [Int.emod_eq_of_lt h0 (by exact_mod_cast h)]
theorem ixor_eq {x y : Int} (hx : 0 ≤ x) (hx' : x < 2 ^ 63) (hy : 0 ≤ y) (hy' : y < 2 ^ 63) : ixor .i64 x y = ((x.toNat ^^^ y.toNat : Nat) : Int) := by
  unfold ixor
  have e : IntKind.i64.bits = 64 := rfl
  rw [e, BitVec.toNat_xor, ofInt_toNat hx (by omega), ofInt_toNat hy (by omega)]
  have h1 : x.toNat ^^^ y.toNat < 2 ^ 63 := Nat.xor_lt_two_pow (by omega) (by omega)
  exact wrap64 (by omega) (by omega)
theorem iand_one {x : Int} (hx : 0 ≤ x) (hx' : x < 2 ^ 63) : iand .i64 x 1 = x % 2 := by
  unfold iand
  have e : IntKind.i64.bits = 64 := rfl
  rw [e, BitVec.toNat_and, ofInt_toNat hx (by omega), ofInt_toNat (by omega) (by omega)]
  have h1 : x.toNat &&& (1 : Int).toNat = x.toNat % 2 := Nat.and_one_is_mod _
  rw [h1]
  have h2 : ((x.toNat % 2 : Nat) : Int) = x % 2 := by omega
  rw [h2]
  exact wrap64 (by omega) (by omega)
theorem xor_mod2 (a b : Nat) : (a ^^^ b) % 2 = (a + b) % 2 := by
  rw [← Nat.and_one_is_mod, ← Nat.and_one_is_mod (a + b), Nat.and_xor_distrib_right]
  simp only [Nat.and_one_is_mod]
  rcases Nat.mod_two_eq_zero_or_one a with ha | ha <;> rcases Nat.mod_two_eq_zero_or_one b with hb | hb <;> simp [ha, hb] <;> omega
/-- The Gray code's bit. -/
theorem gray_bit {x y : Int} (hx : 0 ≤ x) (hx' : x < 2 ^ 63) (hy : 0 ≤ y) (hy' : y < 2 ^ 63) : iand .i64 (ixor .i64 x y) 1 = (x + y) % 2 := by
  rw [ixor_eq hx hx' hy hy']
  have h1 : x.toNat ^^^ y.toNat < 2 ^ 63 := Nat.xor_lt_two_pow (by omega) (by omega)
  rw [iand_one (by omega) (by omega)]
  have := xor_mod2 x.toNat y.toNat
  omega
/-! ### Loops whose states are known -/
/-- A loop that goes through known states, up to the n-th one. -/
theorem iter_to {V B : Type} {step : V → (V → Option Ans) → B → Option Ans} {b : B} {r : Option Ans} (σ : Nat → V) (n : Nat)
    (h : ∀ i, i < n → ∀ c, step (σ i) c b = c (σ (i + 1))) (hn : ∀ c, step (σ n) c b = r) {m : Nat} (hm : n < m) : iter step m (σ 0) b = r := by
  have key : ∀ d i m, i + d = n → d < m → iter step m (σ i) b = r := by
    intro d
    induction d with
    | zero =>
      intro i m hi hm
      obtain ⟨m, rfl⟩ : ∃ k, m = k + 1 := ⟨m - 1, by omega⟩
      have : i = n := by omega
      subst this
      exact hn _
    | succ d ih =>
      intro i m hi hm
      obtain ⟨m, rfl⟩ : ∃ k, m = k + 1 := ⟨m - 1, by omega⟩
      simp only [iter]
      rw [h i (by omega)]
      exact ih (i + 1) m (by omega) (by omega)
  exact key n 0 m (by omega) hm
theorem iter_seq {V B : Type} {step : V → (V → Option Ans) → B → Option Ans} {b : B} {r : Option Ans} {v : V} {m : Nat} (σ : Nat → V) (n : Nat) (hv : v = σ 0)
    (h : ∀ i, i < n → ∀ c, step (σ i) c b = c (σ (i + 1))) (hn : ∀ c, step (σ n) c b = r) (hm : n < m) : iter step m v b = r := by
  rw [hv]
  exact iter_to σ n h hn hm
/-- A loop with an invariant that is told by the round's number. -/
theorem iter_inv {V B : Type} {step : V → (V → Option Ans) → B → Option Ans} {b : B} {r : Option Ans} (I : Nat → V → Prop) (n : Nat)
    (h : ∀ i v, i < n → I i v → (∃ v', I (i + 1) v' ∧ ∀ c, step v c b = c v') ∨ ∀ c, step v c b = r) (hn : ∀ v, I n v → ∀ c, step v c b = r) {v : V} (h0 : I 0 v) {m : Nat} (hm : n < m) : iter step m v b = r := by
  have key : ∀ d i v m, i + d = n → I i v → d < m → iter step m v b = r := by
    intro d
    induction d with
    | zero =>
      intro i v m hi hI hm
      obtain ⟨m, rfl⟩ : ∃ k, m = k + 1 := ⟨m - 1, by omega⟩
      have : i = n := by omega
      subst this
      exact hn _ hI _
    | succ d ih =>
      intro i v m hi hI hm
      obtain ⟨m, rfl⟩ : ∃ k, m = k + 1 := ⟨m - 1, by omega⟩
      simp only [iter]
      rcases h i v (by omega) hI with ⟨v', h1, h2⟩ | h1
      · rw [h2]
        exact ih (i + 1) v' m (by omega) h1 (by omega)
      · exact h1 _
  exact key n 0 v m (by omega) h0 hm

/-! ### Lists -/
theorem take_succ_getD {α : Type} {l : List α} {i : Nat} (h : i < l.length) (d : α) : l.take (i + 1) = l.take i ++ [l.getD i d] := by
  rw [List.take_add_one]
  simp [List.getElem?_eq_getElem h]
theorem map_take_succ {α β : Type} {l : List α} {i : Nat} (h : i < l.length) (d : α) (f : α → β) : (l.take (i + 1)).map f = (l.take i).map f ++ [f (l.getD i d)] := by
  rw [take_succ_getD h d, List.map_append]; rfl
theorem all_take_succ {α : Type} {l : List α} {i : Nat} (h : i < l.length) (d : α) (p : α → Bool) : (l.take (i + 1)).all p = ((l.take i).all p && p (l.getD i d)) := by
  rw [take_succ_getD h d, List.all_append]; simp
theorem getD_lt {α : Type} {l : List α} {i : Nat} (h : i < l.length) (d : α) : l.getD i d = l[i] := by simp [h]
theorem getD_mem {α : Type} {l : List α} {i : Nat} (h : i < l.length) (d : α) : l.getD i d ∈ l := by rw [getD_lt h]; exact List.getElem_mem h
/-- The first of a list's members, in order, that is such a one: its place. -/
theorem all_or_first {α : Type} (p : α → Bool) (d : α) (l : List α) : l.all p = true ∨ ∃ n, n < l.length ∧ p (l.getD n d) = false ∧ ∀ i, i < n → p (l.getD i d) = true := by
  induction l with
  | nil => exact .inl rfl
  | cons x l ih =>
    cases hx : p x with
    | false => exact .inr ⟨0, by simp, by simpa using hx, fun i hi => by omega⟩
    | true =>
      rcases ih with ih | ⟨n, h1, h2, h3⟩
      · left; simp [hx, ih]
      · refine .inr ⟨n + 1, by simpa using h1, by simpa using h2, fun i hi => ?_⟩
        cases i with
        | zero => simpa using hx
        | succ i => simpa using h3 i (by omega)
theorem all_getD {α : Type} {p : α → Bool} {l : List α} (h : l.all p = true) (d : α) {i : Nat} (hi : i < l.length) : p (l.getD i d) = true :=
  List.all_eq_true.1 h _ (getD_mem hi d)
theorem not_all {α : Type} {p : α → Bool} {l : List α} {d : α} {n : Nat} (h : n < l.length) (hp : p (l.getD n d) = false) : l.all p = false := by
  rw [List.all_eq_false]
  exact ⟨_, getD_mem h d, by rw [hp]; simp⟩
/-- All numbers below n, or the first that is not such a one. -/
theorem nat_or_first (P : Nat → Prop) [DecidablePred P] : ∀ n, (∀ i, i < n → P i) ∨ ∃ k, k < n ∧ ¬ P k ∧ ∀ i, i < k → P i
  | 0 => .inl fun i h => by omega
  | n + 1 => by
    rcases nat_or_first P n with h | ⟨k, h1, h2, h3⟩
    · by_cases hn : P n
      · left
        intro i hi
        rcases Nat.lt_or_ge i n with h' | h'
        · exact h i h'
        · have : i = n := by omega
          subst this; exact hn
      · exact .inr ⟨n, by omega, hn, h⟩
    · exact .inr ⟨k, by omega, h2, h3⟩
theorem list_ext_getD {α : Type} {a b : List α} (d : α) (hl : a.length = b.length) (h : ∀ i, i < a.length → a.getD i d = b.getD i d) : a = b := by
  apply List.ext_getElem hl
  intro i h1 h2
  have := h i h1
  rwa [getD_lt h1, getD_lt h2] at this
/-- A row of zeros of which the first i are written. -/
def fillL (u : Nat → Int) (n i : Nat) : List Int := (List.range n).map fun j => if j < i then u j else 0
theorem fillL_len (u : Nat → Int) (n i : Nat) : (fillL u n i).length = n := by simp [fillL]
theorem fillL_zero (u : Nat → Int) (n : Nat) : fillL u n 0 = List.replicate n 0 := by
  apply List.ext_getElem (by simp [fillL])
  intro j h1 h2
  simp [fillL]
theorem fillL_set {u : Nat → Int} {n i : Nat} : (fillL u n i).set i (u i) = fillL u n (i + 1) := by
  apply List.ext_getElem (by simp [fillL])
  intro j h1 h2
  simp only [fillL, List.getElem_set, List.getElem_map, List.getElem_range]
  split
  · rename_i e; subst e; rw [if_pos (by omega)]
  · by_cases h : j < i
    · rw [if_pos h, if_pos (by omega)]
    · rw [if_neg h, if_neg (by omega)]
theorem fillL_all {u : Nat → Int} {n : Nat} : fillL u n n = (List.range n).map u := by
  apply List.ext_getElem (by simp [fillL])
  intro j h1 h2
  simp only [fillL, List.length_map, List.length_range] at h1
  simp [fillL, h1]
theorem range_map_succ {α : Type} (f : Nat → α) (i : Nat) : (List.range (i + 1)).map f = (List.range i).map f ++ [f i] := by
  rw [List.range_succ, List.map_append]; rfl
theorem range_getD {α : Type} (f : Nat → α) {n i : Nat} (h : i < n) (d : α) : ((List.range n).map f).getD i d = f i := by
  rw [getD_lt (by simpa using h)]
  simp
end Go.Proofs.Ytihfgpfofmjbaaa.Ev

set_option linter.unusedVariables false
set_option linter.unusedSimpArgs false
namespace Go.Proofs.Ytihfgpfofmjbaaa.Bm
open Go Ev

theorem cd {α : Sort _} {p : Prop} {i : Decidable p} {x y : α} : (bif @decide p i then x else y) = @ite α p i x y := by by_cases h : p <;> simp [h]
theorem cb {α : Sort _} {a b : Int} {x y : α} : (bif a == b then x else y) = if a = b then x else y := by
  by_cases h : a = b
  · simp [h]
  · rw [if_neg h, cond_f (by simpa using h)]
theorem cn {α : Sort _} {a b : Int} {x y : α} : (bif a != b then x else y) = if a = b then y else x := by
  by_cases h : a = b
  · simp [h]
  · rw [if_neg h, cond_t (by simpa using h)]
theorem cnot {α : Sort _} {b : Bool} {x y : α} : (bif !b then x else y) = bif b then y else x := by cases b <;> rfl

theorem mul_le {w h a b : Int} (h0 : 0 ≤ w) (h1 : w ≤ a) (h2 : 0 ≤ h) (h3 : h ≤ b) : 0 ≤ w * h ∧ w * h ≤ a * b :=
  ⟨Int.mul_nonneg h0 h2, Int.mul_le_mul h1 h3 h2 (by omega)⟩

/-- Sides of a bitmap. -/
def fit (w h : Int) : Bool := decide (0 ≤ w ∧ 0 ≤ h ∧ w ≤ 200 ∧ h ≤ 200 ∧ w * h ≤ 8192)
theorem fit_iff {w h : Int} : fit w h = true ↔ 0 ≤ w ∧ 0 ≤ h ∧ w ≤ 200 ∧ h ≤ 200 ∧ w * h ≤ 8192 := by simp [fit]
theorem fits_ok {fl : Nat} {w h : Int} {K : Bool → Option Ans} : F_bitmap_fits fl w h K = K (fit w h) := by
  unfold F_bitmap_fits fit
  simp only [cd]
  split
  · split
    · split
      · split
        · have := mul_le (a := 200) (b := 200) (show 0 ≤ w by omega) (by omega) (show 0 ≤ h by omega) (by omega)
          rw [wrap64 (by omega) (by omega)]
          exact congrArg K (decide_eq_decide.2 (by omega))
        · exact congrArg K (decide_eq_false (by omega)).symm
      · exact congrArg K (decide_eq_false (by omega)).symm
    · exact congrArg K (decide_eq_false (by omega)).symm
  · exact congrArg K (decide_eq_false (by omega)).symm
theorem sides_ok {fl : Nat} {w h : Int} {K : Bool → Option Ans} : F_ref05_Sides fl w h K = K (fit w h) := by
  unfold F_ref05_Sides fit
  simp only [cd]
  split
  · split
    · split
      · split
        · have := mul_le (a := 200) (b := 200) (show 0 ≤ w by omega) (by omega) (show 0 ≤ h by omega) (by omega)
          rw [wrap64 (by omega) (by omega)]
          exact congrArg K (decide_eq_decide.2 (by omega))
        · exact congrArg K (decide_eq_false (by omega)).symm
      · exact congrArg K (decide_eq_false (by omega)).symm
    · exact congrArg K (decide_eq_false (by omega)).symm
  · exact congrArg K (decide_eq_false (by omega)).symm

/-- A bitmap. -/
def valid (w h : Int) (pix : List Int) : Bool := fit w h && decide ((pix.length : Int) = w * h) && pix.all fun x => decide (x ≤ 1)
theorem valid_iff {w h : Int} {pix : List Int} : valid w h pix = true ↔ (0 ≤ w ∧ 0 ≤ h ∧ w ≤ 200 ∧ h ≤ 200 ∧ w * h ≤ 8192) ∧ (pix.length : Int) = w * h ∧ ∀ x ∈ pix, x ≤ 1 := by
  unfold valid
  rw [Bool.and_eq_true, Bool.and_eq_true, fit_iff, decide_eq_true_eq, List.all_eq_true]
  simp [and_assoc]
theorem fit_mul {w h : Int} (hf : fit w h = true) : IntKind.i64.wrap (w * h) = w * h := by
  obtain ⟨h1, h2, h3, h4, h5⟩ := fit_iff.1 hf
  have := mul_le (a := 200) (b := 200) h1 h3 h2 h4
  exact wrap64 (by omega) (by omega)

theorem valid_ok {fl : Nat} (hfl : 9223372036854775808 ≤ fl) {w h : Int} {pix : List Int} {K : Bool → Option Ans} : F_bitmap_Valid fl w h pix K = K (valid w h pix) := by
  unfold F_bitmap_Valid
  rw [fits_ok]
  unfold valid
  cases hf : fit w h with
  | false => rfl
  | true =>
  rw [cond_f (b := !true) rfl, fit_mul hf, cn]
  obtain ⟨h1, h2, h3, h4, h5⟩ := fit_iff.1 hf
  split
  rotate_left
  · rename_i hne
    rw [decide_eq_false hne]
    rfl
  rename_i he
  rw [decide_eq_true he]
  simp only [Bool.true_and]
  unfold L_bitmap_Valid_0
  rcases all_or_first (fun x => decide (x ≤ 1)) 0 pix with ha | ⟨n, hn, hb, hi⟩
  · rw [ha]
    refine iter_seq (step := S_bitmap_Valid_0 fl) (fun i : Nat => (pix, (pix.length : Int), (i : Int))) pix.length rfl (fun i hi c => ?_) (fun c => ?_) (by omega)
    · have g := all_getD ha 0 hi
      simp only [decide_eq_true_eq] at g
      simp (disch := omega) only [S_bitmap_Valid_0, dec_t, dec_f, wrap64, Int.toNat_natCast]
      rfl
    · simp (disch := omega) only [S_bitmap_Valid_0, dec_f]
  · rw [not_all hn hb]
    refine iter_seq (step := S_bitmap_Valid_0 fl) (fun i : Nat => (pix, (pix.length : Int), (i : Int))) n rfl (fun i hin c => ?_) (fun c => ?_) (by omega)
    · have g := hi i hin
      simp only [decide_eq_true_eq] at g
      simp (disch := omega) only [S_bitmap_Valid_0, dec_t, dec_f, wrap64, Int.toNat_natCast]
      rfl
    · simp only [decide_eq_false_iff_not] at hb
      simp (disch := omega) only [S_bitmap_Valid_0, dec_t, Int.toNat_natCast]
theorem rvalid_ok {fl : Nat} (hfl : 9223372036854775808 ≤ fl) {w h : Int} {pix : List Int} {K : Bool → Option Ans} : F_ref05_Valid fl w h pix K = K (valid w h pix) := by
  unfold F_ref05_Valid
  rw [sides_ok]
  unfold valid
  cases hf : fit w h with
  | false => rfl
  | true =>
  rw [cond_f (b := !true) rfl, fit_mul hf, cn]
  obtain ⟨h1, h2, h3, h4, h5⟩ := fit_iff.1 hf
  split
  rotate_left
  · rename_i hne
    rw [decide_eq_false hne]
    rfl
  rename_i he
  rw [decide_eq_true he]
  simp only [Bool.true_and]
  unfold L_ref05_Valid_0
  rcases all_or_first (fun x => decide (x ≤ 1)) 0 pix with ha | ⟨n, hn, hb, hi⟩
  · rw [ha]
    refine iter_seq (step := S_ref05_Valid_0 fl) (fun i : Nat => ((i : Int), w, h, pix)) pix.length rfl (fun i hi c => ?_) (fun c => ?_) (by omega)
    · have g := all_getD ha 0 hi
      simp only [decide_eq_true_eq] at g
      simp (disch := omega) only [S_ref05_Valid_0, dec_t, dec_f, wrap64, Int.toNat_natCast]
      rfl
    · simp (disch := omega) only [S_ref05_Valid_0, dec_f]
  · rw [not_all hn hb]
    refine iter_seq (step := S_ref05_Valid_0 fl) (fun i : Nat => ((i : Int), w, h, pix)) n rfl (fun i hin c => ?_) (fun c => ?_) (by omega)
    · have g := hi i hin
      simp only [decide_eq_true_eq] at g
      simp (disch := omega) only [S_ref05_Valid_0, dec_t, dec_f, wrap64, Int.toNat_natCast]
      rfl
    · simp only [decide_eq_false_iff_not] at hb
      simp (disch := omega) only [S_ref05_Valid_0, dec_t, Int.toNat_natCast]

/-- A place in a bitmap. -/
def ins (w h x y : Int) : Prop := 0 ≤ x ∧ 0 ≤ y ∧ x < w ∧ y < h
instance {w h x y : Int} : Decidable (ins w h x y) := by unfold ins; infer_instance
/-- A pixel, white outside. -/
def px (w h : Int) (pix : List Int) (x y : Int) : Int := if ins w h x y then pix.getD (y * w + x).toNat 0 else 0
theorem place {w h x y : Int} (hi : ins w h x y) : 0 ≤ y * w + x ∧ y * w + x < w * h := by
  obtain ⟨h1, h2, h3, h4⟩ := hi
  have a : 0 ≤ y * w := Int.mul_nonneg h2 (by omega)
  have b : (y + 1) * w ≤ h * w := Int.mul_le_mul_of_nonneg_right (by omega) (by omega)
  rw [Int.add_mul, Int.one_mul, Int.mul_comm h w] at b
  omega
theorem place_y {w h x y : Int} (hi : ins w h x y) : 0 ≤ y * w ∧ y * w < w * h := by
  obtain ⟨h1, h2, h3, h4⟩ := hi
  have a : 0 ≤ y * w := Int.mul_nonneg h2 (by omega)
  have b : (y + 1) * w ≤ h * w := Int.mul_le_mul_of_nonneg_right (by omega) (by omega)
  rw [Int.add_mul, Int.one_mul, Int.mul_comm h w] at b
  omega
theorem px_01 {w h : Int} {pix : List Int} (h0 : ∀ v ∈ pix, 0 ≤ v ∧ v ≤ 1) (x y : Int) : 0 ≤ px w h pix x y ∧ px w h pix x y ≤ 1 := by
  unfold px
  split
  · by_cases hl : (y * w + x).toNat < pix.length
    · exact h0 _ (getD_mem hl 0)
    · rw [List.getD_eq_getElem?_getD, List.getElem?_eq_none (by omega)]
      simp
  · omega
theorem at_ok {fl : Nat} {w h : Int} {pix : List Int} {x y : Int} (hm : w * h ≤ 9000000000000000000) (hl : (pix.length : Int) = w * h) (h0 : ∀ v ∈ pix, 0 ≤ v ∧ v ≤ 255) {K : Int → Option Ans} : F_ref05_At fl w h pix x y K = K (px w h pix x y) := by
  unfold F_ref05_At F_ref05_inside px
  simp only [cd]
  by_cases hi : ins w h x y
  · have hp := place hi
    have hy := place_y hi
    rw [if_pos hi]
    obtain ⟨h1, h2, h3, h4⟩ := hi
    rw [if_pos (by omega), if_pos (by omega), if_pos (by omega), decide_eq_true h4, cond_f (b := !true) rfl, wrap64 (x := y * w) (by omega) (by omega), wrap64 (x := y * w + x) (by omega) (by omega), if_pos (by omega)]
    have := h0 _ (getD_mem (show (y * w + x).toNat < pix.length by omega) 0)
    rw [wrap64 (by omega) (by omega)]
  · rw [if_neg hi]
    unfold ins at hi
    split
    · split
      · split
        · rw [decide_eq_false (by omega)]; rfl
        · rfl
      · rfl
    · rfl
end Go.Proofs.Ytihfgpfofmjbaaa.Bm

set_option linter.unusedVariables false
set_option linter.unusedSimpArgs false
namespace Go.Proofs.Ytihfgpfofmjbaaa.Gen
open Go Ev Bm

def vr (t ax ay kd : Int) : Bool := decide (0 ≤ t ∧ t ≤ 3 ∧ (kd = 0 ∨ kd = 1) ∧ -8 ≤ ax ∧ ax ≤ 8 ∧ -8 ≤ ay ∧ ay ≤ 0 ∧ (ay < 0 ∨ ax < 0))
theorem vr_iff {t ax ay kd : Int} : vr t ax ay kd = true ↔ 0 ≤ t ∧ t ≤ 3 ∧ (kd = 0 ∨ kd = 1) ∧ -8 ≤ ax ∧ ax ≤ 8 ∧ -8 ≤ ay ∧ ay ≤ 0 ∧ (ay < 0 ∨ ax < 0) := by simp [vr]
theorem gvalid {fl : Nat} {t ax ay kd : Int} {ty : Bool} {K : Bool → Option Ans} : F_generic_Valid fl t ax ay ty kd K = K (vr t ax ay kd) := by
  unfold F_generic_Valid vr
  simp only [cd, cb]
  repeat' split
  all_goals first
    | exact congrArg K (decide_eq_true (by omega)).symm
    | exact congrArg K (decide_eq_false (by omega)).symm
    | exact congrArg K (decide_eq_decide.2 (by omega))
theorem rvalid {fl : Nat} {t ax ay kd : Int} {ty : Bool} {K : Bool → Option Ans} : F_ref07_Valid fl t ax ay ty kd K = K (vr t ax ay kd) := by
  unfold F_ref07_Valid vr
  simp only [cd, cb]
  repeat' split
  all_goals first
    | exact congrArg K (decide_eq_true (by omega)).symm
    | exact congrArg K (decide_eq_false (by omega)).symm
    | exact congrArg K (decide_eq_decide.2 (by omega))

/-- The offsets of a template. -/
def tpl (t : Int) : List (Int × Int) :=
  if t = 0 then [(-1, -2), (0, -2), (1, -2), (-2, -1), (-1, -1), (0, -1), (1, -1), (2, -1), (-2, 0), (-1, 0)]
  else if t = 1 then [(-1, -2), (0, -2), (-1, -1), (0, -1), (1, -1), (-2, 0), (-1, 0)]
  else if t = 2 then [(-2, -1), (-1, -1), (0, -1), (1, -1), (2, -1), (-2, 0), (-1, 0)]
  else [(-1, -1), (0, -1), (1, -1), (-1, 0)]
theorem gpixels {fl : Nat} {t : Int} {K : List (Int × Int) → Option Ans} : F_generic_pixels fl t K = K (tpl t) := by
  unfold F_generic_pixels tpl
  simp only [cb, apply_ite K]
theorem rtemplate {fl : Nat} {t : Int} {K : List (Int × Int) → Option Ans} : F_ref07_template fl t K = K (tpl t) := by
  unfold F_ref07_template tpl
  simp only [cb, apply_ite K]
theorem tpl_len (t : Int) : (tpl t).length ≤ 10 := by
  unfold tpl
  repeat' split
  all_goals simp
theorem tpl_near (t : Int) : ∀ d ∈ tpl t, -8 ≤ d.1 ∧ d.1 ≤ 8 ∧ -8 ≤ d.2 ∧ d.2 ≤ 0 := by
  unfold tpl
  repeat' split
  all_goals decide

/-- All offsets of a context. -/
def around (t ax ay : Int) : List (Int × Int) := tpl t ++ [(ax, ay)]
theorem around_len (t ax ay : Int) : (around t ax ay).length = (tpl t).length + 1 := by simp [around]
theorem rpixels {fl : Nat} {t ax ay kd : Int} {ty : Bool} {K : List (Int × Int) → Option Ans} : F_ref07_pixels fl t ax ay ty kd K = K (around t ax ay) := by
  have := tpl_len t
  unfold F_ref07_pixels around
  simp only [rtemplate]
  rw [dec_t (by simp; omega)]
  simp only [both_same]

/-- How many contexts a region takes. -/
def size (t : Int) : Int := 2 ^ ((tpl t).length + 1) + 1
theorem size_eq {t : Int} : size t = 2048 + 1 ∨ size t = 256 + 1 ∨ size t = 32 + 1 := by
  unfold size tpl
  repeat' split
  all_goals decide
theorem ishl_two {n : Nat} (h : n ≤ 60) : ishl .i64 2 (n : Int) = 2 ^ (n + 1) := by
  unfold ishl
  have hb : min (n : Int).toNat IntKind.i64.bits = n := by
    have : IntKind.i64.bits = 64 := rfl
    rw [this]
    omega
  rw [hb]
  have e : (2 : Int) * 2 ^ n = 2 ^ (n + 1) := by rw [Int.pow_succ]; omega
  rw [e]
  have h1 : (2 : Int) ^ (n + 1) ≤ 2 ^ 61 := by
    have := Nat.pow_le_pow_right (n := 2) (by omega) (show n + 1 ≤ 61 by omega)
    exact_mod_cast this
  have h2 : (0 : Int) < 2 ^ (n + 1) := Int.pow_pos (by omega)
  exact wrap64 (by omega) (by omega)
/-- What Size returns. -/
def sizeR (t ax ay kd : Int) : Int × Int := if vr t ax ay kd = true then (size t, 0) else (0, 2)
theorem gcontexts {fl : Nat} {t ax ay kd : Int} {ty : Bool} {K : Int → Option Ans} : F_generic_contexts fl t ax ay ty kd K = K (size t - 1) := by
  have := tpl_len t
  unfold F_generic_contexts
  rw [gpixels, ishl_two (by omega)]
  unfold size
  rw [Int.add_sub_cancel]
theorem gsize {fl : Nat} {t ax ay kd : Int} {ty : Bool} {K : Int × Int → Option Ans} : F_generic_Size fl t ax ay ty kd K = K (sizeR t ax ay kd) := by
  unfold F_generic_Size sizeR
  rw [gvalid]
  cases h : vr t ax ay kd with
  | false => rfl
  | true =>
    rw [cond_f (b := !true) rfl, gcontexts, if_pos rfl]
    have := size_eq (t := t)
    rw [wrap64 (by omega) (by omega), Int.sub_add_cancel]
theorem rsize {fl : Nat} {t ax ay kd : Int} {ty : Bool} {K : Int × Int → Option Ans} : F_ref07_Size fl t ax ay ty kd K = K (sizeR t ax ay kd) := by
  unfold F_ref07_Size sizeR
  rw [rvalid]
  cases h : vr t ax ay kd with
  | false => rfl
  | true =>
    have hl := tpl_len t
    have := size_eq (t := t)
    rw [cond_f (b := !true) rfl, rpixels, if_pos rfl, around_len, ishl_one (by omega) (by omega), Int.toNat_natCast]
    unfold size at this ⊢
    rw [wrap64 (by omega) (by omega)]

theorem gplane {fl : Nat} {t ax ay kd w h : Int} {ty : Bool} {K : Int × Int × List Int × List (Int × Int) → Option Ans} (h0 : 0 ≤ w * h) (h1 : w * h ≤ 1000000000) :
    F_generic_newPlane fl t ax ay ty kd w h K = K (w, h, List.replicate (w * h).toNat 0, around t ax ay) := by
  have := tpl_len t
  unfold F_generic_newPlane around
  simp only [gpixels, wrap64 (show -9223372036854775808 ≤ w * h by omega) (show w * h ≤ 9223372036854775807 by omega)]
  have c1 : decide ((0 : Int) ≤ w * h ∧ True ∧ ((1 : Nat) : Int) * (w * h) ≤ 281474976710656 ∧ w * h ≤ 281474976710656) = true := decide_eq_true ⟨h0, trivial, by omega, by omega⟩
  have c2 : decide (((tpl t).length + [(ax, ay)].length) * 16 ≤ 140737488355328 ∧ (tpl t).length + [(ax, ay)].length ≤ 140737488355328) = true := decide_eq_true (by simp; omega)
  simp only [c1, c2, cond_true, both_same]

/-! ### The context of a pixel -/
def ctxv (w h : Int) (p : List Int) (x y : Int) (l : List (Int × Int)) : Int := l.foldl (fun n d => 2 * n + px w h p (x + d.1) (y + d.2)) 0
theorem ctxv_take {w h : Int} {p : List Int} {x y : Int} {l : List (Int × Int)} {i : Nat} (hi : i < l.length) :
    ctxv w h p x y (l.take (i + 1)) = 2 * ctxv w h p x y (l.take i) + px w h p (x + (l.getD i (0, 0)).1) (y + (l.getD i (0, 0)).2) := by
  unfold ctxv
  rw [take_succ_getD hi (0, 0), List.foldl_append]
  rfl
theorem ctxv_lt {w h : Int} {p : List Int} (h0 : ∀ v ∈ p, 0 ≤ v ∧ v ≤ 1) {x y : Int} {l : List (Int × Int)} : ∀ i, i ≤ l.length → 0 ≤ ctxv w h p x y (l.take i) ∧ ctxv w h p x y (l.take i) < 2 ^ i
  | 0, _ => by simp [ctxv]
  | i + 1, hi => by
    obtain ⟨a, b⟩ := ctxv_lt h0 (w := w) (h := h) (x := x) (y := y) (l := l) i (by omega)
    have c := px_01 (w := w) (h := h) h0 (x + (l.getD i (0, 0)).1) (y + (l.getD i (0, 0)).2)
    rw [ctxv_take (by omega), Int.pow_succ]
    omega
theorem ctxv_small {w h : Int} {p : List Int} (h0 : ∀ v ∈ p, 0 ≤ v ∧ v ≤ 1) {x y : Int} {l : List (Int × Int)} (hl : l.length ≤ 11) {i : Nat} (hi : i ≤ l.length) : 0 ≤ ctxv w h p x y (l.take i) ∧ ctxv w h p x y (l.take i) < 2048 := by
  have a := ctxv_lt h0 (w := w) (h := h) (x := x) (y := y) i hi
  have b : (2 : Int) ^ i ≤ 2 ^ 11 := by
    have := Nat.pow_le_pow_right (n := 2) (by omega) (show i ≤ 11 by omega)
    exact_mod_cast this
  have c : (2 : Int) ^ 11 = 2048 := by decide
  omega

/-- A bitmap's pixels. -/
structure Pix (w h : Int) (p : List Int) : Prop where
  w0 : 0 ≤ w
  h0 : 0 ≤ h
  w1 : w ≤ 200
  h1 : h ≤ 200
  n : w * h ≤ 8192
  len : (p.length : Int) = w * h
  bit : ∀ v ∈ p, 0 ≤ v ∧ v ≤ 1
theorem pix_of {w h : Int} {p : List Int} (hv : valid w h p = true) (h0 : ∀ v ∈ p, 0 ≤ v) : Pix w h p := by
  obtain ⟨⟨a, b, c, d, e⟩, f, g⟩ := valid_iff.1 hv
  exact ⟨a, b, c, d, e, f, fun v hv => ⟨h0 v hv, g v hv⟩⟩
theorem Pix.mul0 {w h : Int} {p : List Int} (hp : Pix w h p) : 0 ≤ w * h := by have := hp.len; omega

theorem gat {fl : Nat} {w h : Int} {p : List Int} (hp : Pix w h p) {x y : Int} {l : List (Int × Int)} {K : Int × Int × Int × List Int × List (Int × Int) → Option Ans} :
    F_generic_plane_at_a34 fl x y w h p l K = K (px w h p x y, w, h, p, l) := by
  have hl := hp.len
  have hn := hp.n
  unfold F_generic_plane_at_a34 px
  simp only [cd]
  by_cases hi : ins w h x y
  · have hq := place hi
    have hy := place_y hi
    rw [if_pos hi]
    obtain ⟨h1, h2, h3, h4⟩ := hi
    rw [if_neg (by omega), if_neg (by omega), if_neg (by omega), if_neg (by omega), wrap64 (x := y * w) (by omega) (by omega), wrap64 (x := y * w + x) (by omega) (by omega), if_pos (by omega)]
    try rw [both_same]
  · rw [if_neg hi]
    unfold ins at hi
    repeat' split
    all_goals first | rfl | omega

theorem gcontext {fl : Nat} (hfl : 9223372036854775808 ≤ fl) {w h : Int} {p : List Int} (hp : Pix w h p) {x y : Int} {l : List (Int × Int)} (hx : -1000 ≤ x ∧ x ≤ 1000) (hy : -1000 ≤ y ∧ y ≤ 1000) (hl : l.length ≤ 11) (hd : ∀ d ∈ l, -8 ≤ d.1 ∧ d.1 ≤ 8 ∧ -8 ≤ d.2 ∧ d.2 ≤ 0)
    {K : Int × Int × Int × List Int × List (Int × Int) → Option Ans} : F_generic_plane_context_a34 fl x y w h p l K = K (ctxv w h p x y l, w, h, p, l) := by
  unfold F_generic_plane_context_a34 L_generic_plane_context_a34_0
  refine iter_seq (step := S_generic_plane_context_a34_0 fl) (fun i : Nat => (x, y, ctxv w h p x y (l.take i), (l.length : Int), (i : Int), w, h, p, l)) l.length rfl (fun i hi c => ?_) (fun c => ?_) (by omega)
  · have e := hd _ (getD_mem hi (0, 0))
    have a := ctxv_small hp.bit (w := w) (h := h) (x := x) (y := y) hl (show i ≤ l.length by omega)
    have b := px_01 (w := w) (h := h) hp.bit (x + (l.getD i (0, 0)).1) (y + (l.getD i (0, 0)).2)
    simp (disch := omega) only [S_generic_plane_context_a34_0, dec_t, Int.toNat_natCast, wrap64, gat hp]
    rw [ctxv_take hi]
    rfl
  · simp (disch := omega) only [S_generic_plane_context_a34_0, dec_f, List.take_length]

theorem rcontext {fl : Nat} (hfl : 9223372036854775808 ≤ fl) {w h : Int} {p : List Int} (hp : Pix w h p) {t ax ay kd x y : Int} {ty : Bool} (hv : vr t ax ay kd = true) (hx : -1000 ≤ x ∧ x ≤ 1000) (hy : -1000 ≤ y ∧ y ≤ 1000)
    {K : Int → Option Ans} : F_ref07_context fl t ax ay ty kd w h p x y K = K (ctxv w h p x y (around t ax ay)) := by
  obtain ⟨_, _, _, v1, v2, v3, v4, _⟩ := vr_iff.1 hv
  unfold F_ref07_context
  rw [rpixels]
  have hl : (around t ax ay).length ≤ 11 := by have := tpl_len t; rw [around_len]; omega
  have hd : ∀ d ∈ around t ax ay, -8 ≤ d.1 ∧ d.1 ≤ 8 ∧ -8 ≤ d.2 ∧ d.2 ≤ 0 := by
    intro d hd
    unfold around at hd
    rcases List.mem_append.1 hd with hd | hd
    · exact tpl_near t d hd
    · simp at hd; subst hd; exact ⟨v1, v2, v3, v4⟩
  have hn := hp.n
  generalize around t ax ay = l at hl hd
  unfold L_ref07_context_0
  refine iter_seq (step := S_ref07_context_0 fl) (fun i : Nat => (x, y, ctxv w h p x y (l.take i), (i : Int), w, h, p, l)) l.length rfl (fun i hi c => ?_) (fun c => ?_) (by omega)
  · have e := hd _ (getD_mem hi (0, 0))
    have a := ctxv_small hp.bit (w := w) (h := h) (x := x) (y := y) hl (show i ≤ l.length by omega)
    have b := px_01 (w := w) (h := h) hp.bit (x + (l.getD i (0, 0)).1) (y + (l.getD i (0, 0)).2)
    have hat : ∀ x y K, F_ref05_At fl w h p x y K = K (px w h p x y) := fun x y K => at_ok (by omega) hp.len (fun v hv => by have := hp.bit v hv; omega)
    simp (disch := omega) only [S_ref07_context_0, dec_t, Int.toNat_natCast, wrap64, hat, both_same]
    rw [ctxv_take hi]
    rfl
  · simp (disch := omega) only [S_ref07_context_0, dec_f, List.take_length]

/-- What Context returns. -/
def contextR (t ax ay kd w h : Int) (p : List Int) (x y : Int) : Int × Int :=
  if vr t ax ay kd = true then (if valid w h p = true then (if ins w h x y then (ctxv w h p x y (around t ax ay), 0) else (0, 2)) else (0, 30)) else (0, 2)
theorem gContext {fl : Nat} (hfl : 9223372036854775808 ≤ fl) {w h : Int} {p : List Int} (h0 : ∀ v ∈ p, 0 ≤ v) {t ax ay kd x y : Int} {ty : Bool} {K : Int × Int → Option Ans} :
    F_generic_Context fl t ax ay ty kd w h p x y K = K (contextR t ax ay kd w h p x y) := by
  unfold F_generic_Context contextR
  rw [gvalid]
  cases hv : vr t ax ay kd with
  | false => rfl
  | true =>
    rw [cond_f (b := !true) rfl, valid_ok hfl, if_pos rfl]
    cases hb : valid w h p with
    | false => rfl
    | true =>
      rw [cond_f (b := !true) rfl, if_pos rfl]
      have hp := pix_of hb h0
      simp only [cd]
      by_cases hi : ins w h x y
      · rw [if_pos hi]
        obtain ⟨h1, h2, h3, h4⟩ := hi
        have := hp.mul0; have := hp.n; have := hp.w1; have := hp.h1
        obtain ⟨_, _, _, v1, v2, v3, v4, _⟩ := vr_iff.1 hv
        rw [if_neg (by omega), if_neg (by omega), if_neg (by omega), if_neg (by omega), gplane (by omega) (by omega)]
        dsimp only
        rw [gcontext hfl hp (by omega) (by omega) (by have := tpl_len t; rw [around_len]; omega)]
        intro d hd
        unfold around at hd
        rcases List.mem_append.1 hd with hd | hd
        · exact tpl_near t d hd
        · simp at hd; subst hd; exact ⟨v1, v2, v3, v4⟩
      · rw [if_neg hi]
        unfold ins at hi
        repeat' split
        all_goals first | rfl | omega
theorem sane {fl : Nat} (hfl : 9223372036854775808 ≤ fl) {K : Bool → Option Ans} : F_law07_Sane fl K = K true := by
  unfold F_law07_Sane
  rw [gsize]
  have e1 : sizeR 3 2 (-1) 0 = (33, 0) := by decide
  rw [e1]
  dsimp only
  rw [gContext hfl (by decide)]
  have e2 : contextR 3 (-2) 0 0 4 1 [1, 0, 1, 1] 2 0 = (1, 0) := by decide
  rw [e2]
  rfl
end Go.Proofs.Ytihfgpfofmjbaaa.Gen

set_option linter.unusedVariables false
set_option linter.unusedSimpArgs false
namespace Go.Proofs.Ytihfgpfofmjbaaa.PureGenericNil
open Go Ev Bm Gen
theorem pure_fl {fl : Nat} (hfl : 9223372036854775808 ≤ fl) (base t ax ay : Int) (ty : Bool) (kd w h : Int) (p : List Int) (w2 h2 : Int) (K : Bool → Option Ans) : F_law07_GenericNil fl base t ax ay ty kd w h p w2 h2 K = K true := by
  have hg : ∀ (K : Int × Int × Int × List Int → Option Ans), F_generic_Get_4be fl base t ax ay ty kd w2 h2 w h p K = K (0, 0, 7, []) := fun _ => rfl
  have hp : ∀ (K : Int → Option Ans), F_generic_Put_f4f fl base t ax ay ty kd w h p w h p K = K 7 := fun _ => rfl
  unfold F_law07_GenericNil
  simp only [hg, hp, sane hfl, both_same]
  cases decide ((p.length : Int) > 20000) <;> rfl
theorem pure (base t ax ay : Int) (ty : Bool) (kd w h : Int) (p : List Int) (w2 h2 : Int) (K : Bool → Option Ans)
    (g : given (.pair (.int .i64) (.pair (.pair (.int .i64) (.pair (.pair (.int .i64) (.int .i64)) (.pair .bool (.int .i64)))) (.pair (.pair (.int .i64) (.pair (.int .i64) (.sl (.int .u8)))) (.pair (.int .i64) (.int .i64))))) (base, (t, (ax, ay), ty, kd), (w, h, p), w2, h2)) :
    F_law07_GenericNil fuel base t ax ay ty kd w h p w2 h2 K = K true := pure_fl (by rw [fuel_eq]; omega) ..
end Go.Proofs.Ytihfgpfofmjbaaa.PureGenericNil

