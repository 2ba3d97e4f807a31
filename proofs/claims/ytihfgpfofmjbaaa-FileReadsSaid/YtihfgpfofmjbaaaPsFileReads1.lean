/- Laws of the typed texts that FileReads reaches, in plain Lean. No condition but what each theorem names. -/
import Derived.Test.YtihfgpfofmjbaaaEvO
import Derived.Test.YtihfgpfofmjbaaaFsFileReads3
import Derived.Test.YtihfgpfofmjbaaaFsFileReads2
import Derived.Test.YtihfgpfofmjbaaaFsFileReads1
import Derived.Test.YtihfgpfofmjbaaaFsFileReads4
set_option linter.unusedVariables false
set_option linter.unusedSimpArgs false
set_option linter.unusedVariables false
namespace Go.Proofs.Ytihfgpfofmjbaaa.Ev
open Go

theorem cond_t {α : Sort _} {b : Bool} {x y : α} (h : b = true) : (bif b then x else y) = x := by rw [h]; rfl
theorem cond_f {α : Sort _} {b : Bool} {x y : α} (h : b = false) : (bif b then x else y) = y := by rw [h]; rfl
theorem dec_t {p : Prop} {i : Decidable p} {α : Sort _} {x y : α} (h : p) : (bif @decide p i then x else y) = x := cond_t (decide_eq_true h)
theorem dec_f {p : Prop} {i : Decidable p} {α : Sort _} {x y : α} (h : ¬p) : (bif @decide p i then x else y) = y := cond_f (decide_eq_false h)
theorem loOf_some (x : Int) : loOf (some x) = x := rfl
theorem hiOf_some (x n : Int) : hiOf (some x) n = x := rfl
theorem both_same (x : Option Ans) : both x x = x := by
  unfold both
  cases x with
  | none => rfl
  | some u => rfl

/-- A loop that comes to its end: by a measure. -/
theorem iter_ind {V B : Type} {step : V → (V → Option Ans) → B → Option Ans} {b : B} (I : V → Prop) (m : V → Nat) (r : V → Option Ans)
    (h : ∀ v c, I v → (∀ v', I v' → m v' < m v → c v' = r v') → step v c b = r v) : ∀ n v, I v → m v < n → iter step n v b = r v
  | 0, v, hI, hm => by omega
  | n + 1, v, hI, hm => h v _ hI fun v' hI' hm' => iter_ind I m r h n v' hI' (by omega)

theorem fuel_eq : fuel = 18446744073709551616 := rfl
theorem fuel_lt {n : Nat} (h : n < 18446744073709551616) : n < fuel := by rw [fuel_eq]; exact h

/-! ### Numbers -/
theorem wrap64 {x : Int} (h1 : -9223372036854775808 ≤ x) (h2 : x ≤ 9223372036854775807) : IntKind.i64.wrap x = x := by
  simp [IntKind.wrap, IntKind.min, IntKind.max, IntKind.signed, IntKind.bits]
  omega
theorem wrap8 {x : Int} (h1 : 0 ≤ x) (h2 : x ≤ 255) : IntKind.u8.wrap x = x := by
  simp [IntKind.wrap, IntKind.min, IntKind.max, IntKind.signed, IntKind.bits]
  omega
theorem wf64 {x : Int} (h : (Lit.int .i64 x).wf = true) : -9223372036854775808 ≤ x ∧ x ≤ 9223372036854775807 := by
  simp [Lit.wf, IntKind.min, IntKind.max, IntKind.signed, IntKind.bits] at h
  omega
theorem ishl_one {y : Int} (h0 : 0 ≤ y) (h : y ≤ 62) : ishl .i64 1 y = 2 ^ y.toNat := by
  unfold ishl
  have hb : min y.toNat IntKind.i64.bits = y.toNat := by
    have : IntKind.i64.bits = 64 := rfl
    rw [this]
    omega
  rw [hb, Int.one_mul]
  have h1 : (2 : Int) ^ y.toNat ≤ 2 ^ 62 := by
    have := Nat.pow_le_pow_right (n := 2) (by omega) (show y.toNat ≤ 62 by omega)
    exact_mod_cast this
  have h2 : (0 : Int) < 2 ^ y.toNat := Int.pow_pos (by omega)
  exact wrap64 (by omega) (by omega)
theorem ishr_eq {k : IntKind} {x y : Int} (h0 : 0 ≤ y) (h : y ≤ 8) (hk : 8 ≤ k.bits := by decide) : ishr k x y = x / 2 ^ y.toNat := by
  unfold ishr
  have hb : min y.toNat k.bits = y.toNat := by omega
  rw [hb, Int.fdiv_eq_ediv_of_nonneg]
  exact Int.le_of_lt (Int.pow_pos (by omega))
theorem ofInt_toNat {n : Nat} {x : Int} (h0 : 0 ≤ x) (h : x < 2 ^ n) : (BitVec.ofInt n x).toNat = x.toNat := by
  rw [BitVec.toNat_ofInt]
  rw [Int.emod_eq_of_lt h0 (by exact_mod_cast h)]
theorem ixor_eq {x y : Int} (hx : 0 ≤ x) (hx' : x < 2 ^ 63) (hy : 0 ≤ y) (hy' : y < 2 ^ 63) : ixor .i64 x y = ((x.toNat ^^^ y.toNat : Nat) : Int) := by
  unfold ixor
  have e : IntKind.i64.bits = 64 := rfl
  rw [e, BitVec.toNat_xor, ofInt_toNat hx (by omega), ofInt_toNat hy (by omega)]
  have h1 : x.toNat ^^^ y.toNat < 2 ^ 63 := Nat.xor_lt_two_pow (by omega) (by omega)
  exact wrap64 (by omega) (by omega)
theorem iand_one {x : Int} (hx : 0 ≤ x) (hx' : x < 2 ^ 63) : iand .i64 x 1 = x % 2 := by
  unfold iand
  have e : IntKind.i64.bits = 64 := rfl
  rw [e, BitVec.toNat_and, ofInt_toNat hx (by omega), ofInt_toNat (by omega) (by omega)]
  have h1 : x.toNat &&& (1 : Int).toNat = x.toNat % 2 := Nat.and_one_is_mod _
  rw [h1]
  have h2 : ((x.toNat % 2 : Nat) : Int) = x % 2 := by omega
  rw [h2]
  exact wrap64 (by omega) (by omega)
theorem xor_mod2 (a b : Nat) : (a ^^^ b) % 2 = (a + b) % 2 := by
  rw [← Nat.and_one_is_mod, ← Nat.and_one_is_mod (a + b), Nat.and_xor_distrib_right]
  simp only [Nat.and_one_is_mod]
  rcases Nat.mod_two_eq_zero_or_one a with ha | ha <;> rcases Nat.mod_two_eq_zero_or_one b with hb | hb <;> simp [ha, hb] <;> omega
/-- The Gray code's bit. -/
theorem gray_bit {x y : Int} (hx : 0 ≤ x) (hx' : x < 2 ^ 63) (hy : 0 ≤ y) (hy' : y < 2 ^ 63) : iand .i64 (ixor .i64 x y) 1 = (x + y) % 2 := by
  rw [ixor_eq hx hx' hy hy']
  have h1 : x.toNat ^^^ y.toNat < 2 ^ 63 := Nat.xor_lt_two_pow (by omega) (by omega)
  rw [iand_one (by omega) (by omega)]
  have := xor_mod2 x.toNat y.toNat
  omega
/-! ### Loops whose states are known -/
/-- A loop that goes through known states, up to the n-th one. -/
theorem iter_to {V B : Type} {step : V → (V → Option Ans) → B → Option Ans} {b : B} {r : Option Ans} (σ : Nat → V) (n : Nat)
    (h : ∀ i, i < n → ∀ c, step (σ i) c b = c (σ (i + 1))) (hn : ∀ c, step (σ n) c b = r) {m : Nat} (hm : n < m) : iter step m (σ 0) b = r := by
  have key : ∀ d i m, i + d = n → d < m → iter step m (σ i) b = r := by
    intro d
    induction d with
    | zero =>
      intro i m hi hm
      obtain ⟨m, rfl⟩ : ∃ k, m = k + 1 := ⟨m - 1, by omega⟩
      have : i = n := by omega
      subst this
      exact hn _
    | succ d ih =>
      intro i m hi hm
      obtain ⟨m, rfl⟩ : ∃ k, m = k + 1 := ⟨m - 1, by omega⟩
      simp only [iter]
      rw [h i (by omega)]
      exact ih (i + 1) m (by omega) (by omega)
  exact key n 0 m (by omega) hm
theorem iter_seq {V B : Type} {step : V → (V → Option Ans) → B → Option Ans} {b : B} {r : Option Ans} {v : V} {m : Nat} (σ : Nat → V) (n : Nat) (hv : v = σ 0)
    (h : ∀ i, i < n → ∀ c, step (σ i) c b = c (σ (i + 1))) (hn : ∀ c, step (σ n) c b = r) (hm : n < m) : iter step m v b = r := by
  rw [hv]
  exact iter_to σ n h hn hm
/-- A loop with an invariant that is told by the round's number. -/
theorem iter_inv {V B : Type} {step : V → (V → Option Ans) → B → Option Ans} {b : B} {r : Option Ans} (I : Nat → V → Prop) (n : Nat)
    (h : ∀ i v, i < n → I i v → (∃ v', I (i + 1) v' ∧ ∀ c, step v c b = c v') ∨ ∀ c, step v c b = r) (hn : ∀ v, I n v → ∀ c, step v c b = r) {v : V} (h0 : I 0 v) {m : Nat} (hm : n < m) : iter step m v b = r := by
  have key : ∀ d i v m, i + d = n → I i v → d < m → iter step m v b = r := by
    intro d
    induction d with
    | zero =>
      intro i v m hi hI hm
      obtain ⟨m, rfl⟩ : ∃ k, m = k + 1 := ⟨m - 1, by omega⟩
      have : i = n := by omega
      subst this
      exact hn _ hI _
    | succ d ih =>
      intro i v m hi hI hm
      obtain ⟨m, rfl⟩ : ∃ k, m = k + 1 := ⟨m - 1, by omega⟩
      simp only [iter]
      rcases h i v (by omega) hI with ⟨v', h1, h2⟩ | h1
      · rw [h2]
        exact ih (i + 1) v' m (by omega) h1 (by omega)
      · exact h1 _
  exact key n 0 v m (by omega) h0 hm

/-! ### Lists -/
theorem take_succ_getD {α : Type} {l : List α} {i : Nat} (h : i < l.length) (d : α) : l.take (i + 1) = l.take i ++ [l.getD i d] := by
  rw [List.take_add_one]
  simp [List.getElem?_eq_getElem h]
theorem map_take_succ {α β : Type} {l : List α} {i : Nat} (h : i < l.length) (d : α) (f : α → β) : (l.take (i + 1)).map f = (l.take i).map f ++ [f (l.getD i d)] := by
  rw [take_succ_getD h d, List.map_append]; rfl
theorem all_take_succ {α : Type} {l : List α} {i : Nat} (h : i < l.length) (d : α) (p : α → Bool) : (l.take (i + 1)).all p = ((l.take i).all p && p (l.getD i d)) := by
  rw [take_succ_getD h d, List.all_append]; simp
theorem getD_lt {α : Type} {l : List α} {i : Nat} (h : i < l.length) (d : α) : l.getD i d = l[i] := by simp [h]
theorem getD_mem {α : Type} {l : List α} {i : Nat} (h : i < l.length) (d : α) : l.getD i d ∈ l := by rw [getD_lt h]; exact List.getElem_mem h
/-- The first of a list's members, in order, that is such a one: its place. -/
theorem all_or_first {α : Type} (p : α → Bool) (d : α) (l : List α) : l.all p = true ∨ ∃ n, n < l.length ∧ p (l.getD n d) = false ∧ ∀ i, i < n → p (l.getD i d) = true := by
  induction l with
  | nil => exact .inl rfl
  | cons x l ih =>
    cases hx : p x with
    | false => exact .inr ⟨0, by simp, by simpa using hx, fun i hi => by omega⟩
    | true =>
      rcases ih with ih | ⟨n, h1, h2, h3⟩
      · left; simp [hx, ih]
      · refine .inr ⟨n + 1, by simpa using h1, by simpa using h2, fun i hi => ?_⟩
        cases i with
        | zero => simpa using hx
        | succ i => simpa using h3 i (by omega)
theorem all_getD {α : Type} {p : α → Bool} {l : List α} (h : l.all p = true) (d : α) {i : Nat} (hi : i < l.length) : p (l.getD i d) = true :=
  List.all_eq_true.1 h _ (getD_mem hi d)
theorem not_all {α : Type} {p : α → Bool} {l : List α} {d : α} {n : Nat} (h : n < l.length) (hp : p (l.getD n d) = false) : l.all p = false := by
  rw [List.all_eq_false]
  exact ⟨_, getD_mem h d, by rw [hp]; simp⟩
/-- All numbers below n, or the first that is not such a one. -/
theorem nat_or_first (P : Nat → Prop) [DecidablePred P] : ∀ n, (∀ i, i < n → P i) ∨ ∃ k, k < n ∧ ¬ P k ∧ ∀ i, i < k → P i
  | 0 => .inl fun i h => by omega
  | n + 1 => by
    rcases nat_or_first P n with h | ⟨k, h1, h2, h3⟩
    · by_cases hn : P n
      · left
        intro i hi
        rcases Nat.lt_or_ge i n with h' | h'
        · exact h i h'
        · have : i = n := by omega
          subst this; exact hn
      · exact .inr ⟨n, by omega, hn, h⟩
    · exact .inr ⟨k, by omega, h2, h3⟩
theorem list_ext_getD {α : Type} {a b : List α} (d : α) (hl : a.length = b.length) (h : ∀ i, i < a.length → a.getD i d = b.getD i d) : a = b := by
  apply List.ext_getElem hl
  intro i h1 h2
  have := h i h1
  rwa [getD_lt h1, getD_lt h2] at this
/-- A row of zeros of which the first i are written. -/
def fillL (u : Nat → Int) (n i : Nat) : List Int := (List.range n).map fun j => if j < i then u j else 0
theorem fillL_len (u : Nat → Int) (n i : Nat) : (fillL u n i).length = n := by simp [fillL]
theorem fillL_zero (u : Nat → Int) (n : Nat) : fillL u n 0 = List.replicate n 0 := by
  apply List.ext_getElem (by simp [fillL])
  intro j h1 h2
  simp [fillL]
theorem fillL_set {u : Nat → Int} {n i : Nat} : (fillL u n i).set i (u i) = fillL u n (i + 1) := by
  apply List.ext_getElem (by simp [fillL])
  intro j h1 h2
  simp only [fillL, List.getElem_set, List.getElem_map, List.getElem_range]
  split
  · rename_i e; subst e; rw [if_pos (by omega)]
  · by_cases h : j < i
    · rw [if_pos h, if_pos (by omega)]
    · rw [if_neg h, if_neg (by omega)]
theorem fillL_all {u : Nat → Int} {n : Nat} : fillL u n n = (List.range n).map u := by
  apply List.ext_getElem (by simp [fillL])
  intro j h1 h2
  simp only [fillL, List.length_map, List.length_range] at h1
  simp [fillL, h1]
theorem range_map_succ {α : Type} (f : Nat → α) (i : Nat) : (List.range (i + 1)).map f = (List.range i).map f ++ [f i] := by
  rw [List.range_succ, List.map_append]; rfl
theorem range_getD {α : Type} (f : Nat → α) {n i : Nat} (h : i < n) (d : α) : ((List.range n).map f).getD i d = f i := by
  rw [getD_lt (by simpa using h)]
  simp
end Go.Proofs.Ytihfgpfofmjbaaa.Ev

set_option linter.unusedVariables false
set_option linter.unusedSimpArgs false
namespace Go.Proofs.Ytihfgpfofmjbaaa.Bm
open Go Ev

theorem cd {α : Sort _} {p : Prop} {i : Decidable p} {x y : α} : (bif @decide p i then x else y) = @ite α p i x y := by by_cases h : p <;> simp [h]
theorem cb {α : Sort _} {a b : Int} {x y : α} : (bif a == b then x else y) = if a = b then x else y := by
  by_cases h : a = b
  · simp [h]
  · rw [if_neg h, cond_f (by simpa using h)]
theorem cn {α : Sort _} {a b : Int} {x y : α} : (bif a != b then x else y) = if a = b then y else x := by
  by_cases h : a = b
  · simp [h]
  · rw [if_neg h, cond_t (by simpa using h)]
theorem cnot {α : Sort _} {b : Bool} {x y : α} : (bif !b then x else y) = bif b then y else x := by cases b <;> rfl

theorem mul_le {w h a b : Int} (h0 : 0 ≤ w) (h1 : w ≤ a) (h2 : 0 ≤ h) (h3 : h ≤ b) : 0 ≤ w * h ∧ w * h ≤ a * b :=
  ⟨Int.mul_nonneg h0 h2, Int.mul_le_mul h1 h3 h2 (by omega)⟩

/-- Sides of a bitmap. -/
def fit (w h : Int) : Bool := decide (0 ≤ w ∧ 0 ≤ h ∧ w ≤ 200 ∧ h ≤ 200 ∧ w * h ≤ 8192)
theorem fit_iff {w h : Int} : fit w h = true ↔ 0 ≤ w ∧ 0 ≤ h ∧ w ≤ 200 ∧ h ≤ 200 ∧ w * h ≤ 8192 := by simp [fit]
theorem fits_ok {fl : Nat} {w h : Int} {K : Bool → Option Ans} : F_bitmap_fits fl w h K = K (fit w h) := by
  unfold F_bitmap_fits fit
  simp only [cd]
  split
  · split
    · split
      · split
        · have := mul_le (a := 200) (b := 200) (show 0 ≤ w by omega) (by omega) (show 0 ≤ h by omega) (by omega)
          rw [wrap64 (by omega) (by omega)]
          exact congrArg K (decide_eq_decide.2 (by omega))
        · exact congrArg K (decide_eq_false (by omega)).symm
      · exact congrArg K (decide_eq_false (by omega)).symm
    · exact congrArg K (decide_eq_false (by omega)).symm
  · exact congrArg K (decide_eq_false (by omega)).symm
theorem sides_ok {fl : Nat} {w h : Int} {K : Bool → Option Ans} : F_ref05_Sides fl w h K = K (fit w h) := by
  unfold F_ref05_Sides fit
  simp only [cd]
  split
  · split
    · split
      · split
        · have := mul_le (a := 200) (b := 200) (show 0 ≤ w by omega) (by omega) (show 0 ≤ h by omega) (by omega)
          rw [wrap64 (by omega) (by omega)]
          exact congrArg K (decide_eq_decide.2 (by omega))
        · exact congrArg K (decide_eq_false (by omega)).symm
      · exact congrArg K (decide_eq_false (by omega)).symm
    · exact congrArg K (decide_eq_false (by omega)).symm
  · exact congrArg K (decide_eq_false (by omega)).symm

/-- A bitmap. -/
def valid (w h : Int) (pix : List Int) : Bool := fit w h && decide ((pix.length : Int) = w * h) && pix.all fun x => decide (x ≤ 1)
theorem valid_iff {w h : Int} {pix : List Int} : valid w h pix = true ↔ (0 ≤ w ∧ 0 ≤ h ∧ w ≤ 200 ∧ h ≤ 200 ∧ w * h ≤ 8192) ∧ (pix.length : Int) = w * h ∧ ∀ x ∈ pix, x ≤ 1 := by
  unfold valid
  rw [Bool.and_eq_true, Bool.and_eq_true, fit_iff, decide_eq_true_eq, List.all_eq_true]
  simp [and_assoc]
theorem fit_mul {w h : Int} (hf : fit w h = true) : IntKind.i64.wrap (w * h) = w * h := by
  obtain ⟨h1, h2, h3, h4, h5⟩ := fit_iff.1 hf
  have := mul_le (a := 200) (b := 200) h1 h3 h2 h4
  exact wrap64 (by omega) (by omega)

theorem valid_ok {fl : Nat} (hfl : 9223372036854775808 ≤ fl) {w h : Int} {pix : List Int} {K : Bool → Option Ans} : F_bitmap_Valid fl w h pix K = K (valid w h pix) := by
  unfold F_bitmap_Valid Fg_bitmap_Valid
  rw [fits_ok]
  unfold valid
  cases hf : fit w h with
  | false => rfl
  | true =>
  rw [cond_f (b := !true) rfl, fit_mul hf, cn]
  obtain ⟨h1, h2, h3, h4, h5⟩ := fit_iff.1 hf
  split
  rotate_left
  · rename_i hne
    rw [decide_eq_false hne]
    rfl
  rename_i he
  rw [decide_eq_true he]
  simp only [Bool.true_and]
  unfold L_bitmap_Valid_0
  rcases all_or_first (fun x => decide (x ≤ 1)) 0 pix with ha | ⟨n, hn, hb, hi⟩
  · rw [ha]
    refine iter_seq (step := S_bitmap_Valid_0 fl) (fun i : Nat => (pix, (pix.length : Int), (i : Int))) pix.length rfl (fun i hi c => ?_) (fun c => ?_) (by omega)
    · have g := all_getD ha 0 hi
      simp only [decide_eq_true_eq] at g
      simp (disch := omega) only [S_bitmap_Valid_0, Sg_bitmap_Valid_0, dec_t, dec_f, wrap64, Int.toNat_natCast]
      rfl
    · simp (disch := omega) only [S_bitmap_Valid_0, Sg_bitmap_Valid_0, dec_f]
  · rw [not_all hn hb]
    refine iter_seq (step := S_bitmap_Valid_0 fl) (fun i : Nat => (pix, (pix.length : Int), (i : Int))) n rfl (fun i hin c => ?_) (fun c => ?_) (by omega)
    · have g := hi i hin
      simp only [decide_eq_true_eq] at g
      simp (disch := omega) only [S_bitmap_Valid_0, Sg_bitmap_Valid_0, dec_t, dec_f, wrap64, Int.toNat_natCast]
      rfl
    · simp only [decide_eq_false_iff_not] at hb
      simp (disch := omega) only [S_bitmap_Valid_0, Sg_bitmap_Valid_0, dec_t, Int.toNat_natCast]
theorem rvalid_ok {fl : Nat} (hfl : 9223372036854775808 ≤ fl) {w h : Int} {pix : List Int} {K : Bool → Option Ans} : F_ref05_Valid fl w h pix K = K (valid w h pix) := by
  unfold F_ref05_Valid Fg_ref05_Valid
  rw [sides_ok]
  unfold valid
  cases hf : fit w h with
  | false => rfl
  | true =>
  rw [cond_f (b := !true) rfl, fit_mul hf, cn]
  obtain ⟨h1, h2, h3, h4, h5⟩ := fit_iff.1 hf
  split
  rotate_left
  · rename_i hne
    rw [decide_eq_false hne]
    rfl
  rename_i he
  rw [decide_eq_true he]
  simp only [Bool.true_and]
  unfold L_ref05_Valid_0
  rcases all_or_first (fun x => decide (x ≤ 1)) 0 pix with ha | ⟨n, hn, hb, hi⟩
  · rw [ha]
    refine iter_seq (step := S_ref05_Valid_0 fl) (fun i : Nat => ((i : Int), w, h, pix)) pix.length rfl (fun i hi c => ?_) (fun c => ?_) (by omega)
    · have g := all_getD ha 0 hi
      simp only [decide_eq_true_eq] at g
      simp (disch := omega) only [S_ref05_Valid_0, Sg_ref05_Valid_0, dec_t, dec_f, wrap64, Int.toNat_natCast]
      rfl
    · simp (disch := omega) only [S_ref05_Valid_0, Sg_ref05_Valid_0, dec_f]
  · rw [not_all hn hb]
    refine iter_seq (step := S_ref05_Valid_0 fl) (fun i : Nat => ((i : Int), w, h, pix)) n rfl (fun i hin c => ?_) (fun c => ?_) (by omega)
    · have g := hi i hin
      simp only [decide_eq_true_eq] at g
      simp (disch := omega) only [S_ref05_Valid_0, Sg_ref05_Valid_0, dec_t, dec_f, wrap64, Int.toNat_natCast]
      rfl
    · simp only [decide_eq_false_iff_not] at hb
      simp (disch := omega) only [S_ref05_Valid_0, Sg_ref05_Valid_0, dec_t, Int.toNat_natCast]

/-- A place in a bitmap. -/
def ins (w h x y : Int) : Prop := 0 ≤ x ∧ 0 ≤ y ∧ x < w ∧ y < h
instance {w h x y : Int} : Decidable (ins w h x y) := by unfold ins; infer_instance
/-- A pixel, white outside. -/
def px (w h : Int) (pix : List Int) (x y : Int) : Int := if ins w h x y then pix.getD (y * w + x).toNat 0 else 0
theorem place {w h x y : Int} (hi : ins w h x y) : 0 ≤ y * w + x ∧ y * w + x < w * h := by
  obtain ⟨h1, h2, h3, h4⟩ := hi
  have a : 0 ≤ y * w := Int.mul_nonneg h2 (by omega)
  have b : (y + 1) * w ≤ h * w := Int.mul_le_mul_of_nonneg_right (by omega) (by omega)
  rw [Int.add_mul, Int.one_mul, Int.mul_comm h w] at b
  omega
theorem place_y {w h x y : Int} (hi : ins w h x y) : 0 ≤ y * w ∧ y * w < w * h := by
  obtain ⟨h1, h2, h3, h4⟩ := hi
  have a : 0 ≤ y * w := Int.mul_nonneg h2 (by omega)
  have b : (y + 1) * w ≤ h * w := Int.mul_le_mul_of_nonneg_right (by omega) (by omega)
  rw [Int.add_mul, Int.one_mul, Int.mul_comm h w] at b
  omega
theorem px_01 {w h : Int} {pix : List Int} (h0 : ∀ v ∈ pix, 0 ≤ v ∧ v ≤ 1) (x y : Int) : 0 ≤ px w h pix x y ∧ px w h pix x y ≤ 1 := by
  unfold px
  split
  · by_cases hl : (y * w + x).toNat < pix.length
    · exact h0 _ (getD_mem hl 0)
    · rw [List.getD_eq_getElem?_getD, List.getElem?_eq_none (by omega)]
      simp
  · omega
theorem at_ok {fl : Nat} {w h : Int} {pix : List Int} {x y : Int} (hm : w * h ≤ 9000000000000000000) (hl : (pix.length : Int) = w * h) (h0 : ∀ v ∈ pix, 0 ≤ v ∧ v ≤ 255) {K : Int → Option Ans} : F_ref05_At fl w h pix x y K = K (px w h pix x y) := by
  unfold F_ref05_At Fg_ref05_At F_ref05_inside px
  simp only [cd]
  by_cases hi : ins w h x y
  · have hp := place hi
    have hy := place_y hi
    rw [if_pos hi]
    obtain ⟨h1, h2, h3, h4⟩ := hi
    rw [if_pos (by omega), if_pos (by omega), if_pos (by omega), decide_eq_true h4, cond_f (b := !true) rfl, wrap64 (x := y * w) (by omega) (by omega), wrap64 (x := y * w + x) (by omega) (by omega), if_pos (by omega)]
    have := h0 _ (getD_mem (show (y * w + x).toNat < pix.length by omega) 0)
    rw [wrap64 (by omega) (by omega)]
  · rw [if_neg hi]
    unfold ins at hi
    split
    · split
      · split
        · rw [decide_eq_false (by omega)]; rfl
        · rfl
      · rfl
    · rfl
end Go.Proofs.Ytihfgpfofmjbaaa.Bm

set_option linter.unusedVariables false
set_option linter.unusedSimpArgs false
namespace Go.Proofs.Ytihfgpfofmjbaaa.Seg
open Go Ev Bm

/-! ### Sizes -/
def szGo : Nat → Int → List Int → List Int
  | 0, _, acc => acc
  | f + 1, n, acc => if n > 0 then szGo f (n / 128) ((n % 128 + 128) :: acc) else acc
/-- The bytes of a size. -/
def sz (n : Int) : List Int := szGo 5 (n / 128) [n % 128]
theorem szGo_len : ∀ f n acc, (szGo f n acc).length ≤ f + acc.length
  | 0, n, acc => by simp [szGo]
  | f + 1, n, acc => by
    simp only [szGo]
    split
    · have := szGo_len f (n / 128) ((n % 128 + 128) :: acc)
      simp at this
      omega
    · omega
theorem sz_len (n : Int) : (sz n).length ≤ 6 := szGo_len 5 _ _
theorem size_loop {fl : Nat} {b : List Int → Option Ans} : ∀ (f : Nat) (n : Int) (acc : List Int) (m : Nat), f < m → 0 ≤ n → n ≤ 2147483647 → n < 128 ^ f → acc.length + f ≤ 100 → iter (S_bits_Size_0 fl) m (n, acc) b = b (szGo f n acc)
  | 0, n, acc, m, hm, h0, h2, h1, hl => by
    obtain ⟨m, rfl⟩ : ∃ k, m = k + 1 := ⟨m - 1, by omega⟩
    have : n = 0 := by simp at h1; omega
    subst this
    simp only [iter, S_bits_Size_0, szGo]
    rw [dec_f (by omega)]
  | f + 1, n, acc, m, hm, h0, h2, h1, hl => by
    obtain ⟨m, rfl⟩ : ∃ k, m = k + 1 := ⟨m - 1, by omega⟩
    simp only [iter, S_bits_Size_0, szGo]
    by_cases hn : n > 0
    · have hq : n / 128 < 128 ^ f := by
        rw [Int.pow_succ] at h1
        exact Int.ediv_lt_of_lt_mul (by omega) h1
      rw [dec_t hn, if_pos hn, dec_t (by simp; omega)]
      have e1 : n.tmod 128 = n % 128 := Int.tmod_eq_emod_of_nonneg h0
      have e2 : n.tdiv 128 = n / 128 := Int.tdiv_eq_ediv_of_nonneg h0
      rw [e1, e2, wrap8 (x := n % 128) (by omega) (by omega), wrap8 (by omega) (by omega), List.singleton_append, wrap64 (by omega) (by omega)]
      exact size_loop f (n / 128) _ m (by omega) (by omega) (by omega) hq (by simp; omega)
    · rw [dec_f hn, if_neg hn]
theorem rsize_loop {fl : Nat} {b : List Int → Option Ans} : ∀ (f : Nat) (n : Int) (acc : List Int) (m : Nat), f < m → 0 ≤ n → n ≤ 2147483647 → n < 128 ^ f → acc.length + f ≤ 100 → iter (S_ref01_Size_0 fl) m (n, acc) b = b (szGo f n acc)
  | 0, n, acc, m, hm, h0, h2, h1, hl => by
    obtain ⟨m, rfl⟩ : ∃ k, m = k + 1 := ⟨m - 1, by omega⟩
    have : n = 0 := by simp at h1; omega
    subst this
    simp only [iter, S_ref01_Size_0, szGo]
    rw [dec_f (by omega)]
  | f + 1, n, acc, m, hm, h0, h2, h1, hl => by
    obtain ⟨m, rfl⟩ : ∃ k, m = k + 1 := ⟨m - 1, by omega⟩
    simp only [iter, S_ref01_Size_0, szGo]
    by_cases hn : n > 0
    · have hq : n / 128 < 128 ^ f := by
        rw [Int.pow_succ] at h1
        exact Int.ediv_lt_of_lt_mul (by omega) h1
      rw [dec_t hn, if_pos hn, dec_t (by simp; omega)]
      have e1 : n.tmod 128 = n % 128 := Int.tmod_eq_emod_of_nonneg h0
      have e2 : n.tdiv 128 = n / 128 := Int.tdiv_eq_ediv_of_nonneg h0
      rw [e1, e2, wrap64 (x := 128 + n % 128) (by omega) (by omega), wrap8 (by omega) (by omega), List.singleton_append, wrap64 (by omega) (by omega), Int.add_comm 128]
      exact rsize_loop f (n / 128) _ m (by omega) (by omega) (by omega) hq (by simp; omega)
    · rw [dec_f hn, if_neg hn]
/-- What Size returns. -/
def sizeR (n : Int) : Int × List Int := if 0 ≤ n ∧ n ≤ 2147483647 then (0, sz n) else (2, [])
theorem bsize {fl : Nat} (hfl : 9223372036854775808 ≤ fl) {n : Int} {K : Int × List Int → Option Ans} : F_bits_Size fl n K = K (sizeR n) := by
  unfold F_bits_Size sizeR
  by_cases h : 0 ≤ n ∧ n ≤ 2147483647
  · rw [dec_f (by omega), dec_f (by omega), if_pos h]
    unfold L_bits_Size_0
    have e1 : n.tmod 128 = n % 128 := Int.tmod_eq_emod_of_nonneg h.1
    have e2 : n.tdiv 128 = n / 128 := Int.tdiv_eq_ediv_of_nonneg h.1
    rw [e1, e2, wrap8 (by omega) (by omega), wrap64 (by omega) (by omega)]
    exact size_loop 5 (n / 128) _ fl (by omega) (by omega) (by omega) (by rw [show (128 : Int) ^ 5 = 34359738368 by decide]; omega) (by simp)
  · rw [if_neg h]
    by_cases h0 : n < 0
    · rw [dec_t h0]
    · rw [dec_f h0, dec_t (by omega)]
theorem rbsize {fl : Nat} (hfl : 9223372036854775808 ≤ fl) {n : Int} {K : Int × List Int → Option Ans} : F_ref01_Size fl n K = K (sizeR n) := by
  unfold F_ref01_Size sizeR
  by_cases h : 0 ≤ n ∧ n ≤ 2147483647
  · rw [dec_f (by omega), dec_f (by omega), if_pos h]
    unfold L_ref01_Size_0
    have e1 : n.tmod 128 = n % 128 := Int.tmod_eq_emod_of_nonneg h.1
    have e2 : n.tdiv 128 = n / 128 := Int.tdiv_eq_ediv_of_nonneg h.1
    rw [e1, e2, wrap8 (by omega) (by omega), wrap64 (by omega) (by omega)]
    exact rsize_loop 5 (n / 128) _ fl (by omega) (by omega) (by omega) (by rw [show (128 : Int) ^ 5 = 34359738368 by decide]; omega) (by simp)
  · rw [if_neg h]
    by_cases h0 : n < 0
    · rw [dec_t h0]
    · rw [dec_f h0, dec_t (by omega)]
theorem rsz {fl : Nat} (hfl : 9223372036854775808 ≤ fl) {n : Int} (h0 : 0 ≤ n) (h1 : n ≤ 2147483647) {K : List Int → Option Ans} : F_ref12_size fl n K = K (sz n) := by
  unfold F_ref12_size Fg_ref12_size
  rw [rbsize hfl]
  unfold sizeR
  rw [if_pos ⟨h0, h1⟩]
theorem psz {fl : Nat} (hfl : 9223372036854775808 ≤ fl) {n : Int} {l : List Int} (h0 : 0 ≤ n) (h1 : n ≤ 2147483647) (hl : l.length ≤ 1000000) {K : List Int → Option Ans} : F_segment_Header_1_35f fl n l K = K (l ++ sz n) := by
  unfold F_segment_Header_1_35f Fg_segment_Header_1_35f
  have := sz_len n
  rw [bsize hfl]
  unfold sizeR
  rw [if_pos ⟨h0, h1⟩]
  dsimp only
  rw [dec_t (by omega)]

/-! ### Packed bits -/
def B8 (b0 b1 b2 b3 b4 b5 b6 b7 : Bool) : Int := b0.toNat * 128 + b1.toNat * 64 + b2.toNat * 32 + b3.toNat * 16 + b4.toNat * 8 + b5.toNat * 4 + b6.toNat * 2 + b7.toNat
theorem ior_step : ∀ (t : Fin 8) (b0 b1 b2 b3 b4 b5 b6 b7 : Bool),
    ior .u8 (B8 (b0 && decide (0 < t.val)) (b1 && decide (1 < t.val)) (b2 && decide (2 < t.val)) (b3 && decide (3 < t.val)) (b4 && decide (4 < t.val)) (b5 && decide (5 < t.val)) (b6 && decide (6 < t.val)) (b7 && decide (7 < t.val)))
      (ishl .u8 (([b0, b1, b2, b3, b4, b5, b6, b7].getD t.val false).toNat : Int) (7 - (t.val : Int)))
    = B8 (b0 && decide (0 < t.val + 1)) (b1 && decide (1 < t.val + 1)) (b2 && decide (2 < t.val + 1)) (b3 && decide (3 < t.val + 1)) (b4 && decide (4 < t.val + 1)) (b5 && decide (5 < t.val + 1)) (b6 && decide (6 < t.val + 1)) (b7 && decide (7 < t.val + 1)) := by
  decide +kernel
theorem add_step : ∀ (t : Fin 8) (b0 b1 b2 b3 b4 b5 b6 b7 : Bool),
    (if [b0, b1, b2, b3, b4, b5, b6, b7].getD t.val false = true then
      IntKind.u8.wrap (B8 (b0 && decide (0 < t.val)) (b1 && decide (1 < t.val)) (b2 && decide (2 < t.val)) (b3 && decide (3 < t.val)) (b4 && decide (4 < t.val)) (b5 && decide (5 < t.val)) (b6 && decide (6 < t.val)) (b7 && decide (7 < t.val)) + ishr .u8 128 (t.val : Int))
     else B8 (b0 && decide (0 < t.val)) (b1 && decide (1 < t.val)) (b2 && decide (2 < t.val)) (b3 && decide (3 < t.val)) (b4 && decide (4 < t.val)) (b5 && decide (5 < t.val)) (b6 && decide (6 < t.val)) (b7 && decide (7 < t.val)))
    = B8 (b0 && decide (0 < t.val + 1)) (b1 && decide (1 < t.val + 1)) (b2 && decide (2 < t.val + 1)) (b3 && decide (3 < t.val + 1)) (b4 && decide (4 < t.val + 1)) (b5 && decide (5 < t.val + 1)) (b6 && decide (6 < t.val + 1)) (b7 && decide (7 < t.val + 1)) := by
  decide +kernel
/-- Byte j of the first i bits. -/
def by8 (l : List Bool) (i j : Nat) : Int :=
  let g := fun t => l.getD (8 * j + t) false && decide (8 * j + t < i)
  B8 (g 0) (g 1) (g 2) (g 3) (g 4) (g 5) (g 6) (g 7)
def pk (l : List Bool) (i n : Nat) : List Int := (List.range n).map (by8 l i)
theorem pk_len (l : List Bool) (i n : Nat) : (pk l i n).length = n := by simp [pk]
theorem pk_zero (l : List Bool) (n : Nat) : pk l 0 n = List.replicate n 0 := by
  apply List.ext_getElem (by simp [pk])
  intro i h1 h2
  simp [pk, by8, B8]
theorem pk_get {l : List Bool} {i n j : Nat} (h : j < n) : (pk l i n).getD j 0 = by8 l i j := by
  rw [getD_lt (by rw [pk_len]; exact h)]
  simp [pk]
theorem pk_set {l : List Bool} {i n : Nat} (h : i / 8 < n) : (pk l i n).set (i / 8) (by8 l (i + 1) (i / 8)) = pk l (i + 1) n := by
  apply List.ext_getElem (by simp [pk])
  intro j h1 h2
  simp only [pk_len] at h2
  rw [List.getElem_set]
  split
  · rename_i e; subst e; simp [pk]
  · rename_i e
    simp only [pk, List.getElem_map, List.getElem_range, by8]
    have hd : ∀ t, t < 8 → (decide (8 * j + t < i)) = decide (8 * j + t < i + 1) := fun t ht => decide_eq_decide.2 (by omega)
    rw [hd 0 (by omega), hd 1 (by omega), hd 2 (by omega), hd 3 (by omega), hd 4 (by omega), hd 5 (by omega), hd 6 (by omega), hd 7 (by omega)]
theorem by8_lo {l : List Bool} {i m : Nat} (hm : m = i ∨ m = i + 1) : by8 l m (i / 8) = (let g := fun t => l.getD (8 * (i / 8) + t) false
    let u := i % 8 + (m - i)
    B8 (g 0 && decide (0 < u)) (g 1 && decide (1 < u)) (g 2 && decide (2 < u)) (g 3 && decide (3 < u)) (g 4 && decide (4 < u)) (g 5 && decide (5 < u)) (g 6 && decide (6 < u)) (g 7 && decide (7 < u))) := by
  have hd : ∀ t, decide (8 * (i / 8) + t < m) = decide (t < i % 8 + (m - i)) := fun t => decide_eq_decide.2 (by omega)
  simp only [by8, hd]
theorem get8 (l : List Bool) (a : Nat) : ∀ t, t < 8 → [l.getD (a + 0) false, l.getD (a + 1) false, l.getD (a + 2) false, l.getD (a + 3) false, l.getD (a + 4) false, l.getD (a + 5) false, l.getD (a + 6) false, l.getD (a + 7) false].getD t false = l.getD (a + t) false := by
  intro t ht
  match t, ht with
  | 0, _ => rfl
  | 1, _ => rfl
  | 2, _ => rfl
  | 3, _ => rfl
  | 4, _ => rfl
  | 5, _ => rfl
  | 6, _ => rfl
  | 7, _ => rfl
theorem by8_ior (l : List Bool) (i : Nat) : ior .u8 (by8 l i (i / 8)) (ishl .u8 ((l.getD i false).toNat : Int) (7 - ((i % 8 : Nat) : Int))) = by8 l (i + 1) (i / 8) := by
  have h := ior_step ⟨i % 8, by omega⟩ (l.getD (8 * (i / 8) + 0) false) (l.getD (8 * (i / 8) + 1) false) (l.getD (8 * (i / 8) + 2) false) (l.getD (8 * (i / 8) + 3) false) (l.getD (8 * (i / 8) + 4) false) (l.getD (8 * (i / 8) + 5) false) (l.getD (8 * (i / 8) + 6) false) (l.getD (8 * (i / 8) + 7) false)
  simp only at h
  rw [get8 l (8 * (i / 8)) (i % 8) (by omega), show 8 * (i / 8) + i % 8 = i by omega] at h
  rw [by8_lo (.inl rfl), by8_lo (i := i) (.inr rfl), Nat.sub_self, Nat.add_zero, show i + 1 - i = 1 by omega]
  exact h
theorem by8_add (l : List Bool) (i : Nat) : (if l.getD i false = true then IntKind.u8.wrap (by8 l i (i / 8) + ishr .u8 128 ((i % 8 : Nat) : Int)) else by8 l i (i / 8)) = by8 l (i + 1) (i / 8) := by
  have h := add_step ⟨i % 8, by omega⟩ (l.getD (8 * (i / 8) + 0) false) (l.getD (8 * (i / 8) + 1) false) (l.getD (8 * (i / 8) + 2) false) (l.getD (8 * (i / 8) + 3) false) (l.getD (8 * (i / 8) + 4) false) (l.getD (8 * (i / 8) + 5) false) (l.getD (8 * (i / 8) + 6) false) (l.getD (8 * (i / 8) + 7) false)
  simp only at h
  rw [get8 l (8 * (i / 8)) (i % 8) (by omega), show 8 * (i / 8) + i % 8 = i by omega] at h
  rw [by8_lo (.inl rfl), by8_lo (i := i) (.inr rfl), Nat.sub_self, Nat.add_zero, show i + 1 - i = 1 by omega]
  exact h

/-- The bits as bytes. -/
def bits (l : List Bool) : List Int := l.map fun b => (b.toNat : Int)
theorem bits_len (l : List Bool) : (bits l).length = l.length := by simp [bits]
theorem bits_get {l : List Bool} {i : Nat} (h : i < l.length) : (bits l).getD i 0 = ((l.getD i false).toNat : Int) := by
  rw [getD_lt (by rw [bits_len]; exact h), getD_lt h]
  simp [bits]
/-- The packed bits. -/
def packed (l : List Bool) : List Int := pk l l.length ((l.length + 7) / 8)
theorem packed_len (l : List Bool) : (packed l).length = (l.length + 7) / 8 := pk_len _ _ _
theorem tdiv8 (i : Nat) : (i : Int).tdiv 8 = ((i / 8 : Nat) : Int) := by rw [Int.tdiv_eq_ediv_of_nonneg (by omega)]; omega
theorem tmod8 (i : Nat) : (i : Int).tmod 8 = ((i % 8 : Nat) : Int) := by rw [Int.tmod_eq_emod_of_nonneg (by omega)]; omega
theorem up8 (n : Nat) (h : n ≤ 1000000000) : IntKind.i64.wrap ((IntKind.i64.wrap ((n : Int) + 7)).tdiv 8) = (((n + 7) / 8 : Nat) : Int) := by
  rw [wrap64 (x := (n : Int) + 7) (by omega) (by omega)]
  have := tdiv8 (n + 7)
  rw [show ((n + 7 : Nat) : Int) = (n : Int) + 7 by omega] at this
  rw [this]
  exact wrap64 (by omega) (by omega)
theorem pack {fl : Nat} (hfl : 9223372036854775808 ≤ fl) {l : List Bool} (hl : l.length ≤ 1000000000) {K : Int × List Int → Option Ans} : F_bits_Pack fl (bits l) K = K (0, packed l) := by
  unfold F_bits_Pack
  rw [bits_len, up8 _ hl, dec_t (by omega), Int.toNat_natCast]
  unfold L_bits_Pack_0 packed
  refine iter_seq (step := S_bits_Pack_0 fl) (fun i : Nat => (bits l, (l.length : Int), (i : Int), pk l i ((l.length + 7) / 8))) l.length (by simp only [pk_zero]; rfl) (fun i hi c => ?_) (fun c => ?_) (by omega)
  · have hb : ((l.getD i false).toNat : Int) ≤ 1 := by cases l.getD i false <;> simp
    simp (disch := first | omega | (simp only [bits_len, pk_len]; omega)) only [S_bits_Pack_0, dec_t, dec_f, tdiv8, tmod8, wrap64, Int.toNat_natCast, bits_get hi, pk_get, by8_ior, pk_set]
    rfl
  · simp (disch := omega) only [S_bits_Pack_0, dec_f]
end Go.Proofs.Ytihfgpfofmjbaaa.Seg

set_option linter.unusedVariables false
set_option linter.unusedSimpArgs false
namespace Go.Proofs.Ytihfgpfofmjbaaa.Seg
open Go Ev Bm

/-- The number in front of the i-th one. -/
def lastOf (refs : List Int) : Nat → Int
  | 0 => -1
  | i + 1 => refs.getD i 0
def asc (refs : List Int) (n : Int) : Prop := ∀ i, i < refs.length → lastOf refs i < refs.getD i 0 ∧ refs.getD i 0 < n
instance {refs : List Int} {n : Int} : Decidable (asc refs n) := by unfold asc; infer_instance
def nums (n k p : Int) (refs : List Int) (keep : List Bool) (data : List Int) : Prop :=
  0 ≤ n ∧ n ≤ 10000 ∧ 0 ≤ k ∧ k ≤ 15 ∧ 0 ≤ p ∧ p ≤ 1000 ∧ refs.length ≤ 20 ∧ keep.length = refs.length + 1 ∧ data.length ≤ 20000
instance {n k p : Int} {refs : List Int} {keep : List Bool} {data : List Int} : Decidable (nums n k p refs keep data) := by unfold nums; infer_instance
/-- A segment is valid. -/
def valS (n k p : Int) (refs : List Int) (keep : List Bool) (data : List Int) : Bool := decide (nums n k p refs keep data ∧ asc refs n)

theorem svalid {fl : Nat} (hfl : 9223372036854775808 ≤ fl) {n k p : Int} {refs : List Int} {keep : List Bool} {data : List Int} (h1 : refs.length ≤ 1000000000000000) (h2 : keep.length ≤ 1000000000000000) (h3 : data.length ≤ 1000000000000000) {K : Bool → Option Ans} :
    F_segment_Valid fl n k p refs keep data K = K (valS n k p refs keep data) := by
  unfold F_segment_Valid valS
  simp only [cd, cn]
  rw [wrap64 (by omega) (by omega)]
  by_cases hn : nums n k p refs keep data
  · obtain ⟨a1, a2, a3, a4, a5, a6, a7, a8, a9⟩ := hn
    have hn : nums n k p refs keep data := ⟨a1, a2, a3, a4, a5, a6, a7, a8, a9⟩
    rw [if_neg (by omega), if_neg (by omega), if_neg (by omega), if_neg (by omega), if_neg (by omega), if_neg (by omega), if_neg (by omega), if_pos (by omega), if_neg (by omega)]
    unfold L_segment_Valid_0
    rcases nat_or_first (fun i => lastOf refs i < refs.getD i 0 ∧ refs.getD i 0 < n) refs.length with h | ⟨m, hm, hb, hi⟩
    · rw [decide_eq_true (show nums n k p refs keep data ∧ asc refs n from ⟨hn, h⟩)]
      refine iter_seq (step := S_segment_Valid_0 fl) (fun i : Nat => (lastOf refs i, refs, (refs.length : Int), (i : Int), n, k, p, refs, keep, data)) refs.length rfl (fun i hi c => ?_) (fun c => ?_) (by omega)
      · have := h i hi
        simp (disch := omega) only [S_segment_Valid_0, dec_t, dec_f, wrap64, Int.toNat_natCast]
        rfl
      · simp (disch := omega) only [S_segment_Valid_0, dec_f]
    · rw [decide_eq_false (show ¬(nums n k p refs keep data ∧ asc refs n) from fun h => hb (h.2 m hm))]
      refine iter_seq (step := S_segment_Valid_0 fl) (fun i : Nat => (lastOf refs i, refs, (refs.length : Int), (i : Int), n, k, p, refs, keep, data)) m rfl (fun i him c => ?_) (fun c => ?_) (by omega)
      · have := hi i him
        simp (disch := omega) only [S_segment_Valid_0, dec_t, dec_f, wrap64, Int.toNat_natCast]
        rfl
      · simp (disch := omega) only [S_segment_Valid_0, dec_t, Int.toNat_natCast]
        by_cases hc : refs.getD m 0 ≤ lastOf refs m
        · rw [dec_t hc]
        · rw [dec_f hc, dec_t (by omega)]
  · rw [decide_eq_false (fun h => hn h.1)]
    unfold nums at hn
    split
    · rfl
    split
    · rfl
    split
    · rfl
    split
    · rfl
    split
    · rfl
    split
    · rfl
    split
    · rfl
    split
    · split
      · rfl
      · exact absurd ⟨by omega, by omega, by omega, by omega, by omega, by omega, by omega, by omega, by omega⟩ hn
    · rfl
theorem rsvalid {fl : Nat} (hfl : 9223372036854775808 ≤ fl) {n k p : Int} {refs : List Int} {keep : List Bool} {data : List Int} (h1 : refs.length ≤ 1000000000000000) (h2 : keep.length ≤ 1000000000000000) (h3 : data.length ≤ 1000000000000000) {K : Bool → Option Ans} :
    F_ref12_Valid fl n k p refs keep data K = K (valS n k p refs keep data) := by
  have e : F_ref12_Valid fl n k p refs keep data K = F_segment_Valid fl n k p refs keep data K := by kernel_rfl
  rw [e]
  exact svalid hfl h1 h2 h3

/-- What refers to other segments: the sizes of the differences. -/
def refB (n : Int) (refs : List Int) : List Int := refs.flatMap fun r => sz (n - r)
theorem refB_take {n : Int} {refs : List Int} {i : Nat} (h : i < refs.length) : refB n (refs.take (i + 1)) = refB n (refs.take i) ++ sz (n - refs.getD i 0) := by
  unfold refB
  rw [take_succ_getD h 0, List.flatMap_append]
  simp
theorem refB_len {n : Int} : ∀ (refs : List Int), (refB n refs).length ≤ 6 * refs.length
  | [] => by simp [refB]
  | r :: refs => by
    have := refB_len (n := n) refs
    have h := sz_len (n - r)
    unfold refB at this ⊢
    rw [List.flatMap_cons, List.length_append, List.length_cons]
    omega
/-- A header's bytes. -/
def hdr (n k p : Int) (refs : List Int) (keep : List Bool) (dl : Nat) : List Int :=
  sz n ++ ((if refs.length = 0 then [k] else (k + 16) :: (sz refs.length ++ refB n refs)) ++ (packed keep ++ (sz p ++ sz dl)))
/-- What Header returns. -/
def headerR (n k p : Int) (refs : List Int) (keep : List Bool) (data : List Int) : Int × List Int :=
  if valS n k p refs keep data = true then (0, hdr n k p refs keep data.length) else (2, [])
theorem valS_iff {n k p : Int} {refs : List Int} {keep : List Bool} {data : List Int} : valS n k p refs keep data = true ↔ nums n k p refs keep data ∧ asc refs n := by simp [valS]
theorem asc_get {n : Int} {refs : List Int} (h : asc refs n) {i : Nat} (hi : i < refs.length) : 0 ≤ refs.getD i 0 ∧ refs.getD i 0 < n := by
  refine ⟨?_, (h i hi).2⟩
  have : ∀ j, j ≤ i → -1 ≤ lastOf refs j := by
    intro j
    induction j with
    | zero => intro _; simp [lastOf]
    | succ j ih =>
      intro hj
      have a := ih (by omega)
      have b := (h j (by omega)).1
      simp only [lastOf]
      omega
  have a := this i (Nat.le_refl _)
  have b := (h i hi).1
  omega

theorem flag {fl : Nat} {b : Bool} {K : Int → Option Ans} : F_segment_flag fl b K = K (b.toNat : Int) := by
  unfold F_segment_flag
  cases b <;> rfl
theorem keep_loop {fl : Nat} (hfl : 9223372036854775808 ≤ fl) {n k p : Int} {refs : List Int} {keep : List Bool} {data out : List Int} {b} (hl : keep.length ≤ 1000000) :
    L_segment_Header_2 fl (keep, (keep.length : Int), 0, n, k, p, refs, keep, data, [], out) b = b (n, k, p, refs, keep, data, bits keep, out) := by
  unfold L_segment_Header_2
  refine iter_seq (step := S_segment_Header_2 fl) (fun i : Nat => (keep, (keep.length : Int), (i : Int), n, k, p, refs, keep, data, bits (keep.take i), out)) keep.length rfl (fun i hi c => ?_) (fun c => ?_) (by omega)
  · have e : bits (keep.take (i + 1)) = bits (keep.take i) ++ [((keep.getD i false).toNat : Int)] := map_take_succ hi false _
    simp (disch := first | omega | (simp only [bits_len, List.length_take, List.length_singleton]; omega)) only [S_segment_Header_2, Sg_segment_Header_2, dec_t, wrap64, Int.toNat_natCast, flag, e]
    rfl
  · simp (disch := omega) only [S_segment_Header_2, Sg_segment_Header_2, dec_f, List.take_length]
theorem refs_loop {fl : Nat} (hfl : 9223372036854775808 ≤ fl) {n k p : Int} {refs : List Int} {keep : List Bool} {data out : List Int} {b} (hn : n ≤ 10000) (ha : asc refs n) (hl : refs.length ≤ 20) (ho : out.length ≤ 100) :
    L_segment_Header_0 fl (refs, (refs.length : Int), 0, n, k, p, refs, keep, data, out) b = b (n, k, p, refs, keep, data, out ++ refB n refs) := by
  unfold L_segment_Header_0
  refine iter_seq (step := S_segment_Header_0 fl) (fun i : Nat => (refs, (refs.length : Int), (i : Int), n, k, p, refs, keep, data, out ++ refB n (refs.take i))) refs.length (by simp [refB]) (fun i hi c => ?_) (fun c => ?_) (by omega)
  · have a := asc_get ha hi
    have h6 := refB_len (n := n) (refs.take i)
    have hlen : (out ++ refB n (refs.take i)).length ≤ 1000000 := by rw [List.length_append]; simp at h6; omega
    simp (disch := omega) only [S_segment_Header_0, Sg_segment_Header_0, dec_t, wrap64, Int.toNat_natCast]
    rw [psz hfl (by omega) (by omega) hlen, refB_take hi, List.append_assoc]
    rfl
  · simp (disch := omega) only [S_segment_Header_0, Sg_segment_Header_0, dec_f, List.take_length]

theorem header {fl : Nat} (hfl : 9223372036854775808 ≤ fl) {n k p : Int} {refs : List Int} {keep : List Bool} {data : List Int} (h1 : refs.length ≤ 1000000000000000) (h2 : keep.length ≤ 1000000000000000) (h3 : data.length ≤ 1000000000000000) {K : Int × List Int → Option Ans} :
    F_segment_Header fl n k p refs keep data K = K (headerR n k p refs keep data) := by
  unfold F_segment_Header Fg_segment_Header headerR
  rw [svalid hfl h1 h2 h3]
  cases hv : valS n k p refs keep data with
  | false => rfl
  | true =>
  rw [cond_f (b := !true) rfl, if_pos rfl]
  obtain ⟨⟨a1, a2, a3, a4, a5, a6, a7, a8, a9⟩, ha⟩ := valS_iff.1 hv
  have z1 := sz_len n
  have z2 := sz_len p
  have z3 := sz_len refs.length
  have z4 := packed_len keep
  have z5 := refB_len (n := n) refs
  rw [psz hfl (by omega) (by omega) (by simp), List.nil_append]
  dsimp only
  rw [cb]
  by_cases hr : (refs.length : Int) = 0
  · rw [if_pos hr, wrap8 (by omega) (by omega), dec_t (by simp; omega), keep_loop hfl (by omega)]
    try dsimp only
    rw [pack hfl (by omega)]
    try dsimp only
    rw [dec_t (by simp; omega), psz hfl (by omega) (by omega) (by simp; omega)]
    try dsimp only
    rw [psz hfl (by omega) (by omega) (by simp; omega)]
    have hr0 : refs.length = 0 := by omega
    unfold hdr
    rw [if_pos hr0]
    simp only [List.append_assoc]
  · rw [if_neg hr, wrap64 (by omega) (by omega), wrap8 (by omega) (by omega), dec_t (by simp; omega), psz hfl (by omega) (by omega) (by simp; omega)]
    try dsimp only
    rw [refs_loop hfl a2 ha a7 (by simp; omega)]
    try dsimp only
    rw [keep_loop hfl (by omega)]
    try dsimp only
    rw [pack hfl (by omega)]
    try dsimp only
    rw [dec_t (by simp; omega), psz hfl (by omega) (by omega) (by simp; omega)]
    try dsimp only
    rw [psz hfl (by omega) (by omega) (by simp; omega)]
    have hr0 : ¬ refs.length = 0 := by omega
    unfold hdr
    rw [if_neg hr0]
    simp only [List.append_assoc, List.cons_append, List.nil_append]

theorem rkeep_loop {fl : Nat} (hfl : 9223372036854775808 ≤ fl) {n k p : Int} {refs : List Int} {keep : List Bool} {data out : List Int} {b} (hl : keep.length ≤ 1000000) :
    L_ref12_Header_2 fl (keep, (keep.length : Int), 0, n, k, p, refs, keep, data, out, List.replicate ((keep.length + 7) / 8) 0) b = b (n, k, p, refs, keep, data, out, packed keep) := by
  unfold L_ref12_Header_2 packed
  refine iter_seq (step := S_ref12_Header_2 fl) (fun i : Nat => (keep, (keep.length : Int), (i : Int), n, k, p, refs, keep, data, out, pk keep i ((keep.length + 7) / 8))) keep.length (by simp only [pk_zero]; rfl) (fun i hi c => ?_) (fun c => ?_) (by omega)
  · have e := by8_add keep i
    have hs := pk_set (l := keep) (i := i) (n := (keep.length + 7) / 8) (by omega)
    simp (disch := first | omega | (simp only [pk_len]; omega)) only [S_ref12_Header_2, Sg_ref12_Header_2, dec_t, dec_f, wrap64, Int.toNat_natCast, tdiv8, tmod8, pk_get]
    cases hb : keep.getD i false with
    | true =>
      rw [if_pos hb] at e
      rw [cond_true, e, hs]
      rfl
    | false =>
      rw [if_neg (by rw [hb]; simp)] at e
      rw [cond_false]
      have : pk keep (i + 1) ((keep.length + 7) / 8) = pk keep i ((keep.length + 7) / 8) := by
        rw [← hs, ← e]
        apply List.ext_getElem (by simp)
        intro j h1 h2
        rw [List.getElem_set]
        split
        · rename_i ej; subst ej; simp [pk]
        · rfl
      rw [this]
      rfl
  · simp (disch := omega) only [S_ref12_Header_2, Sg_ref12_Header_2, dec_f]
theorem rrefs_loop {fl : Nat} (hfl : 9223372036854775808 ≤ fl) {n k p : Int} {refs : List Int} {keep : List Bool} {data out : List Int} {b} (hn : n ≤ 10000) (ha : asc refs n) (hl : refs.length ≤ 20) (ho : out.length ≤ 100) :
    L_ref12_Header_0 fl (refs, (refs.length : Int), 0, n, k, p, refs, keep, data, out) b = b (n, k, p, refs, keep, data, out ++ refB n refs) := by
  unfold L_ref12_Header_0
  refine iter_seq (step := S_ref12_Header_0 fl) (fun i : Nat => (refs, (refs.length : Int), (i : Int), n, k, p, refs, keep, data, out ++ refB n (refs.take i))) refs.length (by simp [refB]) (fun i hi c => ?_) (fun c => ?_) (by omega)
  · have a := asc_get ha hi
    have h6 := refB_len (n := n) (refs.take i)
    have h7 := sz_len (n - refs.getD i 0)
    have hlen : (out ++ refB n (refs.take i)).length ≤ 1000000 := by rw [List.length_append]; simp at h6; omega
    simp (disch := omega) only [S_ref12_Header_0, Sg_ref12_Header_0, dec_t, wrap64, Int.toNat_natCast]
    rw [rsz hfl (by omega) (by omega), dec_t (by omega), refB_take hi, List.append_assoc]
    rfl
  · simp (disch := omega) only [S_ref12_Header_0, Sg_ref12_Header_0, dec_f, List.take_length]
theorem rheader {fl : Nat} (hfl : 9223372036854775808 ≤ fl) {n k p : Int} {refs : List Int} {keep : List Bool} {data : List Int} (h1 : refs.length ≤ 1000000000000000) (h2 : keep.length ≤ 1000000000000000) (h3 : data.length ≤ 1000000000000000) {K : Int × List Int → Option Ans} :
    F_ref12_Header fl n k p refs keep data K = K (headerR n k p refs keep data) := by
  unfold F_ref12_Header Fg_ref12_Header headerR
  rw [rsvalid hfl h1 h2 h3]
  cases hv : valS n k p refs keep data with
  | false => rfl
  | true =>
  rw [cond_f (b := !true) rfl, if_pos rfl]
  obtain ⟨⟨a1, a2, a3, a4, a5, a6, a7, a8, a9⟩, ha⟩ := valS_iff.1 hv
  have z1 := sz_len n
  have z2 := sz_len p
  have z3 := sz_len refs.length
  have z4 := packed_len keep
  have z5 := refB_len (n := n) refs
  have z6 := sz_len data.length
  rw [rsz hfl (by omega) (by omega)]
  dsimp only
  rw [cb, up8 _ (by omega)]
  by_cases hr : (refs.length : Int) = 0
  · rw [if_pos hr, wrap8 (by omega) (by omega), dec_t (by simp; omega), dec_t (by omega), Int.toNat_natCast, rkeep_loop hfl (by omega)]
    try dsimp only
    rw [dec_t (by simp; omega), rsz hfl (by omega) (by omega)]
    try dsimp only
    rw [dec_t (by simp; omega), rsz hfl (by omega) (by omega)]
    try dsimp only
    rw [dec_t (by simp; omega)]
    have hr0 : refs.length = 0 := by omega
    unfold hdr
    rw [if_pos hr0]
    simp only [List.append_assoc]
  · rw [if_neg hr, wrap64 (by omega) (by omega), wrap8 (by omega) (by omega), dec_t (by simp; omega), rsz hfl (by omega) (by omega)]
    try dsimp only
    rw [dec_t (by simp; omega), rrefs_loop hfl a2 ha a7 (by simp; omega)]
    try dsimp only
    rw [up8 _ (by omega), dec_t (by omega), Int.toNat_natCast, rkeep_loop hfl (by omega)]
    try dsimp only
    rw [dec_t (by simp; omega), rsz hfl (by omega) (by omega)]
    try dsimp only
    rw [dec_t (by simp; omega), rsz hfl (by omega) (by omega)]
    try dsimp only
    rw [dec_t (by simp; omega)]
    have hr0 : ¬ refs.length = 0 := by omega
    unfold hdr
    rw [if_neg hr0]
    simp only [List.append_assoc, List.cons_append, List.nil_append]

theorem sameB {fl : Nat} (hfl : 9223372036854775808 ≤ fl) {l : List Int} (hl : l.length ≤ 1000000000000000) {K : Bool → Option Ans} : F_ref02_SameBytes fl l l K = K true := by
  unfold F_ref02_SameBytes L_ref02_SameBytes_0
  rw [cond_f (by simp)]
  refine iter_seq (step := S_ref02_SameBytes_0 fl) (fun i : Nat => (l, l, (l.length : Int), (i : Int))) l.length rfl (fun i hi c => ?_) (fun c => ?_) (by omega)
  · simp (disch := omega) only [S_ref02_SameBytes_0, dec_t, wrap64, Int.toNat_natCast]
    simp
  · simp (disch := omega) only [S_ref02_SameBytes_0, dec_f]

end Go.Proofs.Ytihfgpfofmjbaaa.Seg

set_option linter.unusedVariables false
set_option linter.unusedSimpArgs false
namespace Go.Proofs.Ytihfgpfofmjbaaa.Seg
open Go Ev Bm

def sameD (x y : List Int) : Bool := (strOfNums x).toList == (strOfNums y).toList
theorem sameD_self (x : List Int) : sameD x x = true := by unfold sameD; rw [beq_self_eq_true]
/-- The same segment. -/
def same (n k p : Int) (refs : List Int) (keep : List Bool) (data : List Int) (n' k' p' : Int) (refs' : List Int) (keep' : List Bool) (data' : List Int) : Bool :=
  decide (n = n' ∧ k = k' ∧ p = p' ∧ refs = refs' ∧ keep = keep') && sameD data data'
theorem same_self (n k p : Int) (refs : List Int) (keep : List Bool) (data : List Int) : same n k p refs keep data n k p refs keep data = true := by simp [same, sameD_self]
abbrev SegT := Int × Int × Int × List Int × List Bool × List Int
def lgW (l : List SegT) : Nat → Int
  | 0 => 0
  | i + 1 => IntKind.i64.wrap (lgW l i + IntKind.i64.wrap (((l.getD i (0, 0, 0, [], [], [])).2.2.2.2.2.length : Int) + ((l.getD i (0, 0, 0, [], [], [])).2.2.2.1.length : Int)))
def large (l : List SegT) : Bool := decide ((l.length : Int) > 300) || decide (lgW l l.length > 200000)
end Go.Proofs.Ytihfgpfofmjbaaa.Seg

set_option linter.unusedVariables false
set_option linter.unusedSimpArgs false
namespace Go.Proofs.Ytihfgpfofmjbaaa.Seg
open Go Ev Bm

/-! ### Maps -/
theorem mhas_put {α : Type} {n k : Int} {x : α} : ∀ (m : List (Int × α)), mhas k (mput n x m) = (decide (k = n) || mhas k m)
  | [] => by simp only [mput, mhas]; cases decide (k = n) <;> rfl
  | (a, v) :: r => by
    simp only [mput]
    by_cases h : n = a
    · subst h
      rw [decide_eq_true rfl]
      simp only [cond_true, mhas]
      cases decide (k = n) <;> rfl
    · rw [decide_eq_false h]
      simp only [cond_false, mhas, mhas_put r]
      cases decide (k = a) <;> cases decide (k = n) <;> rfl
theorem mget_put {α : Type} {n k : Int} {x d : α} : ∀ (m : List (Int × α)), mget d k (mput n x m) = if k = n then x else mget d k m
  | [] => by simp only [mput, mget]; by_cases h : k = n <;> simp [h]
  | (a, v) :: r => by
    simp only [mput]
    by_cases h : n = a
    · subst h
      rw [decide_eq_true rfl]
      simp only [cond_true, mget]
      by_cases h : k = n <;> simp [h]
    · rw [decide_eq_false h]
      simp only [cond_false, mget, mget_put r]
      by_cases h1 : k = a
      · subst h1
        rw [decide_eq_true rfl]
        simp only [cond_true]
        exact (if_neg (fun e => h e.symm)).symm
      · rw [decide_eq_false h1]
        rfl
/-- No key stands twice. -/
def Once {α : Type} (m : List (Int × α)) : Prop := (m.map (·.1)).Nodup
theorem mhas_mem {α : Type} {k : Int} : ∀ {m : List (Int × α)}, mhas k m = true ↔ k ∈ m.map (·.1)
  | [] => by simp [mhas]
  | (a, v) :: r => by
    simp only [mhas, List.map_cons, List.mem_cons]
    by_cases h : k = a
    · simp [h]
    · rw [decide_eq_false h]
      simp [h, mhas_mem (m := r)]
theorem Once.put {α : Type} {n : Int} {x : α} : ∀ {m : List (Int × α)}, Once m → Once (mput n x m)
  | [], h => by simp [mput, Once]
  | (a, v) :: r, h => by
    simp only [mput]
    by_cases e : n = a
    · subst e
      rw [decide_eq_true rfl]
      exact h
    · rw [decide_eq_false e]
      simp only [cond_false, Once, List.map_cons, List.nodup_cons] at h ⊢
      refine ⟨fun hm => ?_, Once.put h.2⟩
      have := mhas_mem.2 hm
      rw [mhas_put, decide_eq_false (fun e' => e e'.symm), Bool.false_or] at this
      exact h.1 (mhas_mem.1 this)
theorem mhas_del {α : Type} {n k : Int} : ∀ {m : List (Int × α)}, Once m → mhas k (mdel n m) = (!decide (k = n) && mhas k m)
  | [], h => by simp [mdel, mhas]
  | (a, v) :: r, h => by
    simp only [Once, List.map_cons, List.nodup_cons] at h
    simp only [mdel]
    by_cases e : n = a
    · subst e
      rw [decide_eq_true rfl]
      simp only [cond_true, mhas]
      by_cases h1 : k = n
      · subst h1
        rw [decide_eq_true rfl]
        simp only [Bool.not_true, Bool.false_and]
        cases h2 : mhas k r with
        | false => rfl
        | true => exact absurd (mhas_mem.1 h2) h.1
      · rw [decide_eq_false h1]
        rfl
    · rw [decide_eq_false e]
      simp only [cond_false, mhas, mhas_del (m := r) h.2]
      by_cases h1 : k = a
      · subst h1
        rw [decide_eq_true rfl, decide_eq_false (fun x => e x.symm)]
        rfl
      · rw [decide_eq_false h1]
        rfl
theorem mget_del {α : Type} {n k : Int} {d : α} (hk : k ≠ n) : ∀ {m : List (Int × α)}, mget d k (mdel n m) = mget d k m
  | [] => rfl
  | (a, v) :: r => by
    simp only [mdel]
    by_cases e : n = a
    · subst e
      rw [decide_eq_true rfl]
      simp only [cond_true, mget]
      rw [decide_eq_false hk]
      rfl
    · rw [decide_eq_false e]
      simp only [cond_false, mget, mget_del hk (m := r)]
theorem mdel_mem {α : Type} {n k : Int} : ∀ {m : List (Int × α)}, k ∈ (mdel n m).map (·.1) → k ∈ m.map (·.1)
  | [], h => h
  | (a, v) :: r, h => by
    simp only [mdel] at h
    by_cases e : n = a
    · rw [decide_eq_true e] at h
      exact List.mem_cons_of_mem _ h
    · rw [decide_eq_false e] at h
      simp only [cond_false, List.map_cons, List.mem_cons] at h ⊢
      rcases h with h | h
      · exact .inl h
      · exact .inr (mdel_mem h)
theorem Once.del {α : Type} {n : Int} : ∀ {m : List (Int × α)}, Once m → Once (mdel n m)
  | [], h => h
  | (a, v) :: r, h => by
    simp only [Once, List.map_cons, List.nodup_cons] at h
    simp only [mdel]
    by_cases e : n = a
    · rw [decide_eq_true e]
      exact h.2
    · rw [decide_eq_false e]
      simp only [cond_false, Once, List.map_cons, List.nodup_cons]
      exact ⟨fun hm => h.1 (mdel_mem hm), Once.del h.2⟩

/-! ### What the program does with one segment -/
def dseg : SegT := (0, 0, 0, [], [], [])
def vS (s : SegT) : Bool := valS s.1 s.2.1 s.2.2.1 s.2.2.2.1 s.2.2.2.2.1 s.2.2.2.2.2
/-- What is referred to is there. -/
def okRefs (m : List (Int × Int)) (s : SegT) : Prop := ∀ r ∈ s.2.2.2.1, mhas r m = true ∧ (mget 0 r m = 0 ∨ mget 0 r m = s.2.2.1)
/-- What is there behind the first i references. -/
def dropR (m : List (Int × Int)) (s : SegT) : Nat → List (Int × Int)
  | 0 => m
  | i + 1 => if s.2.2.2.2.1.getD i false = true then dropR m s i else mdel (s.2.2.2.1.getD i 0) (dropR m s i)
def takesM (m : List (Int × Int)) (s : SegT) : List (Int × Int) :=
  if s.2.2.2.2.1.getD s.2.2.2.1.length false = true then mput s.1 s.2.2.1 (dropR m s s.2.2.2.1.length) else dropR m s s.2.2.2.1.length
instance {m : List (Int × Int)} {s : SegT} : Decidable (okRefs m s) := by unfold okRefs; infer_instance
def takesOk (m : List (Int × Int)) (s : SegT) (last : Int) : Prop := vS s = true ∧ last < s.1 ∧ okRefs m s
instance {m : List (Int × Int)} {s : SegT} {last : Int} : Decidable (takesOk m s last) := by unfold takesOk; infer_instance

theorem takes_refs {fl : Nat} (hfl : 9223372036854775808 ≤ fl) {m : List (Int × Int)} {n k p : Int} {refs : List Int} {keep : List Bool} {data : List Int} (hl : refs.length ≤ 1000000) {ret : Bool × List (Int × Int) → Option Ans} {b : List (Int × Int) × Int × Int × Int × List Int × List Bool × List Int → Option Ans} :
    L_segment_store_takes_88a_0 fl (refs, (refs.length : Int), 0, m, n, k, p, refs, keep, data) ret b = if okRefs m (n, k, p, refs, keep, data) then b (m, n, k, p, refs, keep, data) else ret (false, m) := by
  unfold L_segment_store_takes_88a_0
  have hP : ∀ i, (mhas (refs.getD i 0) m = true ∧ (mget 0 (refs.getD i 0) m = 0 ∨ mget 0 (refs.getD i 0) m = p)) → ∀ x y : Option Ans, (bif !mhas (refs.getD i 0) m then x else bif mget 0 (refs.getD i 0) m != 0 then (bif mget 0 (refs.getD i 0) m != p then x else y) else y) = y := by
    rintro i ⟨h1, h2⟩ x y
    rw [h1, cond_f (b := !true) rfl]
    rcases h2 with h2 | h2
    · rw [h2]; rfl
    · rw [h2, cond_f (b := p != p) (by simp)]
      cases p != 0 <;> rfl
  have hN : ∀ i, ¬ (mhas (refs.getD i 0) m = true ∧ (mget 0 (refs.getD i 0) m = 0 ∨ mget 0 (refs.getD i 0) m = p)) → ∀ x y : Option Ans, (bif !mhas (refs.getD i 0) m then x else bif mget 0 (refs.getD i 0) m != 0 then (bif mget 0 (refs.getD i 0) m != p then x else y) else y) = x := by
    intro i h x y
    cases h1 : mhas (refs.getD i 0) m with
    | false => rfl
    | true =>
      rw [cond_f (b := !true) rfl, cond_t (by simpa using fun e => h ⟨h1, .inl e⟩), cond_t (by simpa using fun e => h ⟨h1, .inr e⟩)]
  rcases nat_or_first (fun i => mhas (refs.getD i 0) m = true ∧ (mget 0 (refs.getD i 0) m = 0 ∨ mget 0 (refs.getD i 0) m = p)) refs.length with h | ⟨j, hj, hbad, hgood⟩
  · have hok : okRefs m (n, k, p, refs, keep, data) := fun r hr => by
      obtain ⟨i, hi, e⟩ := List.mem_iff_getElem.1 hr
      have := h i hi
      rw [getD_lt hi, e] at this
      exact this
    rw [if_pos hok]
    refine iter_to (step := S_segment_store_takes_88a_0 fl) (fun i : Nat => (refs, (refs.length : Int), (i : Int), m, n, k, p, refs, keep, data)) refs.length (fun i hi c => ?_) (fun c => ?_) (by omega)
    · simp (disch := omega) only [S_segment_store_takes_88a_0, Sg_segment_store_takes_88a_0, dec_t, wrap64, Int.toNat_natCast]
      exact hP i (h i hi) _ _
    · simp (disch := omega) only [S_segment_store_takes_88a_0, Sg_segment_store_takes_88a_0, dec_f]
  · have hok : ¬ okRefs m (n, k, p, refs, keep, data) := fun ho => hbad (ho _ (getD_mem hj 0))
    rw [if_neg hok]
    refine iter_to (step := S_segment_store_takes_88a_0 fl) (fun i : Nat => (refs, (refs.length : Int), (i : Int), m, n, k, p, refs, keep, data)) j (fun i hi c => ?_) (fun c => ?_) (by omega)
    · simp (disch := omega) only [S_segment_store_takes_88a_0, Sg_segment_store_takes_88a_0, dec_t, wrap64, Int.toNat_natCast]
      exact hP i (hgood i hi) _ _
    · simp (disch := omega) only [S_segment_store_takes_88a_0, Sg_segment_store_takes_88a_0, dec_t, wrap64, Int.toNat_natCast]
      exact hN j hbad _ _
theorem takes_drop {fl : Nat} (hfl : 9223372036854775808 ≤ fl) {m : List (Int × Int)} {n k p : Int} {refs : List Int} {keep : List Bool} {data : List Int} (hl : refs.length ≤ 1000000) (hk : refs.length ≤ keep.length) {b : List (Int × Int) × Int × Int × Int × List Int × List Bool × List Int → Option Ans} :
    L_segment_store_takes_88a_2 fl (refs, (refs.length : Int), 0, m, n, k, p, refs, keep, data) b = b (dropR m (n, k, p, refs, keep, data) refs.length, n, k, p, refs, keep, data) := by
  unfold L_segment_store_takes_88a_2
  refine iter_seq (step := S_segment_store_takes_88a_2 fl) (fun i : Nat => (refs, (refs.length : Int), (i : Int), dropR m (n, k, p, refs, keep, data) i, n, k, p, refs, keep, data)) refs.length rfl (fun i hi c => ?_) (fun c => ?_) (by omega)
  · simp (disch := omega) only [S_segment_store_takes_88a_2, Sg_segment_store_takes_88a_2, dec_t, wrap64, Int.toNat_natCast, dropR]
    cases keep.getD i false <;> rfl
  · simp (disch := omega) only [S_segment_store_takes_88a_2, Sg_segment_store_takes_88a_2, dec_f]
theorem takes {fl : Nat} (hfl : 9223372036854775808 ≤ fl) {m : List (Int × Int)} {n k p last : Int} {refs : List Int} {keep : List Bool} {data : List Int} (h1 : refs.length ≤ 1000000000000000) (h2 : keep.length ≤ 1000000000000000) (h3 : data.length ≤ 1000000000000000) {K : Bool × List (Int × Int) → Option Ans} :
    F_segment_store_takes_88a fl n k p refs keep data last m K = if takesOk m (n, k, p, refs, keep, data) last then K (true, takesM m (n, k, p, refs, keep, data)) else K (false, m) := by
  unfold F_segment_store_takes_88a Fg_segment_store_takes_88a
  rw [svalid hfl h1 h2 h3]
  by_cases hv : valS n k p refs keep data = true
  · rw [hv, cond_f (b := !true) rfl]
    obtain ⟨⟨v1, v2, v3, v4, v5, v6, v7, v8, v9⟩, va⟩ := valS_iff.1 hv
    by_cases hl : n ≤ last
    · rw [dec_t hl, if_neg (fun h => by have h2 : last < n := h.2.1; omega)]
    rw [dec_f hl, takes_refs hfl (by omega)]
    by_cases ho : okRefs m (n, k, p, refs, keep, data)
    · rw [if_pos ho, if_pos ⟨hv, by show last < n; omega, ho⟩]
      dsimp only
      rw [takes_drop hfl (by omega) (by omega)]
      dsimp only
      rw [dec_t (by omega), Int.toNat_natCast]
      unfold takesM
      dsimp only
      cases keep.getD refs.length false <;> rfl
    · rw [if_neg ho, if_neg (fun h => ho h.2.2)]
  · rw [Bool.not_eq_true] at hv
    rw [hv, cond_t (b := !false) rfl, if_neg (fun h => by have h1 : valS n k p refs keep data = true := h.1; rw [hv] at h1; cases h1)]

/-! ### The program's order -/
def stM (l : List SegT) : Nat → List (Int × Int)
  | 0 => []
  | i + 1 => takesM (stM l i) (l.getD i dseg)
def lastM (l : List SegT) : Nat → Int
  | 0 => -1
  | i + 1 => (l.getD i dseg).1
def okM (l : List SegT) (i : Nat) : Prop := takesOk (stM l i) (l.getD i dseg) (lastM l i)
instance (l : List SegT) (i : Nat) : Decidable (okM l i) := by unfold okM; infer_instance
/-- Slices that may be: they are not too long. -/
def Short (s : SegT) : Prop := s.2.2.2.1.length ≤ 1000000000000000 ∧ s.2.2.2.2.1.length ≤ 1000000000000000 ∧ s.2.2.2.2.2.length ≤ 1000000000000000
theorem order_step {fl : Nat} (hfl : 9223372036854775808 ≤ fl) {l : List SegT} (hl : l.length ≤ 1000000000000000) (hs : ∀ s ∈ l, Short s) {i : Nat} (hi : i < l.length) {ret c b} :
    S_segment_order_0 fl (lastM l i, l, (l.length : Int), (i : Int), stM l i) c (ret, b) = if okM l i then c (lastM l (i + 1), l, (l.length : Int), ((i + 1 : Nat) : Int), stM l (i + 1)) else ret ((i : Int), stM l i) := by
  obtain ⟨h1, h2, h3⟩ := hs _ (getD_mem hi dseg)
  simp (disch := omega) only [S_segment_order_0, Sg_segment_order_0, dec_t, wrap64, Int.toNat_natCast]
  have hd : l.getD i ((0 : Int), (0 : Int), (0 : Int), [], [], []) = l.getD i dseg := rfl
  rw [hd, takes hfl h1 h2 h3]
  have ht : takesOk (stM l i) ((l.getD i dseg).fst, (l.getD i dseg).snd.fst, (l.getD i dseg).snd.snd.fst, (l.getD i dseg).snd.snd.snd.fst, (l.getD i dseg).snd.snd.snd.snd.fst, (l.getD i dseg).snd.snd.snd.snd.snd) (lastM l i) = okM l i := rfl
  by_cases h : okM l i
  · rw [if_pos h, if_pos (show takesOk _ _ _ from h)]
    rfl
  · rw [if_neg h, if_neg (show ¬ takesOk _ _ _ from h)]
    rfl
theorem order_all {fl : Nat} (hfl : 9223372036854775808 ≤ fl) {l : List SegT} (hl : l.length ≤ 1000000000000000) (hs : ∀ s ∈ l, Short s) (h : ∀ i, i < l.length → okM l i) {K : Int × List (Int × Int) → Option Ans} :
    F_segment_order fl l K = K (-1, stM l l.length) := by
  unfold F_segment_order Fg_segment_order L_segment_order_0
  refine iter_to (step := S_segment_order_0 fl) (fun i : Nat => (lastM l i, l, (l.length : Int), (i : Int), stM l i)) l.length (fun i hi c => ?_) (fun c => ?_) (by omega)
  · rw [order_step hfl hl hs hi, if_pos (h i hi)]
  · simp (disch := omega) only [S_segment_order_0, Sg_segment_order_0, dec_f]
theorem order_bad {fl : Nat} (hfl : 9223372036854775808 ≤ fl) {l : List SegT} (hl : l.length ≤ 1000000000000000) (hs : ∀ s ∈ l, Short s) {j : Nat} (hj : j < l.length) (hb : ¬ okM l j) (h : ∀ i, i < j → okM l i) {K : Int × List (Int × Int) → Option Ans} :
    F_segment_order fl l K = K ((j : Int), stM l j) := by
  unfold F_segment_order Fg_segment_order L_segment_order_0
  refine iter_to (step := S_segment_order_0 fl) (fun i : Nat => (lastM l i, l, (l.length : Int), (i : Int), stM l i)) j (fun i hi c => ?_) (fun c => ?_) (by omega)
  · rw [order_step hfl hl hs (by omega), if_pos (h i hi)]
  · rw [order_step hfl hl hs hj, if_neg hb]

/-! ### What is known of the map -/
def numAt (l : List SegT) (j : Nat) : Int := (l.getD j dseg).1
def pgAt (l : List SegT) (j : Nat) : Int := (l.getD j dseg).2.2.1
theorem num_lt {l : List SegT} : ∀ {i : Nat}, (∀ k, k < i → okM l k) → ∀ j, j + 1 < i → numAt l j < numAt l (j + 1) := by
  intro i h j hj
  exact (h (j + 1) hj).2.1
theorem num_mono {l : List SegT} {i : Nat} (h : ∀ k, k < i → okM l k) : ∀ (d j : Nat), j + d + 1 < i → numAt l j < numAt l (j + d + 1)
  | 0, j, hj => num_lt h j hj
  | d + 1, j, hj => by
    have a := num_mono h d j (by omega)
    have b := num_lt h (j + d + 1) hj
    have : numAt l (j + (d + 1) + 1) = numAt l (j + d + 1 + 1) := rfl
    omega
theorem num_inj {l : List SegT} {i : Nat} (h : ∀ k, k < i → okM l k) {j k : Nat} (hj : j < i) (hk : k < i) (e : numAt l j = numAt l k) : j = k := by
  rcases Nat.lt_trichotomy j k with hlt | he | hlt
  · have := num_mono h (k - j - 1) j (by omega)
    rw [show j + (k - j - 1) + 1 = k by omega] at this
    omega
  · exact he
  · have := num_mono h (j - k - 1) k (by omega)
    rw [show k + (j - k - 1) + 1 = j by omega] at this
    omega
theorem dropR_once {m : List (Int × Int)} (h : Once m) (s : SegT) : ∀ i, Once (dropR m s i)
  | 0 => h
  | i + 1 => by
    simp only [dropR]
    split
    · exact dropR_once h s i
    · exact (dropR_once h s i).del
theorem dropR_has {m : List (Int × Int)} (h : Once m) (s : SegT) {r : Int} : ∀ i, mhas r (dropR m s i) = true → mhas r m = true
  | 0, hm => hm
  | i + 1, hm => by
    simp only [dropR] at hm
    split at hm
    · exact dropR_has h s i hm
    · rw [mhas_del (dropR_once h s i)] at hm
      simp only [Bool.and_eq_true] at hm
      exact dropR_has h s i hm.2
theorem dropR_get {m : List (Int × Int)} (h : Once m) (s : SegT) {r : Int} : ∀ i, mhas r (dropR m s i) = true → mget 0 r (dropR m s i) = mget 0 r m
  | 0, hm => rfl
  | i + 1, hm => by
    simp only [dropR] at hm ⊢
    split at hm
    · rename_i hk
      rw [if_pos hk]
      exact dropR_get h s i hm
    · rename_i hk
      rw [if_neg hk]
      rw [mhas_del (dropR_once h s i)] at hm
      simp only [Bool.and_eq_true, Bool.not_eq_true', decide_eq_false_iff_not] at hm
      rw [mget_del hm.1]
      exact dropR_get h s i hm.2
structure InvM (l : List SegT) (i : Nat) : Prop where
  once : Once (stM l i)
  key : ∀ r, mhas r (stM l i) = true → ∃ j, j < i ∧ numAt l j = r
  page : ∀ j, j < i → mhas (numAt l j) (stM l i) = true → mget 0 (numAt l j) (stM l i) = pgAt l j
theorem invM {l : List SegT} : ∀ (i : Nat), (∀ k, k < i → okM l k) → InvM l i
  | 0, h => ⟨List.nodup_nil, fun r hr => (by cases hr), fun j hj => (by omega)⟩
  | i + 1, h => by
    have hI := invM i fun k hk => h k (by omega)
    have hd : Once (dropR (stM l i) (l.getD i dseg) (l.getD i dseg).2.2.2.1.length) := dropR_once hI.once _ _
    have hst : stM l (i + 1) = takesM (stM l i) (l.getD i dseg) := rfl
    have old : ∀ j, j < i → numAt l j ≠ numAt l i := fun j hj e => by have := num_inj h (show j < i + 1 by omega) (show i < i + 1 by omega) e; omega
    rw [show InvM l (i + 1) = InvM l (i + 1) from rfl]
    unfold takesM at hst
    split at hst
    · refine ⟨by rw [hst]; exact hd.put, fun r hr => ?_, fun j hj hm => ?_⟩
      · rw [hst, mhas_put] at hr
        simp only [Bool.or_eq_true, decide_eq_true_eq] at hr
        rcases hr with hr | hr
        · exact ⟨i, by omega, hr.symm⟩
        · obtain ⟨j, h1, h2⟩ := hI.key r (dropR_has hI.once _ _ hr)
          exact ⟨j, by omega, h2⟩
      · rw [hst, mget_put]
        by_cases e : numAt l j = (l.getD i dseg).1
        · rw [if_pos e]
          have : j = i := num_inj h hj (by omega) e
          rw [this]
          rfl
        · rw [if_neg e]
          rw [hst, mhas_put, decide_eq_false e, Bool.false_or] at hm
          have hji : j < i := by
            rcases Nat.lt_or_ge j i with hji | hji
            · exact hji
            · have : j = i := by omega
              subst this
              exact absurd rfl e
          rw [dropR_get hI.once _ _ hm]
          exact hI.page j hji (dropR_has hI.once _ _ hm)
    · refine ⟨by rw [hst]; exact hd, fun r hr => ?_, fun j hj hm => ?_⟩
      · rw [hst] at hr
        obtain ⟨j, h1, h2⟩ := hI.key r (dropR_has hI.once _ _ hr)
        exact ⟨j, by omega, h2⟩
      · rw [hst] at hm ⊢
        rw [dropR_get hI.once _ _ hm]
        have hm' := dropR_has hI.once _ _ hm
        have hji : j < i := by
          rcases Nat.lt_or_ge j i with hji | hji
          · exact hji
          · have : j = i := by omega
            subst this
            obtain ⟨j', h1, h2⟩ := hI.key _ hm'
            exact absurd h2 (old j' h1)
        exact hI.page j hji hm'
end Go.Proofs.Ytihfgpfofmjbaaa.Seg

set_option linter.unusedVariables false
set_option linter.unusedSimpArgs false
namespace Go.Proofs.Ytihfgpfofmjbaaa.Seg
open Go Ev Bm

theorem find_some {fl : Nat} (hfl : 9223372036854775808 ≤ fl) {l : List SegT} (hl : l.length ≤ 1000000000000000) {r : Int} {j : Nat} (hj : j < l.length) (he : numAt l j = r) (h : ∀ i, i < j → numAt l i ≠ r) {K : Int → Option Ans} : F_ref12_find fl l r K = K (j : Int) := by
  unfold F_ref12_find L_ref12_find_0
  refine iter_to (step := S_ref12_find_0 fl) (fun i : Nat => (r, l, (l.length : Int), (i : Int))) j (fun i hi c => ?_) (fun c => ?_) (by omega)
  · simp (disch := omega) only [S_ref12_find_0, dec_t, wrap64, Int.toNat_natCast]
    have hf : ((l.getD i ((0 : Int), (0 : Int), (0 : Int), [], [], [])).fst == r) = false := beq_eq_false_iff_ne.2 (h i hi)
    rw [hf]
    rfl
  · simp (disch := omega) only [S_ref12_find_0, dec_t, Int.toNat_natCast]
    have hf : ((l.getD j ((0 : Int), (0 : Int), (0 : Int), [], [], [])).fst == r) = true := beq_iff_eq.2 he
    rw [hf]
    rfl
theorem find_none {fl : Nat} (hfl : 9223372036854775808 ≤ fl) {l : List SegT} (hl : l.length ≤ 1000000000000000) {r : Int} (h : ∀ i, i < l.length → numAt l i ≠ r) {K : Int → Option Ans} : F_ref12_find fl l r K = K (-1) := by
  unfold F_ref12_find L_ref12_find_0
  refine iter_to (step := S_ref12_find_0 fl) (fun i : Nat => (r, l, (l.length : Int), (i : Int))) l.length (fun i hi c => ?_) (fun c => ?_) (by omega)
  · simp (disch := omega) only [S_ref12_find_0, dec_t, wrap64, Int.toNat_natCast]
    have hf : ((l.getD i ((0 : Int), (0 : Int), (0 : Int), [], [], [])).fst == r) = false := beq_eq_false_iff_ne.2 (h i hi)
    rw [hf]
    rfl
  · simp (disch := omega) only [S_ref12_find_0, dec_f]
/-- What the reference has noted as kept, of the first i. -/
def kR (l : List SegT) (i : Nat) (m : List (Int × Int)) : List Bool := (List.range l.length).map fun j => decide (j < i) && mhas (numAt l j) m
theorem kR_len (l : List SegT) (i : Nat) (m : List (Int × Int)) : (kR l i m).length = l.length := by simp [kR]
theorem kR_get {l : List SegT} {i : Nat} {m : List (Int × Int)} {j : Nat} (hj : j < l.length) : (kR l i m).getD j false = (decide (j < i) && mhas (numAt l j) m) := by
  unfold kR
  rw [range_getD _ hj]
theorem numAt_take {l : List SegT} {i j : Nat} (hi : i ≤ l.length) (hj : j < i) : numAt (l.take i) j = numAt l j := by
  unfold numAt
  rw [getD_lt (by rw [List.length_take]; omega), getD_lt (by omega)]
  simp
theorem drop_other {m : List (Int × Int)} (hm : Once m) {s : SegT} {r : Int} : ∀ (k : Nat), (∀ q, q < k → s.2.2.2.1.getD q 0 ≠ r) → mhas r (dropR m s k) = mhas r m
  | 0, h => rfl
  | k + 1, h => by
    simp only [dropR]
    split
    · exact drop_other hm k fun q hq => h q (by omega)
    · rw [mhas_del (dropR_once hm s k), decide_eq_false (fun e => h k (by omega) e.symm), drop_other hm k fun q hq => h q (by omega)]
      rfl
theorem asc_mono {refs : List Int} {n : Int} (h : asc refs n) : ∀ (d j : Nat), j + d + 1 < refs.length → refs.getD j 0 < refs.getD (j + d + 1) 0
  | 0, j, hj => (h (j + 1) hj).1
  | d + 1, j, hj => by
    have a := asc_mono h d j (by omega)
    have b := (h (j + d + 1 + 1) hj).1
    have : lastOf refs (j + d + 1 + 1) = refs.getD (j + d + 1) 0 := rfl
    rw [this] at b
    have e : refs.getD (j + (d + 1) + 1) 0 = refs.getD (j + d + 1 + 1) 0 := rfl
    omega
theorem asc_ne {refs : List Int} {n : Int} (h : asc refs n) {q k : Nat} (hq : q < k) (hk : k < refs.length) : refs.getD q 0 ≠ refs.getD k 0 := by
  have := asc_mono h (k - q - 1) q (by omega)
  rw [show q + (k - q - 1) + 1 = k by omega] at this
  omega
def okRef (m : List (Int × Int)) (s : SegT) (k : Nat) : Prop := mhas (s.2.2.2.1.getD k 0) m = true ∧ (mget 0 (s.2.2.2.1.getD k 0) m = 0 ∨ mget 0 (s.2.2.2.1.getD k 0) m = s.2.2.1)
instance {m : List (Int × Int)} {s : SegT} {k : Nat} : Decidable (okRef m s k) := by unfold okRef; infer_instance

theorem kept_step {fl : Nat} (hfl : 9223372036854775808 ≤ fl) {l : List SegT} (hl : l.length ≤ 1000000000000000) {i : Nat} (hi : i < l.length) (hok : ∀ k, k < i → okM l k) {n kd p : Int} {refs : List Int} {keep : List Bool} {data : List Int} (hs : l.getD i dseg = (n, kd, p, refs, keep, data)) (hr : refs.length ≤ 20) (hk : keep.length = refs.length + 1) (ha : asc refs n)
    {k : Nat} (hkl : k < refs.length) {c ret b} :
    S_ref12_kept_2 fl (l, (i : Int), l, (l.length : Int), (i : Int), refs, (refs.length : Int), (k : Int), kR l i (dropR (stM l i) (n, kd, p, refs, keep, data) k), n, kd, p, refs, keep, data) c (ret, b)
    = if okRef (stM l i) (n, kd, p, refs, keep, data) k then c (l, (i : Int), l, (l.length : Int), (i : Int), refs, (refs.length : Int), ((k + 1 : Nat) : Int), kR l i (dropR (stM l i) (n, kd, p, refs, keep, data) (k + 1)), n, kd, p, refs, keep, data) else ret ((i : Int), []) := by
  have hI := invM i hok
  simp only [S_ref12_kept_2, Sg_ref12_kept_2]
  rw [dec_t (by omega), dec_t (by omega), dec_t (by simp only [loOf, hiOf_some]; omega), Int.toNat_natCast]
  have et : List.take (hiOf (some (i : Int)) (l.length : Int) - loOf none).toNat (List.drop (loOf none).toNat l) = l.take i := by
    simp only [loOf, hiOf_some]
    simp
  rw [et]
  have htl : (l.take i).length = i := by rw [List.length_take]; omega
  by_cases hex : ∃ j, j < i ∧ numAt l j = refs.getD k 0
  · obtain ⟨j, hj, he⟩ := hex
    rw [find_some hfl (by omega) (j := j) (by omega) (by rw [numAt_take (by omega) hj]; exact he) (fun q hq e => by
      rw [numAt_take (by omega) (by omega), ← he] at e
      have := num_inj hok (by omega) hj e
      omega)]
    rw [dec_f (by omega), dec_t (by rw [kR_len]; omega), Int.toNat_natCast, kR_get (by omega), decide_eq_true hj, Bool.true_and, he]
    rw [drop_other hI.once k (fun q hq => asc_ne ha hq hkl)]
    cases hm : mhas (refs.getD k 0) (stM l i) with
    | false =>
      rw [cond_t (b := !false) rfl, if_neg (fun h => by rw [show mhas _ _ = true from h.1] at hm; cases hm)]
    | true =>
      rw [cond_f (b := !true) rfl]
      have hpg : pgAt l j = mget 0 (refs.getD k 0) (stM l i) := by rw [← he] at hm ⊢; exact (hI.page j hj hm).symm
      have hd : (l.getD j ((0 : Int), (0 : Int), (0 : Int), [], [], [])).snd.snd.fst = mget 0 (refs.getD k 0) (stM l i) := hpg
      have hset : (kR l i (dropR (stM l i) (n, kd, p, refs, keep, data) k)).set j (keep.getD k false) = kR l i (dropR (stM l i) (n, kd, p, refs, keep, data) (k + 1)) := by
        apply list_ext_getD false (by rw [List.length_set, kR_len, kR_len])
        intro q hq
        rw [List.length_set, kR_len] at hq
        rw [kR_get hq, List.getD_eq_getElem?_getD, List.getElem?_set]
        simp only [dropR]
        by_cases hqj : j = q
        · subst hqj
          rw [if_pos rfl, if_pos (by rw [kR_len]; omega), decide_eq_true hj, Bool.true_and, he]
          cases hkk : keep.getD k false with
          | true =>
            rw [if_pos rfl, drop_other hI.once k (fun q hq => asc_ne ha hq hkl), hm]
            rfl
          | false =>
            rw [if_neg (by simp), mhas_del (dropR_once hI.once _ k), decide_eq_true rfl]
            rfl
        · rw [if_neg hqj, ← List.getD_eq_getElem?_getD, kR_get hq]
          by_cases hqi : q < i
          · cases hkk : keep.getD k false with
            | true => rw [if_pos rfl]
            | false =>
              rw [if_neg (by simp), mhas_del (dropR_once hI.once _ k), decide_eq_false (show ¬ numAt l q = refs.getD k 0 from fun e => hqj (num_inj hok hj hqi (he.trans e.symm)))]
              rfl
          · rw [decide_eq_false hqi, Bool.false_and, Bool.false_and]
      rw [dec_t (show (0 : Int) ≤ (k : Int) ∧ (k : Int) < (keep.length : Int) by omega), dec_t (show (0 : Int) ≤ (j : Int) ∧ (j : Int) < ((kR l i (dropR (stM l i) (n, kd, p, refs, keep, data) k)).length : Int) by rw [kR_len]; omega), hset, hd, wrap64 (by omega) (by omega)]
      by_cases h0 : mget 0 (refs.getD k 0) (stM l i) = 0
      · rw [if_pos ⟨hm, .inl h0⟩]
        rw [dec_t (show (0 : Int) ≤ (j : Int) ∧ (j : Int) < (l.length : Int) by omega), cond_f (b := mget 0 (refs.getD k 0) (stM l i) != 0) (by simpa using h0)]
        rfl
      · rw [dec_t (show (0 : Int) ≤ (j : Int) ∧ (j : Int) < (l.length : Int) by omega), cond_t (b := mget 0 (refs.getD k 0) (stM l i) != 0) (by simpa using h0), dec_t (show (0 : Int) ≤ (j : Int) ∧ (j : Int) < (l.length : Int) by omega)]
        by_cases hp : mget 0 (refs.getD k 0) (stM l i) = p
        · rw [if_pos ⟨hm, .inr hp⟩, cond_f (b := mget 0 (refs.getD k 0) (stM l i) != p) (by simpa using hp)]
          rfl
        · rw [if_neg (fun h => by rcases h.2 with h | h; exact h0 h; exact hp h), cond_t (b := mget 0 (refs.getD k 0) (stM l i) != p) (by simpa using hp)]
  · rw [find_none hfl (by omega) (fun q hq e => hex ⟨q, by omega, by rw [numAt_take (by omega) (by omega)] at e; exact e⟩)]
    rw [dec_t (by omega), if_neg]
    intro h
    obtain ⟨j, h1, h2⟩ := hI.key _ h.1
    exact hex ⟨j, h1, h2⟩
theorem okRefs_iff {m : List (Int × Int)} {s : SegT} : okRefs m s ↔ ∀ k, k < s.2.2.2.1.length → okRef m s k := by
  constructor
  · intro h k hk
    exact h _ (getD_mem hk 0)
  · intro h r hr
    obtain ⟨k, hk, e⟩ := List.mem_iff_getElem.1 hr
    have := h k hk
    unfold okRef at this
    rw [getD_lt hk, e] at this
    exact this
theorem kept_refs {fl : Nat} (hfl : 9223372036854775808 ≤ fl) {l : List SegT} (hl : l.length ≤ 1000000000000000) {i : Nat} (hi : i < l.length) (hok : ∀ k, k < i → okM l k) {n kd p : Int} {refs : List Int} {keep : List Bool} {data : List Int} (hs : l.getD i dseg = (n, kd, p, refs, keep, data)) (hr : refs.length ≤ 20) (hk : keep.length = refs.length + 1) (ha : asc refs n) {ret b} :
    L_ref12_kept_2 fl (l, (i : Int), l, (l.length : Int), (i : Int), refs, (refs.length : Int), 0, kR l i (stM l i), n, kd, p, refs, keep, data) ret b
    = if okRefs (stM l i) (n, kd, p, refs, keep, data) then b (l, (i : Int), l, (l.length : Int), (i : Int), kR l i (dropR (stM l i) (n, kd, p, refs, keep, data) refs.length), n, kd, p, refs, keep, data) else ret ((i : Int), []) := by
  unfold L_ref12_kept_2
  rcases nat_or_first (fun k => okRef (stM l i) (n, kd, p, refs, keep, data) k) refs.length with h | ⟨j, hj, hbad, hgood⟩
  · rw [if_pos (okRefs_iff.2 h)]
    refine iter_to (step := S_ref12_kept_2 fl) (fun k : Nat => (l, (i : Int), l, (l.length : Int), (i : Int), refs, (refs.length : Int), (k : Int), kR l i (dropR (stM l i) (n, kd, p, refs, keep, data) k), n, kd, p, refs, keep, data)) refs.length (fun k hk' c => ?_) (fun c => ?_) (by omega)
    · rw [kept_step hfl hl hi hok hs hr hk ha hk', if_pos (h k hk')]
    · simp only [S_ref12_kept_2, Sg_ref12_kept_2]
      rw [dec_f (by omega)]
  · rw [if_neg (fun ho => hbad (okRefs_iff.1 ho j hj))]
    refine iter_to (step := S_ref12_kept_2 fl) (fun k : Nat => (l, (i : Int), l, (l.length : Int), (i : Int), refs, (refs.length : Int), (k : Int), kR l i (dropR (stM l i) (n, kd, p, refs, keep, data) k), n, kd, p, refs, keep, data)) j (fun k hk' c => ?_) (fun c => ?_) (by omega)
    · rw [kept_step hfl hl hi hok hs hr hk ha (by omega), if_pos (hgood k hk')]
    · rw [kept_step hfl hl hi hok hs hr hk ha hj, if_neg hbad]
theorem kept_put {l : List SegT} {i : Nat} (hi : i < l.length) (hok : ∀ k, k < i + 1 → okM l k) {n kd p : Int} {refs : List Int} {keep : List Bool} {data : List Int} (hs : l.getD i dseg = (n, kd, p, refs, keep, data)) :
    (kR l i (dropR (stM l i) (n, kd, p, refs, keep, data) refs.length)).set i (keep.getD refs.length false) = kR l (i + 1) (stM l (i + 1)) := by
  have hI := invM i fun k hk => hok k (by omega)
  have hst : stM l (i + 1) = takesM (stM l i) (n, kd, p, refs, keep, data) := by rw [← hs]; rfl
  have hni : numAt l i = n := by unfold numAt; rw [hs]
  have old : ∀ j, j < i → numAt l j ≠ n := fun j hj e => by have := num_inj hok (show j < i + 1 by omega) (show i < i + 1 by omega) (e.trans hni.symm); omega
  rw [hst]
  unfold takesM
  dsimp only
  apply list_ext_getD false (by rw [List.length_set, kR_len, kR_len])
  intro q hq
  rw [List.length_set, kR_len] at hq
  rw [kR_get hq, List.getD_eq_getElem?_getD, List.getElem?_set]
  by_cases hqi : i = q
  · subst hqi
    rw [if_pos rfl, if_pos (by rw [kR_len]; omega), decide_eq_true (show i < i + 1 by omega), Bool.true_and, hni]
    cases hkk : keep.getD refs.length false with
    | true => rw [if_pos rfl, mhas_put, decide_eq_true rfl]; rfl
    | false =>
      rw [if_neg (by simp)]
      cases hm : mhas n (dropR (stM l i) (n, kd, p, refs, keep, data) refs.length) with
      | false => rfl
      | true =>
        obtain ⟨j, h1, h2⟩ := hI.key _ (dropR_has hI.once _ _ hm)
        exact absurd h2 (old j h1)
  · rw [if_neg hqi, ← List.getD_eq_getElem?_getD, kR_get hq]
    by_cases hlt : q < i
    · rw [decide_eq_true hlt, decide_eq_true (show q < i + 1 by omega)]
      cases hkk : keep.getD refs.length false with
      | true => rw [if_pos rfl, mhas_put, decide_eq_false (old q hlt)]; rfl
      | false => rw [if_neg (by simp)]
    · rw [decide_eq_false hlt, decide_eq_false (show ¬ q < i + 1 by omega)]
      rfl
theorem kept0_step {fl : Nat} (hfl : 9223372036854775808 ≤ fl) {l : List SegT} (hl : l.length ≤ 1000000000000000) (hsh : ∀ s ∈ l, Short s) {i : Nat} (hi : i < l.length) (hok : ∀ k, k < i → okM l k) {ret c b} :
    S_ref12_kept_0 fl (l, l, (l.length : Int), (i : Int), kR l i (stM l i)) c (ret, b) = if okM l i then c (l, l, (l.length : Int), ((i + 1 : Nat) : Int), kR l (i + 1) (stM l (i + 1))) else ret ((i : Int), []) := by
  obtain ⟨h1, h2, h3⟩ := hsh _ (getD_mem hi dseg)
  obtain ⟨n, kd, p, refs, keep, data, hs⟩ : ∃ n kd p refs keep data, l.getD i dseg = (n, kd, p, refs, keep, data) := ⟨_, _, _, _, _, _, rfl⟩
  have hd : l.getD i ((0 : Int), (0 : Int), (0 : Int), [], [], []) = (n, kd, p, refs, keep, data) := hs
  rw [hs] at h1 h2 h3
  simp only [S_ref12_kept_0, Sg_ref12_kept_0]
  rw [dec_t (by omega), dec_t (by omega), Int.toNat_natCast, hd]
  dsimp only
  rw [rsvalid hfl h1 h2 h3]
  have hokM : okM l i = takesOk (stM l i) (n, kd, p, refs, keep, data) (lastM l i) := by unfold okM; rw [hs]
  cases hv : valS n kd p refs keep data with
  | false =>
    rw [cond_t (b := !false) rfl, if_neg (by rw [hokM]; intro h; have h1 : valS n kd p refs keep data = true := h.1; rw [hv] at h1; cases h1)]
  | true =>
    rw [cond_f (b := !true) rfl]
    obtain ⟨⟨v1, v2, v3, v4, v5, v6, v7, v8, v9⟩, va⟩ := valS_iff.1 hv
    have tail : lastM l i < n → (L_ref12_kept_2 fl (l, (i : Int), l, (l.length : Int), (i : Int), refs, (refs.length : Int), 0, kR l i (stM l i), n, kd, p, refs, keep, data)
        (fun (ret2_0, ret2_1) => ret (ret2_0, ret2_1))
        (fun (b2_0, b2_1, b2_2, b2_3, b2_4, b2_5, b2_6, b2_7, b2_8, b2_9, b2_10, b2_11) =>
          bif Decidable.decide ((0 : Int) ≤ (↑b2_9.length : Int) ∧ (↑b2_9.length : Int) < (↑b2_10.length : Int)) then
            bif Decidable.decide ((0 : Int) ≤ b2_1 ∧ b2_1 < (↑b2_5.length : Int)) then
              c (b2_0, b2_2, b2_3, Go.IntKind.i64.wrap (b2_4 + (1 : Int)), b2_5.set b2_1.toNat (b2_10.getD (↑b2_9.length : Int).toNat Bool.false))
            else none
          else none)) = if okM l i then c (l, l, (l.length : Int), ((i + 1 : Nat) : Int), kR l (i + 1) (stM l (i + 1))) else ret ((i : Int), []) := by
      intro hlast
      rw [kept_refs hfl hl hi hok hs v7 v8 va]
      by_cases ho : okRefs (stM l i) (n, kd, p, refs, keep, data)
      · have hM : okM l i := by rw [hokM]; exact ⟨hv, hlast, ho⟩
        rw [if_pos ho, if_pos hM]
        dsimp only
        rw [dec_t (by omega), dec_t (by rw [kR_len]; omega), Int.toNat_natCast, Int.toNat_natCast, kept_put hi (fun k hk => by
          rcases Nat.lt_or_ge k i with h | h
          · exact hok k h
          · have : k = i := by omega
            rw [this]; exact hM) hs, wrap64 (by omega) (by omega)]
        rfl
      · rw [if_neg ho, if_neg (by rw [hokM]; exact fun h => ho h.2.2)]
    by_cases h0 : i = 0
    · subst h0
      rw [dec_f (by omega)]
      exact tail (by show (-1 : Int) < n; omega)
    · obtain ⟨i', rfl⟩ : ∃ i', i = i' + 1 := ⟨i - 1, by omega⟩
      have e1 : lastM l (i' + 1) = (l.getD i' ((0 : Int), (0 : Int), (0 : Int), [], [], [])).fst := rfl
      rw [dec_t (show ((i' + 1 : Nat) : Int) > 0 by omega), wrap64 (x := ((i' + 1 : Nat) : Int) - 1) (by omega) (by omega), show (((i' + 1 : Nat) : Int) - 1) = (i' : Int) by omega, dec_t (show (0 : Int) ≤ (i' : Int) ∧ (i' : Int) < (l.length : Int) by omega), Int.toNat_natCast, ← e1]
      by_cases hle : n ≤ lastM l (i' + 1)
      · rw [dec_t hle, if_neg (by rw [hokM]; intro h; have h2 : lastM l (i' + 1) < n := h.2.1; omega)]
      · rw [dec_f hle]
        exact tail (by omega)
theorem kept_all {fl : Nat} (hfl : 9223372036854775808 ≤ fl) {l : List SegT} (hl : l.length ≤ 1000000000000000) (hsh : ∀ s ∈ l, Short s) (hm : l.length ≤ 281474976710656) (h : ∀ i, i < l.length → okM l i) {K : Int × List Bool → Option Ans} :
    F_ref12_kept fl l K = K (-1, kR l l.length (stM l l.length)) := by
  unfold F_ref12_kept Fg_ref12_kept L_ref12_kept_0
  rw [dec_t (by omega), Int.toNat_natCast]
  have e0 : List.replicate l.length false = kR l 0 (stM l 0) := by
    apply List.ext_getElem (by simp [kR_len])
    intro i h1 h2
    simp [kR]
  rw [e0]
  refine iter_to (step := S_ref12_kept_0 fl) (fun i : Nat => (l, l, (l.length : Int), (i : Int), kR l i (stM l i))) l.length (fun i hi c => ?_) (fun c => ?_) (by omega)
  · rw [kept0_step hfl hl hsh hi (fun k hk => h k (by omega)), if_pos (h i hi)]
  · simp only [S_ref12_kept_0, Sg_ref12_kept_0]
    rw [dec_f (by omega)]
theorem kept_bad {fl : Nat} (hfl : 9223372036854775808 ≤ fl) {l : List SegT} (hl : l.length ≤ 1000000000000000) (hsh : ∀ s ∈ l, Short s) (hm : l.length ≤ 281474976710656) {j : Nat} (hj : j < l.length) (hb : ¬ okM l j) (h : ∀ i, i < j → okM l i) {K : Int × List Bool → Option Ans} :
    F_ref12_kept fl l K = K ((j : Int), []) := by
  unfold F_ref12_kept Fg_ref12_kept L_ref12_kept_0
  rw [dec_t (by omega), Int.toNat_natCast]
  have e0 : List.replicate l.length false = kR l 0 (stM l 0) := by
    apply List.ext_getElem (by simp [kR_len])
    intro i h1 h2
    simp [kR]
  rw [e0]
  refine iter_to (step := S_ref12_kept_0 fl) (fun i : Nat => (l, l, (l.length : Int), (i : Int), kR l i (stM l i))) j (fun i hi c => ?_) (fun c => ?_) (by omega)
  · rw [kept0_step hfl hl hsh (by omega) (fun k hk => h k (by omega)), if_pos (h i hi)]
  · rw [kept0_step hfl hl hsh hj (fun k hk => h k (by omega)), if_neg hb]
end Go.Proofs.Ytihfgpfofmjbaaa.Seg

set_option linter.unusedVariables false
set_option linter.unusedSimpArgs false
namespace Go.Proofs.Ytihfgpfofmjbaaa.Seg
open Go Ev Bm

/-- A segment's header. -/
def hd (s : SegT) : List Int := hdr s.1 s.2.1 s.2.2.1 s.2.2.2.1 s.2.2.2.2.1 s.2.2.2.2.2.length
abbrev dat (s : SegT) : List Int := s.2.2.2.2.2
theorem hd_len {s : SegT} (h : vS s = true) : (hd s).length ≤ 160 := by
  obtain ⟨⟨v1, v2, v3, v4, v5, v6, v7, v8, v9⟩, va⟩ := valS_iff.1 h
  unfold hd hdr
  have a1 := sz_len s.1
  have a2 := sz_len s.2.2.1
  have a3 := sz_len (s.2.2.2.2.2.length : Int)
  have a4 := sz_len (s.2.2.2.1.length : Int)
  have a5 := refB_len (n := s.1) s.2.2.2.1
  have a6 := packed_len s.2.2.2.2.1
  split <;> simp only [List.length_append, List.length_cons, List.length_nil, a6] <;> omega
theorem header_ok {fl : Nat} (hfl : 9223372036854775808 ≤ fl) {s : SegT} (hs : Short s) (h : vS s = true) {K : Int × List Int → Option Ans} : F_segment_Header fl s.1 s.2.1 s.2.2.1 s.2.2.2.1 s.2.2.2.2.1 s.2.2.2.2.2 K = K (0, hd s) := by
  obtain ⟨h1, h2, h3⟩ := hs
  rw [header hfl h1 h2 h3]
  unfold headerR
  rw [if_pos (show valS s.1 s.2.1 s.2.2.1 s.2.2.2.1 s.2.2.2.2.1 s.2.2.2.2.2 = true from h)]
  rfl
theorem rheader_ok {fl : Nat} (hfl : 9223372036854775808 ≤ fl) {s : SegT} (hs : Short s) (h : vS s = true) {K : Int × List Int → Option Ans} : F_ref12_Header fl s.1 s.2.1 s.2.2.1 s.2.2.2.1 s.2.2.2.2.1 s.2.2.2.2.2 K = K (0, hd s) := by
  obtain ⟨h1, h2, h3⟩ := hs
  rw [rheader hfl h1 h2 h3]
  unfold headerR
  rw [if_pos (show valS s.1 s.2.1 s.2.2.1 s.2.2.2.1 s.2.2.2.2.1 s.2.2.2.2.2 = true from h)]
  rfl

/-! ### Whether all are valid -/
theorem all_valid {fl : Nat} (hfl : 9223372036854775808 ≤ fl) {l : List SegT} (hl : l.length ≤ 1000000) (hs : ∀ s ∈ l, Short s) (h : ∀ i, i < l.length → vS (l.getD i dseg) = true) {K : Bool → Option Ans} : F_slices_ContainsFunc_api_Segment_api_Segment_ac5 fl l K = K false := by
  unfold F_slices_ContainsFunc_api_Segment_api_Segment_ac5 Fg_slices_ContainsFunc_api_Segment_api_Segment_ac5 F_slices_IndexFunc_api_Segment_api_Segment_ac5 Fg_slices_IndexFunc_api_Segment_api_Segment_ac5 L_slices_IndexFunc_api_Segment_api_Segment_ac5_0
  refine iter_to (step := S_slices_IndexFunc_api_Segment_api_Segment_ac5_0 fl) (fun i : Nat => (l, (l.length : Int), (i : Int))) l.length (fun i hi c => ?_) (fun c => ?_) (by omega)
  · obtain ⟨h1, h2, h3⟩ := hs _ (getD_mem hi dseg)
    simp only [S_slices_IndexFunc_api_Segment_api_Segment_ac5_0, Sg_slices_IndexFunc_api_Segment_api_Segment_ac5_0, F_file_Write_1, Fg_file_Write_1]
    rw [dec_t (by omega), dec_t (by omega), Int.toNat_natCast]
    have hd : l.getD i ((0 : Int), (0 : Int), (0 : Int), [], [], []) = l.getD i dseg := rfl
    rw [hd, svalid hfl h1 h2 h3, show valS _ _ _ _ _ _ = true from h i hi, cond_f (b := !true) rfl, wrap64 (by omega) (by omega)]
    rfl
  · simp only [S_slices_IndexFunc_api_Segment_api_Segment_ac5_0, Sg_slices_IndexFunc_api_Segment_api_Segment_ac5_0]
    rw [dec_f (by omega)]
    rfl
theorem one_bad {fl : Nat} (hfl : 9223372036854775808 ≤ fl) {l : List SegT} (hl : l.length ≤ 1000000) (hs : ∀ s ∈ l, Short s) {j : Nat} (hj : j < l.length) (hb : ¬ vS (l.getD j dseg) = true) (h : ∀ i, i < j → vS (l.getD i dseg) = true) {K : Bool → Option Ans} : F_slices_ContainsFunc_api_Segment_api_Segment_ac5 fl l K = K true := by
  unfold F_slices_ContainsFunc_api_Segment_api_Segment_ac5 Fg_slices_ContainsFunc_api_Segment_api_Segment_ac5 F_slices_IndexFunc_api_Segment_api_Segment_ac5 Fg_slices_IndexFunc_api_Segment_api_Segment_ac5 L_slices_IndexFunc_api_Segment_api_Segment_ac5_0
  refine iter_to (step := S_slices_IndexFunc_api_Segment_api_Segment_ac5_0 fl) (fun i : Nat => (l, (l.length : Int), (i : Int))) j (fun i hi c => ?_) (fun c => ?_) (by omega)
  · obtain ⟨h1, h2, h3⟩ := hs _ (getD_mem (show i < l.length by omega) dseg)
    simp only [S_slices_IndexFunc_api_Segment_api_Segment_ac5_0, Sg_slices_IndexFunc_api_Segment_api_Segment_ac5_0, F_file_Write_1, Fg_file_Write_1]
    rw [dec_t (by omega), dec_t (by omega), Int.toNat_natCast]
    have hd : l.getD i ((0 : Int), (0 : Int), (0 : Int), [], [], []) = l.getD i dseg := rfl
    rw [hd, svalid hfl h1 h2 h3, show valS _ _ _ _ _ _ = true from h i hi, cond_f (b := !true) rfl, wrap64 (by omega) (by omega)]
    rfl
  · obtain ⟨h1, h2, h3⟩ := hs _ (getD_mem hj dseg)
    simp only [S_slices_IndexFunc_api_Segment_api_Segment_ac5_0, Sg_slices_IndexFunc_api_Segment_api_Segment_ac5_0, F_file_Write_1, Fg_file_Write_1]
    rw [dec_t (by omega), dec_t (by omega), Int.toNat_natCast]
    have hd : l.getD j ((0 : Int), (0 : Int), (0 : Int), [], [], []) = l.getD j dseg := rfl
    rw [hd, svalid hfl h1 h2 h3, show valS _ _ _ _ _ _ = false from Bool.eq_false_iff.2 hb, cond_t (b := !false) rfl, decide_eq_true (by omega)]
theorem rall_valid {fl : Nat} (hfl : 9223372036854775808 ≤ fl) {l : List SegT} (hl : l.length ≤ 1000000) (hs : ∀ s ∈ l, Short s) (h : ∀ i, i < l.length → vS (l.getD i dseg) = true) {way : Int} {ret b} : L_ref14_Write_0 fl (way, l, l, (l.length : Int), 0) ret b = b (way, l) := by
  unfold L_ref14_Write_0
  refine iter_to (step := S_ref14_Write_0 fl) (fun i : Nat => (way, l, l, (l.length : Int), (i : Int))) l.length (fun i hi c => ?_) (fun c => ?_) (by omega)
  · obtain ⟨h1, h2, h3⟩ := hs _ (getD_mem hi dseg)
    simp only [S_ref14_Write_0, Sg_ref14_Write_0]
    rw [dec_t (by omega), dec_t (by omega), Int.toNat_natCast]
    have hd : l.getD i ((0 : Int), (0 : Int), (0 : Int), [], [], []) = l.getD i dseg := rfl
    rw [hd, rsvalid hfl h1 h2 h3, show valS _ _ _ _ _ _ = true from h i hi, cond_f (b := !true) rfl, wrap64 (by omega) (by omega)]
    rfl
  · simp only [S_ref14_Write_0, Sg_ref14_Write_0]
    rw [dec_f (by omega)]
theorem rone_bad {fl : Nat} (hfl : 9223372036854775808 ≤ fl) {l : List SegT} (hl : l.length ≤ 1000000) (hs : ∀ s ∈ l, Short s) {j : Nat} (hj : j < l.length) (hb : ¬ vS (l.getD j dseg) = true) (h : ∀ i, i < j → vS (l.getD i dseg) = true) {way : Int} {ret b} : L_ref14_Write_0 fl (way, l, l, (l.length : Int), 0) ret b = ret (2, []) := by
  unfold L_ref14_Write_0
  refine iter_to (step := S_ref14_Write_0 fl) (fun i : Nat => (way, l, l, (l.length : Int), (i : Int))) j (fun i hi c => ?_) (fun c => ?_) (by omega)
  · obtain ⟨h1, h2, h3⟩ := hs _ (getD_mem (show i < l.length by omega) dseg)
    simp only [S_ref14_Write_0, Sg_ref14_Write_0]
    rw [dec_t (by omega), dec_t (by omega), Int.toNat_natCast]
    have hd : l.getD i ((0 : Int), (0 : Int), (0 : Int), [], [], []) = l.getD i dseg := rfl
    rw [hd, rsvalid hfl h1 h2 h3, show valS _ _ _ _ _ _ = true from h i hi, cond_f (b := !true) rfl, wrap64 (by omega) (by omega)]
    rfl
  · obtain ⟨h1, h2, h3⟩ := hs _ (getD_mem hj dseg)
    simp only [S_ref14_Write_0, Sg_ref14_Write_0]
    rw [dec_t (by omega), dec_t (by omega), Int.toNat_natCast]
    have hd : l.getD j ((0 : Int), (0 : Int), (0 : Int), [], [], []) = l.getD j dseg := rfl
    rw [hd, rsvalid hfl h1 h2 h3, show valS _ _ _ _ _ _ = false from Bool.eq_false_iff.2 hb, cond_t (b := !false) rfl]

/-! ### Whether they are in order -/
/-- What InOrder tells. -/
def ordered (l : List SegT) : Prop := ∀ i, i < l.length → okM l i
instance (l : List SegT) : Decidable (ordered l) := by unfold ordered; infer_instance
theorem in_all {fl : Nat} (hfl : 9223372036854775808 ≤ fl) {l : List SegT} (hl : l.length ≤ 1000000) (hs : ∀ s ∈ l, Short s) (h : ordered l) {K : Int × Int → Option Ans} : F_segment_InOrder fl l K = K (-1, 0) ∧ F_ref12_InOrder fl l K = K (-1, 0) := by
  unfold F_segment_InOrder Fg_segment_InOrder F_ref12_InOrder Fg_ref12_InOrder
  rw [order_all hfl (by omega) hs h, kept_all hfl (by omega) hs (by omega) h]
  exact ⟨dec_f (by omega), dec_f (by omega)⟩
theorem in_bad {fl : Nat} (hfl : 9223372036854775808 ≤ fl) {l : List SegT} (hl : l.length ≤ 1000000) (hs : ∀ s ∈ l, Short s) (h : ¬ ordered l) : ∃ j : Nat, j < l.length ∧ ¬ okM l j ∧ (∀ i, i < j → okM l i) ∧ ∀ K : Int × Int → Option Ans, F_segment_InOrder fl l K = K ((j : Int), 40) ∧ F_ref12_InOrder fl l K = K ((j : Int), 40) := by
  rcases nat_or_first (fun i => okM l i) l.length with h' | ⟨j, hj, hbad, hgood⟩
  · exact absurd h' h
  · refine ⟨j, hj, hbad, hgood, fun K => ?_⟩
    unfold F_segment_InOrder Fg_segment_InOrder F_ref12_InOrder Fg_ref12_InOrder
    rw [order_bad hfl (by omega) hs hj hbad hgood, kept_bad hfl (by omega) hs (by omega) hj hbad hgood]
    exact ⟨dec_t (by omega), dec_t (by omega)⟩
theorem ordered_valid {l : List SegT} (h : ordered l) {s : SegT} (hs : s ∈ l) : vS s = true := by
  obtain ⟨i, hi, e⟩ := List.mem_iff_getElem.1 hs
  have := (h i hi).1
  rwa [getD_lt hi, e] at this

/-! ### Where the end of the file stands -/
def kd9 (l : List SegT) (i : Nat) : Prop := (l.getD i dseg).2.1 = 9
instance (l : List SegT) (i : Nat) : Decidable (kd9 l i) := by unfold kd9; infer_instance
/-- Whether it stands where it is to. -/
def endOk (way : Int) (l : List SegT) : Bool :=
  if way = 2 then decide (∀ i, i < l.length → ¬ kd9 l i) else decide (0 < l.length ∧ kd9 l (l.length - 1) ∧ ∀ i, i < l.length - 1 → ¬ kd9 l i)
theorem idx_step {fl : Nat} {l : List SegT} (hl : l.length ≤ 1000000) {i : Nat} (hi : i < l.length) {c ret b} :
    S_slices_IndexFunc_api_Segment_api_Segment_b37_0 fl (l, (l.length : Int), (i : Int)) c (ret, b) = if kd9 l i then ret (i : Int) else c (l, (l.length : Int), ((i + 1 : Nat) : Int)) := by
  simp only [S_slices_IndexFunc_api_Segment_api_Segment_b37_0, Sg_slices_IndexFunc_api_Segment_api_Segment_b37_0, F_file_rightEnd_1]
  rw [dec_t (by omega), dec_t (by omega), Int.toNat_natCast, wrap64 (by omega) (by omega), cb]
  rfl
theorem right_end {fl : Nat} (hfl : 9223372036854775808 ≤ fl) {l : List SegT} (hl : l.length ≤ 1000000) {way : Int} {K : Bool → Option Ans} : F_file_rightEnd fl way l K = K (endOk way l) := by
  unfold F_file_rightEnd Fg_file_rightEnd F_slices_IndexFunc_api_Segment_api_Segment_b37 Fg_slices_IndexFunc_api_Segment_api_Segment_b37 L_slices_IndexFunc_api_Segment_api_Segment_b37_0 endOk
  rcases nat_or_first (fun i => ¬ kd9 l i) l.length with h | ⟨j, hj, hbad, hgood⟩
  · refine iter_to (step := S_slices_IndexFunc_api_Segment_api_Segment_b37_0 fl) (fun i : Nat => (l, (l.length : Int), (i : Int))) l.length (fun i hi c => ?_) (fun c => ?_) (by omega)
    · rw [idx_step hl hi, if_neg (h i hi)]
    · simp only [S_slices_IndexFunc_api_Segment_api_Segment_b37_0, Sg_slices_IndexFunc_api_Segment_api_Segment_b37_0]
      rw [dec_f (by omega), cb]
      by_cases hw : way = 2
      · rw [if_pos hw, if_pos hw, decide_eq_true h]
        rfl
      · rw [if_neg hw, if_neg hw, dec_f (by omega), decide_eq_false]
        rintro ⟨h1, h2, _⟩
        exact h (l.length - 1) (by omega) h2
  · simp only [Decidable.not_not] at hbad
    refine iter_to (step := S_slices_IndexFunc_api_Segment_api_Segment_b37_0 fl) (fun i : Nat => (l, (l.length : Int), (i : Int))) j (fun i hi c => ?_) (fun c => ?_) (by omega)
    · rw [idx_step hl (by omega), if_neg (hgood i hi)]
    · rw [idx_step hl hj, if_pos hbad]
      dsimp only
      rw [cb]
      by_cases hw : way = 2
      · rw [if_pos hw, if_pos hw, decide_eq_false (show ¬ ((j : Int) < 0) by omega), decide_eq_false (fun h => h j hj hbad)]
      · rw [if_neg hw, if_neg hw, dec_t (by omega), wrap64 (by omega) (by omega)]
        by_cases he : j = l.length - 1
        · rw [decide_eq_true ⟨by omega, by rw [← he]; exact hbad, fun i hi => hgood i (by omega)⟩]
          congr 1
          exact beq_iff_eq.2 (by omega)
        · rw [decide_eq_false (fun h => h.2.2 j (by omega) hbad)]
          congr 1
          exact beq_eq_false_iff_ne.2 (by omega)
theorem ends_step {fl : Nat} {l : List SegT} (hl : l.length ≤ 1000000) {way : Int} {i : Nat} (hi : i < l.length) {c ret b} :
    S_ref14_ends_0 fl (way, l, l, (l.length : Int), (i : Int)) c (ret, b) = if (kd9 l i ↔ way < 2 ∧ i = l.length - 1) then c (way, l, l, (l.length : Int), ((i + 1 : Nat) : Int)) else ret false := by
  simp only [S_ref14_ends_0]
  rw [dec_t (by omega), dec_t (by omega), Int.toNat_natCast, wrap64 (x := (l.length : Int) - 1) (by omega) (by omega), wrap64 (x := (i : Int) + 1) (by omega) (by omega)]
  have hd : l.getD i ((0 : Int), (0 : Int), (0 : Int), [], [], []) = l.getD i dseg := rfl
  rw [hd]
  have h9 : ((l.getD i dseg).snd.fst == 9) = decide (kd9 l i) := by
    unfold kd9
    by_cases h : (l.getD i dseg).2.1 = 9
    · rw [decide_eq_true h]; exact beq_iff_eq.2 h
    · rw [decide_eq_false h]; exact beq_eq_false_iff_ne.2 h
  have h1 : ((i : Int) == (l.length : Int) - 1) = decide (i = l.length - 1) := by
    by_cases h : i = l.length - 1
    · rw [decide_eq_true h]; exact beq_iff_eq.2 (by omega)
    · rw [decide_eq_false h]; exact beq_eq_false_iff_ne.2 (by omega)
  rw [h9, h1]
  by_cases hw : way < 2 <;> by_cases hk : kd9 l i <;> by_cases he : i = l.length - 1 <;> simp [hw, hk, he]
theorem ends {fl : Nat} (hfl : 9223372036854775808 ≤ fl) {l : List SegT} (hl : l.length ≤ 1000000) {way : Int} (hw : way ≤ 2) {K : Bool → Option Ans} : F_ref14_ends fl way l K = K (endOk way l) := by
  unfold F_ref14_ends L_ref14_ends_0
  rcases nat_or_first (fun i => (kd9 l i ↔ way < 2 ∧ i = l.length - 1)) l.length with h | ⟨j, hj, hbad, hgood⟩
  · refine iter_to (step := S_ref14_ends_0 fl) (fun i : Nat => (way, l, l, (l.length : Int), (i : Int))) l.length (fun i hi c => ?_) (fun c => ?_) (by omega)
    · rw [ends_step hl hi, if_pos (h i hi)]
    · simp only [S_ref14_ends_0]
      rw [dec_f (by omega), cb]
      unfold endOk
      by_cases h2 : way = 2
      · rw [if_pos h2, if_pos h2, decide_eq_true]
        intro i hi hk
        have := ((h i hi).1 hk).1
        omega
      · rw [if_neg h2, if_neg h2]
        by_cases h0 : 0 < l.length
        · rw [decide_eq_true (show (l.length : Int) > 0 by omega)]
          congr 1
          exact (decide_eq_true ⟨h0, (h _ (by omega)).2 ⟨by omega, rfl⟩, fun i hi hk => by have := ((h i (by omega)).1 hk).2; omega⟩).symm
        · rw [decide_eq_false (show ¬ (l.length : Int) > 0 by omega)]
          congr 1
          exact (decide_eq_false (fun h => h0 h.1)).symm
  · refine iter_to (step := S_ref14_ends_0 fl) (fun i : Nat => (way, l, l, (l.length : Int), (i : Int))) j (fun i hi c => ?_) (fun c => ?_) (by omega)
    · rw [ends_step hl (by omega), if_pos (hgood i hi)]
    · rw [ends_step hl hj, if_neg hbad]
      congr 1
      unfold endOk
      by_cases h2 : way = 2
      · rw [if_pos h2, decide_eq_false]
        intro h
        exact hbad ⟨fun hk => absurd hk (h j hj), fun h' => by omega⟩
      · rw [if_neg h2, decide_eq_false]
        rintro ⟨h0, h1, h3⟩
        refine hbad ⟨fun hk => ⟨by omega, ?_⟩, fun h' => by rw [h'.2]; exact h1⟩
        rcases Nat.lt_or_ge j (l.length - 1) with h4 | h4
        · exact absurd hk (h3 j h4)
        · omega

/-! ### What is written -/
/-- How many bytes: headers and data. -/
def szL (l : List SegT) : Nat → Nat
  | 0 => 0
  | i + 1 => szL l i + ((hd (l.getD i dseg)).length + (dat (l.getD i dseg)).length)
def outS (way : Int) (lead : List Int) (l : List SegT) : Nat → List Int × List Int
  | 0 => (lead, [])
  | i + 1 => if way = 1 then ((outS way lead l i).1 ++ hd (l.getD i dseg), (outS way lead l i).2 ++ dat (l.getD i dseg)) else ((outS way lead l i).1 ++ hd (l.getD i dseg) ++ dat (l.getD i dseg), (outS way lead l i).2)
theorem outS_len (way : Int) (lead : List Int) (l : List SegT) : ∀ i, (outS way lead l i).1.length + (outS way lead l i).2.length = lead.length + szL l i
  | 0 => by simp [outS, szL]
  | i + 1 => by
    have ih := outS_len way lead l i
    unfold outS szL
    split <;> simp only [List.length_append] <;> omega
theorem szL_mono (l : List SegT) : ∀ (d i : Nat), szL l i ≤ szL l (i + d)
  | 0, i => Nat.le_refl _
  | d + 1, i => by
    have := szL_mono l d i
    show _ ≤ szL l (i + d) + _
    omega
theorem fsize {fl : Nat} (hfl : 9223372036854775808 ≤ fl) {l : List SegT} (hl : l.length ≤ 1000000) (hs : ∀ s ∈ l, Short s) (hv : ∀ s ∈ l, vS s = true) (hz : szL l l.length ≤ 1000000000) {K : Int → Option Ans} : F_file_size fl l K = K (szL l l.length : Int) := by
  unfold F_file_size Fg_file_size L_file_size_0
  refine iter_to (step := S_file_size_0 fl) (fun i : Nat => ((szL l i : Int), l, (l.length : Int), (i : Int))) l.length (fun i hi c => ?_) (fun c => ?_) (by omega)
  · have hm := getD_mem hi dseg
    have hz' := szL_mono l (l.length - (i + 1)) (i + 1)
    rw [show i + 1 + (l.length - (i + 1)) = l.length by omega] at hz'
    have e : szL l (i + 1) = szL l i + ((hd (l.getD i dseg)).length + (l.getD i dseg).2.2.2.2.2.length) := rfl
    simp only [S_file_size_0, Sg_file_size_0]
    rw [dec_t (by omega), dec_t (by omega), Int.toNat_natCast]
    have hd' : l.getD i ((0 : Int), (0 : Int), (0 : Int), [], [], []) = l.getD i dseg := rfl
    rw [hd', header_ok hfl (hs _ hm) (hv _ hm)]
    dsimp only
    rw [wrap64 (x := ((hd (l.getD i dseg)).length : Int) + ((l.getD i dseg).2.2.2.2.2.length : Int)) (by omega) (by omega), wrap64 (x := (szL l i : Int) + (((hd (l.getD i dseg)).length : Int) + ((l.getD i dseg).2.2.2.2.2.length : Int))) (by omega) (by omega), wrap64 (by omega) (by omega), e]
    simp only [Int.natCast_add]
    rfl
  · simp only [S_file_size_0, Sg_file_size_0]
    rw [dec_f (by omega)]
theorem write_loop {fl : Nat} (hfl : 9223372036854775808 ≤ fl) {l : List SegT} (hl : l.length ≤ 1000000) (hs : ∀ s ∈ l, Short s) (hv : ∀ s ∈ l, vS s = true) {way : Int} {lead : List Int} (hz : lead.length + szL l l.length ≤ 1000000000) {K : List Int × List Int → Option Ans} :
    L_file_Write_0 fl (way, l, (l.length : Int), 0, lead, []) K = K (outS way lead l l.length) := by
  unfold L_file_Write_0
  refine iter_to (step := S_file_Write_0 fl) (fun i : Nat => (way, l, (l.length : Int), (i : Int), (outS way lead l i).1, (outS way lead l i).2)) l.length (fun i hi c => ?_) (fun c => ?_) (by omega)
  · have hm := getD_mem hi dseg
    have hz' := szL_mono l (l.length - (i + 1)) (i + 1)
    rw [show i + 1 + (l.length - (i + 1)) = l.length by omega] at hz'
    have e : szL l (i + 1) = szL l i + ((hd (l.getD i dseg)).length + (l.getD i dseg).2.2.2.2.2.length) := rfl
    have el := outS_len way lead l i
    simp only [S_file_Write_0, Sg_file_Write_0]
    rw [dec_t (by omega), dec_t (by omega), Int.toNat_natCast]
    have hd' : l.getD i ((0 : Int), (0 : Int), (0 : Int), [], [], []) = l.getD i dseg := rfl
    rw [hd', header_ok hfl (hs _ hm) (hv _ hm)]
    dsimp only
    rw [dec_t (by omega), cb, wrap64 (by omega) (by omega)]
    by_cases hw : way = 1
    · rw [if_pos hw, dec_t (by omega), outS, if_pos hw]
      rfl
    · rw [if_neg hw, dec_t (by rw [List.length_append]; omega), outS, if_neg hw]
      rfl
  · simp only [S_file_Write_0, Sg_file_Write_0]
    rw [dec_f (by omega)]
theorem rwrite_loop {fl : Nat} (hfl : 9223372036854775808 ≤ fl) {l : List SegT} (hl : l.length ≤ 1000000) (hs : ∀ s ∈ l, Short s) (hv : ∀ s ∈ l, vS s = true) {way : Int} {lead : List Int} (hz : lead.length + szL l l.length ≤ 1000000000) {K : List SegT × List Int × List Int → Option Ans} :
    L_ref14_Write_2 fl (way, l, l, (l.length : Int), 0, lead, []) K = K (l, outS way lead l l.length) := by
  unfold L_ref14_Write_2
  refine iter_to (step := S_ref14_Write_2 fl) (fun i : Nat => (way, l, l, (l.length : Int), (i : Int), (outS way lead l i).1, (outS way lead l i).2)) l.length (fun i hi c => ?_) (fun c => ?_) (by omega)
  · have hm := getD_mem hi dseg
    have hz' := szL_mono l (l.length - (i + 1)) (i + 1)
    rw [show i + 1 + (l.length - (i + 1)) = l.length by omega] at hz'
    have e : szL l (i + 1) = szL l i + ((hd (l.getD i dseg)).length + (l.getD i dseg).2.2.2.2.2.length) := rfl
    have el := outS_len way lead l i
    simp only [S_ref14_Write_2, Sg_ref14_Write_2]
    rw [dec_t (by omega), dec_t (by omega), Int.toNat_natCast]
    have hd' : l.getD i ((0 : Int), (0 : Int), (0 : Int), [], [], []) = l.getD i dseg := rfl
    rw [hd', rheader_ok hfl (hs _ hm) (hv _ hm)]
    dsimp only
    rw [dec_t (by omega), cb, wrap64 (by omega) (by omega)]
    by_cases hw : way = 1
    · rw [if_pos hw, dec_t (by omega), outS, if_pos hw]
      rfl
    · rw [if_neg hw, dec_t (by rw [List.length_append]; omega), outS, if_neg hw]
      rfl
  · simp only [S_ref14_Write_2, Sg_ref14_Write_2]
    rw [dec_f (by omega)]

/-- What Write returns. -/
def leadOf (way : Int) : List Int := if way = 2 then [] else [73, 78, 67, 49, way]
def writeR (way : Int) (l : List SegT) : Int × List Int :=
  if way < 0 ∨ way > 2 ∨ ¬ (∀ s ∈ l, vS s = true) then (2, [])
  else if ¬ ordered l then (40, []) else if endOk way l = false then (60, [])
  else if ((leadOf way).length + szL l l.length : Nat) > 40000 ∨ l.length > 100 then (4, [])
  else (0, (outS way (leadOf way) l l.length).1 ++ (outS way (leadOf way) l l.length).2)
theorem allv_iff {l : List SegT} : (∀ s ∈ l, vS s = true) ↔ ∀ i, i < l.length → vS (l.getD i dseg) = true := by
  constructor
  · intro h i hi
    exact h _ (getD_mem hi dseg)
  · intro h s hs
    obtain ⟨i, hi, e⟩ := List.mem_iff_getElem.1 hs
    have := h i hi
    rwa [getD_lt hi, e] at this
theorem write_ok {fl : Nat} (hfl : 9223372036854775808 ≤ fl) {l : List SegT} (hl : l.length ≤ 1000000) (hs : ∀ s ∈ l, Short s) (hz : (∀ s ∈ l, vS s = true) → szL l l.length ≤ 900000000) {way : Int} {K : Int × List Int → Option Ans} :
    F_file_Write fl way l K = K (writeR way l) := by
  unfold F_file_Write Fg_file_Write writeR
  by_cases w0 : way < 0
  · rw [dec_t w0, if_pos (.inl w0)]
  rw [dec_f w0]
  by_cases w2 : way > 2
  · rw [dec_t w2, if_pos (.inr (.inl w2))]
  rw [dec_f w2]
  rcases nat_or_first (fun i => vS (l.getD i dseg) = true) l.length with h | ⟨j, hj, hbad, hgood⟩
  rotate_left
  · rw [one_bad hfl hl hs hj hbad hgood, cond_true, if_pos (.inr (.inr fun h => hbad (allv_iff.1 h j hj)))]
  have hv := allv_iff.2 h
  have hz := hz hv
  rw [all_valid hfl hl hs h, cond_false, if_neg (by rintro (h' | h' | h'); exact w0 h'; exact w2 h'; exact h' hv)]
  by_cases ho : ordered l
  rotate_left
  · obtain ⟨j, _, _, _, hj⟩ := in_bad hfl hl hs ho
    rw [(hj _).1, if_pos ho]
    dsimp only
    rw [cond_t (by rfl)]
  rw [(in_all hfl hl hs ho).1, if_neg (by simpa using ho)]
  dsimp only
  rw [cond_f (by rfl), right_end hfl hl]
  cases he : endOk way l with
  | false => rw [cond_t (b := !false) rfl, if_pos rfl]
  | true =>
  rw [cond_f (b := !true) rfl, if_neg (by decide)]
  have hlead : (leadOf way).length ≤ 5 := by unfold leadOf; split <;> simp
  rw [cn, fsize hfl hl hs hv (by omega), fsize hfl hl hs hv (by omega)]
  have hol := outS_len way (leadOf way) l l.length
  by_cases hw : way = 2
  · have e1 : leadOf way = [] := if_pos hw
    rw [if_pos hw, wrap64 (by omega) (by omega)]
    rw [e1] at hol ⊢
    by_cases c1 : ((0 : Nat) : Int) + (szL l l.length : Int) > 40000
    · rw [dec_t c1, if_pos (.inl (by simp; omega))]
    rw [dec_f c1]
    by_cases c2 : l.length > 100
    · rw [dec_t (by omega), if_pos (.inr c2)]
    rw [dec_f (by omega), write_loop hfl hl hs hv (by simp; omega), if_neg (by rintro (h' | h'); simp at h'; omega; exact c2 h')]
    simp only [List.length_nil] at hol
    try dsimp only
    rw [dec_t (by omega)]
  · have e1 : leadOf way = [73, 78, 67, 49, way] := if_neg hw
    have e2 : [(73 : Int), 78, 67, 49] ++ [IntKind.u8.wrap way] = leadOf way := by rw [e1, wrap8 (by omega) (by omega)]; rfl
    have e3 : (leadOf way).length = 5 := by rw [e1]; rfl
    rw [if_neg hw, e2, e3, wrap64 (by omega) (by omega)]
    by_cases c1 : ((5 : Nat) : Int) + (szL l l.length : Int) > 40000
    · rw [dec_t c1, if_pos (.inl (by omega))]
    rw [dec_f c1]
    by_cases c2 : l.length > 100
    · rw [dec_t (by omega), if_pos (.inr c2)]
    rw [dec_f (by omega), write_loop hfl hl hs hv (by omega), if_neg (by rintro (h' | h'); omega; exact c2 h')]
    try dsimp only
    rw [dec_t (by omega)]
theorem rwrite_ok {fl : Nat} (hfl : 9223372036854775808 ≤ fl) {l : List SegT} (hl : l.length ≤ 1000000) (hs : ∀ s ∈ l, Short s) (hz : (∀ s ∈ l, vS s = true) → szL l l.length ≤ 900000000) {way : Int} {K : Int × List Int → Option Ans} :
    F_ref14_Write fl way l K = K (writeR way l) := by
  unfold F_ref14_Write Fg_ref14_Write writeR
  by_cases w0 : way < 0
  · rw [dec_t w0, if_pos (.inl w0)]
  rw [dec_f w0]
  by_cases w2 : way > 2
  · rw [dec_t w2, if_pos (.inr (.inl w2))]
  rw [dec_f w2]
  rcases nat_or_first (fun i => vS (l.getD i dseg) = true) l.length with h | ⟨j, hj, hbad, hgood⟩
  rotate_left
  · rw [rone_bad hfl hl hs hj hbad hgood, if_pos (.inr (.inr fun h => hbad (allv_iff.1 h j hj)))]
  have hv := allv_iff.2 h
  have hz := hz hv
  rw [rall_valid hfl hl hs h, if_neg (by rintro (h' | h' | h'); exact w0 h'; exact w2 h'; exact h' hv)]
  dsimp only
  by_cases ho : ordered l
  rotate_left
  · obtain ⟨j, _, _, _, hj⟩ := in_bad hfl hl hs ho
    rw [(hj _).2, if_pos ho]
    dsimp only
    rw [cond_t (by rfl)]
  rw [(in_all hfl hl hs ho).2, if_neg (by simpa using ho)]
  dsimp only
  rw [cond_f (by rfl), ends hfl hl (by omega)]
  cases he : endOk way l with
  | false => rw [cond_t (b := !false) rfl, if_pos rfl]
  | true =>
  rw [cond_f (b := !true) rfl, if_neg (by decide)]
  unfold F_ref14_lead
  have hlead : (leadOf way).length ≤ 5 := by unfold leadOf; split <;> simp
  dsimp only
  rw [cb]
  have hol := outS_len way (leadOf way) l l.length
  by_cases hw : way = 2
  · have e1 : leadOf way = [] := if_pos hw
    rw [e1] at hol ⊢
    simp only [List.length_nil, Nat.zero_add] at hol ⊢
    rw [if_pos hw, rwrite_loop hfl hl hs hv (by simp; omega)]
    try dsimp only
    rw [dec_t (by omega)]
    by_cases c1 : szL l l.length > 40000
    · rw [dec_t (by rw [List.length_append]; omega), if_pos (.inl c1)]
    rw [dec_f (by rw [List.length_append]; omega)]
    by_cases c2 : l.length > 100
    · rw [dec_t (by omega), if_pos (.inr c2)]
    rw [dec_f (by omega), if_neg (by rintro (h' | h'); exact c1 h'; exact c2 h')]
  · have e1 : leadOf way = [73, 78, 67, 49, way] := if_neg hw
    have e3 : (leadOf way).length = 5 := by rw [e1]; rfl
    rw [if_neg hw, wrap8 (by omega) (by omega), ← e1, rwrite_loop hfl hl hs hv (by omega)]
    try dsimp only
    rw [dec_t (by omega)]
    by_cases c1 : (leadOf way).length + szL l l.length > 40000
    · rw [dec_t (by rw [List.length_append]; omega), if_pos (.inl c1)]
    rw [dec_f (by rw [List.length_append]; omega)]
    by_cases c2 : l.length > 100
    · rw [dec_t (by omega), if_pos (.inr c2)]
    rw [dec_f (by omega), if_neg (by rintro (h' | h'); exact c1 h'; exact c2 h')]

/-! ### Lists that are not large -/
theorem lgW_ge {l : List SegT} (hs : ∀ s ∈ l, Short s) (hl : l.length ≤ 300) : ∀ (i : Nat), i ≤ l.length → lgW l i ≤ 2000000000000000 * (i : Int) ∧ 0 ≤ lgW l i ∧ ∀ j, j < i → ((l.getD j dseg).2.2.2.2.2.length : Int) ≤ lgW l i
  | 0, _ => by simp [lgW]
  | i + 1, hi => by
    obtain ⟨a, b, c⟩ := lgW_ge hs hl i (by omega)
    obtain ⟨h1, h2, h3⟩ := hs _ (getD_mem (show i < l.length by omega) dseg)
    have e : lgW l (i + 1) = IntKind.i64.wrap (lgW l i + IntKind.i64.wrap (((l.getD i dseg).2.2.2.2.2.length : Int) + ((l.getD i dseg).2.2.2.1.length : Int))) := rfl
    rw [wrap64 (x := ((l.getD i dseg).2.2.2.2.2.length : Int) + ((l.getD i dseg).2.2.2.1.length : Int)) (by omega) (by omega), wrap64 (by omega) (by omega)] at e
    refine ⟨by omega, by omega, fun j hj => ?_⟩
    rcases Nat.lt_or_ge j i with hj' | hj'
    · have := c j hj'
      omega
    · have : j = i := by omega
      subst this
      omega
theorem szL_le {l : List SegT} (hv : ∀ s ∈ l, vS s = true) {m : Nat} (hdm : ∀ j, j < l.length → (l.getD j dseg).2.2.2.2.2.length ≤ m) : ∀ (i : Nat), i ≤ l.length → szL l i ≤ (160 + m) * i
  | 0, _ => by simp [szL]
  | i + 1, hi => by
    have ih := szL_le hv hdm i (by omega)
    have a := hd_len (hv _ (getD_mem (show i < l.length by omega) dseg))
    have b := hdm i (by omega)
    have e : szL l (i + 1) = szL l i + ((hd (l.getD i dseg)).length + (l.getD i dseg).2.2.2.2.2.length) := rfl
    rw [e, Nat.mul_add]
    omega
def large14 (l : List SegT) : Bool := decide ((l.length : Int) > 300) || decide (lgW l l.length > 100000)
theorem small14 {l : List SegT} (hs : ∀ s ∈ l, Short s) (h : large14 l = false) : l.length ≤ 300 ∧ ((∀ s ∈ l, vS s = true) → szL l l.length ≤ 900000000) := by
  unfold large14 at h
  simp only [Bool.or_eq_false_iff, decide_eq_false_iff_not] at h
  have hl : l.length ≤ 300 := by omega
  refine ⟨hl, fun hv => ?_⟩
  obtain ⟨_, _, h3⟩ := lgW_ge hs hl l.length (Nat.le_refl _)
  have := szL_le hv (m := 100000) (fun j hj => by have := h3 j hj; omega) l.length (Nat.le_refl _)
  have : (160 + 100000) * l.length ≤ (160 + 100000) * 300 := Nat.mul_le_mul_left _ hl
  omega
end Go.Proofs.Ytihfgpfofmjbaaa.Seg

set_option linter.unusedVariables false
set_option linter.unusedSimpArgs false
namespace Go.Proofs.Ytihfgpfofmjbaaa.Seg
open Go Ev Bm
theorem llarge14 {fl : Nat} (hfl : 9223372036854775808 ≤ fl) {l : List SegT} (hl : l.length ≤ 1000000000000000) {K : Bool → Option Ans} : F_law14_large fl l K = K (large14 l) := by
  unfold F_law14_large L_law14_large_0 large14
  refine iter_seq (step := S_law14_large_0 fl) (fun i : Nat => (l, lgW l i, l, (l.length : Int), (i : Int))) l.length rfl (fun i hi c => ?_) (fun c => ?_) (by omega)
  · simp (disch := omega) only [S_law14_large_0, dec_t, wrap64 (x := (i : Int) + 1), Int.toNat_natCast]
    rfl
  · simp (disch := omega) only [S_law14_large_0, dec_f, cd]
    by_cases h : (l.length : Int) > 300
    · rw [if_pos h, decide_eq_true h]; rfl
    · rw [if_neg h, decide_eq_false h]; rfl
theorem awake14 {fl : Nat} (hfl : 9223372036854775808 ≤ fl) {K : Bool → Option Ans} : F_law14_Awake fl K = K true := by
  unfold F_law14_Awake Fg_law14_Awake
  have hsh : ∀ s ∈ ([(0, 9, 0, [], [false], [])] : List SegT), Short s := by
    intro s hs
    rw [List.mem_singleton] at hs
    subst hs
    exact ⟨by simp, by simp, by simp⟩
  rw [write_ok hfl (by simp) hsh (fun _ => by decide +kernel)]
  have e : writeR 0 [(0, 9, 0, [], [false], [])] = (0, [73, 78, 67, 49, 0, 0, 9, 0, 0, 0]) := by decide +kernel
  rw [e]
  dsimp only
  have e2 : strOfNums [73, 78, 67, 49, 0, 0, 9, 0, 0, 0] = ByteArray.mk #[73, 78, 67, 49, 0, 0, 9, 0, 0, 0] := by rfl
  rw [e2, cond_t (b := (0 : Int) == 0) rfl, beq_self_eq_true]
end Go.Proofs.Ytihfgpfofmjbaaa.Seg

set_option linter.unusedVariables false
set_option linter.unusedSimpArgs false
namespace Go.Proofs.Ytihfgpfofmjbaaa.Seg
open Go Ev Bm

/-- Bytes. -/
def Bytes (b : List Int) : Prop := b.length ≤ 1000000000000000 ∧ ∀ x ∈ b, 0 ≤ x ∧ x ≤ 255
theorem Bytes.get {b : List Int} (h : Bytes b) (i : Nat) : 0 ≤ b.getD i 0 ∧ b.getD i 0 ≤ 255 := by
  by_cases hi : i < b.length
  · exact h.2 _ (getD_mem hi 0)
  · rw [List.getD_eq_getElem?_getD, List.getElem?_eq_none (by omega)]
    simp

/-! ### GetSize -/
def gsGo (b : List Int) (at_ : Nat) : Nat → Nat → Int → Int × Int × Int
  | 0, _, _ => (0, 0, 3)
  | f + 1, i, n =>
    if at_ + i ≥ b.length then (0, 0, 6)
    else if b.getD (at_ + i) 0 < 128 then (if n * 128 + b.getD (at_ + i) 0 % 128 > 2147483647 ∨ (i > 0 ∧ b.getD at_ 0 = 128) then (0, 0, 3) else (n * 128 + b.getD (at_ + i) 0 % 128, ((at_ + i + 1 : Nat) : Int), 0))
    else gsGo b at_ f (i + 1) (n * 128 + b.getD (at_ + i) 0 % 128)
/-- What GetSize returns. -/
def getR (b : List Int) (p : Int) : Int × Int × Int := if p < 0 ∨ p > b.length then (0, 0, 2) else gsGo b p.toNat 5 0 0
theorem gs_loop {fl : Nat} {b : List Int} (hb : Bytes b) {q : Nat} (hq : q ≤ b.length) {K : Int × Int × Int → Option Ans} : ∀ (f i : Nat) (n : Int) (m : Nat), f + i = 5 → f < m → 0 ≤ n → n < 128 ^ i →
    iter (S_bits_GetSize_0 fl) m (b, (q : Int), n, (i : Int)) (fun r => match r with | (r0, r1, r2) => K (r0, r1, r2), fun _ => K (0, 0, 3)) = K (gsGo b q f i n)
  | 0, i, n, m, hi, hm, h0, h1 => by
    obtain ⟨m, rfl⟩ : ∃ k, m = k + 1 := ⟨m - 1, by omega⟩
    simp only [iter, S_bits_GetSize_0, gsGo]
    rw [dec_f (by omega)]
  | f + 1, i, n, m, hi, hm, h0, h1 => by
    obtain ⟨m, rfl⟩ : ∃ k, m = k + 1 := ⟨m - 1, by omega⟩
    have hl := hb.1
    have hc := hb.get (q + i)
    have hc0 := hb.get q
    have hn : n < 268435456 := by
      have a : (128 : Int) ^ i ≤ 128 ^ 4 := by
        have := Nat.pow_le_pow_right (n := 128) (by omega) (show i ≤ 4 by omega)
        exact_mod_cast this
      have c : (128 : Int) ^ 4 = 268435456 := by decide
      omega
    have e : ((q : Int) + (i : Int)) = ((q + i : Nat) : Int) := by omega
    simp only [iter, S_bits_GetSize_0, gsGo]
    rw [dec_t (by omega), wrap64 (x := (q : Int) + i) (by omega) (by omega), e]
    by_cases hlen : q + i ≥ b.length
    · rw [dec_t (by omega), if_pos hlen]
    · rw [dec_f (by omega), if_neg hlen, dec_t (by omega), Int.toNat_natCast, wrap64 (x := b.getD (q + i) 0) (by omega) (by omega)]
      have em : (b.getD (q + i) 0).tmod 128 = b.getD (q + i) 0 % 128 := Int.tmod_eq_emod_of_nonneg hc.1
      rw [em, wrap64 (x := n * 128) (by omega) (by omega), wrap64 (x := n * 128 + b.getD (q + i) 0 % 128) (by omega) (by omega)]
      by_cases hs : b.getD (q + i) 0 < 128
      · rw [dec_t hs, if_pos hs]
        by_cases hbig : n * 128 + b.getD (q + i) 0 % 128 > 2147483647
        · rw [dec_t hbig, if_pos (.inl hbig)]
        · rw [dec_f hbig]
          have hw : IntKind.i64.wrap (((q + i : Nat) : Int) + 1) = ((q + i + 1 : Nat) : Int) := by rw [wrap64 (by omega) (by omega)]; rfl
          by_cases h00 : i > 0
          · rw [dec_t (by omega), dec_t (by omega), Int.toNat_natCast, cb]
            by_cases h128 : b.getD q 0 = 128
            · rw [if_pos h128, if_pos (.inr ⟨h00, h128⟩)]
            · rw [if_neg h128, if_neg (by rintro (h | h); exact hbig h; exact h128 h.2), hw]
          · rw [dec_f (by omega), if_neg (by rintro (h | h); exact hbig h; exact h00 h.1), hw]
      · rw [dec_f hs, if_neg hs, wrap64 (by omega) (by omega)]
        have hp : n * 128 + b.getD (q + i) 0 % 128 < 128 ^ (i + 1) := by rw [Int.pow_succ]; omega
        exact gs_loop hb hq f (i + 1) _ m (by omega) (by omega) (by omega) hp
theorem rgs_eq {fl : Nat} (v : List Int × Int × Int × Int) (c) (B) : S_ref01_GetSize_0 fl v c B = S_bits_GetSize_0 fl v c B := by
  obtain ⟨x0, x1, x2, x3⟩ := v
  obtain ⟨B1, B2⟩ := B
  simp only [S_ref01_GetSize_0, S_bits_GetSize_0, Int.mul_comm 128]
theorem getsize {fl : Nat} (hfl : 9223372036854775808 ≤ fl) {b : List Int} (hb : Bytes b) {p : Int} {K : Int × Int × Int → Option Ans} : F_bits_GetSize fl b p K = K (getR b p) := by
  unfold F_bits_GetSize getR
  by_cases h0 : p < 0
  · rw [dec_t h0, if_pos (.inl h0)]
  by_cases h1 : p > b.length
  · rw [dec_f h0, dec_t h1, if_pos (.inr h1)]
  rw [dec_f h0, dec_f h1, if_neg (by rintro (h | h) <;> omega)]
  obtain ⟨q, rfl⟩ : ∃ q : Nat, p = q := ⟨p.toNat, by omega⟩
  rw [Int.toNat_natCast]
  unfold L_bits_GetSize_0
  exact gs_loop hb (by omega) 5 0 0 fl (by omega) (by omega) (by omega) (by decide)
theorem rgetsize {fl : Nat} (hfl : 9223372036854775808 ≤ fl) {b : List Int} (hb : Bytes b) {p : Int} {K : Int × Int × Int → Option Ans} : F_ref01_GetSize fl b p K = K (getR b p) := by
  refine Eq.trans ?_ (getsize hfl hb)
  unfold F_ref01_GetSize F_bits_GetSize L_ref01_GetSize_0 L_bits_GetSize_0
  rw [show S_ref01_GetSize_0 fl = S_bits_GetSize_0 fl from by funext v c B; exact rgs_eq v c B]
theorem gsGo_ok {b : List Int} (hb : Bytes b) {q : Nat} : ∀ (f i : Nat) (n : Int) {v x : Int}, 0 ≤ n → gsGo b q f i n = (v, x, 0) → 0 ≤ v ∧ v ≤ 2147483647 ∧ (q : Int) < x ∧ x ≤ b.length
  | 0, i, n, v, x, h0, h => by simp [gsGo] at h
  | f + 1, i, n, v, x, h0, h => by
    have hc := hb.get (q + i)
    simp only [gsGo] at h
    split at h
    · simp at h
    · split at h
      · split at h
        · simp at h
        · rename_i h3
          simp only [Prod.mk.injEq, and_true] at h
          obtain ⟨rfl, rfl⟩ := h
          have : ¬ (n * 128 + b.getD (q + i) 0 % 128 > 2147483647) := fun h => h3 (.inl h)
          omega
      · exact gsGo_ok hb f (i + 1) _ (by omega) h
theorem getR_ok {b : List Int} (hb : Bytes b) {p v x : Int} (h : getR b p = (v, x, 0)) : 0 ≤ p ∧ 0 ≤ v ∧ v ≤ 2147483647 ∧ p < x ∧ x ≤ b.length := by
  unfold getR at h
  split at h
  · simp at h
  · rename_i hp
    have := gsGo_ok hb 5 0 0 (by omega) h
    omega
theorem gsGo_err {b : List Int} {q : Nat} : ∀ (f i : Nat) (n : Int), (gsGo b q f i n).2.2 = 0 ∨ (gsGo b q f i n).2.2 = 3 ∨ (gsGo b q f i n).2.2 = 6
  | 0, i, n => by simp [gsGo]
  | f + 1, i, n => by
    simp only [gsGo]
    split
    · simp
    · split
      · split <;> simp
      · exact gsGo_err f (i + 1) _

/-! ### What is read -/
inductive Rd (α : Type) where
  | bad (e : Int)
  | ok (a : α) (p : Int)
def numR (b : List Int) (p most : Int) : Rd Int :=
  if (getR b p).2.2 = 0 then (if (getR b p).1 > most then .bad 3 else .ok (getR b p).1 (getR b p).2.1) else .bad (getR b p).2.2
theorem numR_bad {b : List Int} {p most e : Int} (h : numR b p most = .bad e) : e ≠ 0 := by
  unfold numR at h
  split at h
  · split at h
    · cases h; omega
    · cases h
  · rename_i h1; cases h; exact h1
theorem numR_ok {b : List Int} (hb : Bytes b) {p most v x : Int} (h : numR b p most = .ok v x) : 0 ≤ p ∧ 0 ≤ v ∧ v ≤ most ∧ p < x ∧ x ≤ b.length ∧ v ≤ 2147483647 := by
  unfold numR at h
  split at h
  · rename_i h1
    split at h
    · cases h
    · cases h
      have := getR_ok hb (p := p) (v := (getR b p).1) (x := (getR b p).2.1) (by rw [← h1])
      omega
  · cases h
/-- What the reference's 'number' returns. -/
theorem rnumber {fl : Nat} (hfl : 9223372036854775808 ≤ fl) {b : List Int} (hb : Bytes b) {p most : Int} : ∃ x y : Int, ∀ K : Int × Int × Int → Option Ans, F_ref12_number fl b p most K = match numR b p most with | .bad e => K (x, y, e) | .ok v q => K (v, q, 0) := by
  refine ⟨(getR b p).1, (getR b p).2.1, fun K => ?_⟩
  unfold F_ref12_number Fg_ref12_number numR
  rw [rgetsize hfl hb]
  simp only [cb, cd]
  by_cases h : (getR b p).2.2 = 0
  · rw [if_pos h, if_pos h]
    by_cases h2 : (getR b p).1 > most
    · rw [if_pos h2, if_pos h2]
    · rw [if_neg h2, if_neg h2, h]
  · rw [if_neg h, if_neg h]

def refsGo (b : List Int) (of_ : Int) : Nat → Int → Int → List Int → Rd (List Int)
  | 0, p, _, out => .ok out p
  | f + 1, p, last, out => match numR b p of_ with
    | .bad e => .bad e
    | .ok d q => if d = 0 then .bad 3 else if d ≥ last then .bad 3 else refsGo b of_ f q d (out ++ [of_ - d])
def refsR (b : List Int) (p of_ : Int) : Rd (List Int) := match numR b p 20 with
  | .bad e => .bad e
  | .ok many q => if many = 0 then .bad 3 else refsGo b of_ many.toNat q (of_ + 1) []
theorem refsGo_bad {b : List Int} {of_ : Int} : ∀ {f : Nat} {p last : Int} {out : List Int} {e : Int}, refsGo b of_ f p last out = .bad e → e ≠ 0
  | 0, _, _, _, _, h => by cases h
  | f + 1, p, last, out, e, h => by
    simp only [refsGo] at h
    split at h
    · rename_i e' he; cases h; exact numR_bad he
    · split at h
      · cases h; omega
      · split at h
        · cases h; omega
        · exact refsGo_bad h
theorem refsGo_ok {b : List Int} (hb : Bytes b) {of_ : Int} : ∀ {f : Nat} {p last : Int} {out r : List Int} {x : Int}, 0 ≤ p → p ≤ b.length → refsGo b of_ f p last out = .ok r x → r.length = out.length + f ∧ 0 ≤ x ∧ x ≤ b.length
  | 0, p, _, _, _, _, h0, h1, h => by cases h; exact ⟨rfl, h0, h1⟩
  | f + 1, p, last, out, r, x, h0, h1, h => by
    simp only [refsGo] at h
    split at h
    · cases h
    · rename_i d q hd
      obtain ⟨a1, a2, a3, a4, a5, a6⟩ := numR_ok hb hd
      split at h
      · cases h
      · split at h
        · cases h
        · have := refsGo_ok hb (by omega) (by omega) h
          simp at this
          omega
theorem rrefs_go {fl : Nat} (hfl : 9223372036854775808 ≤ fl) {b : List Int} (hb : Bytes b) {of_ : Int} (h0 : 0 ≤ of_) (h1 : of_ ≤ 100000) {many : Nat} (hm : many ≤ 20) {ret : Int × Int × List Int → Option Ans} {brk : Int × List Int → Option Ans} :
    ∀ (f i : Nat) (p last : Int) (out : List Int) (m : Nat), f + i = many → f < m → out.length ≤ i →
      iter (S_ref12_refs_0 fl) m (b, p, of_, (many : Int), last, (i : Int), out) (ret, brk) = match refsGo b of_ f p last out with | .bad e => ret (0, e, []) | .ok r q => brk (q, r)
  | 0, i, p, last, out, m, hi, hm', ho => by
    obtain ⟨m, rfl⟩ : ∃ k, m = k + 1 := ⟨m - 1, by omega⟩
    simp only [iter, S_ref12_refs_0, Sg_ref12_refs_0, refsGo]
    rw [dec_f (by omega)]
  | f + 1, i, p, last, out, m, hi, hm', ho => by
    obtain ⟨m, rfl⟩ : ∃ k, m = k + 1 := ⟨m - 1, by omega⟩
    obtain ⟨x, y, hN⟩ := rnumber hfl hb (p := p) (most := of_)
    simp only [iter, S_ref12_refs_0, Sg_ref12_refs_0, refsGo]
    rw [dec_t (by omega), hN]
    cases hn : numR b p of_ with
    | bad e =>
      have := numR_bad hn
      dsimp only
      rw [cond_t (by simpa using this)]
    | ok d q =>
      obtain ⟨a1, a2, a3, a4, a5, a6⟩ := numR_ok hb hn
      dsimp only
      rw [cond_f (by rfl), cb]
      by_cases hd : d = 0
      · rw [if_pos hd, if_pos hd]
      · rw [if_neg hd, if_neg hd, cd]
        by_cases hl : d ≥ last
        · rw [if_pos hl, if_pos hl]
        · rw [if_neg hl, if_neg hl, wrap64 (x := of_ - d) (by omega) (by omega), dec_t (by simp; omega), wrap64 (by omega) (by omega)]
          exact rrefs_go hfl hb h0 h1 hm f (i + 1) q d _ m (by omega) (by omega) (by simp; omega)
theorem rrefs {fl : Nat} (hfl : 9223372036854775808 ≤ fl) {b : List Int} (hb : Bytes b) {p of_ : Int} (h0 : 0 ≤ of_) (h1 : of_ ≤ 100000) {K : Int × Int × List Int → Option Ans} :
    F_ref12_refs fl b p of_ K = match refsR b p of_ with | .bad e => K (0, e, []) | .ok r q => K (q, 0, r) := by
  unfold F_ref12_refs Fg_ref12_refs refsR
  obtain ⟨x, y, hN⟩ := rnumber hfl hb (p := p) (most := 20)
  rw [hN]
  cases hn : numR b p 20 with
  | bad e =>
    have := numR_bad hn
    dsimp only
    rw [cond_t (by simpa using this)]
  | ok d q =>
    obtain ⟨a1, a2, a3, a4, a5, a6⟩ := numR_ok hb hn
    dsimp only
    rw [cond_f (by rfl), cb]
    by_cases hd : d = 0
    · rw [if_pos hd, if_pos hd]
    · rw [if_neg hd, if_neg hd, wrap64 (by omega) (by omega)]
      obtain ⟨many, rfl⟩ : ∃ k : Nat, d = k := ⟨d.toNat, by omega⟩
      rw [Int.toNat_natCast]
      unfold L_ref12_refs_0
      exact rrefs_go hfl hb h0 h1 (by omega) many 0 q (of_ + 1) [] fl (by omega) (by omega) (by simp)
end Go.Proofs.Ytihfgpfofmjbaaa.Seg

set_option linter.unusedVariables false
set_option linter.unusedSimpArgs false
namespace Go.Proofs.Ytihfgpfofmjbaaa.Seg
open Go Ev Bm

/-! ### What is kept -/
theorem and_bit : ∀ (c : Fin 256) (t : Fin 8), decide (iand .u8 (c.val : Int) (ishr .u8 128 (t.val : Int)) > 0) = decide ((c.val : Int) / 2 ^ (7 - t.val) % 2 = 1) := by decide +kernel
theorem shr_bit : ∀ (c : Fin 256) (t : Fin 8), iand .u8 (ishr .u8 (c.val : Int) (7 - (t.val : Int))) 1 = (c.val : Int) / 2 ^ (7 - t.val) % 2 := by decide +kernel
/-- Bit i of a byte. -/
def bit8 (c : Int) (t : Nat) : Int := c / 2 ^ (7 - t) % 2
theorem bit8_01 (c : Int) (t : Nat) : bit8 c t = 0 ∨ bit8 c t = 1 := by unfold bit8; omega
theorem and_bit8 {c : Int} (h0 : 0 ≤ c) (h1 : c ≤ 255) (i : Nat) : decide (iand .u8 c (ishr .u8 128 ((i % 8 : Nat) : Int)) > 0) = decide (bit8 c (i % 8) = 1) := by
  have := and_bit ⟨c.toNat, by omega⟩ ⟨i % 8, by omega⟩
  simp only [Int.toNat_of_nonneg h0] at this
  exact this
theorem shr_bit8 {c : Int} (h0 : 0 ≤ c) (h1 : c ≤ 255) (i : Nat) : iand .u8 (ishr .u8 c (7 - ((i % 8 : Nat) : Int))) 1 = bit8 c (i % 8) := by
  have := shr_bit ⟨c.toNat, by omega⟩ ⟨i % 8, by omega⟩
  simp only [Int.toNat_of_nonneg h0] at this
  exact this
/-- Bit i behind an offset. -/
def bitA (b : List Int) (q i : Nat) : Int := bit8 (b.getD (q + i / 8) 0) (i % 8)
theorem bitA_01 (b : List Int) (q i : Nat) : bitA b q i = 0 ∨ bitA b q i = 1 := bit8_01 _ _
def keepL (b : List Int) (q many : Nat) : List Bool := (List.range many).map fun i => decide (bitA b q i = 1)
def restK (b : List Int) (q many : Nat) : Prop := ∀ i, i < 8 * ((many + 7) / 8) → i < many ∨ bitA b q i = 0
instance {b : List Int} {q many : Nat} : Decidable (restK b q many) := by unfold restK; infer_instance
def keepsR (b : List Int) (p : Int) (many : Nat) : Rd (List Bool) :=
  if p + ((many + 7) / 8 : Nat) > b.length then .bad 6
  else if restK b p.toNat many then .ok (keepL b p.toNat many) (p + ((many + 7) / 8 : Nat)) else .bad 3
theorem rkeeps {fl : Nat} (hfl : 9223372036854775808 ≤ fl) {b : List Int} (hb : Bytes b) {p : Int} (h0 : 0 ≤ p) (h1 : p ≤ b.length) {many : Nat} (hm : many ≤ 1000) {K : Int × Int × List Bool → Option Ans} :
    F_ref12_keeps fl b p (many : Int) K = match keepsR b p many with | .bad e => K (0, e, []) | .ok r q => K (q, 0, r) := by
  obtain ⟨q, rfl⟩ : ∃ q : Nat, p = q := ⟨p.toNat, by omega⟩
  have hl := hb.1
  unfold F_ref12_keeps keepsR
  rw [up8 _ (by omega), wrap64 (by omega) (by omega), cd]
  by_cases hend : (q : Int) + ((many + 7) / 8 : Nat) > b.length
  · rw [if_pos hend, if_pos hend]
  rw [if_neg hend, if_neg hend, Int.toNat_natCast]
  unfold L_ref12_keeps_0
  have round : ∀ i, i < 8 * ((many + 7) / 8) → (i < many ∨ bitA b q i = 0) → ∀ c B, S_ref12_keeps_0 fl (b, (q : Int), (many : Int), (((many + 7) / 8 : Nat) : Int), (i : Int), keepL b q (min i many)) c B = c (b, (q : Int), (many : Int), (((many + 7) / 8 : Nat) : Int), ((i + 1 : Nat) : Int), keepL b q (min (i + 1) many)) := by
    intro i hi hk c B
    obtain ⟨B1, B2⟩ := B
    have hc := hb.get (q + i / 8)
    have e : (q : Int) + ((i / 8 : Nat) : Int) = ((q + i / 8 : Nat) : Int) := by omega
    simp only [S_ref12_keeps_0]
    rw [wrap64 (x := 8 * (((many + 7) / 8 : Nat) : Int)) (by omega) (by omega), dec_t (by omega), tdiv8, tmod8, wrap64 (x := ((i / 8 : Nat) : Int)) (by omega) (by omega), e, wrap64 (x := ((q + i / 8 : Nat) : Int)) (by omega) (by omega), dec_t (by omega), dec_f (by omega), Int.toNat_natCast, and_bit8 hc.1 hc.2, wrap64 (x := (i : Int) + 1) (by omega) (by omega), cd]
    by_cases him : i < many
    · rw [if_pos (by omega), dec_t (by simp [keepL]; omega)]
      have e1 : min i many = i := by omega
      have e2 : min (i + 1) many = i + 1 := by omega
      rw [e1, e2]
      unfold keepL
      rw [range_map_succ]
      rfl
    · rw [if_neg (by omega)]
      have hz : bit8 (b.getD (q + i / 8) 0) (i % 8) = 0 := by rcases hk with h | h; exact absurd h him; exact h
      rw [hz, dec_f (by omega)]
      have e1 : min i many = many := by omega
      have e2 : min (i + 1) many = many := by omega
      rw [e1, e2]
      rfl
  rcases nat_or_first (fun i => i < many ∨ bitA b q i = 0) (8 * ((many + 7) / 8)) with h | ⟨n, hn, hbad, hall⟩
  · rw [if_pos (show restK b q many from h)]
    refine iter_seq (step := S_ref12_keeps_0 fl) (fun i : Nat => (b, (q : Int), (many : Int), (((many + 7) / 8 : Nat) : Int), (i : Int), keepL b q (min i many))) (8 * ((many + 7) / 8)) rfl (fun i hi c => round i hi (h i hi) c _) (fun c => ?_) (by omega)
    simp only [S_ref12_keeps_0]
    rw [wrap64 (x := 8 * (((many + 7) / 8 : Nat) : Int)) (by omega) (by omega), dec_f (by omega), show min (8 * ((many + 7) / 8)) many = many by omega, wrap64 (by omega) (by omega)]
  · rw [if_neg (show ¬ restK b q many from fun h => hbad (h n hn))]
    refine iter_seq (step := S_ref12_keeps_0 fl) (fun i : Nat => (b, (q : Int), (many : Int), (((many + 7) / 8 : Nat) : Int), (i : Int), keepL b q (min i many))) n rfl (fun i hi c => round i (by omega) (hall i hi) c _) (fun c => ?_) (by omega)
    have hc := hb.get (q + n / 8)
    have e : (q : Int) + ((n / 8 : Nat) : Int) = ((q + n / 8 : Nat) : Int) := by omega
    have hb1 : bit8 (b.getD (q + n / 8) 0) (n % 8) = 1 := by
      rcases bitA_01 b q n with h | h
      · exact absurd (.inr h) hbad
      · exact h
    have hnm : ¬ n < many := fun h => hbad (.inl h)
    simp only [S_ref12_keeps_0]
    rw [wrap64 (x := 8 * (((many + 7) / 8 : Nat) : Int)) (by omega) (by omega), dec_t (by omega), tdiv8, tmod8, wrap64 (x := ((n / 8 : Nat) : Int)) (by omega) (by omega), e, wrap64 (x := ((q + n / 8 : Nat) : Int)) (by omega) (by omega), dec_t (by omega), dec_f (by omega), Int.toNat_natCast, dec_f (by omega), and_bit8 hc.1 hc.2, hb1, dec_t rfl]

/-! ### The program's reader -/
theorem psize0 {fl : Nat} (hfl : 9223372036854775808 ≤ fl) {b : List Int} (hb : Bytes b) {p most : Int} {K : Int × List Int × Int × Int → Option Ans} : F_segment_reader_size fl b p 0 most K = match numR b p most with | .bad e => K (0, b, p, e) | .ok v q => K (v, b, q, 0) := by
  unfold F_segment_reader_size Fg_segment_reader_size numR
  rw [cond_f (by rfl)]
  simp only [getsize hfl hb, cb, cn, cd, both_same]
  by_cases h : (getR b p).2.2 = 0
  · by_cases h2 : (getR b p).1 > most
    · simp [h, h2]
    · simp [h, h2]
  · simp [h]
theorem psizeE {fl : Nat} {b : List Int} {p most e : Int} (he : e ≠ 0) {K : Int × List Int × Int × Int → Option Ans} : F_segment_reader_size fl b p e most K = K (0, b, p, e) := by
  unfold F_segment_reader_size Fg_segment_reader_size
  rw [cond_t (by simpa using he)]
theorem pbytes0 {fl : Nat} {b : List Int} (hb : Bytes b) {p : Int} (h0 : 0 ≤ p) (h1 : p ≤ b.length) {n : Nat} (hn : n ≤ 1000000) {K : List Int × List Int × Int × Int → Option Ans} :
    F_segment_reader_bytes fl b p 0 (n : Int) K = if p + n > b.length then K (List.replicate n 0, b, p, 6) else K ((b.drop p.toNat).take n, b, p + n, 0) := by
  have hl := hb.1
  unfold F_segment_reader_bytes
  simp only [loOf, hiOf]
  rw [cond_t (by rfl), wrap64 (x := (b.length : Int) - p) (by omega) (by omega), wrap64 (x := p + n) (by omega) (by omega), show p + (n : Int) - n = p by omega, wrap64 (x := p) (by omega) (by omega), cd]
  by_cases h : p + (n : Int) > b.length
  · rw [if_pos (by omega), if_pos h, dec_t (by simp; omega), Int.toNat_natCast]
  · rw [if_neg (by omega), if_neg h, cond_f (by rfl)]
    refine (cond_t (decide_eq_true (p := 0 ≤ p ∧ p ≤ p + (n : Int) ∧ p + (n : Int) ≤ b.length) ⟨by omega, by omega, by omega⟩)).trans ?_
    rw [show (p + (n : Int) - p).toNat = n by omega]
theorem pbytesE {fl : Nat} {b : List Int} {p e : Int} (he : e ≠ 0) {n : Nat} (hn : n ≤ 1000000) {K : List Int × List Int × Int × Int → Option Ans} :
    F_segment_reader_bytes fl b p e (n : Int) K = K (List.replicate n 0, b, p, e) := by
  unfold F_segment_reader_bytes
  rw [cond_f (by simpa using he), cond_t (by simpa using he), dec_t (by omega), Int.toNat_natCast]
theorem pform0 {fl : Nat} {b : List Int} {p : Int} {c : Bool} {K : List Int × Int × Int → Option Ans} : F_segment_reader_form fl b p 0 c K = K (b, p, if c = true then 0 else 3) := by
  unfold F_segment_reader_form
  cases c <;> rfl
theorem pformE {fl : Nat} {b : List Int} {p e : Int} (he : e ≠ 0) {c : Bool} {K : List Int × Int × Int → Option Ans} : F_segment_reader_form fl b p e c K = K (b, p, e) := by
  unfold F_segment_reader_form
  rw [cond_f (by simpa using he)]

theorem prefs_err {fl : Nat} {b : List Int} {p e of_ : Int} (he : e ≠ 0) (h0 : 0 ≤ of_) (h1 : of_ ≤ 100000) {many : Nat} (hm : many ≤ 20) {brk : List Int × Int × Int × List Int → Option Ans} :
    ∀ (f i : Nat) (out : List Int) (m : Nat), f + i = many → f < m → out.length ≤ i →
      iter (S_segment_reader_refs_0 fl) m (of_, (many : Int), (i : Int), b, p, e, out) brk = brk (b, p, e, out ++ List.replicate f of_)
  | 0, i, out, m, hi, hm', ho => by
    obtain ⟨m, rfl⟩ : ∃ k, m = k + 1 := ⟨m - 1, by omega⟩
    simp only [iter, S_segment_reader_refs_0, Sg_segment_reader_refs_0]
    rw [dec_f (by omega)]
    simp
  | f + 1, i, out, m, hi, hm', ho => by
    obtain ⟨m, rfl⟩ : ∃ k, m = k + 1 := ⟨m - 1, by omega⟩
    simp only [iter, S_segment_reader_refs_0, Sg_segment_reader_refs_0]
    rw [dec_t (by omega), psizeE he]
    dsimp only
    rw [dec_f (by omega), pformE he]
    dsimp only
    rw [show of_ - 0 = of_ by omega, wrap64 (by omega) (by omega), dec_t (by simp; omega), wrap64 (by omega) (by omega)]
    have := prefs_err (fl := fl) (b := b) (p := p) he h0 h1 hm (brk := brk) f (i + 1) (out ++ [of_]) m (by omega) (by omega) (by simp; omega)
    rw [List.append_assoc, show [of_] ++ List.replicate f of_ = List.replicate (f + 1) of_ from rfl] at this
    exact this
theorem prefs_go {fl : Nat} (hfl : 9223372036854775808 ≤ fl) {b : List Int} (hb : Bytes b) {of_ : Int} (h0 : 0 ≤ of_) (h1 : of_ ≤ 100000) {many : Nat} (hm : many ≤ 20) :
    ∀ (f i : Nat) (p last : Int) (out : List Int), f + i = many → out.length = i → ((out.length = 0 ∧ last = of_ + 1) ∨ (0 < out.length ∧ out.getD (out.length - 1) 0 = of_ - last)) →
      ∃ (p' : Int) (out' : List Int), out'.length = many ∧ ∀ m brk, f < m → iter (S_segment_reader_refs_0 fl) m (of_, (many : Int), (i : Int), b, p, 0, out) brk = match refsGo b of_ f p last out with | .bad e => brk (b, p', e, out') | .ok r q => brk (b, q, 0, r)
  | 0, i, p, last, out, hi, ho, hlast => by
    refine ⟨p, out, by omega, fun m brk hm' => ?_⟩
    obtain ⟨m, rfl⟩ : ∃ k, m = k + 1 := ⟨m - 1, by omega⟩
    simp only [iter, S_segment_reader_refs_0, Sg_segment_reader_refs_0, refsGo]
    rw [dec_f (by omega)]
  | f + 1, i, p, last, out, hi, ho, hlast => by
    cases hn : numR b p of_ with
    | bad e =>
      have he := numR_bad hn
      refine ⟨p, out ++ [of_] ++ List.replicate f of_, by simp; omega, fun m brk hm' => ?_⟩
      obtain ⟨m, rfl⟩ : ∃ k, m = k + 1 := ⟨m - 1, by omega⟩
      simp only [iter, S_segment_reader_refs_0, Sg_segment_reader_refs_0, refsGo, hn]
      rw [dec_t (by omega), psize0 hfl hb, hn]
      dsimp only
      rw [dec_f (by omega), pformE he]
      dsimp only
      rw [show of_ - 0 = of_ by omega, wrap64 (x := of_) (by omega) (by omega), dec_t (by simp; omega), wrap64 (by omega) (by omega)]
      exact prefs_err he h0 h1 hm f (i + 1) (out ++ [of_]) m (by omega) (by omega) (by simp; omega)
    | ok d q =>
      obtain ⟨a1, a2, a3, a4, a5, a6⟩ := numR_ok hb hn
      by_cases hd : d = 0
      · refine ⟨q, out ++ [of_ - d] ++ List.replicate f of_, by simp; omega, fun m brk hm' => ?_⟩
        obtain ⟨m, rfl⟩ : ∃ k, m = k + 1 := ⟨m - 1, by omega⟩
        simp only [iter, S_segment_reader_refs_0, Sg_segment_reader_refs_0, refsGo, hn]
        rw [dec_t (by omega), psize0 hfl hb, hn]
        dsimp only
        rw [dec_f (by omega), pform0, if_pos hd]
        dsimp only
        rw [if_neg (by simp), wrap64 (x := of_ - d) (by omega) (by omega), dec_t (by simp; omega), wrap64 (by omega) (by omega)]
        exact prefs_err (by omega) h0 h1 hm f (i + 1) _ m (by omega) (by omega) (by simp; omega)
      · by_cases hl : d ≥ last
        · have hne : 0 < out.length := by rcases hlast with h | h; omega; exact h.1
          have hlv : out.getD (out.length - 1) 0 = of_ - last := by rcases hlast with h | h; omega; exact h.2
          refine ⟨q, out ++ [of_ - d] ++ List.replicate f of_, by simp; omega, fun m brk hm' => ?_⟩
          obtain ⟨m, rfl⟩ : ∃ k, m = k + 1 := ⟨m - 1, by omega⟩
          simp only [iter, S_segment_reader_refs_0, Sg_segment_reader_refs_0, refsGo, hn]
          rw [dec_t (by omega), psize0 hfl hb, hn]
          dsimp only
          rw [dec_t (by omega), cond_f (by simp; intro e; subst e; simp at hne), wrap64 (x := (out.length : Int) - 1) (by omega) (by omega), dec_t (by omega), show ((out.length : Int) - 1).toNat = out.length - 1 by omega, hlv, wrap64 (x := of_ - d) (by omega) (by omega), decide_eq_false (show ¬ of_ - d > of_ - last by omega), pform0, if_neg hd, if_pos hl]
          dsimp only
          rw [if_neg (by simp), dec_t (by simp; omega), wrap64 (by omega) (by omega)]
          exact prefs_err (by omega) h0 h1 hm f (i + 1) _ m (by omega) (by omega) (by simp; omega)
        · obtain ⟨p', out', e1, e2⟩ := prefs_go hfl hb h0 h1 hm f (i + 1) q d (out ++ [of_ - d]) (by omega) (by simp; omega) (.inr ⟨by simp, by simp⟩)
          refine ⟨p', out', e1, fun m brk hm' => ?_⟩
          obtain ⟨m, rfl⟩ : ∃ k, m = k + 1 := ⟨m - 1, by omega⟩
          simp only [iter, S_segment_reader_refs_0, Sg_segment_reader_refs_0, refsGo, hn]
          rw [dec_t (by omega), psize0 hfl hb, hn]
          dsimp only
          rw [dec_t (by omega), if_neg hd, if_neg hl, wrap64 (x := of_ - d) (by omega) (by omega)]
          rcases hlast with ⟨hz, hv⟩ | ⟨hz, hv⟩
          · rw [cond_t (by simp; exact List.eq_nil_of_length_eq_zero hz), pform0]
            dsimp only
            rw [if_pos rfl, dec_t (by simp; omega), wrap64 (by omega) (by omega)]
            exact e2 m brk (by omega)
          · rw [cond_f (by simp; intro e; subst e; simp at hz), wrap64 (x := (out.length : Int) - 1) (by omega) (by omega), dec_t (by omega), show ((out.length : Int) - 1).toNat = out.length - 1 by omega, hv, decide_eq_true (show of_ - d > of_ - last by omega), pform0]
            dsimp only
            rw [if_pos rfl, dec_t (by simp; omega), wrap64 (by omega) (by omega)]
            exact e2 m brk (by omega)
theorem prefs {fl : Nat} (hfl : 9223372036854775808 ≤ fl) {b : List Int} (hb : Bytes b) {p of_ : Int} (h0 : 0 ≤ of_) (h1 : of_ ≤ 100000) :
    ∃ (p' : Int) (out' : List Int), out'.length ≤ 20 ∧ ∀ K : List Int × Int × Int × List Int → Option Ans, F_segment_reader_refs fl b p 0 of_ K = match refsR b p of_ with | .bad e => K (b, p', e, out') | .ok r q => K (b, q, 0, r) := by
  unfold F_segment_reader_refs Fg_segment_reader_refs refsR
  cases hn : numR b p 20 with
  | bad e =>
    have he := numR_bad hn
    refine ⟨p, [], by simp, fun K => ?_⟩
    rw [psize0 hfl hb, hn]
    dsimp only
    rw [pformE he]
    dsimp only
    unfold L_segment_reader_refs_0
    rw [show ((0 : Int)) = ((0 : Nat) : Int) from rfl, prefs_err he h0 h1 (many := 0) (by omega) 0 0 [] fl rfl (by omega) (by simp)]
    simp
  | ok d q =>
    obtain ⟨a1, a2, a3, a4, a5, a6⟩ := numR_ok hb hn
    by_cases hd : d = 0
    · refine ⟨q, [], by simp, fun K => ?_⟩
      subst hd
      rw [psize0 hfl hb, hn]
      dsimp only
      rw [decide_eq_false (show ¬ (0 : Int) > 0 by omega), pform0, if_pos rfl]
      dsimp only
      rw [if_neg (by simp)]
      unfold L_segment_reader_refs_0
      rw [show ((0 : Int)) = ((0 : Nat) : Int) from rfl, prefs_err (by omega) h0 h1 (many := 0) (by omega) 0 0 [] fl rfl (by omega) (by simp)]
      simp
    · obtain ⟨many, rfl⟩ : ∃ k : Nat, d = k := ⟨d.toNat, by omega⟩
      obtain ⟨p', out', e1, e2⟩ := prefs_go hfl hb h0 h1 (many := many) (by omega) many 0 q (of_ + 1) [] (by omega) rfl (.inl ⟨rfl, rfl⟩)
      refine ⟨p', out', by omega, fun K => ?_⟩
      rw [psize0 hfl hb, hn]
      dsimp only
      rw [decide_eq_true (show (many : Int) > 0 by omega), pform0, if_neg hd, Int.toNat_natCast]
      dsimp only
      rw [if_pos rfl]
      unfold L_segment_reader_refs_0
      exact e2 fl _ (by omega)

/-! ### Unpack -/
def bitsU (l : List Int) : List Int := (List.range (8 * l.length)).map fun i => bit8 (l.getD (i / 8) 0) (i % 8)
theorem bitsU_len (l : List Int) : (bitsU l).length = 8 * l.length := by simp [bitsU]
theorem unpack {fl : Nat} (hfl : 9223372036854775808 ≤ fl) {l : List Int} (hb : ∀ x ∈ l, 0 ≤ x ∧ x ≤ 255) (hl : l.length ≤ 1000000) {K : Int × List Int → Option Ans} : F_bits_Unpack fl l (IntKind.i64.wrap (8 * (l.length : Int))) K = K (0, bitsU l) := by
  unfold F_bits_Unpack
  rw [wrap64 (by omega) (by omega), dec_f (by omega), dec_f (by omega), dec_t (by omega), show (8 * (l.length : Int)).toNat = 8 * l.length by omega, List.length_replicate]
  unfold L_bits_Unpack_1
  refine iter_seq (step := S_bits_Unpack_1 fl) (fun i : Nat => (l, ((8 * l.length : Nat) : Int), (i : Int), fillL (fun i => bit8 (l.getD (i / 8) 0) (i % 8)) (8 * l.length) i)) (8 * l.length) (by simp only [fillL_zero]; rfl) (fun i hi c => ?_) (fun c => ?_) (by omega)
  · have hc := hb _ (getD_mem (show i / 8 < l.length by omega) 0)
    simp only [S_bits_Unpack_1]
    rw [dec_t (by omega), tdiv8, tmod8, wrap64 (x := ((i / 8 : Nat) : Int)) (by omega) (by omega), dec_t (by omega), wrap64 (x := 7 - ((i % 8 : Nat) : Int)) (by omega) (by omega), dec_f (by omega), dec_t (by rw [fillL_len]; omega), Int.toNat_natCast, Int.toNat_natCast, shr_bit8 hc.1 hc.2, wrap64 (by omega) (by omega)]
    rw [show (fillL (fun i => bit8 (l.getD (i / 8) 0) (i % 8)) (8 * l.length) i).set i (bit8 (l.getD (i / 8) 0) (i % 8)) = fillL (fun i => bit8 (l.getD (i / 8) 0) (i % 8)) (8 * l.length) (i + 1) from fillL_set]
    rfl
  · simp (disch := omega) only [S_bits_Unpack_1, dec_f]
    rw [fillL_all]
    rfl
end Go.Proofs.Ytihfgpfofmjbaaa.Seg

set_option linter.unusedVariables false
set_option linter.unusedSimpArgs false
namespace Go.Proofs.Ytihfgpfofmjbaaa.Seg
open Go Ev Bm

/-- A header: number, kind, page, how many bytes of data, what is referred to, what is kept. -/
abbrev HdT := Int × Int × Int × Int × List Int × List Bool
def tailG (b : List Int) (n k : Int) (refs : List Int) (p : Int) (keep : List Bool) : Rd HdT := match numR b p 1000 with
  | .bad e => .bad e
  | .ok pg q => match numR b q 20000 with
    | .bad e => .bad e
    | .ok ln r => .ok (n, k, pg, ln, refs, keep) r
def keepG (b : List Int) (n k : Int) (refs : List Int) (p : Int) : Rd HdT := match keepsR b p (refs.length + 1) with
  | .bad e => .bad e
  | .ok keep q => tailG b n k refs q keep
def headG (b : List Int) (p : Int) : Rd HdT := match numR b p 10000 with
  | .bad e => .bad e
  | .ok n q =>
    if q ≥ b.length then .bad 6
    else if b.getD q.toNat 0 > 31 then .bad 3
    else if b.getD q.toNat 0 ≥ 16 then (match refsR b (q + 1) n with
      | .bad e => .bad e
      | .ok refs r => keepG b n (b.getD q.toNat 0 % 16) refs r)
    else keepG b n (b.getD q.toNat 0 % 16) [] (q + 1)
/-- What GetHeader returns. -/
def outG : Rd HdT → Int × Int × Int × Int × Int × Int × List Int × List Bool × List Int
  | .bad e => (0, 0, 0, 0, 0, e, [], [], [])
  | .ok (n, k, pg, ln, refs, keep) q => (n, k, pg, ln, q, 0, refs, keep, [])
def getH (b : List Int) (p : Int) : Int × Int × Int × Int × Int × Int × List Int × List Bool × List Int :=
  if p < 0 ∨ p > b.length then (0, 0, 0, 0, 0, 2, [], [], []) else outG (headG b p)

theorem keepsR_bad {b : List Int} {p e : Int} {many : Nat} (h : keepsR b p many = .bad e) : e ≠ 0 := by
  unfold keepsR at h
  split at h
  · cases h; omega
  · split at h
    · cases h
    · cases h; omega
theorem keepsR_ok {b : List Int} {p x : Int} {many : Nat} {r : List Bool} (h0 : 0 ≤ p) (h : keepsR b p many = .ok r x) : 0 ≤ x ∧ x ≤ b.length := by
  unfold keepsR at h
  split at h
  · cases h
  · split at h
    · cases h; omega
    · cases h
theorem refsR_bad {b : List Int} {p n e : Int} (h : refsR b p n = .bad e) : e ≠ 0 := by
  unfold refsR at h
  split at h
  · rename_i h1; cases h; exact numR_bad h1
  · split at h
    · cases h; omega
    · exact refsGo_bad h
theorem refsR_ok {b : List Int} (hb : Bytes b) {p n x : Int} {r : List Int} (h : refsR b p n = .ok r x) : r.length ≤ 20 ∧ 0 ≤ x ∧ x ≤ b.length := by
  unfold refsR at h
  split at h
  · cases h
  · rename_i d q h1
    obtain ⟨a1, a2, a3, a4, a5, a6⟩ := numR_ok hb h1
    split at h
    · cases h
    · have := refsGo_ok hb (by omega) (by omega) h
      simp at this
      omega

/-! ### The reference -/
theorem rtail {fl : Nat} (hfl : 9223372036854775808 ≤ fl) {b : List Int} (hb : Bytes b) {n k p : Int} {refs : List Int} (h0 : 0 ≤ p) (h1 : p ≤ b.length) (hr : refs.length ≤ 20) :
    ∃ (j : Int × Int × Int × Int × Int × List Int × List Bool), ∀ K : Int × Int × Int × Int × Int × Int × List Int × List Bool × List Int → Option Ans,
    (F_ref12_keeps fl b p (IntKind.i64.wrap ((refs.length : Int) + 1)) (fun (y16_0, y16_1, y16_2) =>
      bif y16_1 != 0 then K (n, k, 0, 0, 0, y16_1, refs, y16_2, [])
      else F_ref12_number fl b y16_0 1000 (fun (y21_0, y21_1, y21_2) =>
        bif y21_2 != 0 then K (n, k, y21_0, 0, 0, y21_2, refs, y16_2, [])
        else F_ref12_number fl b y21_1 20000 (fun (y26_0, y26_1, y26_2) => K (n, k, y21_0, y26_0, y26_1, y26_2, refs, y16_2, [])))))
    = match keepG b n k refs p with
      | .bad e => K (j.1, j.2.1, j.2.2.1, j.2.2.2.1, j.2.2.2.2.1, e, j.2.2.2.2.2.1, j.2.2.2.2.2.2, [])
      | .ok (n, k, pg, ln, refs, keep) q => K (n, k, pg, ln, q, 0, refs, keep, []) := by
  have ew : IntKind.i64.wrap ((refs.length : Int) + 1) = ((refs.length + 1 : Nat) : Int) := by rw [wrap64 (by omega) (by omega)]; rfl
  rw [ew]
  unfold keepG
  cases hk : keepsR b p (refs.length + 1) with
  | bad e =>
    have he := keepsR_bad hk
    refine ⟨(n, k, 0, 0, 0, refs, []), fun K => ?_⟩
    rw [rkeeps hfl hb h0 h1 (by omega), hk]
    dsimp only
    rw [cond_t (by simpa using he)]
  | ok keep q =>
    obtain ⟨q0, q1⟩ := keepsR_ok h0 hk
    obtain ⟨x, y, hN⟩ := rnumber hfl hb (p := q) (most := 1000)
    unfold tailG
    cases hn : numR b q 1000 with
    | bad e =>
      have he := numR_bad hn
      refine ⟨(n, k, x, 0, 0, refs, keep), fun K => ?_⟩
      rw [rkeeps hfl hb h0 h1 (by omega), hk]
      dsimp only
      rw [cond_f (by rfl), hN, hn]
      dsimp only
      rw [cond_t (by simpa using he)]
    | ok pg r =>
      obtain ⟨x2, y2, hN2⟩ := rnumber hfl hb (p := r) (most := 20000)
      refine ⟨(n, k, pg, x2, y2, refs, keep), fun K => ?_⟩
      rw [rkeeps hfl hb h0 h1 (by omega), hk]
      dsimp only
      rw [cond_f (by rfl), hN, hn]
      dsimp only
      rw [cond_f (by rfl), hN2]
      cases numR b r 20000 with
      | bad e => rfl
      | ok ln s => rfl
theorem keepG_bad {b : List Int} {n k p e : Int} {refs : List Int} (h : keepG b n k refs p = .bad e) : e ≠ 0 := by
  unfold keepG tailG at h
  split at h
  · rename_i h1; cases h; exact keepsR_bad h1
  · split at h
    · rename_i h1; cases h; exact numR_bad h1
    · split at h
      · rename_i h1; cases h; exact numR_bad h1
      · cases h
theorem rgetheader {fl : Nat} (hfl : 9223372036854775808 ≤ fl) {b : List Int} (hb : Bytes b) {p : Int} {K : Int × Int × Int × Int × Int × Int × List Int × List Bool × List Int → Option Ans} : F_ref12_GetHeader fl b p K = K (getH b p) := by
  unfold F_ref12_GetHeader Fg_ref12_GetHeader getH
  by_cases h0 : p < 0
  · rw [dec_t h0, if_pos (.inl h0)]
  by_cases h1 : p > b.length
  · rw [dec_f h0, dec_t h1, if_pos (.inr h1)]
  rw [dec_f h0, dec_f h1, if_neg (by rintro (h | h) <;> omega)]
  unfold F_ref12_header Fg_ref12_header headG
  obtain ⟨x, y, hN⟩ := rnumber hfl hb (p := p) (most := 10000)
  rw [hN]
  cases hn : numR b p 10000 with
  | bad e =>
    have he := numR_bad hn
    dsimp only
    rw [cond_t (by simpa using he)]
    try dsimp only
    rw [cond_t (by simpa using he)]
    rfl
  | ok n q =>
    obtain ⟨a1, a2, a3, a4, a5, a6⟩ := numR_ok hb hn
    have hl := hb.1
    have hc := hb.get q.toNat
    dsimp only
    rw [cond_f (by rfl)]
    by_cases hq : q ≥ b.length
    · rw [dec_t hq, if_pos hq]
      rfl
    rw [dec_f hq, if_neg hq, dec_t (by omega), wrap64 (x := b.getD q.toNat 0) (by omega) (by omega)]
    by_cases h31 : b.getD q.toNat 0 > 31
    · rw [dec_t h31, if_pos h31]
      rfl
    rw [dec_f h31, if_neg h31, wrap64 (x := q + 1) (by omega) (by omega)]
    have em : (b.getD q.toNat 0).tmod 16 = b.getD q.toNat 0 % 16 := Int.tmod_eq_emod_of_nonneg hc.1
    rw [em]
    by_cases h16 : b.getD q.toNat 0 ≥ 16
    · rw [dec_t h16, if_pos h16, rrefs hfl hb a2 (by omega)]
      cases hr : refsR b (q + 1) n with
      | bad e =>
        have he := refsR_bad hr
        dsimp only
        rw [cond_t (by simpa using he)]
        try dsimp only
        rw [cond_t (by simpa using he)]
        rfl
      | ok refs r =>
        obtain ⟨r1, r2, r3⟩ := refsR_ok hb hr
        dsimp only
        rw [cond_f (by rfl)]
        obtain ⟨j, hj⟩ := rtail hfl hb (n := n) (k := b.getD q.toNat 0 % 16) (p := r) (refs := refs) r2 r3 r1
        refine (hj (fun (y : Int × Int × Int × Int × Int × Int × List Int × List Bool × List Int) => bif y.2.2.2.2.2.1 != 0 then K (0, 0, 0, 0, 0, y.2.2.2.2.2.1, [], [], []) else K (y.1, y.2.1, y.2.2.1, y.2.2.2.1, y.2.2.2.2.1, 0, y.2.2.2.2.2.2.1, y.2.2.2.2.2.2.2.1, y.2.2.2.2.2.2.2.2))).trans ?_
        cases hk : keepG b n (b.getD q.toNat 0 % 16) refs r with
        | bad e =>
          have he := keepG_bad hk
          dsimp only
          rw [cond_t (by simpa using he)]
          rfl
        | ok h s => rfl
    · rw [dec_f h16, if_neg h16]
      obtain ⟨j, hj⟩ := rtail hfl hb (n := n) (k := b.getD q.toNat 0 % 16) (p := q + 1) (refs := []) (by omega) (by omega) (by simp)
      refine (hj (fun (y : Int × Int × Int × Int × Int × Int × List Int × List Bool × List Int) => bif y.2.2.2.2.2.1 != 0 then K (0, 0, 0, 0, 0, y.2.2.2.2.2.1, [], [], []) else K (y.1, y.2.1, y.2.2.1, y.2.2.2.1, y.2.2.2.2.1, 0, y.2.2.2.2.2.2.1, y.2.2.2.2.2.2.2.1, y.2.2.2.2.2.2.2.2))).trans ?_
      cases hk : keepG b n (b.getD q.toNat 0 % 16) [] (q + 1) with
      | bad e =>
        have he := keepG_bad hk
        dsimp only
        rw [cond_t (by simpa using he)]
        rfl
      | ok h s => rfl

/-! ### The program -/
def errK (e : Int) (many : Nat) (bits : List Int) (i : Nat) : Int := if e = 0 ∧ ((List.range i).any fun j => decide (many ≤ j) && bits.getD j 0 != 0) = true then 3 else e
theorem errK_succ {e : Int} {many : Nat} {bits : List Int} {i : Nat} : errK e many bits (i + 1) = if errK e many bits i = 0 ∧ (decide (many ≤ i) && bits.getD i 0 != 0) = true then 3 else errK e many bits i := by
  unfold errK
  rw [List.range_succ, List.any_append]
  simp only [List.any_cons, List.any_nil, Bool.or_false, Bool.or_eq_true]
  generalize ((List.range i).any fun j => decide (many ≤ j) && bits.getD j 0 != 0) = A
  generalize (decide (many ≤ i) && bits.getD i 0 != 0) = C
  by_cases he : e = 0 <;> cases A <;> cases C <;> simp [he]
theorem pkeep_loop {fl : Nat} (hfl : 9223372036854775808 ≤ fl) {b : List Int} {many : Nat} {n k p e : Int} {bits refs : List Int} (hm : many ≤ 1000) (hl : bits.length ≤ 1000000) {B} :
    L_segment_GetHeader_0 fl ((many : Int), (bits.length : Int), 0, n, k, 0, b, p, e, bits, refs, [], []) B = B (n, k, 0, b, p, errK e many bits bits.length, refs, (List.range (min bits.length many)).map fun i => bits.getD i 0 == 1, []) := by
  unfold L_segment_GetHeader_0
  refine iter_seq (step := S_segment_GetHeader_0 fl) (fun i : Nat => ((many : Int), (bits.length : Int), (i : Int), n, k, 0, b, p, errK e many bits i, bits, refs, (List.range (min i many)).map fun i => bits.getD i 0 == 1, [])) bits.length (by simp [errK]) (fun i hi c => ?_) (fun c => ?_) (by omega)
  · simp only [S_segment_GetHeader_0, Sg_segment_GetHeader_0]
    rw [dec_t (by omega), dec_t (by omega), wrap64 (by omega) (by omega), Int.toNat_natCast, errK_succ]
    by_cases him : i < many
    · have e1 : min i many = i := by omega
      have e2 : min (i + 1) many = i + 1 := by omega
      rw [dec_t (by omega), dec_t (by simp; omega), e1, e2, range_map_succ, if_neg (by simp; omega)]
      rfl
    · have e1 : min i many = many := by omega
      have e2 : min (i + 1) many = many := by omega
      rw [dec_f (by omega), e1, e2]
      by_cases he : errK e many bits i = 0
      · rw [he, pform0]
        by_cases hz : bits.getD i 0 = 0
        · rw [if_pos (by simpa using hz), if_neg (by rw [hz]; simp)]
          rfl
        · rw [if_neg (by simpa using hz), if_pos ⟨rfl, by simp; exact ⟨by omega, by simpa using hz⟩⟩]
          rfl
      · rw [pformE he, if_neg (fun h => he h.1)]
        rfl
  · simp (disch := omega) only [S_segment_GetHeader_0, Sg_segment_GetHeader_0, dec_f]

theorem bitsU_get {b : List Int} {q n i : Nat} (hi : i < 8 * n) (hq : q + n ≤ b.length) : (bitsU ((b.drop q).take n)).getD i 0 = bitA b q i := by
  have hl : ((b.drop q).take n).length = n := by rw [List.length_take, List.length_drop]; omega
  unfold bitsU bitA
  rw [range_getD _ (by rw [hl]; exact hi)]
  congr 1
  rw [getD_lt (by rw [hl]; omega), getD_lt (by omega)]
  simp
/-- What follows behind the keep's place. -/
theorem ptail {fl : Nat} (hfl : 9223372036854775808 ≤ fl) {b : List Int} (hb : Bytes b) {n k p e : Int} {refs : List Int} (h01 : e = 0 → 0 ≤ p ∧ p ≤ b.length) (hr : refs.length ≤ 20) {K : Int × Int × Int × Int × Int × Int × List Int × List Bool × List Int → Option Ans} :
    (F_segment_reader_bytes fl b p e (IntKind.i64.wrap ((IntKind.i64.wrap (IntKind.i64.wrap ((refs.length : Int) + 1) + 7)).tdiv 8)) (fun (y0, y1, y2, y3) =>
      F_bits_Unpack fl y0 (IntKind.i64.wrap (8 * (y0.length : Int))) (fun (z0, z1) =>
        L_segment_GetHeader_0 fl (IntKind.i64.wrap ((refs.length : Int) + 1), (z1.length : Int), 0, n, k, 0, y1, y2, y3, z1, refs, [], []) (fun (b0, b1, b2, b3, b4, b5, b6, b7, b8) =>
          F_segment_reader_size fl b3 b4 b5 1000 (fun (s0, s1, s2, s3) =>
            F_segment_reader_size fl s1 s2 s3 20000 (fun (t0, t1, t2, t3) =>
              bif t3 != 0 then K (0, 0, 0, 0, 0, t3, [], [], []) else K (b0, b1, s0, t0, t2, 0, b6, b7, b8)))))))
    = if e = 0 then K (outG (keepG b n k refs p)) else K (0, 0, 0, 0, 0, e, [], [], []) := by
  have ew : IntKind.i64.wrap ((refs.length : Int) + 1) = ((refs.length + 1 : Nat) : Int) := by rw [wrap64 (by omega) (by omega)]; rfl
  rw [ew, up8 _ (by omega)]
  generalize hm : refs.length + 1 = many
  have hm1 : many ≤ 21 := by omega
  have err : ∀ (p e : Int) (l : List Int), e ≠ 0 → l.length ≤ 1000 → (∀ x ∈ l, 0 ≤ x ∧ x ≤ 255) → (F_bits_Unpack fl l (IntKind.i64.wrap (8 * (l.length : Int))) (fun (z0, z1) =>
        L_segment_GetHeader_0 fl ((many : Int), (z1.length : Int), 0, n, k, 0, b, p, e, z1, refs, [], []) (fun (b0, b1, b2, b3, b4, b5, b6, b7, b8) =>
          F_segment_reader_size fl b3 b4 b5 1000 (fun (s0, s1, s2, s3) =>
            F_segment_reader_size fl s1 s2 s3 20000 (fun (t0, t1, t2, t3) =>
              bif t3 != 0 then K (0, 0, 0, 0, 0, t3, [], [], []) else K (b0, b1, s0, t0, t2, 0, b6, b7, b8)))))) = K (0, 0, 0, 0, 0, e, [], [], []) := by
    intro p e l he hl hx
    rw [unpack hfl hx (by omega)]
    dsimp only
    rw [pkeep_loop hfl (by omega) (by rw [bitsU_len]; omega)]
    dsimp only
    have ee : errK e many (bitsU l) (bitsU l).length = e := by unfold errK; rw [if_neg (fun h => he h.1)]
    rw [ee, psizeE he]
    dsimp only
    rw [psizeE he]
    dsimp only
    rw [cond_t (by simpa using he)]
  by_cases he : e = 0
  · obtain ⟨h0, h1⟩ := h01 he
    subst he
    rw [if_pos rfl, pbytes0 hb h0 h1 (by omega)]
    unfold keepG keepsR
    rw [hm]
    by_cases hend : p + ((many + 7) / 8 : Nat) > b.length
    · rw [if_pos hend, if_pos hend]
      dsimp only
      rw [err p 6 _ (by omega) (by simp; omega) (by intro x hx; have := List.eq_of_mem_replicate hx; omega)]
      rfl
    rw [if_neg hend, if_neg hend]
    dsimp only
    obtain ⟨q, rfl⟩ : ∃ q : Nat, p = q := ⟨p.toNat, by omega⟩
    rw [Int.toNat_natCast]
    have hq : q + (many + 7) / 8 ≤ b.length := by omega
    have hll : ((b.drop q).take ((many + 7) / 8)).length = (many + 7) / 8 := by rw [List.length_take, List.length_drop]; omega
    have hx : ∀ x ∈ (b.drop q).take ((many + 7) / 8), 0 ≤ x ∧ x ≤ 255 := fun x hx => hb.2 x (List.mem_of_mem_drop (List.mem_of_mem_take hx))
    rw [unpack hfl hx (by omega)]
    dsimp only
    rw [pkeep_loop hfl (by omega) (by rw [bitsU_len]; omega)]
    dsimp only
    have hkl : ((List.range (min (bitsU ((b.drop q).take ((many + 7) / 8))).length many)).map fun i => (bitsU ((b.drop q).take ((many + 7) / 8))).getD i 0 == 1) = keepL b q many := by
      rw [bitsU_len, hll, show min (8 * ((many + 7) / 8)) many = many by omega]
      unfold keepL
      apply List.map_congr_left
      intro i hi
      have hi := List.mem_range.1 hi
      rw [bitsU_get (by omega) hq]
      by_cases h : bitA b q i = 1 <;> simp [h]
    rw [hkl]
    by_cases hrest : restK b q many
    · have ee : errK 0 many (bitsU ((b.drop q).take ((many + 7) / 8))) (bitsU ((b.drop q).take ((many + 7) / 8))).length = 0 := by
        unfold errK
        rw [if_neg]
        rintro ⟨_, h⟩
        obtain ⟨j, hj, hb2⟩ := List.any_eq_true.1 h
        rw [List.mem_range, bitsU_len, hll] at hj
        rw [bitsU_get hj hq] at hb2
        simp only [Bool.and_eq_true, decide_eq_true_eq, bne_iff_ne, ne_eq] at hb2
        rcases hrest j hj with h | h
        · omega
        · exact hb2.2 h
      rw [ee, if_pos hrest]
      dsimp only
      unfold tailG
      rw [psize0 hfl hb]
      cases hn : numR b ((q : Int) + ((many + 7) / 8 : Nat)) 1000 with
      | bad e =>
        have he := numR_bad hn
        dsimp only
        rw [psizeE he]
        dsimp only
        rw [cond_t (by simpa using he)]
        rfl
      | ok pg r =>
        dsimp only
        rw [psize0 hfl hb]
        cases hn2 : numR b r 20000 with
        | bad e =>
          have he := numR_bad hn2
          dsimp only
          rw [cond_t (by simpa using he)]
          rfl
        | ok ln s => rfl
    · have ee : errK 0 many (bitsU ((b.drop q).take ((many + 7) / 8))) (bitsU ((b.drop q).take ((many + 7) / 8))).length = 3 := by
        unfold errK
        rw [if_pos]
        refine ⟨rfl, ?_⟩
        rcases nat_or_first (fun i => i < many ∨ bitA b q i = 0) (8 * ((many + 7) / 8)) with h | ⟨j, hj, hbad, _⟩
        · exact absurd h hrest
        · refine List.any_eq_true.2 ⟨j, by rw [List.mem_range, bitsU_len, hll]; exact hj, ?_⟩
          rw [bitsU_get hj hq]
          simp only [Bool.and_eq_true, decide_eq_true_eq, bne_iff_ne, ne_eq]
          exact ⟨Nat.le_of_not_lt fun h => hbad (.inl h), fun h => hbad (.inr h)⟩
      rw [ee, if_neg hrest, psizeE (by omega)]
      dsimp only
      rw [psizeE (by omega)]
      rfl
  · rw [if_neg he, pbytesE he (by omega)]
    dsimp only
    rw [err p e _ he (by simp; omega) (by intro x hx; have := List.eq_of_mem_replicate hx; omega)]
theorem pgetheader {fl : Nat} (hfl : 9223372036854775808 ≤ fl) {b : List Int} (hb : Bytes b) {p : Int} {K : Int × Int × Int × Int × Int × Int × List Int × List Bool × List Int → Option Ans} : F_segment_GetHeader fl b p K = K (getH b p) := by
  unfold F_segment_GetHeader Fg_segment_GetHeader getH
  by_cases h0 : p < 0
  · rw [dec_t h0, if_pos (.inl h0)]
  by_cases h1 : p > b.length
  · rw [dec_f h0, dec_t h1, if_pos (.inr h1)]
  rw [dec_f h0, dec_f h1, if_neg (by rintro (h | h) <;> omega)]
  simp only [both_same]
  have hl := hb.1
  rw [psize0 hfl hb]
  unfold headG
  have e1 : (1 : Int) = ((1 : Nat) : Int) := rfl
  cases hn : numR b p 10000 with
  | bad e =>
    have he := numR_bad hn
    dsimp only
    rw [e1, pbytesE he (by omega)]
    dsimp only
    rw [dec_t (by simp), pformE he]
    dsimp only
    have e0 : IntKind.i64.wrap ((List.replicate 1 (0 : Int)).getD (Int.toNat 0) 0) = 0 := by decide
    rw [e0, dec_f (by omega)]
    have := ptail hfl hb (n := 0) (k := Int.tmod 0 16) (p := p) (e := e) (refs := []) (fun _ => by omega) (by simp) (K := K)
    rw [if_neg he] at this
    exact this
  | ok n q =>
    obtain ⟨a1, a2, a3, a4, a5, a6⟩ := numR_ok hb hn
    dsimp only
    rw [e1, pbytes0 hb (by omega) a5 (by omega)]
    by_cases hq : q ≥ b.length
    · rw [if_pos (by omega), if_pos hq]
      dsimp only
      rw [dec_t (by simp), pformE (by omega)]
      dsimp only
      have e0 : IntKind.i64.wrap ((List.replicate 1 (0 : Int)).getD (Int.toNat 0) 0) = 0 := by decide
      rw [e0, dec_f (by omega)]
      have := ptail hfl hb (n := n) (k := Int.tmod 0 16) (p := q) (e := 6) (refs := []) (fun _ => by omega) (by simp) (K := K)
      rw [if_neg (by omega)] at this
      exact this
    rw [if_neg (by omega), if_neg hq]
    have hc := hb.get q.toNat
    have hget : ((b.drop q.toNat).take 1).getD (Int.toNat 0) 0 = b.getD q.toNat 0 := by
      rw [show Int.toNat 0 = 0 from rfl, getD_lt (by simp; omega), getD_lt (by omega)]
      simp
    dsimp only
    rw [dec_t (by simp; omega), hget, wrap64 (x := b.getD q.toNat 0) (by omega) (by omega), pform0]
    dsimp only
    have em : (b.getD q.toNat 0).tmod 16 = b.getD q.toNat 0 % 16 := Int.tmod_eq_emod_of_nonneg hc.1
    rw [em, show q + ((1 : Nat) : Int) = q + 1 from rfl]
    by_cases h31 : b.getD q.toNat 0 > 31
    · rw [decide_eq_false (show ¬ b.getD q.toNat 0 ≤ 31 by omega), if_pos h31, if_neg (by simp), dec_t (by omega), cond_f (by rfl)]
      have := ptail hfl hb (n := n) (k := b.getD q.toNat 0 % 16) (p := q + 1) (e := 3) (refs := []) (fun _ => by omega) (by simp) (K := K)
      rw [if_neg (by omega)] at this
      exact this
    rw [decide_eq_true (show b.getD q.toNat 0 ≤ 31 by omega), if_neg h31, if_pos rfl]
    by_cases h16 : b.getD q.toNat 0 ≥ 16
    · rw [dec_t h16, if_pos h16, cond_t (by rfl)]
      obtain ⟨p', out', o1, o2⟩ := prefs hfl hb (p := q + 1) (of_ := n) a2 (by omega)
      rw [o2]
      cases hr : refsR b (q + 1) n with
      | bad e =>
        have he := refsR_bad hr
        dsimp only
        have := ptail hfl hb (n := n) (k := b.getD q.toNat 0 % 16) (p := p') (e := e) (refs := out') (fun h => absurd h he) o1 (K := K)
        rw [if_neg he] at this
        exact this
      | ok refs r =>
        obtain ⟨r1, r2, r3⟩ := refsR_ok hb hr
        dsimp only
        have := ptail hfl hb (n := n) (k := b.getD q.toNat 0 % 16) (p := r) (e := 0) (refs := refs) (fun _ => ⟨r2, r3⟩) r1 (K := K)
        rw [if_pos rfl] at this
        exact this
    · rw [dec_f h16, if_neg h16]
      have := ptail hfl hb (n := n) (k := b.getD q.toNat 0 % 16) (p := q + 1) (e := 0) (refs := []) (fun _ => by omega) (by simp) (K := K)
      rw [if_pos rfl] at this
      exact this
end Go.Proofs.Ytihfgpfofmjbaaa.Seg

set_option linter.unusedVariables false
set_option linter.unusedSimpArgs false
namespace Go.Proofs.Ytihfgpfofmjbaaa.Seg
open Go Ev Bm

theorem rsame {fl : Nat} (hfl : 9223372036854775808 ≤ fl) {n k p n' k' p' : Int} {refs refs' : List Int} {keep keep' : List Bool} {data data' : List Int} (h1 : refs.length ≤ 1000000000000000) (h2 : keep.length ≤ 1000000000000000) {K : Bool → Option Ans} :
    F_ref12_Same fl n k p refs keep data n' k' p' refs' keep' data' K = K (same n k p refs keep data n' k' p' refs' keep' data') := by
  unfold F_ref12_Same same
  simp only [cn]
  by_cases c1 : n = n'
  rotate_left
  · rw [if_neg c1, decide_eq_false (fun h => c1 h.1)]; rfl
  rw [if_pos c1]
  by_cases c2 : k = k'
  rotate_left
  · rw [if_neg c2, decide_eq_false (fun h => c2 h.2.1)]; rfl
  rw [if_pos c2]
  by_cases c3 : p = p'
  rotate_left
  · rw [if_neg c3, decide_eq_false (fun h => c3 h.2.2.1)]; rfl
  rw [if_pos c3]
  by_cases c4 : (refs.length : Int) = refs'.length
  rotate_left
  · rw [if_neg c4, decide_eq_false (fun h => c4 (by rw [h.2.2.2.1]))]; rfl
  rw [if_pos c4]
  by_cases c5 : (keep.length : Int) = keep'.length
  rotate_left
  · rw [if_neg c5, decide_eq_false (fun h => c5 (by rw [h.2.2.2.2]))]; rfl
  rw [if_pos c5]
  have hd : ((strOfNums data).toList == (strOfNums data').toList) = sameD data data' := rfl
  rw [hd]
  cases c6 : sameD data data' with
  | false => rw [Bool.and_false]; rfl
  | true =>
  rw [cond_f (b := !true) rfl, Bool.and_true]
  unfold L_ref12_Same_0
  rcases nat_or_first (fun i => refs.getD i 0 = refs'.getD i 0) refs.length with g1 | ⟨m, hm, hb, hi⟩
  rotate_left
  · rw [decide_eq_false (fun h => hb (by rw [h.2.2.2.1]))]
    refine iter_seq (step := S_ref12_Same_0 fl) (fun i : Nat => ((refs.length : Int), (i : Int), n, k, p, refs, keep, data, n', k', p', refs', keep', data')) m rfl (fun i him c => ?_) (fun c => ?_) (by omega)
    · have e := hi i him
      simp (disch := omega) only [S_ref12_Same_0, dec_t, wrap64, Int.toNat_natCast]
      rw [cond_f (by rw [e]; simp)]
      rfl
    · simp (disch := omega) only [S_ref12_Same_0, dec_t, Int.toNat_natCast]
      rw [cond_t (by simpa using hb)]
  have e4 := list_ext_getD 0 (by omega) g1
  have key : ∀ ret b, iter (S_ref12_Same_0 fl) fl ((refs.length : Int), 0, n, k, p, refs, keep, data, n', k', p', refs', keep', data') (ret, b) = b (n, k, p, refs, keep, data, n', k', p', refs', keep', data') := by
    intro ret b
    refine iter_seq (step := S_ref12_Same_0 fl) (fun i : Nat => ((refs.length : Int), (i : Int), n, k, p, refs, keep, data, n', k', p', refs', keep', data')) refs.length rfl (fun i hi c => ?_) (fun c => ?_) (by omega)
    · have e := g1 i hi
      simp (disch := omega) only [S_ref12_Same_0, dec_t, wrap64, Int.toNat_natCast]
      rw [cond_f (by rw [e]; simp)]
      rfl
    · simp (disch := omega) only [S_ref12_Same_0, dec_f]
  rw [key]
  dsimp only
  unfold L_ref12_Same_2
  rcases nat_or_first (fun i => keep.getD i false = keep'.getD i false) keep.length with g2 | ⟨m, hm, hb, hi⟩
  · have e5 := list_ext_getD false (by omega) g2
    rw [decide_eq_true ⟨c1, c2, c3, e4, e5⟩]
    refine iter_seq (step := S_ref12_Same_2 fl) (fun i : Nat => ((keep.length : Int), (i : Int), n, k, p, refs, keep, data, n', k', p', refs', keep', data')) keep.length rfl (fun i hi c => ?_) (fun c => ?_) (by omega)
    · have e := g2 i hi
      simp (disch := omega) only [S_ref12_Same_2, dec_t, wrap64, Int.toNat_natCast]
      rw [cond_f (by rw [e]; simp)]
      rfl
    · simp (disch := omega) only [S_ref12_Same_2, dec_f]
  · rw [decide_eq_false (fun h => hb (by rw [h.2.2.2.2]))]
    refine iter_seq (step := S_ref12_Same_2 fl) (fun i : Nat => ((keep.length : Int), (i : Int), n, k, p, refs, keep, data, n', k', p', refs', keep', data')) m rfl (fun i him c => ?_) (fun c => ?_) (by omega)
    · have e := hi i him
      simp (disch := omega) only [S_ref12_Same_2, dec_t, wrap64, Int.toNat_natCast]
      rw [cond_f (by rw [e]; simp)]
      rfl
    · simp (disch := omega) only [S_ref12_Same_2, dec_t, Int.toNat_natCast]
      rw [cond_t (by cases h1 : keep.getD m false <;> cases h2 : keep'.getD m false <;> simp_all)]

end Go.Proofs.Ytihfgpfofmjbaaa.Seg

set_option linter.unusedVariables false
set_option linter.unusedSimpArgs false
namespace Go.Proofs.Ytihfgpfofmjbaaa.Fr
open Go Ev Bm Seg

theorem headG_bad {b : List Int} {p e : Int} (h : headG b p = .bad e) : e ≠ 0 := by
  unfold headG at h
  split at h
  · rename_i h1; cases h; exact numR_bad h1
  · split at h
    · cases h; omega
    · split at h
      · cases h; omega
      · split at h
        · split at h
          · rename_i h1; cases h; exact refsR_bad h1
          · exact keepG_bad h
        · exact keepG_bad h
theorem keepsR_len {b : List Int} {p x : Int} {many : Nat} {r : List Bool} (h : keepsR b p many = .ok r x) : r.length = many := by
  unfold keepsR at h
  split at h
  · cases h
  · split at h
    · cases h
      simp [keepL]
    · cases h
theorem keepG_ok {b : List Int} (hb : Bytes b) {n k p : Int} {refs : List Int} {hd : HdT} {x : Int} (h0 : 0 ≤ p) (h : keepG b n k refs p = .ok hd x) : hd.2.2.2.2.1 = refs ∧ hd.2.2.2.2.2.length = refs.length + 1 ∧ 0 ≤ hd.2.2.2.1 ∧ hd.2.2.2.1 ≤ 20000 ∧ 0 < x ∧ x ≤ b.length := by
  unfold keepG tailG at h
  split at h
  · cases h
  · rename_i keep q hk
    split at h
    · cases h
    · rename_i pg q1 h1
      split at h
      · cases h
      · rename_i ln r h2
        have a := numR_ok hb h1
        have c := numR_ok hb h2
        cases h
        exact ⟨rfl, keepsR_len hk, c.2.1, c.2.2.1, by omega, c.2.2.2.2.1⟩
theorem headG_ok {b : List Int} (hb : Bytes b) {p : Int} {hd : HdT} {x : Int} (h : headG b p = .ok hd x) : hd.2.2.2.2.1.length ≤ 20 ∧ hd.2.2.2.2.2.length ≤ 21 ∧ 0 ≤ hd.2.2.2.1 ∧ hd.2.2.2.1 ≤ 20000 ∧ 0 < x ∧ x ≤ b.length := by
  unfold headG at h
  split at h
  · cases h
  · rename_i n q h1
    have a := numR_ok hb h1
    split at h
    · cases h
    · split at h
      · cases h
      · split at h
        · split at h
          · cases h
          · rename_i refs r hr
            have c := refsR_ok hb hr
            have d := keepG_ok hb (by omega) h
            rw [d.1]
            omega
        · have d := keepG_ok hb (by omega) h
          rw [d.1]
          simp at d ⊢
          omega
/-- What GetHeader tells. -/
theorem getH_ok {b : List Int} (hb : Bytes b) {p : Int} {n k pg ln q e : Int} {refs : List Int} {keep : List Bool} {data : List Int} (h : getH b p = (n, k, pg, ln, q, e, refs, keep, data)) (he : e = 0) :
    refs.length ≤ 20 ∧ keep.length ≤ 21 ∧ 0 ≤ ln ∧ ln ≤ 20000 ∧ 0 < q ∧ q ≤ b.length ∧ data = [] := by
  unfold getH at h
  split at h
  · injection h with _ h; injection h with _ h; injection h with _ h; injection h with _ h; injection h with _ h; injection h with h _
    omega
  · cases hg : headG b p with
    | bad e' =>
      rw [hg] at h
      have := headG_bad hg
      unfold outG at h
      injection h with _ h; injection h with _ h; injection h with _ h; injection h with _ h; injection h with _ h; injection h with h _
      omega
    | ok hd x =>
      rw [hg] at h
      have c := headG_ok hb hg
      obtain ⟨n', k', pg', ln', refs', keep'⟩ := hd
      simp only [outG] at h
      injection h with _ h; injection h with _ h; injection h with _ h; injection h with h4 h; injection h with h5 h; injection h with _ h; injection h with h6 h; injection h with h7 h8
      subst h4 h5 h6 h7 h8
      exact ⟨c.1, c.2.1, c.2.2.1, c.2.2.2.1, c.2.2.2.2.1, c.2.2.2.2.2, rfl⟩
def eGo (b : List Int) : Nat → Int → List SegT → Int ⊕ List SegT
  | 0, _, _ => .inl 4
  | m + 1, a, l =>
    if a < b.length then
      (if l.length = 100 then .inl 4
      else match getH b a with
        | (n, k, pg, ln, q, e, refs, keep, data) =>
          if e ≠ 0 then .inl e
          else if k = 9 then .inl 60
          else if ln > b.length - q then .inl 6
          else eGo b m (q + ln) (l ++ [(n, k, pg, refs, keep, (b.drop q.toNat).take ln.toNat)]))
    else .inr l
abbrev LK := List Int × Int × Int × Int × List SegT × List Int × List Int
theorem clone_b {fl : Nat} {p : List Int} (hp : p.length ≤ 1000000) {K : List Int → Option Ans} : F_slices_Clone_byte_byte fl p K = K p := by
  unfold F_slices_Clone_byte_byte
  by_cases h0 : (p.length : Int) = 0
  · have : p = [] := List.length_eq_zero_iff.1 (by omega)
    subst this
    rw [dec_t h0, dec_t (by simp)]
    exact both_same _
  · rw [dec_f h0, dec_t (by omega), List.nil_append]
theorem last_get {α : Type} (l : List α) (s d : α) : (l ++ [s]).getD l.length d = s := by simp
theorem last_set {α : Type} (l : List α) (s s' : α) : (l ++ [s]).set l.length s' = l ++ [s'] := by simp
section
variable {fl : Nat} {b : List Int}
theorem hdr_ok (hfl : 9223372036854775808 ≤ fl) (hb : Bytes b) {a : Int} {l : List SegT} (hl : l.length ≤ 100) {hs ps : List Int} (hhs : hs.length ≤ 100) {n k pg ln q e : Int} {refs : List Int} {keep : List Bool} {data : List Int} (hg : getH b a = (n, k, pg, ln, q, e, refs, keep, data)) {k0 k1 : Int × LK → Option Ans} :
    F_file_reader_header_f32 fl b a 0 0 l hs ps k0 k1 = if l.length = 100 then k0 (0, b, a, 0, 4, l, hs, ps) else if e ≠ 0 then k0 (0, b, a, a, e, l, hs, ps) else k1 (ln, b, q, 0, 0, l ++ [(n, k, pg, refs, keep, data)], hs ++ [a], ps) := by
  unfold F_file_reader_header_f32 Fg_file_reader_header_f32 F_file_reader_fail_857
  by_cases h1 : l.length = 100
  · rw [if_pos h1, cond_t (by simp [h1]), cond_t (b := (0 : Int) == 0) rfl]
  rw [if_neg h1, cond_f (b := (l.length : Int) == 100) (beq_eq_false_iff_ne.2 (by omega)), pgetheader hfl hb, hg]
  simp only [both_same]
  by_cases h2 : e ≠ 0
  · rw [if_pos h2, cond_t (by simp [h2]), cond_t (b := (0 : Int) == 0) rfl]
  · rw [if_neg h2, cond_f (by simpa using h2), dec_t (by simp; omega), dec_t (by simp; omega)]
abbrev RK := Int × Int × Int × List SegT × List Int × List (Int × Int)
theorem sameL {fl : Nat} (hfl : 9223372036854775808 ≤ fl) {l : List SegT} (hl : l.length ≤ 1000000000000000) (hs : ∀ s ∈ l, Short s) {K : Bool → Option Ans} : F_ref12_SameList fl l l K = K true := by
  unfold F_ref12_SameList Fg_ref12_SameList L_ref12_SameList_0
  rw [cond_f (b := (l.length : Int) != (l.length : Int)) (by simp)]
  refine iter_to (step := S_ref12_SameList_0 fl) (fun i : Nat => (l, l, (l.length : Int), (i : Int))) l.length (fun i hi c => ?_) (fun c => ?_) (by omega)
  · obtain ⟨h1, h2, h3⟩ := hs _ (getD_mem hi dseg)
    simp only [S_ref12_SameList_0, Sg_ref12_SameList_0]
    rw [dec_t (by omega), dec_t (by omega), dec_t (by omega), Int.toNat_natCast]
    have hd : l.getD i ((0 : Int), (0 : Int), (0 : Int), [], [], []) = l.getD i dseg := rfl
    rw [hd, rsame hfl h1 h2, same_self, cond_f (b := !true) rfl, wrap64 (by omega) (by omega)]
    rfl
  · simp only [S_ref12_SameList_0, Sg_ref12_SameList_0]
    rw [dec_f (by omega)]
end
end Go.Proofs.Ytihfgpfofmjbaaa.Fr

set_option linter.unusedVariables false
set_option linter.unusedSimpArgs false
namespace Go.Proofs.Ytihfgpfofmjbaaa.Fr
open Go Ev Bm Seg

abbrev SR := Int ⊕ (Int × List SegT × List (Int × Int))
def sGo (b : List Int) : Nat → Int → List SegT → List (Int × Int) → SR
  | 0, _, _, _ => .inl 4
  | m + 1, a, l, ps =>
    if l.length = 100 then .inl 4
    else if a = b.length then .inl 60
    else match getH b a with
      | (n, k, pg, ln, q, e, refs, keep, data) =>
        if e ≠ 0 then .inl e
        else if ln > b.length - q then .inl 6
        else if k = 9 then .inr (q + ln, l ++ [(n, k, pg, refs, keep, (b.drop q.toNat).take ln.toNat)], ps ++ [(q, ln)])
        else sGo b m (q + ln) (l ++ [(n, k, pg, refs, keep, (b.drop q.toNat).take ln.toNat)]) (ps ++ [(q, ln)])
/-- The last one is not the end. -/
def NL (l : List SegT) : Prop := 0 < l.length → (l.getD (l.length - 1) dseg).2.1 ≠ 9
theorem NL_app {l : List SegT} {s : SegT} (h : s.2.1 ≠ 9) : NL (l ++ [s]) := fun _ => by
  rw [show (l ++ [s]).length - 1 = l.length by simp, last_get]
  exact h
section
variable {fl : Nat} {b : List Int}
theorem more_ok {a : Int} {l : List SegT} (hl : l.length ≤ 100) (hn : NL l) {hs ps : List Int} {K : Bool × LK → Option Ans} :
    F_file_reader_more_f32 fl b a 0 0 l hs ps K = if a = b.length ∧ l.length < 100 then K (false, b, a, a, 60, l, hs, ps) else K (true, b, a, 0, 0, l, hs, ps) := by
  unfold F_file_reader_more_f32 Fg_file_reader_more_f32 F_file_reader_fail_857
  have tail : (bif a == (b.length : Int) then bif decide ((l.length : Int) < 100) then (bif (0 : Int) == 0 then K (false, b, a, a, 60, l, hs, ps) else K (false, b, a, 0, 0, l, hs, ps)) else K (true, b, a, 0, 0, l, hs, ps) else K (true, b, a, 0, 0, l, hs, ps)) = if a = b.length ∧ l.length < 100 then K (false, b, a, a, 60, l, hs, ps) else K (true, b, a, 0, 0, l, hs, ps) := by
    by_cases h1 : a = b.length
    · rw [cond_t (by simp [h1])]
      by_cases h2 : (l.length : Int) < 100
      · rw [dec_t h2, if_pos ⟨h1, by omega⟩, cond_t (b := (0 : Int) == 0) rfl]
      · rw [dec_f h2, if_neg (by omega)]
    · rw [cond_f (b := a == (b.length : Int)) (beq_eq_false_iff_ne.2 h1), if_neg (fun h => h1 h.1)]
  rw [cond_f (b := (0 : Int) != 0) rfl]
  by_cases h0 : (l.length : Int) > 0
  · rw [dec_t h0, wrap64 (by omega) (by omega), dec_t (by omega)]
    have e : ((l.length : Int) - 1).toNat = l.length - 1 := by omega
    have h9 := hn (by omega)
    have hd : l.getD (l.length - 1) ((0 : Int), (0 : Int), (0 : Int), [], [], []) = l.getD (l.length - 1) dseg := rfl
    rw [e, hd, cond_f (beq_eq_false_iff_ne.2 h9)]
    exact tail
  · rw [dec_f h0]
    exact tail
def SOk (kk : LK → Option Ans) (b : List Int) (x : Option Ans) : SR → Prop
  | .inl e => e ≠ 0 ∧ ∃ a' bd l' h' p', x = kk (b, a', bd, e, l', h', p')
  | .inr (a', l', ps') => 0 ≤ a' ∧ a' ≤ b.length ∧ l'.length ≤ 100 ∧ (∀ s ∈ l', Short s) ∧ ∃ h', h'.length = l'.length ∧ x = kk (b, a', 0, 0, l', h', ps'.map (·.1))
theorem sstop {f : Nat} {a bd e : Int} (he : e ≠ 0) {l : List SegT} {hs ps : List Int} {kk : LK → Option Ans} : iter (S_file_reader_sequence_f32_0 fl) (f + 1) (b, a, bd, e, l, hs, ps) kk = kk (b, a, bd, e, l, hs, ps) := by
  simp only [iter, S_file_reader_sequence_f32_0, Sg_file_reader_sequence_f32_0]
  unfold F_file_reader_more_f32 Fg_file_reader_more_f32
  rw [cond_t (by simpa using he)]
  rfl
theorem send {f : Nat} {a : Int} {l : List SegT} (hl : 0 < l.length) (hl2 : l.length ≤ 1000) (h9 : (l.getD (l.length - 1) dseg).2.1 = 9) {hs ps : List Int} {kk : LK → Option Ans} : iter (S_file_reader_sequence_f32_0 fl) (f + 1) (b, a, 0, 0, l, hs, ps) kk = kk (b, a, 0, 0, l, hs, ps) := by
  simp only [iter, S_file_reader_sequence_f32_0, Sg_file_reader_sequence_f32_0]
  unfold F_file_reader_more_f32 Fg_file_reader_more_f32
  have e : ((l.length : Int) - 1).toNat = l.length - 1 := by omega
  have hd : l.getD (l.length - 1) ((0 : Int), (0 : Int), (0 : Int), [], [], []) = l.getD (l.length - 1) dseg := rfl
  rw [cond_f (b := (0 : Int) != 0) rfl, dec_t (by omega), wrap64 (by omega) (by omega), dec_t (by omega), e, hd, h9, cond_t (b := (9 : Int) == 9) rfl]
  rfl
theorem sloop (hfl : 9223372036854775808 ≤ fl) (hb : Bytes b) (hbl : b.length ≤ 100000) {kk : LK → Option Ans} : ∀ (m : Nat) {a : Int} {l : List SegT} {hs : List Int} {ps : List (Int × Int)} {f : Nat}, l.length + m = 101 → l.length ≤ 100 → hs.length = l.length → ps.length = l.length → NL l → 0 ≤ a → a ≤ b.length → (∀ s ∈ l, Short s) → m + 2 ≤ f →
    SOk kk b (iter (S_file_reader_sequence_f32_0 fl) f (b, a, 0, 0, l, hs, ps.map (·.1)) kk) (sGo b m a l ps)
  | 0, a, l, hs, ps, f, h1, h2, _, _, _, _, _, _, _ => by omega
  | m + 1, a, l, hs, ps, f, h1, h2, h3, h4, hn, h5, h6, h7, h8 => by
    obtain ⟨f, rfl⟩ : ∃ g, f = g + 2 := ⟨f - 2, by omega⟩
    unfold sGo
    have hdata : ∀ {i n a' bd e' : Int} {l' : List SegT} {h' p' : List Int} {k0 k1 : LK → Option Ans}, e' ≠ 0 → F_file_reader_data_857 fl i n b a' bd e' l' h' p' k0 k1 = k0 (b, a', bd, e', l', h', p') := by
      intro i n a' bd e' l' h' p' k0 k1 he
      unfold F_file_reader_data_857 Fg_file_reader_data_857
      rw [cond_t (by simpa using he)]
    generalize hg : getH b a = g
    obtain ⟨n, k, pg, ln, q, e, refs, keep, data⟩ := g
    dsimp only
    have hstep : ∀ c : LK → Option Ans, S_file_reader_sequence_f32_0 fl (b, a, 0, 0, l, hs, ps.map (·.1)) c kk = if a = b.length ∧ l.length < 100 then kk (b, a, a, 60, l, hs, ps.map (·.1)) else if l.length = 100 then c (b, a, 0, 4, l, hs, ps.map (·.1)) else if e ≠ 0 then c (b, a, a, e, l, hs, ps.map (·.1)) else if ln > b.length - q then c (b, q, q, 6, l ++ [(n, k, pg, refs, keep, data)], hs ++ [a], ps.map (·.1)) else c (b, q + ln, 0, 0, l ++ [(n, k, pg, refs, keep, (b.drop q.toNat).take ln.toNat)], hs ++ [a], (ps ++ [(q, ln)]).map (·.1)) := by
      intro c
      simp only [S_file_reader_sequence_f32_0, Sg_file_reader_sequence_f32_0]
      rw [more_ok h2 hn]
      by_cases c0 : a = b.length ∧ l.length < 100
      · rw [if_pos c0, if_pos c0]
        rfl
      rw [if_neg c0, if_neg c0]
      dsimp only
      rw [cond_t (b := true) rfl, hdr_ok hfl hb h2 (by omega) hg]
      by_cases c1 : l.length = 100
      · rw [if_pos c1, if_pos c1]
        dsimp only
        rw [hdata (by decide)]
      rw [if_neg c1, if_neg c1]
      by_cases c2 : e ≠ 0
      · rw [if_pos c2, if_pos c2]
        dsimp only
        rw [hdata c2]
      rw [if_neg c2, if_neg c2]
      have c2 : e = 0 := by omega
      obtain ⟨k1, k2, k3, k4, k5, k6, k7⟩ := getH_ok hb hg c2
      have hw : IntKind.i64.wrap (((l ++ [((n, k, pg, refs, keep, data) : SegT)]).length : Int) - 1) = (l.length : Int) := by
        rw [List.length_append, wrap64 (by simp; try omega) (by simp; try omega)]
        simp
      dsimp only
      rw [hw]
      have hpl : (ps.map (·.1)).length = l.length := by rw [List.length_map]; exact h4
      unfold F_file_reader_data_857 Fg_file_reader_data_857 F_file_reader_fail_857
      dsimp only
      rw [cond_f (b := (0 : Int) != 0) rfl, wrap64 (x := (b.length : Int) - q) (by omega) (by omega)]
      by_cases c4 : ln > b.length - q
      · rw [dec_t c4, if_pos c4, cond_t (b := (0 : Int) == 0) rfl]
      rw [dec_f c4, if_neg c4]
      simp only [both_same]
      rw [dec_t (by rw [hpl]; simp; omega), wrap64 (x := q + ln) (by omega) (by omega), dec_t (show (0 : Int) ≤ loOf (some q) ∧ loOf (some q) ≤ hiOf (some (q + ln)) (b.length : Int) ∧ hiOf (some (q + ln)) (b.length : Int) ≤ (b.length : Int) by simp only [loOf_some, hiOf_some]; omega)]
      have ecut : List.take (hiOf (some (q + ln)) (b.length : Int) - loOf (some q)).toNat (List.drop (loOf (some q)).toNat b) = (b.drop q.toNat).take ln.toNat := by
        simp only [loOf_some, hiOf_some]
        rw [show q + ln - q = ln by omega]
      rw [ecut, clone_b (by rw [List.length_take, List.length_drop]; omega)]
      try dsimp only
      rw [dec_t (by simp; omega), Int.toNat_natCast, last_get, last_set, List.map_append]
      rfl
    rw [show f + 2 = (f + 1) + 1 from rfl]
    simp only [iter]
    rw [hstep]
    by_cases c1 : l.length = 100
    · rw [if_pos c1, if_neg (by omega), if_pos c1]
      exact ⟨by decide, _, _, _, _, _, sstop (by decide)⟩
    rw [if_neg c1, if_neg c1]
    by_cases c0 : a = b.length
    · rw [if_pos c0, if_pos ⟨c0, by omega⟩]
      exact ⟨by decide, _, _, _, _, _, rfl⟩
    rw [if_neg c0, if_neg (fun h => c0 h.1)]
    by_cases c2 : e ≠ 0
    · rw [if_pos c2, if_pos c2]
      exact ⟨c2, _, _, _, _, _, sstop c2⟩
    rw [if_neg c2, if_neg c2]
    by_cases c4 : ln > b.length - q
    · rw [if_pos c4, if_pos c4]
      exact ⟨by decide, _, _, _, _, _, sstop (by decide)⟩
    rw [if_neg c4, if_neg c4]
    obtain ⟨k1, k2, k3, k4, k5, k6, k7⟩ := getH_ok hb hg (by omega)
    have hsh : ∀ s ∈ l ++ [((n, k, pg, refs, keep, (b.drop q.toNat).take ln.toNat) : SegT)], Short s := fun s hs' => by
      rcases List.mem_append.1 hs' with hs' | hs'
      · exact h7 s hs'
      · rw [List.mem_singleton] at hs'
        subst hs'
        exact ⟨by simp only; omega, by simp only; omega, by simp only; rw [List.length_take]; omega⟩
    by_cases c9 : k = 9
    · rw [if_pos c9]
      refine ⟨by omega, by omega, (by rw [List.length_append]; simp only [List.length_cons, List.length_nil]; omega), hsh, hs ++ [a], by rw [List.length_append, List.length_append]; simp only [List.length_cons, List.length_nil]; omega, ?_⟩
      exact send (by simp) (by rw [List.length_append]; simp only [List.length_cons, List.length_nil]; omega) (by
        rw [show (l ++ [((n, k, pg, refs, keep, (b.drop q.toNat).take ln.toNat) : SegT)]).length - 1 = l.length by simp, last_get]
        exact c9)
    rw [if_neg c9]
    exact sloop (f := f + 1) hfl hb hbl m (by rw [List.length_append]; simp only [List.length_cons, List.length_nil]; omega) (by rw [List.length_append]; simp only [List.length_cons, List.length_nil]; omega) (by rw [List.length_append, List.length_append]; simp only [List.length_cons, List.length_nil]; omega) (by rw [List.length_append, List.length_append]; simp only [List.length_cons, List.length_nil]; omega) (NL_app c9) (by omega) (by omega) hsh (by omega)
end
end Go.Proofs.Ytihfgpfofmjbaaa.Fr

set_option linter.unusedVariables false
set_option linter.unusedSimpArgs false
namespace Go.Proofs.Ytihfgpfofmjbaaa.Fr
open Go Ev Bm Seg
section
variable {fl : Nat} {b : List Int}
theorem rhdr2 (hfl : 9223372036854775808 ≤ fl) (hb : Bytes b) {a w er at' : Int} {l : List SegT} (hl : l.length ≤ 100) {hs : List Int} {ps : List (Int × Int)} (hhs : hs.length ≤ 100) (hps : ps.length ≤ 100) {n k pg ln q e : Int} {refs : List Int} {keep : List Bool} {data : List Int} (hg : getH b a = (n, k, pg, ln, q, e, refs, keep, data)) {k0 k1 : Int × RK → Option Ans} :
    F_ref14_Parsed_header_bb9 fl b a w er at' l hs ps k0 k1 = if l.length = 100 then k0 (0, w, 4, 0, l, hs, ps) else if a = b.length then k0 (0, w, 60, a, l, hs, ps) else if e ≠ 0 then k0 (0, w, e, a, l, hs, ps) else k1 (q, w, er, at', l ++ [(n, k, pg, refs, keep, data)], hs ++ [a], ps ++ [(0, ln)]) := by
  unfold F_ref14_Parsed_header_bb9 Fg_ref14_Parsed_header_bb9 F_ref14_Parsed_failed_6fe
  by_cases h1 : l.length = 100
  · rw [if_pos h1, cond_t (by simp [h1])]
  rw [if_neg h1, cond_f (b := (l.length : Int) == 100) (beq_eq_false_iff_ne.2 (by omega))]
  by_cases h3 : a = b.length
  · rw [if_pos h3, cond_t (by simp [h3])]
  rw [if_neg h3, cond_f (b := a == (b.length : Int)) (beq_eq_false_iff_ne.2 h3), rgetheader hfl hb, hg]
  simp only [both_same]
  by_cases h2 : e ≠ 0
  · rw [if_pos h2, cond_t (by simp [h2])]
  · rw [if_neg h2, cond_f (by simpa using h2), dec_t (by simp; omega), dec_t (by simp; omega), dec_t (by simp; omega)]
theorem rdat (hbl : b.length ≤ 100000) {q ln w er at' : Int} (hq : 0 ≤ q ∧ q ≤ b.length) (hln : 0 ≤ ln ∧ ln ≤ 20000) {l : List SegT} {n k pg : Int} {refs : List Int} {keep : List Bool} {data : List Int} {hs : List Int} {ps : List (Int × Int)} (hps : ps.length = l.length) (hl : l.length ≤ 100) {K : Int × Bool × RK → Option Ans} :
    F_ref14_Parsed_data_4ba fl b (l.length : Int) q w er at' (l ++ [(n, k, pg, refs, keep, data)]) hs (ps ++ [(0, ln)]) K = if ln > b.length - q then K (0, false, w, 6, q, l ++ [(n, k, pg, refs, keep, data)], hs, ps ++ [(0, ln)]) else K (q + ln, true, w, er, at', l ++ [(n, k, pg, refs, keep, (b.drop q.toNat).take ln.toNat)], hs, ps ++ [(q, ln)]) := by
  have e4 : (ps ++ [((0 : Int), ln)]).getD l.length (0, 0) = (0, ln) := by rw [← hps]; exact last_get _ _ _
  have e5 : (ps ++ [((0 : Int), ln)]).set l.length (q, ln) = ps ++ [(q, ln)] := by rw [← hps]; exact last_set _ _ _
  unfold F_ref14_Parsed_data_4ba Fg_ref14_Parsed_data_4ba F_ref14_Parsed_failed_6fe
  rw [dec_t (by simp; omega), Int.toNat_natCast, e4, wrap64 (x := (b.length : Int) - q) (by omega) (by omega)]
  by_cases c4 : ln > b.length - q
  · rw [if_pos c4, dec_t c4]
  rw [if_neg c4, dec_f c4]
  have ecut : List.take (hiOf (some (q + ln)) (b.length : Int) - loOf (some q)).toNat (List.drop (loOf (some q)).toNat b) = (b.drop q.toNat).take ln.toNat := by
    simp only [loOf_some, hiOf_some]
    rw [show q + ln - q = ln by omega]
  rw [dec_t (by simp; omega), wrap64 (x := q + ln) (by omega) (by omega), dec_t (show (0 : Int) ≤ loOf (some q) ∧ loOf (some q) ≤ hiOf (some (q + ln)) (b.length : Int) ∧ hiOf (some (q + ln)) (b.length : Int) ≤ (b.length : Int) by simp only [loOf_some, hiOf_some]; omega), ecut, dec_t (by rw [List.length_take, List.length_drop]; omega), dec_t (by simp; omega), last_get, last_set, List.nil_append, e5]
abbrev PB := List Int × Int × Int × Int × Int × List SegT × List Int × List (Int × Int)
def TOk (rt : RK → Option Ans) (bb : PB → Option Ans) (b : List Int) (x : Option Ans) : SR → Prop
  | .inl e => e ≠ 0 ∧ ∃ w a' l' h' p', x = rt (w, e, a', l', h', p')
  | .inr (a', l', ps') => ∃ h', h'.length = l'.length ∧ x = bb (b, a', 0, 0, 0, l', h', ps')
theorem tloop (hfl : 9223372036854775808 ≤ fl) (hb : Bytes b) (hbl : b.length ≤ 100000) {rt : RK → Option Ans} {bb : PB → Option Ans} : ∀ (m : Nat) {a : Int} {l : List SegT} {hs : List Int} {ps : List (Int × Int)} {f : Nat}, l.length + m = 101 → l.length ≤ 100 → hs.length = l.length → ps.length = l.length → m + 1 ≤ f →
    TOk rt bb b (iter (S_ref14_Parse_1 fl) f (b, a, (l.length : Int), 0, 0, 0, l, hs, ps) (rt, bb)) (sGo b m a l ps)
  | 0, a, l, hs, ps, f, h1, h2, _, _, _ => by omega
  | m + 1, a, l, hs, ps, f, h1, h2, h3, h4, h8 => by
    obtain ⟨f, rfl⟩ : ∃ g, f = g + 1 := ⟨f - 1, by omega⟩
    unfold sGo
    simp only [iter, S_ref14_Parse_1, Sg_ref14_Parse_1]
    generalize hg : getH b a = g
    obtain ⟨n, k, pg, ln, q, e, refs, keep, data⟩ := g
    rw [rhdr2 hfl hb h2 (by omega) (by omega) hg]
    dsimp only
    by_cases c1 : l.length = 100
    · rw [if_pos c1, if_pos c1]
      exact ⟨by decide, _, _, _, _, _, rfl⟩
    rw [if_neg c1, if_neg c1]
    by_cases c0 : a = b.length
    · rw [if_pos c0, if_pos c0]
      exact ⟨by decide, _, _, _, _, _, rfl⟩
    rw [if_neg c0, if_neg c0]
    by_cases c2 : e ≠ 0
    · rw [if_pos c2, if_pos c2]
      exact ⟨c2, _, _, _, _, _, rfl⟩
    rw [if_neg c2, if_neg c2]
    obtain ⟨k1, k2, k3, k4, k5, k6, k7⟩ := getH_ok hb hg (by omega)
    rw [cond_f (b := q == 0) (beq_eq_false_iff_ne.2 (by omega)), cond_t (b := (0 : Int) == 0) rfl, rdat hbl (by omega) (by omega) h4 h2]
    by_cases c4 : ln > b.length - q
    · rw [if_pos c4, if_pos c4]
      exact ⟨by decide, _, _, _, _, _, rfl⟩
    rw [if_neg c4, if_neg c4]
    dsimp only
    rw [cond_f (b := !true) rfl, dec_t (by simp; omega), Int.toNat_natCast, last_get, cb]
    by_cases c9 : k = 9
    · rw [if_pos c9, if_pos c9]
      exact ⟨hs ++ [a], by rw [List.length_append, List.length_append]; simp only [List.length_cons, List.length_nil]; omega, rfl⟩
    rw [if_neg c9, if_neg c9, wrap64 (x := (l.length : Int) + 1) (by omega) (by omega)]
    have el : ((l ++ [((n, k, pg, refs, keep, (b.drop q.toNat).take ln.toNat) : SegT)]).length : Int) = (l.length : Int) + 1 := by
      rw [List.length_append]
      simp
    rw [← el]
    exact tloop hfl hb hbl m (by rw [List.length_append]; simp only [List.length_cons, List.length_nil]; omega) (by rw [List.length_append]; simp only [List.length_cons, List.length_nil]; omega) (by rw [List.length_append, List.length_append]; simp only [List.length_cons, List.length_nil]; omega) (by rw [List.length_append, List.length_append]; simp only [List.length_cons, List.length_nil]; omega) (by omega)
end
end Go.Proofs.Ytihfgpfofmjbaaa.Fr

set_option linter.unusedVariables false
set_option linter.unusedSimpArgs false
namespace Go.Proofs.Ytihfgpfofmjbaaa.Fr
open Go Ev Bm Seg
abbrev HR := Int ⊕ (Int × List SegT × List Int)
def hGo (b : List Int) : Nat → Int → List SegT → List Int → HR
  | 0, _, _, _ => .inl 4
  | m + 1, a, l, ms =>
    if l.length = 100 then .inl 4
    else if a = b.length then .inl 60
    else match getH b a with
      | (n, k, pg, ln, q, e, refs, keep, data) =>
        if e ≠ 0 then .inl e
        else if k = 9 then .inr (q, l ++ [(n, k, pg, refs, keep, data)], ms ++ [ln])
        else hGo b m q (l ++ [(n, k, pg, refs, keep, data)]) (ms ++ [ln])
section
variable {fl : Nat} {b : List Int}
def UOk (rt : RK → Option Ans) (bb : PB → Option Ans) (b : List Int) (x : Option Ans) : HR → Prop
  | .inl e => e ≠ 0 ∧ ∃ w a' l' h' p', x = rt (w, e, a', l', h', p')
  | .inr (a', l', ms') => 0 ≤ a' ∧ a' ≤ b.length ∧ l'.length ≤ 100 ∧ ms'.length = l'.length ∧ (∀ v ∈ ms', 0 ≤ v ∧ v ≤ 20000) ∧ ∃ h', h'.length = l'.length ∧ x = bb (b, a', 1, 0, 0, l', h', ms'.map fun ln => (0, ln))
theorem uloop (hfl : 9223372036854775808 ≤ fl) (hb : Bytes b) {rt : RK → Option Ans} {bb : PB → Option Ans} : ∀ (m : Nat) {a : Int} {l : List SegT} {hs : List Int} {ms : List Int} {f : Nat}, l.length + m = 101 → l.length ≤ 100 → hs.length = l.length → ms.length = l.length → (∀ v ∈ ms, 0 ≤ v ∧ v ≤ 20000) → m + 1 ≤ f →
    UOk rt bb b (iter (S_ref14_Parse_1 fl) f (b, a, (l.length : Int), 1, 0, 0, l, hs, ms.map fun ln => (0, ln)) (rt, bb)) (hGo b m a l ms)
  | 0, a, l, hs, ms, f, h1, h2, _, _, _, _ => by omega
  | m + 1, a, l, hs, ms, f, h1, h2, h3, h4, h5, h8 => by
    obtain ⟨f, rfl⟩ : ∃ g, f = g + 1 := ⟨f - 1, by omega⟩
    unfold hGo
    simp only [iter, S_ref14_Parse_1, Sg_ref14_Parse_1]
    generalize hg : getH b a = g
    obtain ⟨n, k, pg, ln, q, e, refs, keep, data⟩ := g
    rw [rhdr2 hfl hb h2 (by omega) (by rw [List.length_map]; omega) hg]
    dsimp only
    by_cases c1 : l.length = 100
    · rw [if_pos c1, if_pos c1]
      exact ⟨by decide, _, _, _, _, _, rfl⟩
    rw [if_neg c1, if_neg c1]
    by_cases c0 : a = b.length
    · rw [if_pos c0, if_pos c0]
      exact ⟨by decide, _, _, _, _, _, rfl⟩
    rw [if_neg c0, if_neg c0]
    by_cases c2 : e ≠ 0
    · rw [if_pos c2, if_pos c2]
      exact ⟨c2, _, _, _, _, _, rfl⟩
    rw [if_neg c2, if_neg c2]
    obtain ⟨k1, k2, k3, k4, k5, k6, k7⟩ := getH_ok hb hg (by omega)
    have em : (ms.map fun ln => ((0 : Int), ln)) ++ [(0, ln)] = (ms ++ [ln]).map fun ln => ((0 : Int), ln) := by rw [List.map_append]; rfl
    have hm : ∀ v ∈ ms ++ [ln], 0 ≤ v ∧ v ≤ 20000 := fun v hv => by
      rcases List.mem_append.1 hv with hv | hv
      · exact h5 v hv
      · rw [List.mem_singleton] at hv
        subst hv
        exact ⟨k3, k4⟩
    rw [cond_f (b := q == 0) (beq_eq_false_iff_ne.2 (by omega)), cond_f (b := (1 : Int) == 0) rfl, dec_t (by simp; omega), Int.toNat_natCast, last_get, cb, em]
    by_cases c9 : k = 9
    · rw [if_pos c9, if_pos c9]
      exact ⟨by omega, k6, by rw [List.length_append]; simp only [List.length_cons, List.length_nil]; omega, by rw [List.length_append, List.length_append]; simp only [List.length_cons, List.length_nil]; omega, hm, hs ++ [a], by rw [List.length_append, List.length_append]; simp only [List.length_cons, List.length_nil]; omega, rfl⟩
    rw [if_neg c9, if_neg c9, wrap64 (x := (l.length : Int) + 1) (by omega) (by omega)]
    have el : ((l ++ [((n, k, pg, refs, keep, data) : SegT)]).length : Int) = (l.length : Int) + 1 := by
      rw [List.length_append]
      simp
    rw [← el]
    exact uloop hfl hb m (by rw [List.length_append]; simp only [List.length_cons, List.length_nil]; omega) (by rw [List.length_append]; simp only [List.length_cons, List.length_nil]; omega) (by rw [List.length_append, List.length_append]; simp only [List.length_cons, List.length_nil]; omega) (by rw [List.length_append, List.length_append]; simp only [List.length_cons, List.length_nil]; omega) hm (by omega)
end
end Go.Proofs.Ytihfgpfofmjbaaa.Fr

set_option linter.unusedVariables false
set_option linter.unusedSimpArgs false
namespace Go.Proofs.Ytihfgpfofmjbaaa.Fr
open Go Ev Bm Seg
abbrev LM := List Int × Int × Int × Int × List SegT × List Int × List Int × List Int
section
variable {fl : Nat} {b : List Int}
theorem more_bad {a bd e : Int} (he : e ≠ 0) {l : List SegT} {hs ps : List Int} {K : Bool × LK → Option Ans} : F_file_reader_more_f32 fl b a bd e l hs ps K = K (false, b, a, bd, e, l, hs, ps) := by
  unfold F_file_reader_more_f32 Fg_file_reader_more_f32
  rw [cond_t (by simpa using he)]
theorem more_end {a : Int} {l : List SegT} (hl : 0 < l.length) (hl2 : l.length ≤ 1000) (h9 : (l.getD (l.length - 1) dseg).2.1 = 9) {hs ps : List Int} {K : Bool × LK → Option Ans} : F_file_reader_more_f32 fl b a 0 0 l hs ps K = K (false, b, a, 0, 0, l, hs, ps) := by
  unfold F_file_reader_more_f32 Fg_file_reader_more_f32
  have e : ((l.length : Int) - 1).toNat = l.length - 1 := by omega
  have hd : l.getD (l.length - 1) ((0 : Int), (0 : Int), (0 : Int), [], [], []) = l.getD (l.length - 1) dseg := rfl
  rw [cond_f (b := (0 : Int) != 0) rfl, dec_t (by omega), wrap64 (by omega) (by omega), dec_t (by omega), e, hd, h9, cond_t (b := (9 : Int) == 9) rfl]
def VOk (kk : LM → Option Ans) (b : List Int) (x : Option Ans) : HR → Prop
  | .inl e => e ≠ 0 ∧ ∃ a' bd l' h' ms', ms'.length ≤ 101 ∧ x = kk (b, a', bd, e, l', h', [], ms')
  | .inr (a', l', ms') => (∀ s ∈ l', Short s) ∧ ∃ h', h'.length = l'.length ∧ x = kk (b, a', 0, 0, l', h', [], ms')
theorem vstop {f : Nat} {a bd e : Int} (he : e ≠ 0) {l : List SegT} {hs ps ms : List Int} {kk : LM → Option Ans} : iter (S_file_reader_random_f32_0 fl) (f + 1) (b, a, bd, e, l, hs, ps, ms) kk = kk (b, a, bd, e, l, hs, ps, ms) := by
  simp only [iter, S_file_reader_random_f32_0, Sg_file_reader_random_f32_0]
  rw [more_bad he]
  rfl
theorem vend {f : Nat} {a : Int} {l : List SegT} (hl : 0 < l.length) (hl2 : l.length ≤ 1000) (h9 : (l.getD (l.length - 1) dseg).2.1 = 9) {hs ps ms : List Int} {kk : LM → Option Ans} : iter (S_file_reader_random_f32_0 fl) (f + 1) (b, a, 0, 0, l, hs, ps, ms) kk = kk (b, a, 0, 0, l, hs, ps, ms) := by
  simp only [iter, S_file_reader_random_f32_0, Sg_file_reader_random_f32_0]
  rw [more_end hl hl2 h9]
  rfl
theorem vloop (hfl : 9223372036854775808 ≤ fl) (hb : Bytes b) {kk : LM → Option Ans} : ∀ (m : Nat) {a : Int} {l : List SegT} {hs : List Int} {ms : List Int} {f : Nat}, l.length + m = 101 → l.length ≤ 100 → hs.length = l.length → ms.length = l.length → NL l → (∀ s ∈ l, Short s) → m + 2 ≤ f →
    VOk kk b (iter (S_file_reader_random_f32_0 fl) f (b, a, 0, 0, l, hs, [], ms) kk) (hGo b m a l ms)
  | 0, a, l, hs, ms, f, h1, h2, _, _, _, _, _ => by omega
  | m + 1, a, l, hs, ms, f, h1, h2, h3, h4, hn, h7, h8 => by
    obtain ⟨f, rfl⟩ : ∃ g, f = g + 2 := ⟨f - 2, by omega⟩
    unfold hGo
    generalize hg : getH b a = g
    obtain ⟨n, k, pg, ln, q, e, refs, keep, data⟩ := g
    dsimp only
    have hstep : ∀ c : LM → Option Ans, S_file_reader_random_f32_0 fl (b, a, 0, 0, l, hs, [], ms) c kk = if a = b.length ∧ l.length < 100 then kk (b, a, a, 60, l, hs, [], ms) else if l.length = 100 then c (b, a, 0, 4, l, hs, [], ms ++ [0]) else if e ≠ 0 then c (b, a, a, e, l, hs, [], ms ++ [0]) else c (b, q, 0, 0, l ++ [(n, k, pg, refs, keep, data)], hs ++ [a], [], ms ++ [ln]) := by
      intro c
      simp only [S_file_reader_random_f32_0, Sg_file_reader_random_f32_0]
      rw [more_ok h2 hn]
      by_cases c0 : a = b.length ∧ l.length < 100
      · rw [if_pos c0, if_pos c0]
        rfl
      rw [if_neg c0, if_neg c0]
      dsimp only
      rw [cond_t (b := true) rfl, hdr_ok hfl hb h2 (by omega) hg]
      by_cases c1 : l.length = 100
      · rw [if_pos c1, if_pos c1]
        dsimp only
        rw [dec_t (by simp; omega)]
      rw [if_neg c1, if_neg c1]
      by_cases c2 : e ≠ 0
      · rw [if_pos c2, if_pos c2]
        dsimp only
        rw [dec_t (by simp; omega)]
      rw [if_neg c2, if_neg c2]
      dsimp only
      rw [dec_t (by simp; omega)]
    rw [show f + 2 = (f + 1) + 1 from rfl]
    simp only [iter]
    rw [hstep]
    by_cases c1 : l.length = 100
    · rw [if_pos c1, if_neg (by omega), if_pos c1]
      exact ⟨by decide, _, _, _, _, _, by rw [List.length_append]; simp only [List.length_cons, List.length_nil]; omega, vstop (by decide)⟩
    rw [if_neg c1, if_neg c1]
    by_cases c0 : a = b.length
    · rw [if_pos c0, if_pos ⟨c0, by omega⟩]
      exact ⟨by decide, _, _, _, _, _, by omega, rfl⟩
    rw [if_neg c0, if_neg (fun h => c0 h.1)]
    by_cases c2 : e ≠ 0
    · rw [if_pos c2, if_pos c2]
      exact ⟨c2, _, _, _, _, _, by rw [List.length_append]; simp only [List.length_cons, List.length_nil]; omega, vstop c2⟩
    rw [if_neg c2, if_neg c2]
    obtain ⟨k1, k2, k3, k4, k5, k6, k7⟩ := getH_ok hb hg (by omega)
    have hsh : ∀ s ∈ l ++ [((n, k, pg, refs, keep, data) : SegT)], Short s := fun s hs' => by
      rcases List.mem_append.1 hs' with hs' | hs'
      · exact h7 s hs'
      · rw [List.mem_singleton] at hs'
        subst hs'
        exact ⟨by simp only; omega, by simp only; omega, by simp only; rw [k7]; simp⟩
    by_cases c9 : k = 9
    · rw [if_pos c9]
      refine ⟨hsh, hs ++ [a], by rw [List.length_append, List.length_append]; simp only [List.length_cons, List.length_nil]; omega, ?_⟩
      exact vend (by simp) (by rw [List.length_append]; simp only [List.length_cons, List.length_nil]; omega) (by
        rw [show (l ++ [((n, k, pg, refs, keep, data) : SegT)]).length - 1 = l.length by simp, last_get]
        exact c9)
    rw [if_neg c9]
    exact vloop (f := f + 1) hfl hb m (by rw [List.length_append]; simp only [List.length_cons, List.length_nil]; omega) (by rw [List.length_append]; simp only [List.length_cons, List.length_nil]; omega) (by rw [List.length_append, List.length_append]; simp only [List.length_cons, List.length_nil]; omega) (by rw [List.length_append, List.length_append]; simp only [List.length_cons, List.length_nil]; omega) (NL_app c9) hsh (by omega)
end
end Go.Proofs.Ytihfgpfofmjbaaa.Fr

set_option linter.unusedVariables false
set_option linter.unusedSimpArgs false
namespace Go.Proofs.Ytihfgpfofmjbaaa.Fr
open Go Ev Bm Seg
def withD (b : List Int) (s : SegT) (a ln : Int) : SegT := (s.1, s.2.1, s.2.2.1, s.2.2.2.1, s.2.2.2.2.1, (b.drop a.toNat).take ln.toNat)
def dGo (b : List Int) : List (SegT × Int) → Int → List SegT → List (Int × Int) → SR
  | [], a, out, ps => .inr (a, out, ps)
  | (s, ln) :: r, a, out, ps => if ln > b.length - a then .inl 6 else dGo b r (a + ln) (out ++ [withD b s a ln]) (ps ++ [(a, ln)])
theorem mid_get {α : Type} (l : List α) (s d : α) (r : List α) : (l ++ s :: r).getD l.length d = s := by simp
theorem mid_set {α : Type} (l : List α) (s s' : α) (r : List α) : (l ++ s :: r).set l.length s' = (l ++ [s']) ++ r := by simp
section
variable {fl : Nat} {b : List Int}
def WOk (rt : RK → Option Ans) (bb : PB → Option Ans) (b : List Int) (hs : List Int) (x : Option Ans) : SR → Prop
  | .inl e => e ≠ 0 ∧ ∃ w a' l' h' p', x = rt (w, e, a', l', h', p')
  | .inr (a', l', ps') => x = bb (b, a', 1, 0, 0, l', hs, ps')
theorem wloop (hfl : 9223372036854775808 ≤ fl) (hbl : b.length ≤ 100000) {rt : RK → Option Ans} {bb : PB → Option Ans} {hs : List Int} : ∀ (r : List (SegT × Int)) {a : Int} {out : List SegT} {ps : List (Int × Int)} {f : Nat}, ps.length = out.length → out.length + r.length ≤ 1000 → 0 ≤ a → a ≤ b.length → (∀ x ∈ r, 0 ≤ x.2 ∧ x.2 ≤ 20000) → r.length + 1 ≤ f →
    WOk rt bb b hs (iter (S_ref14_Parse_3 fl) f (b, a, (out.length : Int), 1, 0, 0, out ++ r.map (·.1), hs, ps ++ r.map fun x => (0, x.2)) (rt, bb)) (dGo b r a out ps)
  | [], a, out, ps, f, h1, h2, h3, h4, h5, h6 => by
    obtain ⟨f, rfl⟩ : ∃ g, f = g + 1 := ⟨f - 1, by simp at h6; omega⟩
    unfold dGo
    simp only [iter, S_ref14_Parse_3, Sg_ref14_Parse_3, List.map_nil, List.append_nil]
    rw [cond_t (b := (1 : Int) == 1) rfl, dec_f (by omega)]
    rfl
  | (s, ln) :: r, a, out, ps, f, h1, h2, h3, h4, h5, h6 => by
    obtain ⟨f, rfl⟩ : ∃ g, f = g + 1 := ⟨f - 1, by simp at h6; omega⟩
    have hln := h5 (s, ln) (by simp)
    simp only at hln
    simp only [List.length_cons] at h2 h6
    unfold dGo
    simp only [iter, S_ref14_Parse_3, Sg_ref14_Parse_3, List.map_cons]
    rw [cond_t (b := (1 : Int) == 1) rfl, dec_t (by simp; omega)]
    have e4 : (ps ++ ((0 : Int), ln) :: r.map fun x => ((0 : Int), x.2)).getD out.length (0, 0) = (0, ln) := by rw [← h1]; exact mid_get _ _ _ _
    unfold F_ref14_Parsed_data_4ba Fg_ref14_Parsed_data_4ba F_ref14_Parsed_failed_6fe
    rw [dec_t (by simp; omega), Int.toNat_natCast, e4, wrap64 (x := (b.length : Int) - a) (by omega) (by omega)]
    by_cases c4 : ln > b.length - a
    · rw [if_pos c4, dec_t c4]
      exact ⟨by decide, _, _, _, _, _, rfl⟩
    rw [if_neg c4, dec_f c4]
    have ecut : List.take (hiOf (some (a + ln)) (b.length : Int) - loOf (some a)).toNat (List.drop (loOf (some a)).toNat b) = (b.drop a.toNat).take ln.toNat := by
      simp only [loOf_some, hiOf_some]
      rw [show a + ln - a = ln by omega]
    have e5 : (ps ++ ((0 : Int), ln) :: r.map fun x => ((0 : Int), x.2)).set out.length (a, ln) = (ps ++ [(a, ln)]) ++ r.map fun x => ((0 : Int), x.2) := by rw [← h1]; exact mid_set _ _ _ _
    rw [dec_t (by simp; omega), wrap64 (x := a + ln) (by omega) (by omega), dec_t (show (0 : Int) ≤ loOf (some a) ∧ loOf (some a) ≤ hiOf (some (a + ln)) (b.length : Int) ∧ hiOf (some (a + ln)) (b.length : Int) ≤ (b.length : Int) by simp only [loOf_some, hiOf_some]; omega), ecut, dec_t (by rw [List.length_take, List.length_drop]; omega), dec_t (by simp; omega), mid_get, mid_set, List.nil_append, e5]
    dsimp only
    rw [cond_f (b := !true) rfl, wrap64 (x := (out.length : Int) + 1) (by omega) (by omega)]
    have el : ((out ++ [withD b s a ln]).length : Int) = (out.length : Int) + 1 := by
      rw [List.length_append]
      simp
    rw [← el]
    exact wloop hfl hbl r (by rw [List.length_append, List.length_append]; simp only [List.length_cons, List.length_nil]; omega) (by rw [List.length_append]; simp only [List.length_cons, List.length_nil]; omega) (by omega) (by omega) (fun x hx => h5 x (by simp [hx])) (by omega)
end
end Go.Proofs.Ytihfgpfofmjbaaa.Fr

set_option linter.unusedVariables false
set_option linter.unusedSimpArgs false
namespace Go.Proofs.Ytihfgpfofmjbaaa.Fr
open Go Ev Bm Seg
section
variable {fl : Nat} {b : List Int}
theorem xstop {a bd e : Int} (he : e ≠ 0) {l : List SegT} {hs ps ms : List Int} (hm : ms.length ≤ 1000) {kk : LK → Option Ans} : ∀ (j i : Nat) {f : Nat}, i + j = ms.length → j + 1 ≤ f → iter (S_file_reader_random_f32_2 fl) f ((ms.length : Int), (i : Int), b, a, bd, e, l, hs, ps, ms) kk = kk (b, a, bd, e, l, hs, ps)
  | 0, i, f, h1, h2 => by
    obtain ⟨f, rfl⟩ : ∃ g, f = g + 1 := ⟨f - 1, by omega⟩
    simp only [iter, S_file_reader_random_f32_2, Sg_file_reader_random_f32_2]
    rw [dec_f (by omega)]
  | j + 1, i, f, h1, h2 => by
    obtain ⟨f, rfl⟩ : ∃ g, f = g + 1 := ⟨f - 1, by omega⟩
    simp only [iter, S_file_reader_random_f32_2, Sg_file_reader_random_f32_2]
    unfold F_file_reader_data_857 Fg_file_reader_data_857
    rw [dec_t (by omega), dec_t (by omega), cond_t (by simpa using he)]
    dsimp only
    rw [wrap64 (x := (i : Int) + 1) (by omega) (by omega)]
    exact xstop he hm j (i + 1) (by omega) (by omega)
def XOk (kk : LK → Option Ans) (b : List Int) (hs : List Int) (x : Option Ans) : SR → Prop
  | .inl e => e ≠ 0 ∧ ∃ a' bd l' p', x = kk (b, a', bd, e, l', hs, p')
  | .inr (a', l', ps') => x = kk (b, a', 0, 0, l', hs, ps'.map (·.1))
theorem xloop (hfl : 9223372036854775808 ≤ fl) (hbl : b.length ≤ 100000) {kk : LK → Option Ans} {hs : List Int} : ∀ (r : List (SegT × Int)) {a : Int} {out : List SegT} {ps : List (Int × Int)} {dn : List Int} {f : Nat}, ps.length = out.length → dn.length = out.length → out.length + r.length ≤ 1000 → 0 ≤ a → a ≤ b.length → (∀ x ∈ r, 0 ≤ x.2 ∧ x.2 ≤ 20000) → r.length + 2 ≤ f →
    XOk kk b hs (iter (S_file_reader_random_f32_2 fl) f (((dn ++ r.map (·.2)).length : Int), (out.length : Int), b, a, 0, 0, out ++ r.map (·.1), hs, ps.map (·.1), dn ++ r.map (·.2)) kk) (dGo b r a out ps)
  | [], a, out, ps, dn, f, h1, h0, h2, h3, h4, h5, h6 => by
    obtain ⟨f, rfl⟩ : ∃ g, f = g + 1 := ⟨f - 1, by simp at h6; omega⟩
    unfold dGo
    simp only [iter, S_file_reader_random_f32_2, Sg_file_reader_random_f32_2, List.map_nil, List.append_nil]
    rw [dec_f (by omega)]
    rfl
  | (s, ln) :: r, a, out, ps, dn, f, h1, h0, h2, h3, h4, h5, h6 => by
    obtain ⟨f, rfl⟩ : ∃ g, f = g + 1 := ⟨f - 1, by simp at h6; omega⟩
    have hln := h5 (s, ln) (by simp)
    simp only at hln
    simp only [List.length_cons] at h2 h6
    have htot : (dn ++ ((s, ln) :: r).map (·.2)).length = out.length + r.length + 1 := by simp; omega
    have e4 : (dn ++ ((s, ln) :: r).map (·.2)).getD out.length 0 = ln := by rw [← h0]; exact mid_get _ _ _ _
    have hpl : (ps.map (·.1)).length = out.length := by rw [List.length_map]; exact h1
    unfold dGo
    simp only [iter, S_file_reader_random_f32_2, Sg_file_reader_random_f32_2]
    rw [dec_t (by omega), dec_t (by omega), Int.toNat_natCast, e4]
    unfold F_file_reader_data_857 Fg_file_reader_data_857 F_file_reader_fail_857
    dsimp only
    rw [cond_f (b := (0 : Int) != 0) rfl, wrap64 (x := (b.length : Int) - a) (by omega) (by omega), wrap64 (x := (out.length : Int) + 1) (by omega) (by omega)]
    by_cases c4 : ln > b.length - a
    · rw [if_pos c4, dec_t c4, cond_t (b := (0 : Int) == 0) rfl]
      exact ⟨by decide, _, _, _, _, xstop (by decide) (by omega) r.length (out.length + 1) (by omega) (by omega)⟩
    rw [if_neg c4, dec_f c4]
    have ecut : List.take (hiOf (some (a + ln)) (b.length : Int) - loOf (some a)).toNat (List.drop (loOf (some a)).toNat b) = (b.drop a.toNat).take ln.toNat := by
      simp only [loOf_some, hiOf_some]
      rw [show a + ln - a = ln by omega]
    simp only [both_same, List.map_cons]
    rw [dec_t (by rw [hpl]; simp; omega), wrap64 (x := a + ln) (by omega) (by omega), dec_t (show (0 : Int) ≤ loOf (some a) ∧ loOf (some a) ≤ hiOf (some (a + ln)) (b.length : Int) ∧ hiOf (some (a + ln)) (b.length : Int) ≤ (b.length : Int) by simp only [loOf_some, hiOf_some]; omega), ecut, clone_b (by rw [List.length_take, List.length_drop]; omega)]
    try dsimp only
    rw [dec_t (by simp; omega), Int.toNat_natCast, mid_get, mid_set]
    have el : ((out ++ [withD b s a ln]).length : Int) = (out.length : Int) + 1 := by
      rw [List.length_append]
      simp
    have ed : dn ++ ln :: r.map (·.2) = (dn ++ [ln]) ++ r.map (·.2) := by simp
    have ep : ps.map (·.1) ++ [a] = (ps ++ [(a, ln)]).map (·.1) := by rw [List.map_append]; rfl
    rw [← el, ed, ep]
    exact xloop hfl hbl r (by rw [List.length_append, List.length_append]; simp only [List.length_cons, List.length_nil]; omega) (by rw [List.length_append, List.length_append]; simp only [List.length_cons, List.length_nil]; omega) (by rw [List.length_append]; simp only [List.length_cons, List.length_nil]; omega) (by omega) (by omega) (fun x hx => h5 x (by simp [hx])) (by omega)
end
end Go.Proofs.Ytihfgpfofmjbaaa.Fr

set_option linter.unusedVariables false
set_option linter.unusedSimpArgs false
namespace Go.Proofs.Ytihfgpfofmjbaaa.Fr
open Go Ev Bm Seg
def rGo (b : List Int) : SR := match hGo b 101 5 [] [] with
  | .inl e => .inl e
  | .inr (a, l, ms) => dGo b (l.zip ms) a [] []
theorem dGo_len {b : List Int} : ∀ (r : List (SegT × Int)) {a : Int} {out : List SegT} {ps : List (Int × Int)} {a' : Int} {l' : List SegT} {ps' : List (Int × Int)}, dGo b r a out ps = .inr (a', l', ps') → l'.length = out.length + r.length
  | [], a, out, ps, a', l', ps', h => by
    simp only [dGo] at h
    injection h with h
    simp only [Prod.mk.injEq] at h
    obtain ⟨_, rfl, _⟩ := h
    simp
  | (s, ln) :: r, a, out, ps, a', l', ps', h => by
    simp only [dGo] at h
    split at h
    · cases h
    · have := dGo_len r h
      simp at this ⊢
      omega
section
variable {fl : Nat} {b : List Int}
def YOk (kk : LK → Option Ans) (b : List Int) (x : Option Ans) : SR → Prop
  | .inl e => e ≠ 0 ∧ ∃ a' bd l' h' p', x = kk (b, a', bd, e, l', h', p')
  | .inr (a', l', ps') => ∃ h', h'.length = l'.length ∧ x = kk (b, a', 0, 0, l', h', ps'.map (·.1))
theorem hGo_ok (hfl : 9223372036854775808 ≤ fl) (hb : Bytes b) {a : Int} {l : List SegT} {ms : List Int} (h : hGo b 101 5 [] [] = .inr (a, l, ms)) : 0 ≤ a ∧ a ≤ b.length ∧ l.length ≤ 100 ∧ ms.length = l.length ∧ ∀ v ∈ ms, 0 ≤ v ∧ v ≤ 20000 := by
  have U := uloop (fl := fl) (rt := fun _ => none) (bb := fun _ => none) hfl hb 101 (a := 5) (l := []) (hs := []) (ms := []) (f := fl) (by simp) (by simp) rfl rfl (by simp) (by omega)
  rw [h] at U
  obtain ⟨u1, u2, u3, u4, u5, _⟩ := U
  exact ⟨u1, u2, u3, u4, u5⟩
theorem rand_ok (hfl : 9223372036854775808 ≤ fl) (hb : Bytes b) (hbl : b.length ≤ 100000) {k0 : LK → Option Ans} : YOk k0 b (F_file_reader_random_f32 fl b 5 0 0 [] [] [] k0) (rGo b) := by
  unfold F_file_reader_random_f32 Fg_file_reader_random_f32 L_file_reader_random_f32_0 L_file_reader_random_f32_2
  have V := fun kk : LM → Option Ans => vloop (kk := kk) hfl hb 101 (a := 5) (l := []) (hs := []) (ms := []) (f := fl) (by simp) (by simp) rfl rfl (fun h => by simp at h) (by simp) (by omega)
  unfold rGo
  generalize hh : hGo b 101 5 [] [] = H at V
  cases H with
  | inl e =>
    obtain ⟨he, a', bd, l', h', ms', hm, hx⟩ := V _
    rw [hx]
    exact ⟨he, _, _, _, _, _, xstop he (by omega) ms'.length 0 (by omega) (by omega)⟩
  | inr v =>
    obtain ⟨a, l, ms⟩ := v
    obtain ⟨u1, u2, u3, u4, u5⟩ := hGo_ok hfl hb hh
    obtain ⟨v1, h', v2, hx⟩ := V _
    rw [hx]
    dsimp only
    have e1 : (l.zip ms).map (·.1) = l := List.map_fst_zip (by omega)
    have e2 : (l.zip ms).map (·.2) = ms := List.map_snd_zip (by omega)
    have X := xloop (kk := k0) (hs := h') hfl hbl (l.zip ms) (a := a) (out := []) (ps := []) (dn := []) (f := fl) rfl rfl (by rw [List.length_zip]; simp; omega) u1 u2 (fun x hx => u5 x.2 (by rw [← e2]; exact List.mem_map_of_mem hx)) (by rw [List.length_zip]; omega)
    rw [List.nil_append, List.nil_append, e1, e2] at X
    generalize hd : dGo b (l.zip ms) a [] [] = R at X
    cases R with
    | inl e =>
      obtain ⟨he, a', bd, l', p', hy⟩ := X
      exact ⟨he, _, _, _, _, _, hy⟩
    | inr w =>
      obtain ⟨a', l', ps'⟩ := w
      exact ⟨h', by
        have := dGo_len _ hd
        rw [List.length_zip] at this
        simp at this
        omega, X⟩
end
end Go.Proofs.Ytihfgpfofmjbaaa.Fr

set_option linter.unusedVariables false
set_option linter.unusedSimpArgs false
namespace Go.Proofs.Ytihfgpfofmjbaaa.Seg
open Go Ev Bm

/-- A list stands in another one. -/
def Has (b : List Int) (p : Nat) (l : List Int) : Prop := ∃ pre post, b = pre ++ (l ++ post) ∧ pre.length = p
theorem Has.left {b : List Int} {p : Nat} {l m : List Int} (h : Has b p (l ++ m)) : Has b p l := by
  obtain ⟨pre, post, e, hp⟩ := h
  exact ⟨pre, m ++ post, by rw [e, List.append_assoc], hp⟩
theorem Has.right {b : List Int} {p : Nat} {l m : List Int} (h : Has b p (l ++ m)) : Has b (p + l.length) m := by
  obtain ⟨pre, post, e, hp⟩ := h
  exact ⟨pre ++ l, post, by rw [e]; simp only [List.append_assoc], by rw [List.length_append, hp]⟩
theorem Has.join {b : List Int} {p : Nat} {l m : List Int} (h : Has b p l) (k : Has b (p + l.length) m) : Has b p (l ++ m) := by
  obtain ⟨pre, post, e, hp⟩ := h
  obtain ⟨pre', post', e', hp'⟩ := k
  have : (pre ++ l) ++ post = pre' ++ (m ++ post') := by rw [← e', e, List.append_assoc]
  obtain ⟨h1, h2⟩ := List.append_inj this (by rw [List.length_append, hp, hp'])
  exact ⟨pre, post', by rw [e, h2, List.append_assoc], hp⟩
theorem Has.len {b : List Int} {p : Nat} {l : List Int} (h : Has b p l) : p + l.length ≤ b.length := by
  obtain ⟨pre, post, e, hp⟩ := h
  rw [e]
  simp
  omega
theorem Has.get {b : List Int} {p : Nat} {l : List Int} (h : Has b p l) {i : Nat} (hi : i < l.length) : b.getD (p + i) 0 = l.getD i 0 := by
  obtain ⟨pre, post, e, hp⟩ := h
  subst hp
  rw [e, getD_lt (by simp; omega), getD_lt hi, List.getElem_append_right (by omega)]
  simp only [Nat.add_sub_cancel_left]
  rw [List.getElem_append_left hi]
theorem has_of {b : List Int} {p : Nat} {l : List Int} (hl : p + l.length ≤ b.length) (h : ∀ i, i < l.length → b.getD (p + i) 0 = l.getD i 0) : Has b p l := by
  refine ⟨b.take p, b.drop (p + l.length), ?_, by rw [List.length_take]; omega⟩
  have e : (b.drop p).take l.length = l := by
    apply List.ext_getElem (by rw [List.length_take, List.length_drop]; omega)
    intro i h1 h2
    have := h i h2
    rw [getD_lt (by omega), getD_lt h2] at this
    simpa using this
  have e2 : l ++ b.drop (p + l.length) = b.drop p := by
    conv => lhs; lhs; rw [← e]
    rw [← List.drop_drop, List.take_append_drop]
  rw [e2, List.take_append_drop]
theorem Has.slice {b : List Int} {p : Nat} {l : List Int} (h : Has b p l) : (b.drop p).take l.length = l := by
  obtain ⟨pre, post, e, hp⟩ := h
  subst hp
  rw [e]
  simp

/-! ### Sizes -/
def hiF : Nat → Int → List Int
  | 0, _ => []
  | f + 1, u => if u > 0 then hiF f (u / 128) ++ [u % 128 + 128] else []
theorem szGo_hi : ∀ (f : Nat) (u : Int) (acc : List Int), szGo f u acc = hiF f u ++ acc
  | 0, u, acc => rfl
  | f + 1, u, acc => by
    simp only [szGo, hiF]
    split
    · rw [szGo_hi f]; simp
    · simp
theorem sz_hi (v : Int) : sz v = hiF 5 (v / 128) ++ [v % 128] := szGo_hi 5 _ _
def vl (ds : List Int) : Int := ds.foldl (fun n d => n * 128 + d % 128) 0
theorem vl_append (ds : List Int) (d : Int) : vl (ds ++ [d]) = vl ds * 128 + d % 128 := by simp [vl]
theorem vl_lt : ∀ (ds : List Int), 0 ≤ vl ds ∧ vl ds < 128 ^ ds.length := by
  intro ds
  generalize hn : ds.length = n
  induction n generalizing ds with
  | zero => have := List.eq_nil_of_length_eq_zero hn; subst this; simp [vl]
  | succ n ih =>
    rcases List.eq_nil_or_concat ds with rfl | ⟨es, e, he'⟩
    · simp at hn
    · rw [List.concat_eq_append] at he'
      subst he'
      rw [vl_append]
      have := ih es (by simpa using hn)
      rw [Int.pow_succ]
      omega
theorem hiF_ok : ∀ (f : Nat) (u : Int), 0 ≤ u → u < 128 ^ f → vl (hiF f u) = u ∧ (∀ d ∈ hiF f u, 128 ≤ d ∧ d ≤ 255) ∧ (hiF f u).length ≤ f ∧ (u > 0 → ∃ d r, hiF f u = d :: r ∧ d ≠ 128)
  | 0, u, h0, h1 => by
    have : u = 0 := by simp at h1; omega
    subst this
    simp [hiF, vl]
  | f + 1, u, h0, h1 => by
    simp only [hiF]
    by_cases hu : u > 0
    · rw [if_pos hu]
      have hq : u / 128 < 128 ^ f := by rw [Int.pow_succ] at h1; exact Int.ediv_lt_of_lt_mul (by omega) h1
      obtain ⟨a, b, c, d⟩ := hiF_ok f (u / 128) (by omega) hq
      refine ⟨by rw [vl_append, a]; omega, ?_, by simp; omega, fun _ => ?_⟩
      · intro x hx
        rcases List.mem_append.1 hx with hx | hx
        · exact b x hx
        · simp at hx; omega
      · by_cases hq0 : u / 128 > 0
        · obtain ⟨x, r, e1, e2⟩ := d hq0
          exact ⟨x, r ++ [u % 128 + 128], by rw [e1]; rfl, e2⟩
        · have : u / 128 = 0 := by omega
          rw [this]
          have e0 : hiF f 0 = [] := by cases f <;> simp [hiF]
          rw [e0]
          exact ⟨_, [], rfl, by omega⟩
    · have : u = 0 := by omega
      subst this
      simp [vl]
theorem hiF_vl : ∀ (f : Nat) (ds : List Int), ds.length ≤ f → (∀ d ∈ ds, 128 ≤ d ∧ d ≤ 255) → (ds = [] ∨ ∃ d r, ds = d :: r ∧ d ≠ 128) → hiF f (vl ds) = ds ∧ (ds ≠ [] → vl ds > 0)
  | 0, ds, hl, hd, hh => by
    have : ds = [] := List.eq_nil_of_length_eq_zero (by omega)
    subst this
    simp [hiF]
  | f + 1, ds, hl, hd, hh => by
    rcases List.eq_nil_or_concat ds with rfl | ⟨es, e, he'⟩
    · simp [hiF, vl]
    · rw [List.concat_eq_append] at he'
      subst he'
      have he := hd e (by simp)
      have hes : es = [] ∨ ∃ d r, es = d :: r ∧ d ≠ 128 := by
        cases es with
        | nil => exact .inl rfl
        | cons x r =>
          rcases hh with hh | ⟨d, r', e1, e2⟩
          · simp at hh
          · simp at e1
            exact .inr ⟨x, r, rfl, by rw [e1.1]; exact e2⟩
      obtain ⟨a, b⟩ := hiF_vl f es (by simp at hl; omega) (fun d hd' => hd d (by simp [hd'])) hes
      have h0 := (vl_lt es).1
      have hpos : vl (es ++ [e]) > 0 := by
        rw [vl_append]
        by_cases hn : es = []
        · subst hn
          rcases hh with hh | ⟨d, r', e1, e2⟩
          · simp at hh
          · simp at e1
            have : vl [] = 0 := rfl
            omega
        · have := b hn
          omega
      refine ⟨?_, fun _ => hpos⟩
      simp only [hiF]
      rw [if_pos hpos, vl_append]
      have e1 : (vl es * 128 + e % 128) / 128 = vl es := by omega
      have e2 : (vl es * 128 + e % 128) % 128 + 128 = e := by omega
      rw [e1, e2, a]

theorem gs_read {b : List Int} {p : Nat} {ds : List Int} {r : Int} (hk : ds.length ≤ 4) (h : Has b p (ds ++ [r])) (hd : ∀ d ∈ ds, 128 ≤ d ∧ d ≤ 255) (hr : 0 ≤ r ∧ r < 128) : ∀ (f i : Nat), f + i = 5 → i ≤ ds.length →
    gsGo b p f i (vl (ds.take i)) = if vl ds * 128 + r > 2147483647 ∨ (ds.length > 0 ∧ b.getD p 0 = 128) then (0, 0, 3) else (vl ds * 128 + r, ((p + ds.length + 1 : Nat) : Int), 0)
  | 0, i, hi, hle => by omega
  | f + 1, i, hi, hle => by
    have hlen := h.len
    simp at hlen
    simp only [gsGo]
    rw [if_neg (by omega)]
    have hg := h.get (i := i) (by simp; omega)
    rw [hg]
    by_cases hlt : i < ds.length
    · have e : (ds ++ [r]).getD i 0 = ds.getD i 0 := by
        rw [getD_lt (by simp; omega), getD_lt hlt, List.getElem_append_left hlt]
      have hdi := hd _ (getD_mem hlt 0)
      rw [e, if_neg (by omega)]
      have e2 : vl (ds.take i) * 128 + ds.getD i 0 % 128 = vl (ds.take (i + 1)) := by rw [take_succ_getD hlt 0, vl_append]
      rw [e2]
      exact gs_read hk h hd hr f (i + 1) (by omega) (by omega)
    · have hi' : i = ds.length := by omega
      subst hi'
      have e : (ds ++ [r]).getD ds.length 0 = r := by rw [getD_lt (by simp)]; simp
      rw [e, if_pos (by omega), List.take_length, show r % 128 = r by omega]
theorem getR_of {b : List Int} {p : Nat} {v : Int} (h0 : 0 ≤ v) (h1 : v ≤ 2147483647) (h : Has b p (sz v)) : getR b (p : Int) = (v, ((p + (sz v).length : Nat) : Int), 0) := by
  have hlen := h.len
  rw [sz_hi] at h hlen ⊢
  obtain ⟨a1, a2, a3, a4⟩ := hiF_ok 5 (v / 128) (by omega) (by rw [show (128 : Int) ^ 5 = 34359738368 by decide]; omega)
  have hk : (hiF 5 (v / 128)).length ≤ 4 := by
    have e5 : hiF 5 (v / 128) = hiF 4 (v / 128) := by
      have hb := hiF_ok 4 (v / 128) (by omega) (by rw [show (128 : Int) ^ 4 = 268435456 by decide]; omega)
      have := (hiF_vl 5 (hiF 4 (v / 128)) (by omega) hb.2.1 (by
        by_cases h : v / 128 > 0
        · exact .inr (hb.2.2.2 h)
        · left
          have : v / 128 = 0 := by omega
          rw [this]; simp [hiF])).1
      rw [hb.1] at this
      exact this
    rw [e5]
    exact (hiF_ok 4 (v / 128) (by omega) (by rw [show (128 : Int) ^ 4 = 268435456 by decide]; omega)).2.2.1
  unfold getR
  rw [if_neg (by simp at hlen; omega), Int.toNat_natCast]
  have hg := gs_read hk h a2 (by omega) 5 0 (by omega) (by omega)
  rw [List.take_zero] at hg
  have e0 : vl [] = 0 := rfl
  rw [e0] at hg
  rw [hg, a1, show v / 128 * 128 + v % 128 = v by omega, if_neg]
  · simp only [List.length_append, List.length_singleton]
    rfl
  · rintro (h' | ⟨h', h''⟩)
    · omega
    · have hv : v / 128 > 0 := by
        rcases Int.lt_or_le 0 (v / 128) with h3 | h3
        · exact h3
        · have : v / 128 = 0 := by omega
          rw [this] at h'
          simp [hiF] at h'
      obtain ⟨d, r, e1, e2⟩ := a4 hv
      have hg0 := h.get (i := 0) (by simp)
      rw [e1, Nat.add_zero] at hg0
      have h128 : d = 128 := by rw [← h'', hg0]; rfl
      exact e2 h128
theorem gsGo_inv {b : List Int} (hb : Bytes b) {p : Nat} : ∀ (f i : Nat) (ds : List Int) {v x : Int}, f + i = 5 → ds.length = i → Has b p ds → (∀ d ∈ ds, 128 ≤ d ∧ d ≤ 255) → gsGo b p f i (vl ds) = (v, x, 0) →
    ∃ (es : List Int) (r : Int), Has b p (es ++ [r]) ∧ (∀ d ∈ es, 128 ≤ d ∧ d ≤ 255) ∧ 0 ≤ r ∧ r < 128 ∧ es.length ≤ 4 ∧ v = vl es * 128 + r ∧ x = ((p + es.length + 1 : Nat) : Int) ∧ v ≤ 2147483647 ∧ (es = [] ∨ b.getD p 0 ≠ 128)
  | 0, i, ds, v, x, hi, hl, hh, hd, h => by simp [gsGo] at h
  | f + 1, i, ds, v, x, hi, hl, hh, hd, h => by
    have hc := hb.get (p + i)
    simp only [gsGo] at h
    split at h
    · simp at h
    · rename_i hlen
      have hj : Has b p (ds ++ [b.getD (p + i) 0]) := by
        refine hh.join (has_of (by simp; omega) fun j hj => ?_)
        simp at hj
        subst hj
        rw [hl]
        simp
      split at h
      · rename_i hs
        split at h
        · simp at h
        · rename_i hn
          simp only [Prod.mk.injEq, and_true] at h
          obtain ⟨rfl, rfl⟩ := h
          refine ⟨ds, b.getD (p + i) 0, hj, hd, hc.1, hs, by omega, by omega, by rw [hl], by omega, ?_⟩
          by_cases h0 : ds = []
          · exact .inl h0
          · right
            intro h128
            have : ds.length ≠ 0 := fun e => h0 (List.eq_nil_of_length_eq_zero e)
            exact hn (.inr ⟨by omega, h128⟩)
      · rename_i hs
        refine gsGo_inv hb f (i + 1) (ds ++ [b.getD (p + i) 0]) (by omega) (by simp [hl]) hj ?_ (by rw [vl_append]; exact h)
        intro d hd'
        rcases List.mem_append.1 hd' with hd' | hd'
        · exact hd d hd'
        · rw [List.mem_singleton] at hd'
          omega
theorem getR_inv {b : List Int} (hb : Bytes b) {p : Nat} {v x : Int} (h : getR b (p : Int) = (v, x, 0)) : Has b p (sz v) ∧ x = ((p + (sz v).length : Nat) : Int) := by
  unfold getR at h
  split at h
  · simp at h
  · rename_i hp
    rw [Int.toNat_natCast] at h
    obtain ⟨es, r, a1, a2, a3, a4, a5, a6, a7, a8, a9⟩ := gsGo_inv hb 5 0 [] (by omega) rfl (has_of (by simp; omega) (by simp)) (by simp) h
    have hh : es = [] ∨ ∃ d r, es = d :: r ∧ d ≠ 128 := by
      cases es with
      | nil => exact .inl rfl
      | cons d t =>
        right
        refine ⟨d, t, rfl, ?_⟩
        rcases a9 with h9 | h9
        · simp at h9
        · have := a1.get (i := 0) (by simp)
          rw [Nat.add_zero] at this
          rw [this] at h9
          simpa using h9
    have hv := (hiF_vl 5 es (by omega) a2 hh).1
    have h0 := (vl_lt es).1
    have e1 : v / 128 = vl es := by omega
    have e2 : v % 128 = r := by omega
    have e : sz v = es ++ [r] := by rw [sz_hi, e1, e2, hv]
    rw [e]
    exact ⟨a1, by rw [a7]; simp; omega⟩
theorem numR_of {b : List Int} {p : Nat} {v most : Int} (h0 : 0 ≤ v) (h1 : v ≤ most) (h2 : most ≤ 2147483647) (h : Has b p (sz v)) : numR b (p : Int) most = .ok v ((p + (sz v).length : Nat) : Int) := by
  unfold numR
  rw [getR_of h0 (by omega) h]
  simp only [if_true]
  rw [if_neg (by omega)]
theorem numR_inv {b : List Int} (hb : Bytes b) {p : Nat} {v x most : Int} (h : numR b (p : Int) most = .ok v x) : Has b p (sz v) ∧ x = ((p + (sz v).length : Nat) : Int) ∧ 0 ≤ v ∧ v ≤ most := by
  obtain ⟨a1, a2, a3, a4, a5, a6⟩ := numR_ok hb h
  unfold numR at h
  split at h
  · rename_i h1
    split at h
    · cases h
    · cases h
      obtain ⟨b1, b2⟩ := getR_inv hb (p := p) (v := (getR b p).1) (x := (getR b p).2.1) (by rw [← h1])
      exact ⟨b1, b2, a2, a3⟩
  · cases h
end Go.Proofs.Ytihfgpfofmjbaaa.Seg

