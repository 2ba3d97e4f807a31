/- Laws of the typed texts that ToneEncodes reaches, in plain Lean. No condition but what each theorem names. -/
import Derived.Test.YtipdidpalcmlhaaGreatEvO
import Derived.Test.YtipdidpalcmlhaaGreatFsToneEncodes3
import Derived.Test.YtipdidpalcmlhaaGreatFsToneEncodes1
import Derived.Test.YtipdidpalcmlhaaGreatFsToneEncodes5
import Derived.Test.YtipdidpalcmlhaaGreatFsToneEncodes4
import Derived.Test.YtipdidpalcmlhaaGreatFsToneEncodes2
import Derived.Test.YtipdidpalcmlhaaGreatFsToneEncodes6
import Derived.Laws.Strings
set_option linter.unusedVariables false
set_option linter.unusedSimpArgs false
namespace Go.Proofs.YtipdidpalcmlhaaGreat.Ev
open Go
theorem cond_t {α : Sort _} {b : Bool} {x y : α} (h : b = true) : (bif b then x else y) = x := by rw [h]; rfl
theorem cond_f {α : Sort _} {b : Bool} {x y : α} (h : b = false) : (bif b then x else y) = y := by rw [h]; rfl
theorem dec_t {p : Prop} {i : Decidable p} {α : Sort _} {x y : α} (h : p) : (bif @decide p i then x else y) = x := cond_t (decide_eq_true h)
theorem dec_f {p : Prop} {i : Decidable p} {α : Sort _} {x y : α} (h : ¬p) : (bif @decide p i then x else y) = y := cond_f (decide_eq_false h)
theorem loOf_some (x : Int) : loOf (some x) = x := rfl
theorem hiOf_some (x n : Int) : hiOf (some x) n = x := rfl
theorem both_same (x : Option Ans) : both x x = x := by
  unfold both
  cases x with
  | none => rfl
  | some u => rfl
theorem fuel_eq : fuel = 18446744073709551616 := rfl
theorem fuel_lt {n : Nat} (h : n < 18446744073709551616) : n < fuel := by rw [fuel_eq]; exact h
theorem wrap64 {x : Int} (h1 : -9223372036854775808 ≤ x) (h2 : x ≤ 9223372036854775807) : IntKind.i64.wrap x = x := by
  simp [IntKind.wrap, IntKind.min, IntKind.max, IntKind.signed, IntKind.bits]
  omega
theorem wrap8 {x : Int} (h1 : 0 ≤ x) (h2 : x ≤ 255) : IntKind.u8.wrap x = x := by
  simp [IntKind.wrap, IntKind.min, IntKind.max, IntKind.signed, IntKind.bits]
  omega
theorem ishl_one {y : Int} (h0 : 0 ≤ y) (h : y ≤ 62) : ishl .i64 1 y = 2 ^ y.toNat := by
  unfold ishl
  have hb : min y.toNat IntKind.i64.bits = y.toNat := by
    have : IntKind.i64.bits = 64 := rfl
    rw [this]
    omega
  rw [hb, Int.one_mul]
  have h1 : (2 : Int) ^ y.toNat ≤ 2 ^ 62 := by
    have := Nat.pow_le_pow_right (n := 2) (by omega) (show y.toNat ≤ 62 by omega)
    exact_mod_cast this
  have h2 : (0 : Int) < 2 ^ y.toNat := Int.pow_pos (by omega)
  exact wrap64 (by omega) (by omega)
theorem ishr_eq {k : IntKind} {x y : Int} (h0 : 0 ≤ y) (h : y ≤ 8) (hk : 8 ≤ k.bits := by decide) : ishr k x y = x / 2 ^ y.toNat := by
  unfold ishr
  have hb : min y.toNat k.bits = y.toNat := by omega
  rw [hb, Int.fdiv_eq_ediv_of_nonneg]
  exact Int.le_of_lt (Int.pow_pos (by omega))
theorem ofInt_toNat {n : Nat} {x : Int} (h0 : 0 ≤ x) (h : x < 2 ^ n) : (BitVec.ofInt n x).toNat = x.toNat := by
  rw [BitVec.toNat_ofInt]
  rw [Int.emod_eq_of_lt h0 (by exact_mod_cast h)]
theorem ixor_eq {x y : Int} (hx : 0 ≤ x) (hx' : x < 2 ^ 63) (hy : 0 ≤ y) (hy' : y < 2 ^ 63) : ixor .i64 x y = ((x.toNat ^^^ y.toNat : Nat) : Int) := by
  unfold ixor
  have e : IntKind.i64.bits = 64 := rfl
  rw [e, BitVec.toNat_xor, ofInt_toNat hx (by omega), ofInt_toNat hy (by omega)]
  have h1 : x.toNat ^^^ y.toNat < 2 ^ 63 := Nat.xor_lt_two_pow (by omega) (by omega)
  exact wrap64 (by omega) (by omega)
theorem iand_one {x : Int} (hx : 0 ≤ x) (hx' : x < 2 ^ 63) : iand .i64 x 1 = x % 2 := by
  unfold iand
  have e : IntKind.i64.bits = 64 := rfl
  rw [e, BitVec.toNat_and, ofInt_toNat hx (by omega), ofInt_toNat (by omega) (by omega)]
  have h1 : x.toNat &&& (1 : Int).toNat = x.toNat % 2 := Nat.and_one_is_mod _
  rw [h1]
  have h2 : ((x.toNat % 2 : Nat) : Int) = x % 2 := by omega
  rw [h2]
  exact wrap64 (by omega) (by omega)
theorem xor_mod2 (a b : Nat) : (a ^^^ b) % 2 = (a + b) % 2 := by
  rw [← Nat.and_one_is_mod, ← Nat.and_one_is_mod (a + b), Nat.and_xor_distrib_right]
  simp only [Nat.and_one_is_mod]
  rcases Nat.mod_two_eq_zero_or_one a with ha | ha <;> rcases Nat.mod_two_eq_zero_or_one b with hb | hb <;> simp [ha, hb] <;> omega
theorem gray_bit {x y : Int} (hx : 0 ≤ x) (hx' : x < 2 ^ 63) (hy : 0 ≤ y) (hy' : y < 2 ^ 63) : iand .i64 (ixor .i64 x y) 1 = (x + y) % 2 := by
  rw [ixor_eq hx hx' hy hy']
  have h1 : x.toNat ^^^ y.toNat < 2 ^ 63 := Nat.xor_lt_two_pow (by omega) (by omega)
  rw [iand_one (by omega) (by omega)]
  have := xor_mod2 x.toNat y.toNat
  omega
theorem iter_to {V B : Type} {step : V → (V → Option Ans) → B → Option Ans} {b : B} {r : Option Ans} (σ : Nat → V) (n : Nat)
    (h : ∀ i, i < n → ∀ c, step (σ i) c b = c (σ (i + 1))) (hn : ∀ c, step (σ n) c b = r) {m : Nat} (hm : n < m) : iter step m (σ 0) b = r := by
  have key : ∀ d i m, i + d = n → d < m → iter step m (σ i) b = r := by
    intro d
    induction d with
    | zero =>
      intro i m hi hm
      obtain ⟨m, rfl⟩ : ∃ k, m = k + 1 := ⟨m - 1, by omega⟩
      have : i = n := by omega
      subst this
      exact hn _
    | succ d ih =>
      intro i m hi hm
      obtain ⟨m, rfl⟩ : ∃ k, m = k + 1 := ⟨m - 1, by omega⟩
      simp only [iter]
      rw [h i (by omega)]
      exact ih (i + 1) m (by omega) (by omega)
  exact key n 0 m (by omega) hm
theorem iter_seq {V B : Type} {step : V → (V → Option Ans) → B → Option Ans} {b : B} {r : Option Ans} {v : V} {m : Nat} (σ : Nat → V) (n : Nat) (hv : v = σ 0)
    (h : ∀ i, i < n → ∀ c, step (σ i) c b = c (σ (i + 1))) (hn : ∀ c, step (σ n) c b = r) (hm : n < m) : iter step m v b = r := by
  rw [hv]
  exact iter_to σ n h hn hm
theorem take_succ_getD {α : Type} {l : List α} {i : Nat} (h : i < l.length) (d : α) : l.take (i + 1) = l.take i ++ [l.getD i d] := by
  rw [List.take_add_one]
  simp [List.getElem?_eq_getElem h]
theorem map_take_succ {α β : Type} {l : List α} {i : Nat} (h : i < l.length) (d : α) (f : α → β) : (l.take (i + 1)).map f = (l.take i).map f ++ [f (l.getD i d)] := by
  rw [take_succ_getD h d, List.map_append]; rfl
theorem getD_lt {α : Type} {l : List α} {i : Nat} (h : i < l.length) (d : α) : l.getD i d = l[i] := by simp [h]
theorem getD_mem {α : Type} {l : List α} {i : Nat} (h : i < l.length) (d : α) : l.getD i d ∈ l := by rw [getD_lt h]; exact List.getElem_mem h
theorem all_or_first {α : Type} (p : α → Bool) (d : α) (l : List α) : l.all p = true ∨ ∃ n, n < l.length ∧ p (l.getD n d) = false ∧ ∀ i, i < n → p (l.getD i d) = true := by
  induction l with
  | nil => exact .inl rfl
  | cons x l ih =>
    cases hx : p x with
    | false => exact .inr ⟨0, by simp, by simpa using hx, fun i hi => by omega⟩
    | true =>
      rcases ih with ih | ⟨n, h1, h2, h3⟩
      · left; simp [hx, ih]
      · refine .inr ⟨n + 1, by simpa using h1, by simpa using h2, fun i hi => ?_⟩
        cases i with
        | zero => simpa using hx
        | succ i => simpa using h3 i (by omega)
theorem all_getD {α : Type} {p : α → Bool} {l : List α} (h : l.all p = true) (d : α) {i : Nat} (hi : i < l.length) : p (l.getD i d) = true :=
  List.all_eq_true.1 h _ (getD_mem hi d)
theorem not_all {α : Type} {p : α → Bool} {l : List α} {d : α} {n : Nat} (h : n < l.length) (hp : p (l.getD n d) = false) : l.all p = false := by
  rw [List.all_eq_false]
  exact ⟨_, getD_mem h d, by rw [hp]; simp⟩
theorem nat_or_first (P : Nat → Prop) [DecidablePred P] : ∀ n, (∀ i, i < n → P i) ∨ ∃ k, k < n ∧ ¬ P k ∧ ∀ i, i < k → P i
  | 0 => .inl fun i h => by omega
  | n + 1 => by
    rcases nat_or_first P n with h | ⟨k, h1, h2, h3⟩
    · by_cases hn : P n
      · left
        intro i hi
        rcases Nat.lt_or_ge i n with h' | h'
        · exact h i h'
        · have : i = n := by omega
          subst this; exact hn
      · exact .inr ⟨n, by omega, hn, h⟩
    · exact .inr ⟨k, by omega, h2, h3⟩
theorem list_ext_getD {α : Type} {a b : List α} (d : α) (hl : a.length = b.length) (h : ∀ i, i < a.length → a.getD i d = b.getD i d) : a = b := by
  apply List.ext_getElem hl
  intro i h1 h2
  have := h i h1
  rwa [getD_lt h1, getD_lt h2] at this
def fillL (u : Nat → Int) (n i : Nat) : List Int := (List.range n).map fun j => if j < i then u j else 0
theorem fillL_len (u : Nat → Int) (n i : Nat) : (fillL u n i).length = n := by simp [fillL]
theorem fillL_zero (u : Nat → Int) (n : Nat) : fillL u n 0 = List.replicate n 0 := by
  apply List.ext_getElem (by simp [fillL])
  intro j h1 h2
  simp [fillL]
theorem fillL_set {u : Nat → Int} {n i : Nat} : (fillL u n i).set i (u i) = fillL u n (i + 1) := by
  apply List.ext_getElem (by simp [fillL])
  intro j h1 h2
  simp only [fillL, List.getElem_set, List.getElem_map, List.getElem_range]
  split
  · rename_i e; subst e; rw [if_pos (by omega)]
  · by_cases h : j < i
    · rw [if_pos h, if_pos (by omega)]
    · rw [if_neg h, if_neg (by omega)]
theorem fillL_all {u : Nat → Int} {n : Nat} : fillL u n n = (List.range n).map u := by
  apply List.ext_getElem (by simp [fillL])
  intro j h1 h2
  simp only [fillL, List.length_map, List.length_range] at h1
  simp [fillL, h1]
theorem range_map_succ {α : Type} (f : Nat → α) (i : Nat) : (List.range (i + 1)).map f = (List.range i).map f ++ [f i] := by
  rw [List.range_succ, List.map_append]; rfl
end Go.Proofs.YtipdidpalcmlhaaGreat.Ev
namespace Go.Proofs.YtipdidpalcmlhaaGreat.Bm
open Go Ev
theorem cd {α : Sort _} {p : Prop} {i : Decidable p} {x y : α} : (bif @decide p i then x else y) = @ite α p i x y := by by_cases h : p <;> simp [h]
theorem cb {α : Sort _} {a b : Int} {x y : α} : (bif a == b then x else y) = if a = b then x else y := by
  by_cases h : a = b
  · simp [h]
  · rw [if_neg h, cond_f (by simpa using h)]
theorem cn {α : Sort _} {a b : Int} {x y : α} : (bif a != b then x else y) = if a = b then y else x := by
  by_cases h : a = b
  · simp [h]
  · rw [if_neg h, cond_t (by simpa using h)]
theorem mul_le {w h a b : Int} (h0 : 0 ≤ w) (h1 : w ≤ a) (h2 : 0 ≤ h) (h3 : h ≤ b) : 0 ≤ w * h ∧ w * h ≤ a * b :=
  ⟨Int.mul_nonneg h0 h2, Int.mul_le_mul h1 h3 h2 (by omega)⟩
def fit (w h : Int) : Bool := decide (0 ≤ w ∧ 0 ≤ h ∧ w ≤ 200 ∧ h ≤ 200 ∧ w * h ≤ 8192)
theorem fit_iff {w h : Int} : fit w h = true ↔ 0 ≤ w ∧ 0 ≤ h ∧ w ≤ 200 ∧ h ≤ 200 ∧ w * h ≤ 8192 := by simp [fit]
theorem fits_ok {fl : Nat} {w h : Int} {K : Bool → Option Ans} : F_bitmap_fits fl w h K = K (fit w h) := by
  unfold F_bitmap_fits fit
  simp only [cd]
  split
  · split
    · split
      · split
        · have := mul_le (a := 200) (b := 200) (show 0 ≤ w by omega) (by omega) (show 0 ≤ h by omega) (by omega)
          rw [wrap64 (by omega) (by omega)]
          exact congrArg K (decide_eq_decide.2 (by omega))
        · exact congrArg K (decide_eq_false (by omega)).symm
      · exact congrArg K (decide_eq_false (by omega)).symm
    · exact congrArg K (decide_eq_false (by omega)).symm
  · exact congrArg K (decide_eq_false (by omega)).symm
theorem sides_ok {fl : Nat} {w h : Int} {K : Bool → Option Ans} : F_ref05_Sides fl w h K = K (fit w h) := by
  unfold F_ref05_Sides fit
  simp only [cd]
  split
  · split
    · split
      · split
        · have := mul_le (a := 200) (b := 200) (show 0 ≤ w by omega) (by omega) (show 0 ≤ h by omega) (by omega)
          rw [wrap64 (by omega) (by omega)]
          exact congrArg K (decide_eq_decide.2 (by omega))
        · exact congrArg K (decide_eq_false (by omega)).symm
      · exact congrArg K (decide_eq_false (by omega)).symm
    · exact congrArg K (decide_eq_false (by omega)).symm
  · exact congrArg K (decide_eq_false (by omega)).symm
def valid (w h : Int) (pix : List Int) : Bool := fit w h && decide ((pix.length : Int) = w * h) && pix.all fun x => decide (x ≤ 1)
theorem valid_iff {w h : Int} {pix : List Int} : valid w h pix = true ↔ (0 ≤ w ∧ 0 ≤ h ∧ w ≤ 200 ∧ h ≤ 200 ∧ w * h ≤ 8192) ∧ (pix.length : Int) = w * h ∧ ∀ x ∈ pix, x ≤ 1 := by
  unfold valid
  rw [Bool.and_eq_true, Bool.and_eq_true, fit_iff, decide_eq_true_eq, List.all_eq_true]
  simp [and_assoc]
theorem fit_mul {w h : Int} (hf : fit w h = true) : IntKind.i64.wrap (w * h) = w * h := by
  obtain ⟨h1, h2, h3, h4, h5⟩ := fit_iff.1 hf
  have := mul_le (a := 200) (b := 200) h1 h3 h2 h4
  exact wrap64 (by omega) (by omega)
theorem valid_ok {fl : Nat} (hfl : 9223372036854775808 ≤ fl) {w h : Int} {pix : List Int} {K : Bool → Option Ans} : F_bitmap_Valid fl w h pix K = K (valid w h pix) := by
  unfold F_bitmap_Valid Fg_bitmap_Valid
  rw [fits_ok]
  unfold valid
  cases hf : fit w h with
  | false => rfl
  | true =>
  rw [cond_f (b := !true) rfl, fit_mul hf, cn]
  obtain ⟨h1, h2, h3, h4, h5⟩ := fit_iff.1 hf
  split
  rotate_left
  · rename_i hne
    rw [decide_eq_false hne]
    rfl
  rename_i he
  rw [decide_eq_true he]
  simp only [Bool.true_and]
  unfold L_bitmap_Valid_0
  rcases all_or_first (fun x => decide (x ≤ 1)) 0 pix with ha | ⟨n, hn, hb, hi⟩
  · rw [ha]
    refine iter_seq (step := S_bitmap_Valid_0 fl) (fun i : Nat => (pix, (pix.length : Int), (i : Int))) pix.length rfl (fun i hi c => ?_) (fun c => ?_) (by omega)
    · have g := all_getD ha 0 hi
      simp only [decide_eq_true_eq] at g
      simp (disch := omega) only [S_bitmap_Valid_0, Sg_bitmap_Valid_0, dec_t, dec_f, wrap64, Int.toNat_natCast]
      rfl
    · simp (disch := omega) only [S_bitmap_Valid_0, Sg_bitmap_Valid_0, dec_f]
  · rw [not_all hn hb]
    refine iter_seq (step := S_bitmap_Valid_0 fl) (fun i : Nat => (pix, (pix.length : Int), (i : Int))) n rfl (fun i hin c => ?_) (fun c => ?_) (by omega)
    · have g := hi i hin
      simp only [decide_eq_true_eq] at g
      simp (disch := omega) only [S_bitmap_Valid_0, Sg_bitmap_Valid_0, dec_t, dec_f, wrap64, Int.toNat_natCast]
      rfl
    · simp only [decide_eq_false_iff_not] at hb
      simp (disch := omega) only [S_bitmap_Valid_0, Sg_bitmap_Valid_0, dec_t, Int.toNat_natCast]
theorem rvalid_ok {fl : Nat} (hfl : 9223372036854775808 ≤ fl) {w h : Int} {pix : List Int} {K : Bool → Option Ans} : F_ref05_Valid fl w h pix K = K (valid w h pix) := by
  unfold F_ref05_Valid Fg_ref05_Valid
  rw [sides_ok]
  unfold valid
  cases hf : fit w h with
  | false => rfl
  | true =>
  rw [cond_f (b := !true) rfl, fit_mul hf, cn]
  obtain ⟨h1, h2, h3, h4, h5⟩ := fit_iff.1 hf
  split
  rotate_left
  · rename_i hne
    rw [decide_eq_false hne]
    rfl
  rename_i he
  rw [decide_eq_true he]
  simp only [Bool.true_and]
  unfold L_ref05_Valid_0
  rcases all_or_first (fun x => decide (x ≤ 1)) 0 pix with ha | ⟨n, hn, hb, hi⟩
  · rw [ha]
    refine iter_seq (step := S_ref05_Valid_0 fl) (fun i : Nat => ((i : Int), w, h, pix)) pix.length rfl (fun i hi c => ?_) (fun c => ?_) (by omega)
    · have g := all_getD ha 0 hi
      simp only [decide_eq_true_eq] at g
      simp (disch := omega) only [S_ref05_Valid_0, Sg_ref05_Valid_0, dec_t, dec_f, wrap64, Int.toNat_natCast]
      rfl
    · simp (disch := omega) only [S_ref05_Valid_0, Sg_ref05_Valid_0, dec_f]
  · rw [not_all hn hb]
    refine iter_seq (step := S_ref05_Valid_0 fl) (fun i : Nat => ((i : Int), w, h, pix)) n rfl (fun i hin c => ?_) (fun c => ?_) (by omega)
    · have g := hi i hin
      simp only [decide_eq_true_eq] at g
      simp (disch := omega) only [S_ref05_Valid_0, Sg_ref05_Valid_0, dec_t, dec_f, wrap64, Int.toNat_natCast]
      rfl
    · simp only [decide_eq_false_iff_not] at hb
      simp (disch := omega) only [S_ref05_Valid_0, Sg_ref05_Valid_0, dec_t, Int.toNat_natCast]
def ins (w h x y : Int) : Prop := 0 ≤ x ∧ 0 ≤ y ∧ x < w ∧ y < h
instance {w h x y : Int} : Decidable (ins w h x y) := by unfold ins; infer_instance
def px (w h : Int) (pix : List Int) (x y : Int) : Int := if ins w h x y then pix.getD (y * w + x).toNat 0 else 0
theorem place {w h x y : Int} (hi : ins w h x y) : 0 ≤ y * w + x ∧ y * w + x < w * h := by
  obtain ⟨h1, h2, h3, h4⟩ := hi
  have a : 0 ≤ y * w := Int.mul_nonneg h2 (by omega)
  have b : (y + 1) * w ≤ h * w := Int.mul_le_mul_of_nonneg_right (by omega) (by omega)
  rw [Int.add_mul, Int.one_mul, Int.mul_comm h w] at b
  omega
theorem place_y {w h x y : Int} (hi : ins w h x y) : 0 ≤ y * w ∧ y * w < w * h := by
  obtain ⟨h1, h2, h3, h4⟩ := hi
  have a : 0 ≤ y * w := Int.mul_nonneg h2 (by omega)
  have b : (y + 1) * w ≤ h * w := Int.mul_le_mul_of_nonneg_right (by omega) (by omega)
  rw [Int.add_mul, Int.one_mul, Int.mul_comm h w] at b
  omega
theorem px_01 {w h : Int} {pix : List Int} (h0 : ∀ v ∈ pix, 0 ≤ v ∧ v ≤ 1) (x y : Int) : 0 ≤ px w h pix x y ∧ px w h pix x y ≤ 1 := by
  unfold px
  split
  · by_cases hl : (y * w + x).toNat < pix.length
    · exact h0 _ (getD_mem hl 0)
    · rw [List.getD_eq_getElem?_getD, List.getElem?_eq_none (by omega)]
      simp
  · omega
theorem at_ok {fl : Nat} {w h : Int} {pix : List Int} {x y : Int} (hm : w * h ≤ 9000000000000000000) (hl : (pix.length : Int) = w * h) (h0 : ∀ v ∈ pix, 0 ≤ v ∧ v ≤ 255) {K : Int → Option Ans} : F_ref05_At fl w h pix x y K = K (px w h pix x y) := by
  unfold F_ref05_At Fg_ref05_At F_ref05_inside px
  simp only [cd]
  by_cases hi : ins w h x y
  · have hp := place hi
    have hy := place_y hi
    rw [if_pos hi]
    obtain ⟨h1, h2, h3, h4⟩ := hi
    rw [if_pos (by omega), if_pos (by omega), if_pos (by omega), decide_eq_true h4, cond_f (b := !true) rfl, w6 (x := y * w), w6 (x := y * w + x), if_pos (by omega)]
    have := h0 _ (getD_mem (show (y * w + x).toNat < pix.length by omega) 0)
    rw [wrap64 (by omega) (by omega)]
  · rw [if_neg hi]
    unfold ins at hi
    split
    · split
      · split
        · rw [decide_eq_false (by omega)]; rfl
        · rfl
      · rfl
    · rfl
end Go.Proofs.YtipdidpalcmlhaaGreat.Bm
namespace Go.Proofs.YtipdidpalcmlhaaGreat.Gen
open Go Ev Bm
def vr (t ax ay kd : Int) : Bool := decide (0 ≤ t ∧ t ≤ 3 ∧ (kd = 0 ∨ kd = 1) ∧ -8 ≤ ax ∧ ax ≤ 8 ∧ -8 ≤ ay ∧ ay ≤ 0 ∧ (ay < 0 ∨ ax < 0))
theorem vr_iff {t ax ay kd : Int} : vr t ax ay kd = true ↔ 0 ≤ t ∧ t ≤ 3 ∧ (kd = 0 ∨ kd = 1) ∧ -8 ≤ ax ∧ ax ≤ 8 ∧ -8 ≤ ay ∧ ay ≤ 0 ∧ (ay < 0 ∨ ax < 0) := by simp [vr]
theorem gvalid {fl : Nat} {t ax ay kd : Int} {ty : Bool} {K : Bool → Option Ans} : F_generic_Valid fl t ax ay ty kd K = K (vr t ax ay kd) := by
  unfold F_generic_Valid vr
  simp only [cd, cb]
  repeat' split
  all_goals first
    | exact congrArg K (decide_eq_true (by omega)).symm
    | exact congrArg K (decide_eq_false (by omega)).symm
    | exact congrArg K (decide_eq_decide.2 (by omega))
theorem rvalid {fl : Nat} {t ax ay kd : Int} {ty : Bool} {K : Bool → Option Ans} : F_ref07_Valid fl t ax ay ty kd K = K (vr t ax ay kd) := by
  unfold F_ref07_Valid vr
  simp only [cd, cb]
  repeat' split
  all_goals first
    | exact congrArg K (decide_eq_true (by omega)).symm
    | exact congrArg K (decide_eq_false (by omega)).symm
    | exact congrArg K (decide_eq_decide.2 (by omega))
def tpl (t : Int) : List (Int × Int) :=
  if t = 0 then [(-1, -2), (0, -2), (1, -2), (-2, -1), (-1, -1), (0, -1), (1, -1), (2, -1), (-2, 0), (-1, 0)]
  else if t = 1 then [(-1, -2), (0, -2), (-1, -1), (0, -1), (1, -1), (-2, 0), (-1, 0)]
  else if t = 2 then [(-2, -1), (-1, -1), (0, -1), (1, -1), (2, -1), (-2, 0), (-1, 0)]
  else [(-1, -1), (0, -1), (1, -1), (-1, 0)]
theorem gpixels {fl : Nat} {t : Int} {K : List (Int × Int) → Option Ans} : F_generic_pixels fl t K = K (tpl t) := by
  unfold F_generic_pixels tpl
  simp only [cb, apply_ite K]
theorem rtemplate {fl : Nat} {t : Int} {K : List (Int × Int) → Option Ans} : F_ref07_template fl t K = K (tpl t) := by
  unfold F_ref07_template tpl
  simp only [cb, apply_ite K]
theorem tpl_len (t : Int) : (tpl t).length ≤ 10 := by
  unfold tpl
  repeat' split
  all_goals simp
theorem tpl_near (t : Int) : ∀ d ∈ tpl t, -8 ≤ d.1 ∧ d.1 ≤ 8 ∧ -8 ≤ d.2 ∧ d.2 ≤ 0 := by
  unfold tpl
  repeat' split
  all_goals decide
def around (t ax ay : Int) : List (Int × Int) := tpl t ++ [(ax, ay)]
theorem around_len (t ax ay : Int) : (around t ax ay).length = (tpl t).length + 1 := by simp [around]
theorem rpixels {fl : Nat} {t ax ay kd : Int} {ty : Bool} {K : List (Int × Int) → Option Ans} : F_ref07_pixels fl t ax ay ty kd K = K (around t ax ay) := by
  have := tpl_len t
  unfold F_ref07_pixels Fg_ref07_pixels around
  simp only [rtemplate]
  rw [dec_t (by simp; omega)]
  simp only [both_same]
def size (t : Int) : Int := 2 ^ ((tpl t).length + 1) + 1
theorem size_eq {t : Int} : size t = 2048 + 1 ∨ size t = 256 + 1 ∨ size t = 32 + 1 := by
  unfold size tpl
  repeat' split
  all_goals decide
theorem ishl_two {n : Nat} (h : n ≤ 60) : ishl .i64 2 (n : Int) = 2 ^ (n + 1) := by
  unfold ishl
  have hb : min (n : Int).toNat IntKind.i64.bits = n := by
    have : IntKind.i64.bits = 64 := rfl
    rw [this]
    omega
  rw [hb]
  have e : (2 : Int) * 2 ^ n = 2 ^ (n + 1) := by rw [Int.pow_succ]; omega
  rw [e]
  have h1 : (2 : Int) ^ (n + 1) ≤ 2 ^ 61 := by
    have := Nat.pow_le_pow_right (n := 2) (by omega) (show n + 1 ≤ 61 by omega)
    exact_mod_cast this
  have h2 : (0 : Int) < 2 ^ (n + 1) := Int.pow_pos (by omega)
  exact wrap64 (by omega) (by omega)
def sizeR (t ax ay kd : Int) : Int × Int := if vr t ax ay kd = true then (size t, 0) else (0, 2)
theorem gcontexts {fl : Nat} {t ax ay kd : Int} {ty : Bool} {K : Int → Option Ans} : F_generic_contexts fl t ax ay ty kd K = K (size t - 1) := by
  have := tpl_len t
  unfold F_generic_contexts Fg_generic_contexts
  rw [gpixels, ishl_two (by omega)]
  unfold size
  rw [Int.add_sub_cancel]
theorem gsize {fl : Nat} {t ax ay kd : Int} {ty : Bool} {K : Int × Int → Option Ans} : F_generic_Size fl t ax ay ty kd K = K (sizeR t ax ay kd) := by
  unfold F_generic_Size Fg_generic_Size sizeR
  rw [gvalid]
  cases h : vr t ax ay kd with
  | false => rfl
  | true =>
    rw [cond_f (b := !true) rfl, gcontexts, if_pos rfl]
    have := size_eq (t := t)
    rw [wrap64 (by omega) (by omega), Int.sub_add_cancel]
theorem rsize {fl : Nat} {t ax ay kd : Int} {ty : Bool} {K : Int × Int → Option Ans} : F_ref07_Size fl t ax ay ty kd K = K (sizeR t ax ay kd) := by
  unfold F_ref07_Size Fg_ref07_Size sizeR
  rw [rvalid]
  cases h : vr t ax ay kd with
  | false => rfl
  | true =>
    have hl := tpl_len t
    have := size_eq (t := t)
    rw [cond_f (b := !true) rfl, rpixels, if_pos rfl, around_len, ishl_one (by omega) (by omega), Int.toNat_natCast]
    unfold size at this ⊢
    rw [wrap64 (by omega) (by omega)]
theorem gplane {fl : Nat} {t ax ay kd w h : Int} {ty : Bool} {K : Int × Int × List Int × List (Int × Int) → Option Ans} (h0 : 0 ≤ w * h) (h1 : w * h ≤ 1000000000) :
    F_generic_newPlane fl t ax ay ty kd w h K = K (w, h, List.replicate (w * h).toNat 0, around t ax ay) := by
  have := tpl_len t
  unfold F_generic_newPlane Fg_generic_newPlane around
  simp only [gpixels, wrap64 (show -9223372036854775808 ≤ w * h by omega) (show w * h ≤ 9223372036854775807 by omega)]
  have c1 : decide ((0 : Int) ≤ w * h ∧ True ∧ ((1 : Nat) : Int) * (w * h) ≤ 281474976710656 ∧ w * h ≤ 281474976710656) = true := decide_eq_true ⟨h0, trivial, by omega, by omega⟩
  have c2 : decide (((tpl t).length + [(ax, ay)].length) * 16 ≤ 140737488355328 ∧ (tpl t).length + [(ax, ay)].length ≤ 140737488355328) = true := decide_eq_true (by simp; omega)
  simp only [c1, c2, cond_true, both_same]
def ctxv (w h : Int) (p : List Int) (x y : Int) (l : List (Int × Int)) : Int := l.foldl (fun n d => 2 * n + px w h p (x + d.1) (y + d.2)) 0
theorem ctxv_take {w h : Int} {p : List Int} {x y : Int} {l : List (Int × Int)} {i : Nat} (hi : i < l.length) :
    ctxv w h p x y (l.take (i + 1)) = 2 * ctxv w h p x y (l.take i) + px w h p (x + (l.getD i (0, 0)).1) (y + (l.getD i (0, 0)).2) := by
  unfold ctxv
  rw [take_succ_getD hi (0, 0), List.foldl_append]
  rfl
theorem ctxv_lt {w h : Int} {p : List Int} (h0 : ∀ v ∈ p, 0 ≤ v ∧ v ≤ 1) {x y : Int} {l : List (Int × Int)} : ∀ i, i ≤ l.length → 0 ≤ ctxv w h p x y (l.take i) ∧ ctxv w h p x y (l.take i) < 2 ^ i
  | 0, _ => by simp [ctxv]
  | i + 1, hi => by
    obtain ⟨a, b⟩ := ctxv_lt h0 (w := w) (h := h) (x := x) (y := y) (l := l) i (by omega)
    have c := px_01 (w := w) (h := h) h0 (x + (l.getD i (0, 0)).1) (y + (l.getD i (0, 0)).2)
    rw [ctxv_take (by omega), Int.pow_succ]
    omega
theorem ctxv_small {w h : Int} {p : List Int} (h0 : ∀ v ∈ p, 0 ≤ v ∧ v ≤ 1) {x y : Int} {l : List (Int × Int)} (hl : l.length ≤ 11) {i : Nat} (hi : i ≤ l.length) : 0 ≤ ctxv w h p x y (l.take i) ∧ ctxv w h p x y (l.take i) < 2048 := by
  have a := ctxv_lt h0 (w := w) (h := h) (x := x) (y := y) i hi
  have b : (2 : Int) ^ i ≤ 2 ^ 11 := by
    have := Nat.pow_le_pow_right (n := 2) (by omega) (show i ≤ 11 by omega)
    exact_mod_cast this
  have c : (2 : Int) ^ 11 = 2048 := by decide
  omega
structure Pix (w h : Int) (p : List Int) : Prop where
  w0 : 0 ≤ w
  h0 : 0 ≤ h
  w1 : w ≤ 200
  h1 : h ≤ 200
  n : w * h ≤ 8192
  len : (p.length : Int) = w * h
  bit : ∀ v ∈ p, 0 ≤ v ∧ v ≤ 1
theorem pix_of {w h : Int} {p : List Int} (hv : valid w h p = true) (h0 : ∀ v ∈ p, 0 ≤ v) : Pix w h p := by
  obtain ⟨⟨a, b, c, d, e⟩, f, g⟩ := valid_iff.1 hv
  exact ⟨a, b, c, d, e, f, fun v hv => ⟨h0 v hv, g v hv⟩⟩
theorem Pix.mul0 {w h : Int} {p : List Int} (hp : Pix w h p) : 0 ≤ w * h := by have := hp.len; omega
theorem gat {fl : Nat} {w h : Int} {p : List Int} (hp : Pix w h p) {x y : Int} {l : List (Int × Int)} {K : Int × Int × Int × List Int × List (Int × Int) → Option Ans} :
    F_generic_plane_at_a34 fl x y w h p l K = K (px w h p x y, w, h, p, l) := by
  have hl := hp.len
  have hn := hp.n
  unfold F_generic_plane_at_a34 px
  simp only [cd]
  by_cases hi : ins w h x y
  · have hq := place hi
    have hy := place_y hi
    rw [if_pos hi]
    obtain ⟨h1, h2, h3, h4⟩ := hi
    rw [if_neg (by omega), if_neg (by omega), if_neg (by omega), if_neg (by omega), w6 (x := y * w), w6 (x := y * w + x), if_pos (by omega)]
    try rw [both_same]
  · rw [if_neg hi]
    unfold ins at hi
    repeat' split
    all_goals first | rfl | omega
theorem gcontext {fl : Nat} (hfl : 9223372036854775808 ≤ fl) {w h : Int} {p : List Int} (hp : Pix w h p) {x y : Int} {l : List (Int × Int)} (hx : -1000 ≤ x ∧ x ≤ 1000) (hy : -1000 ≤ y ∧ y ≤ 1000) (hl : l.length ≤ 11) (hd : ∀ d ∈ l, -8 ≤ d.1 ∧ d.1 ≤ 8 ∧ -8 ≤ d.2 ∧ d.2 ≤ 0)
    {K : Int × Int × Int × List Int × List (Int × Int) → Option Ans} : F_generic_plane_context_a34 fl x y w h p l K = K (ctxv w h p x y l, w, h, p, l) := by
  unfold F_generic_plane_context_a34 Fg_generic_plane_context_a34 L_generic_plane_context_a34_0
  refine iter_seq (step := S_generic_plane_context_a34_0 fl) (fun i : Nat => (x, y, ctxv w h p x y (l.take i), (l.length : Int), (i : Int), w, h, p, l)) l.length rfl (fun i hi c => ?_) (fun c => ?_) (by omega)
  · have e := hd _ (getD_mem hi (0, 0))
    have a := ctxv_small hp.bit (w := w) (h := h) (x := x) (y := y) hl (show i ≤ l.length by omega)
    have b := px_01 (w := w) (h := h) hp.bit (x + (l.getD i (0, 0)).1) (y + (l.getD i (0, 0)).2)
    simp (disch := omega) only [S_generic_plane_context_a34_0, Sg_generic_plane_context_a34_0, dec_t, Int.toNat_natCast, wrap64, gat hp]
    rw [ctxv_take hi]
    rfl
  · simp (disch := omega) only [S_generic_plane_context_a34_0, Sg_generic_plane_context_a34_0, dec_f, List.take_length]
theorem rcontext {fl : Nat} (hfl : 9223372036854775808 ≤ fl) {w h : Int} {p : List Int} (hp : Pix w h p) {t ax ay kd x y : Int} {ty : Bool} (hv : vr t ax ay kd = true) (hx : -1000 ≤ x ∧ x ≤ 1000) (hy : -1000 ≤ y ∧ y ≤ 1000)
    {K : Int → Option Ans} : F_ref07_context fl t ax ay ty kd w h p x y K = K (ctxv w h p x y (around t ax ay)) := by
  obtain ⟨_, _, _, v1, v2, v3, v4, _⟩ := vr_iff.1 hv
  unfold F_ref07_context Fg_ref07_context
  rw [rpixels]
  have hl : (around t ax ay).length ≤ 11 := by have := tpl_len t; rw [around_len]; omega
  have hd : ∀ d ∈ around t ax ay, -8 ≤ d.1 ∧ d.1 ≤ 8 ∧ -8 ≤ d.2 ∧ d.2 ≤ 0 := by
    intro d hd
    unfold around at hd
    rcases List.mem_append.1 hd with hd | hd
    · exact tpl_near t d hd
    · simp at hd; subst hd; exact ⟨v1, v2, v3, v4⟩
  have hn := hp.n
  generalize around t ax ay = l at hl hd
  unfold L_ref07_context_0
  refine iter_seq (step := S_ref07_context_0 fl) (fun i : Nat => (x, y, ctxv w h p x y (l.take i), (i : Int), w, h, p, l)) l.length rfl (fun i hi c => ?_) (fun c => ?_) (by omega)
  · have e := hd _ (getD_mem hi (0, 0))
    have a := ctxv_small hp.bit (w := w) (h := h) (x := x) (y := y) hl (show i ≤ l.length by omega)
    have b := px_01 (w := w) (h := h) hp.bit (x + (l.getD i (0, 0)).1) (y + (l.getD i (0, 0)).2)
    have hat : ∀ x y K, F_ref05_At fl w h p x y K = K (px w h p x y) := fun x y K => at_ok (by omega) hp.len (fun v hv => by have := hp.bit v hv; omega)
    simp (disch := omega) only [S_ref07_context_0, Sg_ref07_context_0, dec_t, Int.toNat_natCast, wrap64, hat, both_same]
    rw [ctxv_take hi]
    rfl
  · simp (disch := omega) only [S_ref07_context_0, Sg_ref07_context_0, dec_f, List.take_length]
end Go.Proofs.YtipdidpalcmlhaaGreat.Gen
namespace Go.Proofs.YtipdidpalcmlhaaGreat.Ton
open Go Ev Bm Gen
section
variable (W H x y op w h : Int) (q : List Int)
end
section
variable {W H x y op w h : Int} {p q : List Int}
end
open Go Ev Bm Gen
abbrev Bmp := Int × Int × List Int
def l0 (l : List Bmp) : Bmp := l.getD 0 (0, 0, [])
def bmOk (l : List Bmp) (b : Bmp) : Bool := valid b.1 b.2.1 b.2.2 && (decide (b.1 = (l0 l).1) && decide (b.2.1 = (l0 l).2.1))
def sidesOk (n w h : Int) : Bool := decide (1 ≤ n ∧ n ≤ 64 ∧ 1 ≤ w ∧ w ≤ 16 ∧ 1 ≤ h ∧ h ≤ 16) && fit (n * w) h
theorem sidesOk_iff {n w h : Int} : sidesOk n w h = true ↔ (1 ≤ n ∧ n ≤ 64 ∧ 1 ≤ w ∧ w ≤ 16 ∧ 1 ≤ h ∧ h ≤ 16) ∧ fit (n * w) h = true := by simp [sidesOk]
theorem isides {fl : Nat} {n w h : Int} {K : Bool → Option Ans} : F_ref11_isSides fl n w h K = K (sidesOk n w h) := by
  unfold F_ref11_isSides Fg_ref11_isSides sidesOk
  simp only [cd]
  by_cases h' : 1 ≤ n ∧ n ≤ 64 ∧ 1 ≤ w ∧ w ≤ 16 ∧ 1 ≤ h ∧ h ≤ 16
  · obtain ⟨a, b, c, d, e, f⟩ := h'
    have m1 : n * w ≤ 64 * 16 := Int.mul_le_mul b d (by omega) (by omega)
    have m2 : 0 ≤ n * w := Int.mul_nonneg (by omega) (by omega)
    rw [if_pos a, if_pos b, if_pos c, if_pos e, if_pos d, if_pos f, wrap64 (by omega) (by omega), sides_ok, decide_eq_true ⟨a, b, c, d, e, f⟩, Bool.true_and]
  · rw [decide_eq_false h', Bool.false_and]
    repeat' split
    all_goals first | rfl | omega
def pErr (l : List Bmp) : Int := if sidesOk l.length (l0 l).1 (l0 l).2.1 = true then 0 else 2
theorem replicate_set (n i : Nat) : (List.replicate n (0 : Int)).set i 0 = List.replicate n 0 := by
  apply List.ext_getElem (by simp)
  intro j h1 h2
  simp [List.getElem_set]
theorem bnew0 {fl : Nat} (hfl : 9223372036854775808 ≤ fl) {w h : Int} (hf : fit w h = true) {K : Int × Int × Int × List Int → Option Ans} : F_bitmap_New fl w h 0 K = K (w, h, 0, List.replicate (w * h).toNat 0) := by
  obtain ⟨f1, f2, f3, f4, f5⟩ := fit_iff.1 hf
  have hm := Int.mul_nonneg f1 f2
  unfold F_bitmap_New Fg_bitmap_New F_bitmap_blank Fg_bitmap_blank
  rw [dec_f (by omega), dec_f (by omega), cond_f (b := (0 : Int) != 0) rfl, fits_ok, hf, cond_f (b := !true) rfl, w6 (x := w * h), dec_t (by refine ⟨by omega, ?_, by omega, by omega⟩; first | rfl | trivial)]
  dsimp only
  unfold L_bitmap_New_0
  refine iter_seq (step := S_bitmap_New_0 fl) (fun i : Nat => (0, 0, ((List.replicate (w * h).toNat (0 : Int)).length : Int), (i : Int), 0, 0, w, h, [], List.replicate (w * h).toNat 0)) (w * h).toNat rfl (fun i hi c => ?_) (fun c => ?_) (by omega)
  · simp only [S_bitmap_New_0, Sg_bitmap_New_0, List.length_replicate]
    rw [dec_t (by omega), dec_t (by omega), wrap64 (by omega) (by omega), wrap8 (by omega) (by omega), replicate_set]
    rfl
  · simp only [S_bitmap_New_0, Sg_bitmap_New_0, List.length_replicate]
    rw [dec_f (by omega)]
theorem bnew_bad {fl : Nat} (hfl : 9223372036854775808 ≤ fl) {w h : Int} (hf : fit w h = false) : ∃ e : Int, e ≠ 0 ∧ ∀ K : Int × Int × Int × List Int → Option Ans, F_bitmap_New fl w h 0 K = K (0, 0, e, []) := by
  unfold F_bitmap_New Fg_bitmap_New F_bitmap_blank Fg_bitmap_blank
  by_cases h1 : w < 0
  · exact ⟨2, by omega, fun K => by rw [dec_t h1]⟩
  by_cases h2 : h < 0
  · exact ⟨2, by omega, fun K => by rw [dec_f h1, dec_t h2]⟩
  refine ⟨4, by omega, fun K => ?_⟩
  rw [dec_f h1, dec_f h2, cond_f (b := (0 : Int) != 0) rfl, fits_ok, hf, cond_t (b := !false) rfl]
  dsimp only
  unfold L_bitmap_New_0
  refine iter_to (step := S_bitmap_New_0 fl) (fun i : Nat => (0, 4, (([] : List Int).length : Int), (i : Int), 0, 0, 0, 0, [], [])) 0 (fun i hi c => by omega) (fun c => ?_) (by omega)
  · simp only [S_bitmap_New_0, Sg_bitmap_New_0]
    rw [dec_f (by simp)]
theorem rbnew0 {fl : Nat} (hfl : 9223372036854775808 ≤ fl) {w h : Int} (hf : fit w h = true) {K : Int × Int × Int × List Int → Option Ans} : F_ref05_New fl w h 0 K = K (w, h, 0, List.replicate (w * h).toNat 0) := by
  obtain ⟨f1, f2, f3, f4, f5⟩ := fit_iff.1 hf
  have hm := Int.mul_nonneg f1 f2
  unfold F_ref05_New Fg_ref05_New F_ref05_make2
  rw [dec_f (by omega), dec_f (by omega), dec_f (by omega), dec_f (by omega), sides_ok, hf, cond_f (b := !true) rfl]
  unfold L_ref05_make2_0
  refine iter_seq (step := S_ref05_make2_0 fl) (fun i : Nat => (w, h, 0, (i : Int), 0, 0, w, h, [], List.replicate i 0)) (w * h).toNat rfl (fun i hi c => ?_) (fun c => ?_) (by omega)
  · simp only [S_ref05_make2_0]
    rw [w6 (x := w * h), dec_t (by omega), dec_t (by simp; omega), wrap64 (by omega) (by omega), wrap8 (by omega) (by omega), List.replicate_succ']
    rfl
  · simp only [S_ref05_make2_0]
    rw [w6 (x := w * h), dec_f (by omega)]
theorem l0_dec {α : Sort _} {l : List Bmp} (hl : 0 < l.length) {x y : α} : (bif decide ((0 : Int) ≤ 0 ∧ (0 : Int) < (l.length : Int)) then x else y) = x := dec_t (by omega)
theorem rp_loop {fl : Nat} (hfl : 9223372036854775808 ≤ fl) {l : List Bmp} (hll : l.length ≤ 1000000000000000) {ret : Int → Option Ans} {b : List Bmp → Option Ans} : L_tone_rightPatterns_0 fl (l, l, (l.length : Int), 0) ret b = if l.all (bmOk l) = true then b l else ret 30 := by
  unfold L_tone_rightPatterns_0
  have hs : ∀ (i : Nat) (c : List Bmp × List Bmp × Int × Int → Option Ans), i < l.length → S_tone_rightPatterns_0 fl (l, l, (l.length : Int), (i : Int)) c (ret, b) = if bmOk l (l.getD i (0, 0, [])) = true then c (l, l, (l.length : Int), ((i + 1 : Nat) : Int)) else ret 30 := by
    intro i c hi
    simp only [S_tone_rightPatterns_0, Sg_tone_rightPatterns_0]
    rw [dec_t (by omega), dec_t (by omega), Int.toNat_natCast, valid_ok hfl, l0_dec (by omega), wrap64 (by omega) (by omega)]
    unfold bmOk
    cases valid (l.getD i (0, 0, [])).1 (l.getD i (0, 0, [])).2.1 (l.getD i (0, 0, [])).2.2 with
    | false => rfl
    | true =>
      rw [cond_f (b := !true) rfl, Bool.true_and]
      simp only [cn]
      by_cases h1 : (l.getD i (0, 0, [])).1 = (l0 l).1
      · rw [decide_eq_true h1, Bool.true_and, if_pos (show (l.getD i (0, 0, [])).1 = (l.getD (Int.toNat 0) (0, 0, [])).1 from h1), l0_dec (by omega)]
        by_cases h2 : (l.getD i (0, 0, [])).2.1 = (l0 l).2.1
        · rw [decide_eq_true h2, if_pos (show (l.getD i (0, 0, [])).2.1 = (l.getD (Int.toNat 0) (0, 0, [])).2.1 from h2), if_pos rfl]
          rfl
        · rw [decide_eq_false h2, if_neg (show ¬ (l.getD i (0, 0, [])).2.1 = (l.getD (Int.toNat 0) (0, 0, [])).2.1 from h2), if_neg (by simp)]
      · rw [decide_eq_false h1, Bool.false_and, if_neg (show ¬ (l.getD i (0, 0, [])).1 = (l.getD (Int.toNat 0) (0, 0, [])).1 from h1), if_neg (by simp)]
  rcases all_or_first (bmOk l) (0, 0, []) l with ha | ⟨n, hn, hb, hi⟩
  · rw [if_pos ha]
    refine iter_to (step := S_tone_rightPatterns_0 fl) (fun i : Nat => (l, l, (l.length : Int), (i : Int))) l.length (fun i hi c => ?_) (fun c => ?_) (by omega)
    · rw [hs i c hi, if_pos (all_getD ha _ hi)]
    · simp only [S_tone_rightPatterns_0, Sg_tone_rightPatterns_0]
      rw [dec_f (by omega)]
  · rw [if_neg (by rw [not_all hn hb]; simp)]
    refine iter_to (step := S_tone_rightPatterns_0 fl) (fun i : Nat => (l, l, (l.length : Int), (i : Int))) n (fun i hi' c => ?_) (fun c => ?_) (by omega)
    · rw [hs i c (by omega), if_pos (hi i hi')]
    · rw [hs n c hn, if_neg (by rw [hb]; simp)]
theorem rbm_loop {fl : Nat} (hfl : 9223372036854775808 ≤ fl) {l : List Bmp} (hll : l.length ≤ 1000000000000000) {ret : Int → Option Ans} {b : Unit → Option Ans} : L_ref11_bitmaps_0 fl (l, 0) ret b = if l.all (bmOk l) = true then b () else ret 30 := by
  unfold L_ref11_bitmaps_0
  have hs : ∀ (i : Nat) (c : List Bmp × Int → Option Ans), i < l.length → S_ref11_bitmaps_0 fl (l, (i : Int)) c (ret, b) = if bmOk l (l.getD i (0, 0, [])) = true then c (l, ((i + 1 : Nat) : Int)) else ret 30 := by
    intro i c hi
    simp only [S_ref11_bitmaps_0, Sg_ref11_bitmaps_0]
    rw [dec_t (by omega), dec_t (by omega), Int.toNat_natCast, rvalid_ok hfl, dec_t (p := (0 : Int) ≤ (i : Int) ∧ (i : Int) < (l.length : Int)) (by omega), l0_dec (by omega), wrap64 (by omega) (by omega)]
    unfold bmOk
    cases valid (l.getD i (0, 0, [])).1 (l.getD i (0, 0, [])).2.1 (l.getD i (0, 0, [])).2.2 with
    | false => rfl
    | true =>
      rw [cond_f (b := !true) rfl, Bool.true_and]
      simp only [cn]
      by_cases h1 : (l.getD i (0, 0, [])).1 = (l0 l).1
      · rw [decide_eq_true h1, Bool.true_and, if_pos (show (l.getD i (0, 0, [])).1 = (l.getD (Int.toNat 0) (0, 0, [])).1 from h1), dec_t (p := (0 : Int) ≤ (i : Int) ∧ (i : Int) < (l.length : Int)) (by omega), l0_dec (by omega)]
        by_cases h2 : (l.getD i (0, 0, [])).2.1 = (l0 l).2.1
        · rw [decide_eq_true h2, if_pos (show (l.getD i (0, 0, [])).2.1 = (l.getD (Int.toNat 0) (0, 0, [])).2.1 from h2), if_pos rfl]
          rfl
        · rw [decide_eq_false h2, if_neg (show ¬ (l.getD i (0, 0, [])).2.1 = (l.getD (Int.toNat 0) (0, 0, [])).2.1 from h2), if_neg (by simp)]
      · rw [decide_eq_false h1, Bool.false_and, if_neg (show ¬ (l.getD i (0, 0, [])).1 = (l.getD (Int.toNat 0) (0, 0, [])).1 from h1), if_neg (by simp)]
  rcases all_or_first (bmOk l) (0, 0, []) l with ha | ⟨n, hn, hb, hi⟩
  · rw [if_pos ha]
    refine iter_to (step := S_ref11_bitmaps_0 fl) (fun i : Nat => (l, (i : Int))) l.length (fun i hi c => ?_) (fun c => ?_) (by omega)
    · rw [hs i c hi, if_pos (all_getD ha _ hi)]
    · simp only [S_ref11_bitmaps_0, Sg_ref11_bitmaps_0]
      rw [dec_f (by omega)]
  · rw [if_neg (by rw [not_all hn hb]; simp)]
    refine iter_to (step := S_ref11_bitmaps_0 fl) (fun i : Nat => (l, (i : Int))) n (fun i hi' c => ?_) (fun c => ?_) (by omega)
    · rw [hs i c (by omega), if_pos (hi i hi')]
    · rw [hs n c hn, if_neg (by rw [hb]; simp)]
theorem rpat {fl : Nat} (hfl : 9223372036854775808 ≤ fl) {l : List Bmp} (hll : l.length ≤ 1000000000000000) {K : Int → Option Ans} : F_tone_rightPatterns fl l K = K (if l.all (bmOk l) = true then pErr l else 30) := by
  unfold F_tone_rightPatterns Fg_tone_rightPatterns
  rw [rp_loop hfl hll]
  by_cases ha : l.all (bmOk l) = true
  rotate_left
  · rw [if_neg ha, if_neg ha]
  rw [if_pos ha, if_pos ha]
  dsimp only
  unfold pErr
  by_cases h0 : (l.length : Int) = 0
  · rw [cond_t (by simp [h0]), if_neg (by rw [sidesOk_iff]; omega)]
  rw [cond_f (b := (l.length : Int) == 0) (beq_eq_false_iff_ne.2 h0)]
  by_cases h64 : (l.length : Int) > 64
  · rw [dec_t h64, if_neg (by rw [sidesOk_iff]; omega)]
  rw [dec_f h64, l0_dec (by omega), l0_dec (by omega)]
  have e0 : l.getD (Int.toNat 0) (0, 0, []) = l0 l := rfl
  rw [e0]
  unfold F_tone_rightSides
  by_cases c : (l0 l).1 ≥ 1
  rotate_left
  · rw [dec_f c, if_neg (by rw [sidesOk_iff]; omega)]; rfl
  rw [dec_t c]
  by_cases d : (l0 l).1 ≤ 16
  rotate_left
  · rw [dec_f d, if_neg (by rw [sidesOk_iff]; omega)]; rfl
  rw [dec_t d]
  by_cases e : (l0 l).2.1 ≥ 1
  rotate_left
  · rw [dec_f e, if_neg (by rw [sidesOk_iff]; omega)]; rfl
  rw [dec_t e]
  by_cases f : (l0 l).2.1 ≤ 16
  rotate_left
  · rw [decide_eq_false f, if_neg (by rw [sidesOk_iff]; omega)]; rfl
  rw [decide_eq_true f]
  dsimp only
  rw [cond_f (b := !true) rfl, l0_dec (by omega), l0_dec (by omega), both_same]
  have m1 : (l.length : Int) * (l0 l).1 ≤ 64 * 16 := Int.mul_le_mul (by omega) d (by omega) (by omega)
  have m2 : 0 ≤ (l.length : Int) * (l0 l).1 := Int.mul_nonneg (by omega) (by omega)
  rw [Int.mul_comm (l0 l).1, w6 (x := (l.length : Int) * (l0 l).1)]
  cases hf : fit ((l.length : Int) * (l0 l).1) (l0 l).2.1 with
  | false =>
    obtain ⟨e', e1, e2⟩ := bnew_bad hfl hf
    rw [e2]
    dsimp only
    rw [cond_t (by simp [e1]), if_neg (by rw [sidesOk_iff, hf]; simp)]
  | true =>
    rw [bnew0 hfl hf]
    dsimp only
    rw [cond_f (b := (0 : Int) != 0) rfl, if_pos (sidesOk_iff.2 ⟨by omega, hf⟩)]
open Go Ev Bm Gen
def nr (x : Int) : Bool := decide (-1048576 ≤ x ∧ x ≤ 1048576)
theorem near_ok {fl : Nat} {x m : Int} (hm : 0 ≤ m ∧ m ≤ 1048576) {K : Bool → Option Ans} : F_tone_near fl x m K = K (decide (-m ≤ x ∧ x ≤ m)) := by
  unfold F_tone_near
  rw [w6 (x := 0 - m)]
  simp only [cd]
  split
  · congr 1
    apply decide_eq_decide.2
    omega
  · rw [decide_eq_false (by omega)]
theorem place_ok {fl : Nat} {x : Int} {K : Bool → Option Ans} : F_ref11_isPlace fl x K = K (nr x) := by
  unfold F_ref11_isPlace nr
  simp only [cd]
  split
  · congr 1
    apply decide_eq_decide.2
    omega
  · rw [decide_eq_false (by omega)]
def tv (gw gh X Y RX RY tm kd op : Int) : Bool := decide (0 ≤ gw ∧ gw ≤ 64 ∧ 0 ≤ gh ∧ gh ≤ 64) && (nr X && (nr Y && (nr RX && (nr RY && decide (0 ≤ tm ∧ tm ≤ 3 ∧ (kd = 0 ∨ kd = 1) ∧ 0 ≤ op ∧ op ≤ 4)))))
theorem tv_iff {gw gh X Y RX RY tm kd op : Int} : tv gw gh X Y RX RY tm kd op = true ↔ (0 ≤ gw ∧ gw ≤ 64 ∧ 0 ≤ gh ∧ gh ≤ 64) ∧ (-1048576 ≤ X ∧ X ≤ 1048576) ∧ (-1048576 ≤ Y ∧ Y ≤ 1048576) ∧ (-1048576 ≤ RX ∧ RX ≤ 1048576) ∧ (-1048576 ≤ RY ∧ RY ≤ 1048576) ∧ (0 ≤ tm ∧ tm ≤ 3 ∧ (kd = 0 ∨ kd = 1) ∧ 0 ≤ op ∧ op ≤ 4) := by
  simp [tv, nr]
theorem gmul {gw gh : Int} (h : 0 ≤ gw ∧ gw ≤ 64 ∧ 0 ≤ gh ∧ gh ≤ 64) : 0 ≤ gw * gh ∧ gw * gh ≤ 4096 := mul_le (a := 64) (b := 64) h.1 h.2.1 h.2.2.1 h.2.2.2
theorem tvalid {fl : Nat} {gw gh X Y RX RY tm kd op : Int} {sk : Bool} {K : Bool → Option Ans} : F_tone_Valid fl gw gh X Y RX RY tm kd sk op K = K (tv gw gh X Y RX RY tm kd op) := by
  unfold F_tone_Valid Fg_tone_Valid tv
  by_cases hg : 0 ≤ gw ∧ gw ≤ 64 ∧ 0 ≤ gh ∧ gh ≤ 64
  rotate_left
  · rw [decide_eq_false hg, Bool.false_and]
    by_cases a : gw ≥ 0
    · rw [dec_t a]
      by_cases b : gw ≤ 64
      · rw [dec_t b]
        by_cases d : gh ≥ 0
        · rw [dec_t d, dec_f (p := gh ≤ 64) (by omega)]
        · rw [dec_f d]
      · rw [dec_f b]
    · rw [dec_f a]
  have hm := gmul hg
  rw [decide_eq_true hg, Bool.true_and, dec_t hg.1, dec_t hg.2.1, dec_t hg.2.2.1, dec_t hg.2.2.2, w6 (x := gw * gh), dec_t (by omega)]
  have hn : ∀ x (K : Bool → Option Ans), F_tone_near fl x 1048576 K = K (nr x) := fun x K => near_ok (by omega)
  rw [hn]
  cases nr X <;> rw [] <;> try rfl
  simp only [cond_true, Bool.true_and]
  rw [hn]
  cases nr Y <;> try rfl
  simp only [cond_true, Bool.true_and]
  rw [hn]
  cases nr RX <;> try rfl
  simp only [cond_true, Bool.true_and]
  rw [hn]
  cases nr RY <;> try rfl
  simp only [cond_true, Bool.true_and, cd, cb]
  repeat' split
  all_goals congr 1
  all_goals first | (apply Eq.symm; apply decide_eq_false; omega) | (apply decide_eq_decide.2; omega)
theorem rtvalid {fl : Nat} {gw gh X Y RX RY tm kd op : Int} {sk : Bool} {K : Bool → Option Ans} : F_ref11_Valid fl gw gh X Y RX RY tm kd sk op K = K (tv gw gh X Y RX RY tm kd op) := by
  unfold F_ref11_Valid Fg_ref11_Valid tv
  by_cases hg : 0 ≤ gw ∧ gw ≤ 64 ∧ 0 ≤ gh ∧ gh ≤ 64
  rotate_left
  · rw [decide_eq_false hg, Bool.false_and]
    by_cases a : gw < 0
    · rw [dec_t a]
    rw [dec_f a]
    by_cases b : gh < 0
    · rw [dec_t b]
    rw [dec_f b]
    by_cases d : gw > 64
    · rw [dec_t d]
    rw [dec_f d, dec_t (by omega)]
  have hm := gmul hg
  rw [decide_eq_true hg, Bool.true_and, dec_f (by omega), dec_f (by omega), dec_f (by omega), dec_f (by omega), w6 (x := gw * gh), dec_f (by omega)]
  rw [place_ok]
  cases nr X <;> try rfl
  simp only [Bool.not_true, cond_false, Bool.true_and]
  rw [place_ok]
  cases nr Y <;> try rfl
  simp only [Bool.not_true, cond_false, Bool.true_and]
  rw [place_ok]
  cases nr RX <;> try rfl
  simp only [Bool.not_true, cond_false, Bool.true_and]
  rw [place_ok]
  cases nr RY <;> try rfl
  simp only [Bool.not_true, cond_false, Bool.true_and, cd]
  repeat' split
  all_goals congr 1
  all_goals first | (apply Eq.symm; apply decide_eq_false; omega) | (apply decide_eq_decide.2; omega)
def bErr (gw gh X Y RX RY tm kd op : Int) (l : List Bmp) (w h : Int) : Int :=
  if tv gw gh X Y RX RY tm kd op = true then (if l.all (bmOk l) = true ∧ fit w h = true then pErr l else 30) else 2
theorem begun_ok {fl : Nat} (hfl : 9223372036854775808 ≤ fl) {gw gh X Y RX RY tm kd op w h : Int} {sk : Bool} {l : List Bmp} (hll : l.length ≤ 1000000000000000) {K : Int → Option Ans} : F_tone_begun fl gw gh X Y RX RY tm kd sk op l w h K = K (bErr gw gh X Y RX RY tm kd op l w h) := by
  unfold F_tone_begun Fg_tone_begun bErr
  rw [tvalid]
  cases tv gw gh X Y RX RY tm kd op with
  | false => rfl
  | true =>
  rw [cond_f (b := !true) rfl, rpat hfl hll, if_pos rfl]
  by_cases ha : l.all (bmOk l) = true
  rotate_left
  · rw [if_neg ha, if_neg (fun h => ha h.1)]
    rfl
  rw [if_pos ha]
  have hp : pErr l ≠ 30 := by
    unfold pErr
    split <;> decide
  rw [cond_f (b := pErr l == 30) (beq_eq_false_iff_ne.2 hp)]
  cases hf : fit w h with
  | false =>
    obtain ⟨e', e1, e2⟩ := bnew_bad hfl hf
    rw [e2]
    dsimp only
    rw [cond_t (by simp [e1]), if_neg (by simp)]
  | true =>
    rw [bnew0 hfl hf]
    dsimp only
    rw [cond_f (b := (0 : Int) != 0) rfl, if_pos ⟨ha, rfl⟩]
theorem asked_ok {fl : Nat} (hfl : 9223372036854775808 ≤ fl) {gw gh X Y RX RY tm kd op w h : Int} {sk : Bool} {l : List Bmp} (hll : l.length ≤ 1000000000000000) {K : Int → Option Ans} : F_ref11_asked fl gw gh X Y RX RY tm kd sk op l w h K = K (bErr gw gh X Y RX RY tm kd op l w h) := by
  unfold F_ref11_asked Fg_ref11_asked F_ref11_bitmaps Fg_ref11_bitmaps bErr
  rw [rtvalid]
  cases tv gw gh X Y RX RY tm kd op with
  | false => rfl
  | true =>
  rw [cond_f (b := !true) rfl, rbm_loop hfl hll, if_pos rfl]
  by_cases ha : l.all (bmOk l) = true
  rotate_left
  · rw [if_neg ha, if_neg (fun h => ha h.1)]
    rfl
  rw [if_pos ha]
  dsimp only
  rw [cond_f (b := (0 : Int) != 0) rfl, sides_ok]
  cases hf : fit w h with
  | false => rw [cond_t (b := !false) rfl, if_neg (by simp)]
  | true =>
    rw [cond_f (b := !true) rfl, if_pos ⟨ha, rfl⟩]
    unfold F_ref11_patterns Fg_ref11_patterns pErr
    by_cases h0 : (l.length : Int) = 0
    · rw [cond_t (by simp [h0]), if_neg (by rw [sidesOk_iff]; omega)]
    rw [cond_f (b := (l.length : Int) == 0) (beq_eq_false_iff_ne.2 h0), l0_dec (by omega), l0_dec (by omega), isides]
    have e0 : l.getD (Int.toNat 0) (0, 0, []) = l0 l := rfl
    rw [e0]
    cases sidesOk l.length (l0 l).1 (l0 l).2.1 <;> rfl
open Go Ev Bm Gen
def cX (X RX RY : Int) (m n : Int) : Int := (X + m * RY + n * RX) / 256
def cY (Y RX RY : Int) (m n : Int) : Int := (Y + m * RX - n * RY) / 256
theorem mulb {a b : Int} (ha : 0 ≤ a ∧ a ≤ 64) (hb : -1048576 ≤ b ∧ b ≤ 1048576) : -67108864 ≤ a * b ∧ a * b ≤ 67108864 := by
  have h1 : a * b ≤ a * 1048576 := Int.mul_le_mul_of_nonneg_left hb.2 ha.1
  have h2 : a * (-1048576) ≤ a * b := Int.mul_le_mul_of_nonneg_left hb.1 ha.1
  omega
section
variable {fl : Nat} {gw gh X Y RX RY tm kd op : Int} {sk : Bool}
theorem c_rg (ht : tv gw gh X Y RX RY tm kd op = true) {m n : Int} (hm : 0 ≤ m ∧ m ≤ 64) (hn : 0 ≤ n ∧ n ≤ 64) : -1000000 ≤ cX X RX RY m n ∧ cX X RX RY m n ≤ 1000000 ∧ -1000000 ≤ cY Y RX RY m n ∧ cY Y RX RY m n ≤ 1000000 := by
  obtain ⟨_, x1, y1, rx, ry, _⟩ := tv_iff.1 ht
  have a := mulb hm ry
  have b := mulb hn rx
  have c := mulb hm rx
  have d := mulb hn ry
  unfold cX cY
  omega
theorem cell_ok (ht : tv gw gh X Y RX RY tm kd op = true) {m n : Int} (hm : 0 ≤ m ∧ m ≤ 64) (hn : 0 ≤ n ∧ n ≤ 64) {K : Int × Int → Option Ans} : F_tone_cell fl gw gh X Y RX RY tm kd sk op m n K = K (cX X RX RY m n, cY Y RX RY m n) := by
  obtain ⟨_, x1, y1, rx, ry, _⟩ := tv_iff.1 ht
  have a := mulb hm ry
  have b := mulb hn rx
  have c := mulb hm rx
  have d := mulb hn ry
  unfold F_tone_cell cX cY
  rw [w6 (x := m * RY), w6 (x := n * RX), w6 (x := m * RX), w6 (x := n * RY), w6 (x := X + m * RY), w6 (x := Y + m * RX), wrap64 (by omega) (by omega), wrap64 (by omega) (by omega), ishr_eq (by omega) (by omega), ishr_eq (by omega) (by omega)]
  rfl
theorem rcell_ok (ht : tv gw gh X Y RX RY tm kd op = true) {m n : Int} (hm : 0 ≤ m ∧ m ≤ 64) (hn : 0 ≤ n ∧ n ≤ 64) {K : Int × Int → Option Ans} : F_ref11_cell fl gw gh X Y RX RY tm kd sk op m n K = K (cX X RX RY m n, cY Y RX RY m n) := by
  obtain ⟨_, x1, y1, rx, ry, _⟩ := tv_iff.1 ht
  have a := mulb hm ry
  have b := mulb hn rx
  have c := mulb hm rx
  have d := mulb hn ry
  unfold F_ref11_cell Fg_ref11_cell F_ref11_down cX cY
  rw [w6 (x := m * RY), w6 (x := n * RX), w6 (x := m * RX), w6 (x := n * RY), w6 (x := X + m * RY), w6 (x := Y + m * RX), wrap64 (by omega) (by omega), wrap64 (by omega) (by omega), ishr_eq (by omega) (by omega), ishr_eq (by omega) (by omega)]
  rfl
end
section
variable (gw : Nat) (X Y RX RY : Int) (sk : Bool) (pw ph w h : Int)
def off (i : Nat) : Bool := decide (cX X RX RY ((i / gw : Nat) : Int) ((i % gw : Nat) : Int) ≥ w ∨ cY Y RX RY ((i / gw : Nat) : Int) ((i % gw : Nat) : Int) ≥ h ∨ cX X RX RY ((i / gw : Nat) : Int) ((i % gw : Nat) : Int) + pw ≤ 0 ∨ cY Y RX RY ((i / gw : Nat) : Int) ((i % gw : Nat) : Int) + ph ≤ 0)
def skU (i : Nat) : Int := if sk = true ∧ off gw X Y RX RY pw ph w h i = true then 1 else 0
def skL (n : Nat) : List Int := (List.range n).map (skU gw X Y RX RY sk pw ph w h)
end
theorem skL_len (gw : Nat) (X Y RX RY : Int) (sk : Bool) (pw ph w h : Int) (n : Nat) : (skL gw X Y RX RY sk pw ph w h n).length = n := by simp [skL]
theorem divmod {g m n : Nat} (hn : n < g) : (m * g + n) / g = m ∧ (m * g + n) % g = n := by
  rw [Nat.mul_comm m g, Nat.mul_add_div (by omega), Nat.div_eq_of_lt hn, Nat.mul_add_mod, Nat.mod_eq_of_lt hn]
  exact ⟨by omega, rfl⟩
theorem idx_lt {gw gh m n : Nat} (hm : m < gh) (hn : n < gw) : m * gw + n < gw * gh := by
  have : (m + 1) * gw ≤ gh * gw := Nat.mul_le_mul_right gw hm
  rw [Nat.add_mul, Nat.one_mul, Nat.mul_comm gh gw] at this
  omega
section
variable {fl : Nat} {X Y RX RY tm kd op w h : Int} {l : List Bmp}
theorem skip_row (hfl : 9223372036854775808 ≤ fl) {gw gh : Nat} (ht : tv (gw : Int) (gh : Int) X Y RX RY tm kd op = true) (hl : 0 < l.length) (hpw : 0 ≤ (l0 l).1 ∧ (l0 l).1 ≤ 200 ∧ 0 ≤ (l0 l).2.1 ∧ (l0 l).2.1 ≤ 200) {m : Nat} (hm : m < gh) {o1 o2 : Int} {o3 : List Int} {b} {u : Nat → Int} (hu : u = skU gw X Y RX RY true (l0 l).1 (l0 l).2.1 w h) :
    L_tone_skipped_2 fl (l, w, h, (m : Int), (gh : Int), (m : Int), (gw : Int), 0, (gw : Int), (gh : Int), X, Y, RX, RY, tm, kd, true, op, o1, o2, (gw : Int), (gh : Int), o3, fillL u (gw * gh) (m * gw)) b
    = b (l, w, h, (gh : Int), (m : Int), (gw : Int), (gh : Int), X, Y, RX, RY, tm, kd, true, op, o1, o2, (gw : Int), (gh : Int), o3, fillL u (gw * gh) (m * gw + gw)) := by
  obtain ⟨⟨g1, g2, g3, g4⟩, _⟩ := tv_iff.1 ht
  have hg : gw * gh ≤ 64 * 64 := Nat.mul_le_mul (by omega) (by omega)
  unfold L_tone_skipped_2
  refine iter_seq (step := S_tone_skipped_2 fl) (fun i : Nat => (l, w, h, (m : Int), (gh : Int), (m : Int), (gw : Int), (i : Int), (gw : Int), (gh : Int), X, Y, RX, RY, tm, kd, true, op, o1, o2, (gw : Int), (gh : Int), o3, fillL u (gw * gh) (m * gw + i))) gw rfl (fun i hi c => ?_) (fun c => ?_) (by omega)
  · have hix := idx_lt hm hi
    have hc := c_rg ht (m := (m : Int)) (n := (i : Int)) (by omega) (by omega)
    obtain ⟨d1, d2⟩ := divmod (m := m) hi
    have hui : u (m * gw + i) = if (cX X RX RY (m : Int) (i : Int) ≥ w ∨ cY Y RX RY (m : Int) (i : Int) ≥ h ∨ cX X RX RY (m : Int) (i : Int) + (l0 l).1 ≤ 0 ∨ cY Y RX RY (m : Int) (i : Int) + (l0 l).2.1 ≤ 0) then 1 else 0 := by
      rw [hu]
      unfold skU off
      rw [d1, d2]
      simp
    simp only [S_tone_skipped_2, Sg_tone_skipped_2]
    rw [dec_t (by omega), cell_ok ht (by omega) (by omega)]
    dsimp only
    have e0 : l.getD (Int.toNat 0) (0, 0, []) = l0 l := rfl
    have e1 : (m : Int) * (gw : Int) = ((m * gw : Nat) : Int) := (Int.natCast_mul m gw).symm
    have hm2 : m * gw ≤ m * gw + i := Nat.le_add_right _ _
    rw [e1, w6 (x := ((m * gw : Nat) : Int)), ← Int.natCast_add, w6 (x := ((m * gw + i : Nat) : Int)), w6 (x := (i : Int) + 1), e0, l0_dec hl, l0_dec hl, Int.toNat_natCast, w6 (x := cX X RX RY (m : Int) (i : Int) + _), w6 (x := cY Y RX RY (m : Int) (i : Int) + _)]
    have ds : ∀ {α : Type} (a b : α), (bif decide ((0 : Int) ≤ ((m * gw + i : Nat) : Int) ∧ ((m * gw + i : Nat) : Int) < ((fillL u (gw * gh) (m * gw + i)).length : Int)) then a else b) = a := fun a b => dec_t (by rw [fillL_len]; omega)
    simp only [ds]
    have e3 : m * gw + (i + 1) = m * gw + i + 1 := by omega
    have e5 : u (m * gw + i) = 1 → (fillL u (gw * gh) (m * gw + i)).set (m * gw + i) 1 = fillL u (gw * gh) (m * gw + i + 1) := fun h => by rw [← fillL_set, h]
    by_cases c1 : cX X RX RY (m : Int) (i : Int) ≥ w
    · rw [if_pos (.inl c1)] at hui
      rw [dec_t c1, e5 hui, e3]
      rfl
    rw [dec_f c1]
    by_cases c2 : cY Y RX RY (m : Int) (i : Int) ≥ h
    · rw [if_pos (.inr (.inl c2))] at hui
      rw [dec_t c2, e5 hui, e3]
      rfl
    rw [dec_f c2]
    by_cases c3 : cX X RX RY (m : Int) (i : Int) + (l0 l).1 ≤ 0
    · rw [if_pos (.inr (.inr (.inl c3)))] at hui
      rw [dec_t c3, e5 hui, e3]
      rfl
    rw [dec_f c3]
    by_cases c4 : cY Y RX RY (m : Int) (i : Int) + (l0 l).2.1 ≤ 0
    · rw [if_pos (.inr (.inr (.inr c4)))] at hui
      rw [dec_t c4, e5 hui, e3]
      rfl
    rw [dec_f c4]
    rw [if_neg (by omega)] at hui
    rw [e3]
    have e4 : fillL u (gw * gh) (m * gw + i) = fillL u (gw * gh) (m * gw + i + 1) := by
      apply List.ext_getElem (by simp [fillL])
      intro j h1 h2
      simp only [fillL, List.getElem_map, List.getElem_range]
      by_cases hj : j < m * gw + i
      · rw [if_pos hj, if_pos (by omega)]
      · rw [if_neg hj]
        by_cases hji : j = m * gw + i
        · subst hji
          rw [if_pos (by omega), hui]
        · rw [if_neg (by omega)]
    rw [e4]
    rfl
  · simp only [S_tone_skipped_2, Sg_tone_skipped_2]
    rw [dec_f (by omega)]
theorem fit_g {gw gh : Nat} (ht : tv (gw : Int) (gh : Int) X Y RX RY tm kd op = true) : fit (gw : Int) (gh : Int) = true := by
  obtain ⟨hg, _⟩ := tv_iff.1 ht
  have := gmul hg
  exact fit_iff.2 ⟨by omega, by omega, by omega, by omega, by omega⟩
theorem skip_none {gw : Nat} {pw ph : Int} (n : Nat) : skL gw X Y RX RY false pw ph w h n = List.replicate n 0 := by
  unfold skL
  apply List.ext_getElem (by simp)
  intro j h1 h2
  simp [skU]
theorem skipped_ok (hfl : 9223372036854775808 ≤ fl) {gw gh : Nat} {sk : Bool} (ht : tv (gw : Int) (gh : Int) X Y RX RY tm kd op = true) (hl : 0 < l.length) (hpw : 0 ≤ (l0 l).1 ∧ (l0 l).1 ≤ 200 ∧ 0 ≤ (l0 l).2.1 ∧ (l0 l).2.1 ≤ 200) {K : Int × Int × List Int → Option Ans} :
    F_tone_skipped fl (gw : Int) (gh : Int) X Y RX RY tm kd sk op l w h K = K ((gw : Int), (gh : Int), skL gw X Y RX RY sk (l0 l).1 (l0 l).2.1 w h (gw * gh)) := by
  obtain ⟨⟨g1, g2, g3, g4⟩, _⟩ := tv_iff.1 ht
  have en : ((gw : Int) * (gh : Int)).toNat = gw * gh := by rw [← Int.natCast_mul, Int.toNat_natCast]
  unfold F_tone_skipped Fg_tone_skipped
  rw [bnew0 hfl (fit_g ht), en]
  dsimp only
  cases sk with
  | false =>
    rw [cond_t (b := !false) rfl, skip_none]
  | true =>
  rw [cond_f (b := !true) rfl]
  unfold L_tone_skipped_0
  refine iter_seq (step := S_tone_skipped_0 fl) (fun i : Nat => (l, w, h, (gh : Int), (i : Int), (gw : Int), (gh : Int), X, Y, RX, RY, tm, kd, true, op, 0, 0, (gw : Int), (gh : Int), [], fillL (skU gw X Y RX RY true (l0 l).1 (l0 l).2.1 w h) (gw * gh) (i * gw))) gh (by rw [Nat.zero_mul, fillL_zero]; rfl) (fun i hi c => ?_) (fun c => ?_) (by omega)
  · simp only [S_tone_skipped_0, Sg_tone_skipped_0]
    rw [dec_t (by omega), skip_row hfl ht hl hpw hi rfl]
    dsimp only
    rw [wrap64 (by omega) (by omega), show i * gw + gw = (i + 1) * gw by rw [Nat.add_mul, Nat.one_mul]]
    rfl
  · simp only [S_tone_skipped_0, Sg_tone_skipped_0]
    rw [dec_f (by omega), Nat.mul_comm gh gw, fillL_all]
    rfl
theorem rskip_row (hfl : 9223372036854775808 ≤ fl) {gw gh : Nat} {sk : Bool} (ht : tv (gw : Int) (gh : Int) X Y RX RY tm kd op = true) (hl : 0 < l.length) (hpw : 0 ≤ (l0 l).1 ∧ (l0 l).1 ≤ 200 ∧ 0 ≤ (l0 l).2.1 ∧ (l0 l).2.1 ≤ 200) {m : Nat} (hm : m < gh) {o1 o2 : Int} {o3 : List Int} {b} {u : Nat → Int} (hu : u = skU gw X Y RX RY sk (l0 l).1 (l0 l).2.1 w h) :
    L_ref11_skipped_2 fl (l, w, h, (m : Int), 0, (gw : Int), (gh : Int), X, Y, RX, RY, tm, kd, sk, op, o1, o2, (gw : Int), (gh : Int), o3, fillL u (gw * gh) (m * gw)) b
    = b (l, w, h, (m : Int), (gw : Int), (gh : Int), X, Y, RX, RY, tm, kd, sk, op, o1, o2, (gw : Int), (gh : Int), o3, fillL u (gw * gh) (m * gw + gw)) := by
  obtain ⟨⟨g1, g2, g3, g4⟩, _⟩ := tv_iff.1 ht
  have hg : gw * gh ≤ 64 * 64 := Nat.mul_le_mul (by omega) (by omega)
  unfold L_ref11_skipped_2
  refine iter_seq (step := S_ref11_skipped_2 fl) (fun i : Nat => (l, w, h, (m : Int), (i : Int), (gw : Int), (gh : Int), X, Y, RX, RY, tm, kd, sk, op, o1, o2, (gw : Int), (gh : Int), o3, fillL u (gw * gh) (m * gw + i))) gw rfl (fun i hi c => ?_) (fun c => ?_) (by omega)
  · have hix := idx_lt hm hi
    have hc := c_rg ht (m := (m : Int)) (n := (i : Int)) (by omega) (by omega)
    obtain ⟨d1, d2⟩ := divmod (m := m) hi
    have hui : u (m * gw + i) = if sk = true ∧ (cX X RX RY (m : Int) (i : Int) ≥ w ∨ cY Y RX RY (m : Int) (i : Int) ≥ h ∨ cX X RX RY (m : Int) (i : Int) + (l0 l).1 ≤ 0 ∨ cY Y RX RY (m : Int) (i : Int) + (l0 l).2.1 ≤ 0) then 1 else 0 := by
      rw [hu]
      unfold skU off
      rw [d1, d2]
      simp
    simp only [S_ref11_skipped_2, Sg_ref11_skipped_2]
    rw [dec_t (by omega), rcell_ok ht (by omega) (by omega)]
    unfold F_ref05_Put_a2e
    dsimp only
    have e0 : l.getD (Int.toNat 0) (0, 0, []) = l0 l := rfl
    have e1 : (m : Int) * (gw : Int) = ((m * gw : Nat) : Int) := (Int.natCast_mul m gw).symm
    have hm2 : m * gw ≤ m * gw + i := Nat.le_add_right _ _
    rw [e1, w6 (x := ((m * gw : Nat) : Int)), ← Int.natCast_add, w6 (x := ((m * gw + i : Nat) : Int)), w6 (x := (i : Int) + 1), e0, l0_dec hl, l0_dec hl, Int.toNat_natCast, w6 (x := cX X RX RY (m : Int) (i : Int) + _), w6 (x := cY Y RX RY (m : Int) (i : Int) + _)]
    have ds : ∀ {α : Type} (a b : α), (bif decide ((0 : Int) ≤ ((m * gw + i : Nat) : Int) ∧ ((m * gw + i : Nat) : Int) < ((fillL u (gw * gh) (m * gw + i)).length : Int)) then a else b) = a := fun a b => dec_t (by rw [fillL_len]; omega)
    have w1 : IntKind.u8.wrap 1 = 1 := rfl
    simp only [ds, w1]
    have e3 : m * gw + (i + 1) = m * gw + i + 1 := by omega
    have e5 : u (m * gw + i) = 1 → (fillL u (gw * gh) (m * gw + i)).set (m * gw + i) 1 = fillL u (gw * gh) (m * gw + i + 1) := fun h => by rw [← fillL_set, h]
    have e4 : u (m * gw + i) = 0 → fillL u (gw * gh) (m * gw + i) = fillL u (gw * gh) (m * gw + i + 1) := by
      intro hui
      apply List.ext_getElem (by simp [fillL])
      intro j h1 h2
      simp only [fillL, List.getElem_map, List.getElem_range]
      by_cases hj : j < m * gw + i
      · rw [if_pos hj, if_pos (by omega)]
      · rw [if_neg hj]
        by_cases hji : j = m * gw + i
        · subst hji
          rw [if_pos (by omega), hui]
        · rw [if_neg (by omega)]
    cases sk with
    | false =>
      rw [if_neg (by simp)] at hui
      rw [cond_f (b := false) rfl, e4 hui, e3]
      rfl
    | true =>
    rw [cond_t (b := true) rfl]
    by_cases c3 : cX X RX RY (m : Int) (i : Int) + (l0 l).1 ≤ 0
    · rw [if_pos ⟨rfl, .inr (.inr (.inl c3))⟩] at hui
      rw [dec_t c3, e5 hui, e3]
      rfl
    rw [dec_f c3]
    by_cases c4 : cY Y RX RY (m : Int) (i : Int) + (l0 l).2.1 ≤ 0
    · rw [if_pos ⟨rfl, .inr (.inr (.inr c4))⟩] at hui
      rw [dec_t c4, e5 hui, e3]
      rfl
    rw [dec_f c4]
    by_cases c1 : cX X RX RY (m : Int) (i : Int) ≥ w
    · rw [if_pos ⟨rfl, .inl c1⟩] at hui
      rw [dec_t c1, e5 hui, e3]
      rfl
    rw [dec_f c1]
    by_cases c2 : cY Y RX RY (m : Int) (i : Int) ≥ h
    · rw [if_pos ⟨rfl, .inr (.inl c2)⟩] at hui
      rw [dec_t c2, e5 hui, e3]
      rfl
    rw [dec_f c2]
    rw [if_neg (by omega)] at hui
    rw [e4 hui, e3]
    rfl
  · simp only [S_ref11_skipped_2, Sg_ref11_skipped_2]
    rw [dec_f (by omega)]
theorem rskipped_ok (hfl : 9223372036854775808 ≤ fl) {gw gh : Nat} {sk : Bool} (ht : tv (gw : Int) (gh : Int) X Y RX RY tm kd op = true) (hl : 0 < l.length) (hpw : 0 ≤ (l0 l).1 ∧ (l0 l).1 ≤ 200 ∧ 0 ≤ (l0 l).2.1 ∧ (l0 l).2.1 ≤ 200) {K : Int × Int × List Int → Option Ans} :
    F_ref11_skipped fl (gw : Int) (gh : Int) X Y RX RY tm kd sk op l w h K = K ((gw : Int), (gh : Int), skL gw X Y RX RY sk (l0 l).1 (l0 l).2.1 w h (gw * gh)) := by
  obtain ⟨⟨g1, g2, g3, g4⟩, _⟩ := tv_iff.1 ht
  have en : ((gw : Int) * (gh : Int)).toNat = gw * gh := by rw [← Int.natCast_mul, Int.toNat_natCast]
  unfold F_ref11_skipped Fg_ref11_skipped
  rw [rbnew0 hfl (fit_g ht), en]
  dsimp only
  unfold L_ref11_skipped_0
  refine iter_seq (step := S_ref11_skipped_0 fl) (fun i : Nat => (l, w, h, (i : Int), (gw : Int), (gh : Int), X, Y, RX, RY, tm, kd, sk, op, 0, 0, (gw : Int), (gh : Int), [], fillL (skU gw X Y RX RY sk (l0 l).1 (l0 l).2.1 w h) (gw * gh) (i * gw))) gh (by rw [Nat.zero_mul, fillL_zero]; rfl) (fun i hi c => ?_) (fun c => ?_) (by omega)
  · simp only [S_ref11_skipped_0, Sg_ref11_skipped_0]
    rw [dec_t (by omega), rskip_row hfl ht hl hpw hi rfl]
    dsimp only
    rw [wrap64 (by omega) (by omega), show i * gw + gw = (i + 1) * gw by rw [Nat.add_mul, Nat.one_mul]]
    rfl
  · simp only [S_ref11_skipped_0, Sg_ref11_skipped_0]
    rw [dec_f (by omega), Nat.mul_comm gh gw, fillL_all]
    rfl
end
open Go Ev Bm Gen
abbrev vOk (n : Int) (s v : List Int) (i : Nat) : Prop := 0 ≤ v.getD i 0 ∧ v.getD i 0 < n ∧ (v.getD i 0 = 0 ∨ s.getD i 0 ≠ 1)
section
variable {fl : Nat} {n : Int} {s v : List Int}
theorem rv_step (hv : v.length ≤ 1000000) (hs : v.length ≤ s.length) {o1 o2 : Int} {i : Nat} (hi : i < v.length) {c ret b} : S_tone_rightValues_0 fl (n, v, (v.length : Int), (i : Int), o1, o2, s) c (ret, b) = if vOk n s v i then c (n, v, (v.length : Int), ((i + 1 : Nat) : Int), o1, o2, s) else ret false := by
  simp only [S_tone_rightValues_0]
  rw [dec_t (by omega), dec_t (by omega), Int.toNat_natCast, dec_t (p := (0 : Int) ≤ (i : Int) ∧ (i : Int) < (s.length : Int)) (by omega), wrap64 (by omega) (by omega)]
  unfold vOk
  by_cases a : v.getD i 0 < 0
  · rw [dec_t a, if_neg (by omega)]
  rw [dec_f a]
  by_cases b' : v.getD i 0 ≥ n
  · rw [dec_t b', if_neg (by omega)]
  rw [dec_f b', cn]
  by_cases c' : v.getD i 0 = 0
  · rw [if_pos c', if_pos ⟨by omega, by omega, .inl c'⟩]
    rfl
  · rw [if_neg c', cb]
    by_cases d : s.getD i 0 = 1
    · rw [if_pos d, if_neg (by omega)]
    · rw [if_neg d, if_pos ⟨by omega, by omega, .inr d⟩]
      rfl
theorem rv_ok (hfl : 9223372036854775808 ≤ fl) {gw gh : Nat} {X Y RX RY tm kd op : Int} {sk : Bool} (hg : gw * gh ≤ 4096) (hs : s.length = gw * gh) {o1 o2 : Int} {K : Bool → Option Ans} (hv : v.length ≤ 1000000) :
    F_tone_rightValues fl (gw : Int) (gh : Int) X Y RX RY tm kd sk op n o1 o2 s v K = K (decide (v.length = gw * gh ∧ ∀ i, i < v.length → vOk n s v i)) := by
  unfold F_tone_rightValues
  rw [← Int.natCast_mul, wrap64 (by omega) (by omega)]
  by_cases hl : v.length = gw * gh
  rotate_left
  · rw [cond_t (b := (v.length : Int) != ((gw * gh : Nat) : Int)) (by simp; omega), decide_eq_false (fun h => hl h.1)]
  rw [cond_f (b := (v.length : Int) != ((gw * gh : Nat) : Int)) (by simp; omega)]
  unfold L_tone_rightValues_0
  rcases nat_or_first (vOk n s v) v.length with ha | ⟨m, hm, hb, hi⟩
  · rw [decide_eq_true ⟨hl, ha⟩]
    refine iter_to (step := S_tone_rightValues_0 fl) (fun i : Nat => (n, v, (v.length : Int), (i : Int), o1, o2, s)) v.length (fun i hi c => ?_) (fun c => ?_) (by omega)
    · rw [rv_step hv (by omega) hi, if_pos (ha i hi)]
    · simp only [S_tone_rightValues_0]
      rw [dec_f (by omega)]
  · rw [decide_eq_false (fun h => hb (h.2 m hm))]
    refine iter_to (step := S_tone_rightValues_0 fl) (fun i : Nat => (n, v, (v.length : Int), (i : Int), o1, o2, s)) m (fun i hi' c => ?_) (fun c => ?_) (by omega)
    · rw [rv_step hv (by omega) (by omega), if_pos (hi i hi')]
    · rw [rv_step hv (by omega) hm, if_neg hb]
theorem gv_step {l : List Bmp} (hv : v.length ≤ 1000000) (hs : v.length ≤ s.length) {o1 o2 : Int} {i : Nat} (hi : i < v.length) {c ret b} : S_ref11_given_0 fl (l, v, (i : Int), o1, o2, s) c (ret, b) = if vOk (l.length : Int) s v i then c (l, v, ((i + 1 : Nat) : Int), o1, o2, s) else ret 2 := by
  simp only [S_ref11_given_0, Sg_ref11_given_0]
  have dv : ∀ {α : Type} (a b : α), (bif decide ((0 : Int) ≤ (i : Int) ∧ (i : Int) < (v.length : Int)) then a else b) = a := fun a b => dec_t (by omega)
  have dss : ∀ {α : Type} (a b : α), (bif decide ((0 : Int) ≤ (i : Int) ∧ (i : Int) < (s.length : Int)) then a else b) = a := fun a b => dec_t (by omega)
  simp only [dv, dss]
  rw [dec_t (by omega), Int.toNat_natCast, wrap64 (by omega) (by omega)]
  unfold vOk
  by_cases a : v.getD i 0 < 0
  · rw [dec_t a, if_neg (by omega)]
  rw [dec_f a]
  by_cases b' : v.getD i 0 ≥ (l.length : Int)
  · rw [dec_t b', if_neg (by omega)]
  rw [dec_f b', cb]
  by_cases d : s.getD i 0 = 1
  · rw [if_pos d, cn]
    by_cases c' : v.getD i 0 = 0
    · rw [if_pos c', if_pos ⟨by omega, by omega, .inl c'⟩]
      rfl
    · rw [if_neg c', if_neg (by omega)]
  · rw [if_neg d, if_pos ⟨by omega, by omega, .inr d⟩]
    rfl
end
section
variable (gw : Nat) (X Y RX RY op w h : Int) (l : List Bmp) (s v : List Int)
end
structure Good (fl : Nat) (gw gh : Nat) (X Y RX RY tm kd op w h : Int) (l : List Bmp) : Prop where
  hfl : 9223372036854775808 ≤ fl
  t : tv (gw : Int) (gh : Int) X Y RX RY tm kd op = true
  a : l.all (bmOk l) = true
  f : fit w h = true
  z : ∀ b ∈ l, ∀ u ∈ b.2.2, 0 ≤ u
  so : sidesOk l.length (l0 l).1 (l0 l).2.1 = true
section
variable {fl gw gh : Nat} {X Y RX RY tm kd op w h : Int} {l : List Bmp} {s v : List Int} {sk : Bool}
theorem Good.l1 (G : Good fl gw gh X Y RX RY tm kd op w h l) : 0 < l.length ∧ l.length ≤ 64 ∧ 1 ≤ (l0 l).1 ∧ (l0 l).1 ≤ 16 ∧ 1 ≤ (l0 l).2.1 ∧ (l0 l).2.1 ≤ 16 := by
  have := (sidesOk_iff.1 G.so).1
  omega
theorem Good.hpw (G : Good fl gw gh X Y RX RY tm kd op w h l) : 0 ≤ (l0 l).1 ∧ (l0 l).1 ≤ 200 ∧ 0 ≤ (l0 l).2.1 ∧ (l0 l).2.1 ≤ 200 := by
  have := G.l1
  omega
theorem Good.g (G : Good fl gw gh X Y RX RY tm kd op w h l) : gw ≤ 64 ∧ gh ≤ 64 ∧ gw * gh ≤ 4096 ∧ 0 ≤ op ∧ op ≤ 4 := by
  obtain ⟨hg, _, _, _, _, _, _, _, o1, o2⟩ := tv_iff.1 G.t
  have := gmul hg
  rw [← Int.natCast_mul] at this
  omega
abbrev okV (gw gh : Nat) (X Y RX RY : Int) (sk : Bool) (w h : Int) (l : List Bmp) (v : List Int) : Prop := v.length = gw * gh ∧ ∀ i, i < v.length → vOk (l.length : Int) (skL gw X Y RX RY sk (l0 l).1 (l0 l).2.1 w h (gw * gh)) v i
end
end Go.Proofs.YtipdidpalcmlhaaGreat.Ton
namespace Go.Proofs.YtipdidpalcmlhaaGreat.Co
open Go Ev
def mid (lo hi p : Int) : Int := lo + (hi - lo) / 4096 * p + (hi - lo) % 4096 * p / 4096
theorem mid_in {lo hi p : Int} (h : lo < hi) (h1 : 1 ≤ p) (h2 : p ≤ 4095) : lo ≤ mid lo hi p ∧ mid lo hi p < hi := by
  unfold mid
  have hr : 1 ≤ hi - lo := by omega
  have e := Int.emod_add_mul_ediv (hi - lo) 4096
  have b0 : 0 ≤ (hi - lo) % 4096 := Int.emod_nonneg _ (by omega)
  have b1 : (hi - lo) % 4096 < 4096 := Int.emod_lt_of_pos _ (by omega)
  have a0 : 0 ≤ (hi - lo) / 4096 := Int.ediv_nonneg (by omega) (by omega)
  generalize (hi - lo) % 4096 = b at *
  generalize (hi - lo) / 4096 = a at *
  have m1 : 0 ≤ a * p := Int.mul_nonneg a0 (by omega)
  have m2 : a * p ≤ a * 4095 := Int.mul_le_mul_of_nonneg_left h2 a0
  have m3 : 0 ≤ b * p := Int.mul_nonneg b0 (by omega)
  have m4 : b * p ≤ b * 4095 := Int.mul_le_mul_of_nonneg_left h2 b0
  generalize a * p = x at *
  generalize b * p = y at *
  omega
theorem mid_parts {lo hi p : Int} (h : lo ≤ hi) (hl : 0 ≤ lo) (hh : hi < 4294967296) (h1 : 1 ≤ p) (h2 : p ≤ 4095) :
    0 ≤ (hi - lo) / 4096 * p ∧ (hi - lo) / 4096 * p < 4294967296 ∧ 0 ≤ (hi - lo) % 4096 * p ∧ (hi - lo) % 4096 * p < 4294967296 := by
  have b0 : 0 ≤ (hi - lo) % 4096 := Int.emod_nonneg _ (by omega)
  have b1 : (hi - lo) % 4096 < 4096 := Int.emod_lt_of_pos _ (by omega)
  have a0 : 0 ≤ (hi - lo) / 4096 := Int.ediv_nonneg (by omega) (by omega)
  have e := Int.emod_add_mul_ediv (hi - lo) 4096
  generalize (hi - lo) % 4096 = b at *
  generalize (hi - lo) / 4096 = a at *
  have m1 : 0 ≤ a * p := Int.mul_nonneg a0 (by omega)
  have m2 : a * p ≤ a * 4095 := Int.mul_le_mul_of_nonneg_left h2 a0
  have m3 : 0 ≤ b * p := Int.mul_nonneg b0 (by omega)
  have m4 : b * p ≤ b * 4095 := Int.mul_le_mul_of_nonneg_left h2 b0
  generalize a * p = x at *
  generalize b * p = y at *
  omega
def same (lo hi : Int) : Prop := lo / 16777216 = hi / 16777216
instance (lo hi : Int) : Decidable (same lo hi) := by unfold same; infer_instance
def nl (lo : Int) : Int := lo % 16777216 * 256
def nh (hi : Int) : Int := hi % 16777216 * 256 + 255
structure Rg (lo hi : Int) : Prop where
  l : 0 ≤ lo
  m : lo ≤ hi
  h : hi < 4294967296
theorem Rg.next {lo hi : Int} (h : Rg lo hi) (hs : same lo hi) : Rg (nl lo) (nh hi) := by
  obtain ⟨a, b, c⟩ := h
  unfold same at hs
  unfold nl nh
  constructor <;> omega
def nrm : Nat → Int → Int → Nat × Int × Int
  | 0, lo, hi => (0, lo, hi)
  | n + 1, lo, hi => if same lo hi then ((nrm n (nl lo) (nh hi)).1 + 1, (nrm n (nl lo) (nh hi)).2) else (0, lo, hi)
def nrmB : Nat → Int → Int → List Int
  | 0, _, _ => []
  | n + 1, lo, hi => if same lo hi then lo / 16777216 :: nrmB n (nl lo) (nh hi) else []
theorem nrmB_len : ∀ (n : Nat) (lo hi : Int), (nrmB n lo hi).length = (nrm n lo hi).1
  | 0, _, _ => rfl
  | n + 1, lo, hi => by
    unfold nrmB nrm
    split
    · simp [nrmB_len n]
    · rfl
theorem nrm_le : ∀ (n : Nat) (lo hi : Int), (nrm n lo hi).1 ≤ n
  | 0, _, _ => Nat.le_refl _
  | n + 1, lo, hi => by
    unfold nrm
    split
    · have := nrm_le n (nl lo) (nh hi)
      show _ + 1 ≤ n + 1
      omega
    · exact Nat.zero_le _
theorem nrmB_byte : ∀ (n : Nat) {lo hi : Int}, Rg lo hi → ∀ b ∈ nrmB n lo hi, 0 ≤ b ∧ b ≤ 255
  | 0, _, _, _, b, hb => by cases hb
  | n + 1, lo, hi, h, b, hb => by
    unfold nrmB at hb
    split at hb
    · rename_i hs
      rcases List.mem_cons.1 hb with rfl | hb
      · obtain ⟨a, b, c⟩ := h
        omega
      · exact nrmB_byte n (h.next hs) b hb
    · cases hb
theorem nrm_rg : ∀ (n : Nat) {lo hi : Int}, Rg lo hi → Rg (nrm n lo hi).2.1 (nrm n lo hi).2.2
  | 0, _, _, h => h
  | n + 1, lo, hi, h => by
    unfold nrm
    split
    · rename_i hs
      exact nrm_rg n (h.next hs)
    · exact h
theorem nrm_same {n : Nat} {lo hi : Int} (h : same lo hi) : (nrm (n + 1) lo hi).2 = (nrm n (nl lo) (nh hi)).2 := by
  rw [nrm, if_pos h]
theorem nrm_diff {n : Nat} {lo hi : Int} (h : ¬ same lo hi) : (nrm (n + 1) lo hi).2 = (lo, hi) := by
  rw [nrm, if_neg h]
theorem ends4 {lo hi : Int} (h : Rg lo hi) (h1 : lo = 0) (h2 : hi = 4294967295) {n : Nat} : ¬ same (nrm (n + 1) lo hi).2.1 (nrm (n + 1) lo hi).2.2 := by
  have hs : ¬ same lo hi := by unfold same; omega
  rw [nrm_diff hs]
  exact hs
theorem ends3 {lo hi : Int} (h : Rg lo hi) (h1 : lo % 16777216 = 0) (h2 : hi % 16777216 = 16777215) : ¬ same (nrm 2 lo hi).2.1 (nrm 2 lo hi).2.2 := by
  by_cases hs : same lo hi
  · rw [nrm_same hs]
    exact ends4 (h.next hs) (by unfold nl; omega) (by unfold nh; omega)
  · rw [nrm_diff hs]
    exact hs
theorem ends2 {lo hi : Int} (h : Rg lo hi) (h1 : lo % 65536 = 0) (h2 : hi % 65536 = 65535) : ¬ same (nrm 3 lo hi).2.1 (nrm 3 lo hi).2.2 := by
  by_cases hs : same lo hi
  · rw [nrm_same hs]
    exact ends3 (h.next hs) (by unfold nl; omega) (by unfold nh; omega)
  · rw [nrm_diff hs]
    exact hs
theorem ends1 {lo hi : Int} (h : Rg lo hi) (h1 : lo % 256 = 0) (h2 : hi % 256 = 255) : ¬ same (nrm 4 lo hi).2.1 (nrm 4 lo hi).2.2 := by
  by_cases hs : same lo hi
  · rw [nrm_same hs]
    exact ends2 (h.next hs) (by unfold nl; omega) (by unfold nh; omega)
  · rw [nrm_diff hs]
    exact hs
theorem nrm_ends {lo hi : Int} (h : Rg lo hi) : ¬ same (nrm 5 lo hi).2.1 (nrm 5 lo hi).2.2 := by
  by_cases hs : same lo hi
  · rw [nrm_same hs]
    exact ends1 (h.next hs) (by unfold nl; omega) (by unfold nh; omega)
  · rw [nrm_diff hs]
    exact hs
theorem lt_of {lo hi : Int} (h : Rg lo hi) (hs : ¬ same lo hi) : lo < hi := by
  obtain ⟨a, b, c⟩ := h
  unfold same at hs
  omega
def Byt (S : Nat → Int) : Prop := ∀ n, 0 ≤ S n ∧ S n ≤ 255
def win (S : Nat → Int) (n : Nat) : Int := S n * 16777216 + S (n + 1) * 65536 + S (n + 2) * 256 + S (n + 3)
theorem win_next {S : Nat → Int} (h : Byt S) (n : Nat) : win S (n + 1) = win S n % 16777216 * 256 + S (n + 4) := by
  have a := h n; have b := h (n + 1); have c := h (n + 2); have d := h (n + 3); have e := h (n + 4)
  have e0 : win S n = S n * 16777216 + S (n + 1) * 65536 + S (n + 2) * 256 + S (n + 3) := rfl
  have e1 : win S (n + 1) = S (n + 1) * 16777216 + S (n + 2) * 65536 + S (n + 3) * 256 + S (n + 4) := rfl
  omega
theorem win_rg {S : Nat → Int} (h : Byt S) (n : Nat) : 0 ≤ win S n ∧ win S n < 4294967296 := by
  have a := h n; have b := h (n + 1); have c := h (n + 2); have d := h (n + 3)
  have e0 : win S n = S n * 16777216 + S (n + 1) * 65536 + S (n + 2) * 256 + S (n + 3) := rfl
  omega
theorem back {S : Nat → Int} (hS : Byt S) : ∀ (f : Nat) (lo hi : Int) (n : Nat), Rg lo hi → (∀ i, i < (nrm f lo hi).1 → S (n + i) = (nrmB f lo hi).getD i 0) →
    (nrm f lo hi).2.1 ≤ win S (n + (nrm f lo hi).1) → win S (n + (nrm f lo hi).1) ≤ (nrm f lo hi).2.2 → lo ≤ win S n ∧ win S n ≤ hi
  | 0, lo, hi, n, _, _, h1, h2 => ⟨h1, h2⟩
  | f + 1, lo, hi, n, hr, hb, h1, h2 => by
    by_cases h : same lo hi
    · have e1 : nrm (f + 1) lo hi = ((nrm f (nl lo) (nh hi)).1 + 1, (nrm f (nl lo) (nh hi)).2) := by rw [nrm, if_pos h]
      have e2 : nrmB (f + 1) lo hi = lo / 16777216 :: nrmB f (nl lo) (nh hi) := by rw [nrmB, if_pos h]
      rw [e1] at h1 h2 hb
      rw [e2] at hb
      simp only at h1 h2 hb
      have h0 := hb 0 (by omega)
      simp only [Nat.add_zero, List.getD_cons_zero] at h0
      have ih := back hS f (nl lo) (nh hi) (n + 1) (hr.next h) (fun i hi' => by
        have := hb (i + 1) (by omega)
        rw [List.getD_cons_succ] at this
        rw [← this, show n + 1 + i = n + (i + 1) by omega])
        (by rw [show n + 1 + (nrm f (nl lo) (nh hi)).1 = n + ((nrm f (nl lo) (nh hi)).1 + 1) by omega]; exact h1)
        (by rw [show n + 1 + (nrm f (nl lo) (nh hi)).1 = n + ((nrm f (nl lo) (nh hi)).1 + 1) by omega]; exact h2)
      rw [win_next hS n] at ih
      have a := hS n; have b := hS (n + 1); have c := hS (n + 2); have d := hS (n + 3); have e := hS (n + 4)
      have w0 : win S n = S n * 16777216 + S (n + 1) * 65536 + S (n + 2) * 256 + S (n + 3) := rfl
      obtain ⟨r1, r2, r3⟩ := hr
      unfold same at h
      unfold nl nh at ih
      generalize win S n = w at *
      omega
    · have e1 : nrm (f + 1) lo hi = (0, lo, hi) := by rw [nrm, if_neg h]
      rw [e1] at h1 h2
      exact ⟨h1, h2⟩
open Go Ev
def q : Nat → Int
  | 0 => 2048
  | k + 1 => q k - q k / 8
theorem q_rg : ∀ k : Fin 32, 1 ≤ q k.val ∧ q k.val ≤ 2048 := by decide
def pr (kd s : Int) : Int :=
  if kd = 1 then min (max ((2 * (s % 256) + 1) * 4096 / (2 * (s / 256) + 2 * (s % 256) + 2)) 1) 4095
  else if 32 ≤ s then 4096 - q (s - 32).toNat else q s.toNat
def most (kd : Int) : Int := if kd = 1 then 65536 else 64
def vst (kd s : Int) : Prop := 0 ≤ s ∧ s < most kd
theorem pr_rg {kd s : Int} (hk : kd = 0 ∨ kd = 1) (h : vst kd s) : 1 ≤ pr kd s ∧ pr kd s ≤ 4095 := by
  unfold vst most at h
  unfold pr
  by_cases h1 : kd = 1
  · rw [if_pos h1]
    omega
  · rw [if_neg h1] at h ⊢
    split
    · have := q_rg ⟨(s - 32).toNat, by omega⟩
      simp only at this
      omega
    · have := q_rg ⟨s.toNat, by omega⟩
      simp only at this
      omega
def nx (kd s bit : Int) : Int :=
  if kd = 1 then
    (if bit = 0 then (if s / 256 = 255 then 256 * 128 + s % 256 / 2 else 256 * (s / 256 + 1) + s % 256)
     else (if s % 256 = 255 then 256 * (s / 256 / 2) + 128 else 256 * (s / 256) + (s % 256 + 1)))
  else if bit = s / 32 then 32 * (s / 32) + min (s % 32 + 1) 31
  else if s % 32 = 0 then 32 * bit
  else 32 * (s / 32) + (s % 32 - (1 + s % 32 / 4))
theorem nx_rg {kd s bit : Int} (hk : kd = 0 ∨ kd = 1) (h : vst kd s) (hb : bit = 0 ∨ bit = 1) : vst kd (nx kd s bit) := by
  unfold vst most at *
  unfold nx
  by_cases h1 : kd = 1
  · rw [if_pos h1] at h ⊢
    rw [if_pos h1]
    split <;> split <;> omega
  · rw [if_neg h1] at h ⊢
    rw [if_neg h1]
    split
    · omega
    · split <;> omega
structure Iv where
  st : List Int
  lo : Int
  hi : Int
structure Iv.Ok (kd : Int) (x : Iv) : Prop where
  k : kd = 0 ∨ kd = 1
  r : Rg x.lo x.hi
  d : ¬ same x.lo x.hi
  s : ∀ s ∈ x.st, vst kd s
def Iv.mid (kd : Int) (x : Iv) (c : Int) : Int := Co.mid x.lo x.hi (pr kd (x.st.getD c.toNat 0))
def Iv.clo (kd : Int) (x : Iv) (c b : Int) : Int := if b = 1 then x.lo else x.mid kd c + 1
def Iv.chi (kd : Int) (x : Iv) (c b : Int) : Int := if b = 1 then x.mid kd c else x.hi
def Iv.many (kd : Int) (x : Iv) (c b : Int) : Nat := (nrm 5 (x.clo kd c b) (x.chi kd c b)).1
def Iv.bytes (kd : Int) (x : Iv) (c b : Int) : List Int := nrmB 5 (x.clo kd c b) (x.chi kd c b)
def Iv.next (kd : Int) (x : Iv) (c b : Int) : Iv :=
  ⟨x.st.set c.toNat (nx kd (x.st.getD c.toNat 0) b), (nrm 5 (x.clo kd c b) (x.chi kd c b)).2.1, (nrm 5 (x.clo kd c b) (x.chi kd c b)).2.2⟩
theorem Iv.bytes_len (kd : Int) (x : Iv) (c b : Int) : (x.bytes kd c b).length = x.many kd c b := nrmB_len _ _ _
theorem Iv.next_len (kd : Int) (x : Iv) (c b : Int) : (x.next kd c b).st.length = x.st.length := by simp [Iv.next]
theorem Iv.Ok.get {kd : Int} {x : Iv} (h : x.Ok kd) {c : Int} (h0 : 0 ≤ c) (h1 : c < x.st.length) : vst kd (x.st.getD c.toNat 0) := h.s _ (getD_mem (by omega) 0)
theorem Iv.Ok.mid_in {kd : Int} {x : Iv} (h : x.Ok kd) {c : Int} (h0 : 0 ≤ c) (h1 : c < x.st.length) : x.lo ≤ x.mid kd c ∧ x.mid kd c < x.hi := by
  obtain ⟨a, b⟩ := pr_rg h.k (h.get h0 h1)
  exact Co.mid_in (lt_of h.r h.d) a b
theorem Iv.Ok.cut {kd : Int} {x : Iv} (h : x.Ok kd) {c b : Int} (h0 : 0 ≤ c) (h1 : c < x.st.length) : Rg (x.clo kd c b) (x.chi kd c b) := by
  have hm := h.mid_in h0 h1
  obtain ⟨a, b, c⟩ := h.r
  unfold Iv.clo Iv.chi
  split <;> constructor <;> omega
theorem Iv.Ok.next {kd : Int} {x : Iv} (h : x.Ok kd) {c b : Int} (h0 : 0 ≤ c) (h1 : c < x.st.length) (hb : b = 0 ∨ b = 1) : (x.next kd c b).Ok kd := by
  refine ⟨h.k, nrm_rg 5 (h.cut h0 h1), nrm_ends (h.cut h0 h1), fun s hs => ?_⟩
  rcases List.mem_or_eq_of_mem_set hs with hs | rfl
  · exact h.s s hs
  · exact nx_rg h.k (h.get h0 h1) hb
def run (kd : Int) : Iv → List Int → List (Int × Int) → Iv × List Int
  | x, out, [] => (x, out)
  | x, out, (c, b) :: r => run kd (x.next kd c b) (out ++ x.bytes kd c b) r
def Evs (n : Nat) (l : List (Int × Int)) : Prop := ∀ e ∈ l, 0 ≤ e.1 ∧ e.1 < (n : Int) ∧ (e.2 = 0 ∨ e.2 = 1)
theorem run_append (kd : Int) : ∀ (a b : List (Int × Int)) (x : Iv) (out : List Int), run kd x out (a ++ b) = run kd (run kd x out a).1 (run kd x out a).2 b
  | [], b, x, out => rfl
  | (c, t) :: a, b, x, out => run_append kd a b _ _
theorem run_pre (kd : Int) : ∀ (l : List (Int × Int)) (x : Iv) (out : List Int), ∃ more, (run kd x out l).2 = out ++ more
  | [], x, out => ⟨[], by simp [run]⟩
  | (c, b) :: r, x, out => by
    obtain ⟨m, e⟩ := run_pre kd r (x.next kd c b) (out ++ x.bytes kd c b)
    exact ⟨x.bytes kd c b ++ m, by rw [run, e, List.append_assoc]⟩
theorem run_ok {kd : Int} : ∀ (l : List (Int × Int)) {x : Iv} {out : List Int}, x.Ok kd → Evs x.st.length l → (run kd x out l).1.Ok kd ∧ (run kd x out l).1.st.length = x.st.length
  | [], x, out, h, _ => ⟨h, rfl⟩
  | (c, b) :: r, x, out, h, he => by
    obtain ⟨h0, h1, hb⟩ := he (c, b) (by simp)
    have h2 := run_ok r (out := out ++ x.bytes kd c b) (h.next h0 h1 hb) (by rw [Iv.next_len]; exact fun e he' => he e (by simp [he']))
    rw [Iv.next_len] at h2
    exact h2
theorem run_byte {kd : Int} : ∀ (l : List (Int × Int)) {x : Iv} {out : List Int}, x.Ok kd → Evs x.st.length l → (∀ v ∈ out, 0 ≤ v ∧ v ≤ 255) → ∀ v ∈ (run kd x out l).2, 0 ≤ v ∧ v ≤ 255
  | [], x, out, h, _, ho => ho
  | (c, b) :: r, x, out, h, he, ho => by
    obtain ⟨h0, h1, hb⟩ := he (c, b) (by simp)
    refine run_byte r (h.next h0 h1 hb) (by rw [Iv.next_len]; exact fun e he' => he e (by simp [he'])) fun v hv => ?_
    rcases List.mem_append.1 hv with hv | hv
    · exact ho v hv
    · exact nrmB_byte 5 (h.cut h0 h1) v hv
theorem run_len_le {kd : Int} : ∀ (l : List (Int × Int)) {x : Iv} {out : List Int}, (run kd x out l).2.length ≤ out.length + 5 * l.length
  | [], x, out => by simp [run]
  | (c, b) :: r, x, out => by
    have h := run_len_le r (kd := kd) (x := x.next kd c b) (out := out ++ x.bytes kd c b)
    have hb := x.bytes_len kd c b
    have hm : x.many kd c b ≤ 5 := nrm_le _ _ _
    rw [run]
    rw [List.length_append] at h
    simp only [List.length_cons]
    omega
def Begins (S : Nat → Int) (out : List Int) : Prop := ∀ i, i < out.length → S i = out.getD i 0
def Con (S : Nat → Int) (x : Iv) (n : Nat) : Prop := x.lo ≤ win S n ∧ win S n ≤ x.hi
def bitOf (kd : Int) (S : Nat → Int) (x : Iv) (n : Nat) (c : Int) : Int := if win S n ≤ x.mid kd c then 1 else 0
theorem con_back {kd : Int} {S : Nat → Int} (hS : Byt S) {x : Iv} (h : x.Ok kd) {c b : Int} (h0 : 0 ≤ c) (h1 : c < x.st.length) (hb : b = 0 ∨ b = 1) {out : List Int}
    (hp : Begins S (out ++ x.bytes kd c b)) (hc : Con S (x.next kd c b) (out.length + x.many kd c b)) : Con S x out.length ∧ bitOf kd S x out.length c = b := by
  have hk := back hS 5 (x.clo kd c b) (x.chi kd c b) out.length (h.cut h0 h1) (fun i hi => by
    have hl : (nrmB 5 (x.clo kd c b) (x.chi kd c b)).length = (nrm 5 (x.clo kd c b) (x.chi kd c b)).1 := nrmB_len _ _ _
    have := hp (out.length + i) (by rw [List.length_append, Iv.bytes_len]; unfold Iv.many; omega)
    rw [this, List.getD_eq_getElem?_getD, List.getElem?_append_right (by omega), List.getD_eq_getElem?_getD, Nat.add_sub_cancel_left]
    rfl) hc.1 hc.2
  have hm := h.mid_in h0 h1
  obtain ⟨r1, r2, r3⟩ := h.r
  unfold Con bitOf
  unfold Iv.clo Iv.chi at hk
  rcases hb with rfl | rfl
  · rw [if_neg (by decide), if_neg (by decide)] at hk
    exact ⟨by omega, by rw [if_neg (by omega)]⟩
  · rw [if_pos rfl, if_pos rfl] at hk
    exact ⟨by omega, by rw [if_pos (by omega)]⟩
theorem con_run {kd : Int} {S : Nat → Int} (hS : Byt S) : ∀ (l : List (Int × Int)) {x : Iv} {out : List Int}, x.Ok kd → Evs x.st.length l → Begins S (run kd x out l).2 → Con S (run kd x out l).1 (run kd x out l).2.length → Con S x out.length
  | [], x, out, _, _, _, hc => hc
  | (c, b) :: r, x, out, h, he, hp, hc => by
    obtain ⟨h0, h1, hb⟩ := he (c, b) (by simp)
    have ih := con_run hS r (h.next h0 h1 hb) (out := out ++ x.bytes kd c b) (by rw [Iv.next_len]; exact fun e he' => he e (by simp [he'])) hp hc
    rw [List.length_append, Iv.bytes_len] at ih
    obtain ⟨m, e⟩ := run_pre kd r (x.next kd c b) (out ++ x.bytes kd c b)
    refine (con_back hS h h0 h1 hb (fun i hi => ?_) ih).1
    have hi : i < (out ++ x.bytes kd c b).length := hi
    have := hp i (by rw [run, e, List.length_append]; omega)
    rw [this, run, e, List.getD_eq_getElem?_getD, List.getElem?_append_left hi, List.getD_eq_getElem?_getD]
theorem got {kd : Int} {S : Nat → Int} (hS : Byt S) {l : List (Int × Int)} {c b : Int} {r : List (Int × Int)} {x : Iv} (h : x.Ok kd) (he : Evs x.st.length (l ++ (c, b) :: r))
    (hp : Begins S (run kd x [] (l ++ (c, b) :: r)).2) (hc : Con S (run kd x [] (l ++ (c, b) :: r)).1 (run kd x [] (l ++ (c, b) :: r)).2.length) :
    bitOf kd S (run kd x [] l).1 (run kd x [] l).2.length c = b ∧ (run kd x [] l).2.length + (run kd x [] l).1.many kd c b ≤ (run kd x [] (l ++ (c, b) :: r)).2.length := by
  have hl := run_ok l (out := []) h fun e he' => he e (by simp [he'])
  obtain ⟨h0, h1, hb⟩ := he (c, b) (by simp)
  rw [run_append] at hp hc ⊢
  generalize run kd x [] l = y at *
  obtain ⟨y, out⟩ := y
  obtain ⟨hy, hlen⟩ := hl
  simp only at hy hlen hp hc ⊢
  rw [← hlen] at h1
  have he2 : Evs (y.next kd c b).st.length r := by rw [Iv.next_len, hlen]; exact fun e he' => he e (by simp [he'])
  have ih := con_run hS r (hy.next h0 h1 hb) (out := out ++ y.bytes kd c b) he2 hp hc
  rw [List.length_append, Iv.bytes_len] at ih
  obtain ⟨m, e⟩ := run_pre kd r (y.next kd c b) (out ++ y.bytes kd c b)
  refine ⟨(con_back hS hy h0 h1 hb (fun i hi => ?_) ih).2, ?_⟩
  · have hi : i < (out ++ y.bytes kd c b).length := hi
    have := hp i (by rw [run, e, List.length_append]; omega)
    rw [this, run, e, List.getD_eq_getElem?_getD, List.getElem?_append_left hi, List.getD_eq_getElem?_getD]
  · rw [run, e, List.length_append, List.length_append, Iv.bytes_len]
    omega
def endB (lo hi : Int) : List Int :=
  if lo ≤ 0 then [] else if lo ≤ hi / 16777216 * 16777216 then [hi / 16777216] else if lo ≤ hi / 65536 * 65536 then [hi / 16777216, hi / 65536 % 256]
  else if lo ≤ hi / 256 * 256 then [hi / 16777216, hi / 65536 % 256, hi / 256 % 256] else [hi / 16777216, hi / 65536 % 256, hi / 256 % 256, hi % 256]
theorem endB_byte {lo hi : Int} (h : Rg lo hi) : ∀ v ∈ endB lo hi, 0 ≤ v ∧ v ≤ 255 := by
  obtain ⟨a, b, c⟩ := h
  intro v hv
  unfold endB at hv
  repeat' split at hv
  all_goals simp only [List.mem_cons, List.not_mem_nil, or_false] at hv
  all_goals omega
def strm (code : List Int) (n : Nat) : Int := code.getD n 0
theorem strm_byt {code : List Int} (h : ∀ v ∈ code, 0 ≤ v ∧ v ≤ 255) : Byt (strm code) := by
  intro n
  unfold strm
  by_cases hn : n < code.length
  · exact h _ (getD_mem hn 0)
  · rw [List.getD_eq_getElem?_getD, List.getElem?_eq_none (by omega)]
    simp
theorem strm_app {a b : List Int} {i : Nat} : strm (a ++ b) (a.length + i) = strm b i := by
  unfold strm
  rw [List.getD_eq_getElem?_getD, List.getElem?_append_right (by omega), Nat.add_sub_cancel_left, List.getD_eq_getElem?_getD]
theorem strm_zeros (b : List Int) (n i : Nat) : strm (b ++ List.replicate n 0) i = strm b i := by
  unfold strm
  rw [List.getD_eq_getElem?_getD, List.getD_eq_getElem?_getD, List.getElem?_append]
  split
  · rfl
  · rw [List.getElem?_eq_none (l := b) (by omega), List.getElem?_replicate]
    split <;> rfl
theorem con_end {x : Iv} (h : Rg x.lo x.hi) (out : List Int) (n : Nat) : Con (strm ((out ++ endB x.lo x.hi) ++ List.replicate n 0)) x out.length := by
  have hw : win (strm ((out ++ endB x.lo x.hi) ++ List.replicate n 0)) out.length = win (strm (endB x.lo x.hi)) 0 := by
    unfold win
    simp only [strm_zeros]
    rw [strm_app (i := 1), strm_app (i := 2), strm_app (i := 3), show out.length = out.length + 0 from rfl, strm_app (i := 0)]
  unfold Con
  rw [hw]
  obtain ⟨a, b, c⟩ := h
  unfold win strm endB
  split
  · simp; omega
  · split
    · simp; omega
    · split
      · simp; omega
      · split
        · simp; omega
        · simp; omega
theorem begins_end {out more : List Int} : Begins (strm (out ++ more)) out := fun i hi => by
  unfold strm
  rw [List.getD_eq_getElem?_getD, List.getElem?_append_left hi, List.getD_eq_getElem?_getD]
def get (kd : Int) (code : List Int) (x : Iv) (k : Nat) (c : Int) : Option (Int × Iv × Nat) :=
  if code.length < k + x.many kd c (bitOf kd (strm code) x k c) then none
  else some (bitOf kd (strm code) x k c, x.next kd c (bitOf kd (strm code) x k c), k + x.many kd c (bitOf kd (strm code) x k c))
theorem bitOf_01 (kd : Int) (S : Nat → Int) (x : Iv) (n : Nat) (c : Int) : bitOf kd S x n c = 0 ∨ bitOf kd S x n c = 1 := by
  unfold bitOf
  split
  · exact .inr rfl
  · exact .inl rfl
theorem get_put {kd : Int} {x : Iv} (h : x.Ok kd) {l : List (Int × Int)} {c b : Int} {r : List (Int × Int)} (he : Evs x.st.length (l ++ (c, b) :: r)) {n : Nat} :
    get kd (((run kd x [] (l ++ (c, b) :: r)).2 ++ endB (run kd x [] (l ++ (c, b) :: r)).1.lo (run kd x [] (l ++ (c, b) :: r)).1.hi) ++ List.replicate n 0) (run kd x [] l).1 (run kd x [] l).2.length c
    = some (b, (run kd x [] (l ++ [(c, b)])).1, (run kd x [] (l ++ [(c, b)])).2.length) := by
  have hok := run_ok (l ++ (c, b) :: r) (out := []) h he
  have hby := run_byte (l ++ (c, b) :: r) (out := []) h he (fun v hv => by cases hv)
  have hS : Byt (strm (((run kd x [] (l ++ (c, b) :: r)).2 ++ endB (run kd x [] (l ++ (c, b) :: r)).1.lo (run kd x [] (l ++ (c, b) :: r)).1.hi) ++ List.replicate n 0)) := by
    refine strm_byt fun v hv => ?_
    rcases List.mem_append.1 hv with hv | hv
    · rcases List.mem_append.1 hv with hv | hv
      · exact hby v hv
      · exact endB_byte hok.1.r v hv
    · have := (List.mem_replicate.1 hv).2
      omega
  obtain ⟨g1, g2⟩ := got hS h he (by rw [List.append_assoc]; exact begins_end) (con_end hok.1.r _ n)
  unfold get
  rw [g1, if_neg (by simp only [List.length_append]; omega), run_append]
  congr 2
  simp only [run, List.length_append, Iv.bytes_len]
open Go Ev
theorem wrapU {x : Int} (h1 : 0 ≤ x) (h2 : x < 18446744073709551616) : IntKind.u64.wrap x = x := by
  simp [IntKind.wrap, IntKind.min, IntKind.max, IntKind.signed, IntKind.bits]
  omega
theorem shrU {x : Int} (h : 0 ≤ x) : ishr .u64 x 24 = x / 16777216 := by
  unfold ishr
  have hb : min (24 : Int).toNat IntKind.u64.bits = 24 := by decide
  rw [hb, Int.fdiv_eq_ediv_of_nonneg _ (by decide)]
  rfl
theorem nlU {x : Int} (h1 : 0 ≤ x) (h2 : x < 4294967296) : iand .u64 (ishl .u64 x 8) 4294967295 = nl x := by
  unfold ishl
  have hb : min (8 : Int).toNat IntKind.u64.bits = 8 := by decide
  have e : x * 2 ^ 8 = x * 256 := rfl
  rw [hb, e, wrapU (by omega) (by omega)]
  unfold iand nl
  have e1 : IntKind.u64.bits = 64 := rfl
  rw [e1, BitVec.toNat_and, ofInt_toNat (by omega) (by omega), ofInt_toNat (by omega) (by omega)]
  have h3 : (x * 256).toNat &&& (4294967295 : Int).toNat = (x * 256).toNat % 2 ^ 32 := Nat.and_two_pow_sub_one_eq_mod _ 32
  rw [h3, wrapU (by omega) (by omega)]
  omega
theorem nhU {x : Int} (h1 : 0 ≤ x) (h2 : x < 4294967296) : ior .u64 (iand .u64 (ishl .u64 x 8) 4294967295) 255 = nh x := by
  rw [nlU h1 h2]
  unfold ior nh nl
  have e1 : IntKind.u64.bits = 64 := rfl
  rw [e1, BitVec.toNat_or, ofInt_toNat (by omega) (by omega), ofInt_toNat (by omega) (by omega)]
  have h3 : (x % 16777216 * 256).toNat = (x % 16777216).toNat <<< 8 := by rw [Nat.shiftLeft_eq]; omega
  have h4 : (255 : Int).toNat = 255 := rfl
  rw [h3, h4, ← Nat.shiftLeft_add_eq_or_of_lt (by decide), Nat.shiftLeft_eq, wrapU (by omega) (by omega)]
  omega
theorem byteU {x : Int} (h1 : 0 ≤ x) (h2 : x < 4294967296) : IntKind.u8.wrap (ishr .u64 x 24) = x / 16777216 := by
  rw [shrU h1]
  exact wrap8 (by omega) (by omega)
theorem chance0 {fl : Nat} : ∀ (n : Fin 64) (K : Int → Option Ans), F_coder_table_chance_bb9 fl 0 (n.val : Int) K = K (pr 0 (n.val : Int))
  | ⟨0, _⟩, K => rfl
  | ⟨1, _⟩, K => rfl
  | ⟨2, _⟩, K => rfl
  | ⟨3, _⟩, K => rfl
  | ⟨4, _⟩, K => rfl
  | ⟨5, _⟩, K => rfl
  | ⟨6, _⟩, K => rfl
  | ⟨7, _⟩, K => rfl
  | ⟨8, _⟩, K => rfl
  | ⟨9, _⟩, K => rfl
  | ⟨10, _⟩, K => rfl
  | ⟨11, _⟩, K => rfl
  | ⟨12, _⟩, K => rfl
  | ⟨13, _⟩, K => rfl
  | ⟨14, _⟩, K => rfl
  | ⟨15, _⟩, K => rfl
  | ⟨16, _⟩, K => rfl
  | ⟨17, _⟩, K => rfl
  | ⟨18, _⟩, K => rfl
  | ⟨19, _⟩, K => rfl
  | ⟨20, _⟩, K => rfl
  | ⟨21, _⟩, K => rfl
  | ⟨22, _⟩, K => rfl
  | ⟨23, _⟩, K => rfl
  | ⟨24, _⟩, K => rfl
  | ⟨25, _⟩, K => rfl
  | ⟨26, _⟩, K => rfl
  | ⟨27, _⟩, K => rfl
  | ⟨28, _⟩, K => rfl
  | ⟨29, _⟩, K => rfl
  | ⟨30, _⟩, K => rfl
  | ⟨31, _⟩, K => rfl
  | ⟨32, _⟩, K => rfl
  | ⟨33, _⟩, K => rfl
  | ⟨34, _⟩, K => rfl
  | ⟨35, _⟩, K => rfl
  | ⟨36, _⟩, K => rfl
  | ⟨37, _⟩, K => rfl
  | ⟨38, _⟩, K => rfl
  | ⟨39, _⟩, K => rfl
  | ⟨40, _⟩, K => rfl
  | ⟨41, _⟩, K => rfl
  | ⟨42, _⟩, K => rfl
  | ⟨43, _⟩, K => rfl
  | ⟨44, _⟩, K => rfl
  | ⟨45, _⟩, K => rfl
  | ⟨46, _⟩, K => rfl
  | ⟨47, _⟩, K => rfl
  | ⟨48, _⟩, K => rfl
  | ⟨49, _⟩, K => rfl
  | ⟨50, _⟩, K => rfl
  | ⟨51, _⟩, K => rfl
  | ⟨52, _⟩, K => rfl
  | ⟨53, _⟩, K => rfl
  | ⟨54, _⟩, K => rfl
  | ⟨55, _⟩, K => rfl
  | ⟨56, _⟩, K => rfl
  | ⟨57, _⟩, K => rfl
  | ⟨58, _⟩, K => rfl
  | ⟨59, _⟩, K => rfl
  | ⟨60, _⟩, K => rfl
  | ⟨61, _⟩, K => rfl
  | ⟨62, _⟩, K => rfl
  | ⟨63, _⟩, K => rfl
  | ⟨n + 64, h⟩, _ => absurd h (by omega)
theorem tdiv_e {x k : Int} (h : 0 ≤ x) : x.tdiv k = x / k := Int.tdiv_eq_ediv_of_nonneg h
theorem tmod_e {x k : Int} (h : 0 ≤ x) : x.tmod k = x % k := Int.tmod_eq_emod_of_nonneg h
theorem chance {fl : Nat} {kd s : Int} (hk : kd = 0 ∨ kd = 1) (h : vst kd s) {K : Int → Option Ans} : F_coder_table_chance_bb9 fl kd s K = K (pr kd s) := by
  rcases hk with rfl | rfl
  · obtain ⟨h0, h1⟩ := h
    have h1 : s < 64 := h1
    have := chance0 (fl := fl) ⟨s.toNat, by omega⟩ K
    simp only at this
    rwa [show ((s.toNat : Nat) : Int) = s by omega] at this
  · obtain ⟨h0, h1⟩ := h
    have h1 : s < 65536 := h1
    unfold F_coder_table_chance_bb9 pr
    rw [cond_t (b := (1 : Int) == 1) rfl, if_pos rfl, tdiv_e h0, tmod_e h0]
    have a0 : 0 ≤ s / 256 := by omega
    have a1 : s / 256 ≤ 255 := by omega
    have b0 : 0 ≤ s % 256 := by omega
    have b1 : s % 256 ≤ 255 := by omega
    generalize s / 256 = a at *
    generalize s % 256 = b at *
    rw [w6 (x := a), w6 (x := 2 * a), w6 (x := 2 * b), w6 (x := 2 * a + 2 * b), w6 (x := 2 * a + 2 * b + 2),
      w6 (x := 2 * b + 1), w6 (x := (2 * b + 1) * 4096), tdiv_e (by omega)]
    have q0 : 0 ≤ (2 * b + 1) * 4096 / (2 * a + 2 * b + 2) := Int.ediv_nonneg (by omega) (by omega)
    have q1 : (2 * b + 1) * 4096 / (2 * a + 2 * b + 2) ≤ (2 * b + 1) * 4096 := Int.ediv_le_self _ (by omega)
    rw [dec_f (by omega), wrap64 (by omega) (by omega)]
    generalize (2 * b + 1) * 4096 / (2 * a + 2 * b + 2) = z at *
    congr 1
    by_cases c1 : 1 > z
    · rw [dec_t c1, dec_f (by omega), Int.max_eq_right (by omega), Int.min_eq_left (by omega)]
    · rw [dec_f c1, Int.max_eq_left (by omega)]
      by_cases c2 : 4095 < z
      · rw [dec_t c2, Int.min_eq_right (by omega)]
      · rw [dec_f c2, Int.min_eq_left (by omega)]
theorem next {fl : Nat} {kd s b : Int} (hk : kd = 0 ∨ kd = 1) (h : vst kd s) (hb : b = 0 ∨ b = 1) {K : Int → Option Ans} : F_coder_next fl kd s b K = K (nx kd s b) := by
  obtain ⟨h0, h1⟩ := h
  unfold F_coder_next nx
  rw [tdiv_e h0, tdiv_e h0, tmod_e h0, tmod_e h0]
  rcases hk with rfl | rfl
  · have h1 : s < 64 := h1
    rw [cond_f (b := (0 : Int) == 1) rfl, if_neg (by decide)]
    have a0 : 0 ≤ s / 32 := by omega
    have a1 : s / 32 ≤ 1 := by omega
    have b0 : 0 ≤ s % 32 := by omega
    have b1 : s % 32 ≤ 31 := by omega
    generalize s / 32 = m at *
    generalize s % 32 = k at *
    have t4 : k.tdiv 4 = k / 4 := tdiv_e b0
    rw [w6 (x := m), t4, w6 (x := k + 1), w6 (x := 32 * m)]
    rw [Bm.cb, Bm.cb]
    by_cases c1 : b = m
    · rw [if_pos c1, if_pos c1]
      by_cases c2 : 31 < k + 1
      · rw [dec_t c2, wrap64 (by omega) (by omega), Int.min_eq_right (by omega)]
      · rw [dec_f c2, wrap64 (by omega) (by omega), Int.min_eq_left (by omega)]
    · rw [if_neg c1, if_neg c1]
      by_cases c2 : k = 0
      · rw [if_pos c2, if_pos c2, w6 (x := 32 * b), wrap64 (by omega) (by omega), c2, Int.add_zero]
      · rw [if_neg c2, if_neg c2, w6 (x := k / 4), w6 (x := 1 + k / 4), w6 (x := k - (1 + k / 4)), wrap64 (by omega) (by omega)]
  · have h1 : s < 65536 := h1
    rw [cond_t (b := (1 : Int) == 1) rfl, if_pos rfl]
    have a0 : 0 ≤ s / 256 := by omega
    have a1 : s / 256 ≤ 255 := by omega
    have b0 : 0 ≤ s % 256 := by omega
    have b1 : s % 256 ≤ 255 := by omega
    generalize s / 256 = m at *
    generalize s % 256 = k at *
    have t2 : k.tdiv 2 = k / 2 := tdiv_e b0
    have t3 : m.tdiv 2 = m / 2 := tdiv_e a0
    have w1 : IntKind.i64.wrap m = m := wrap64 (by omega) (by omega)
    have w2 : IntKind.i64.wrap (m / 2) = m / 2 := wrap64 (by omega) (by omega)
    have w3 : IntKind.i64.wrap (k / 2) = k / 2 := wrap64 (by omega) (by omega)
    rw [w1, t2, t3, w2, w3]
    rcases hb with rfl | rfl
    · rw [dec_t (p := (0 : Int) ≤ 0 ∧ (0 : Int) < ((2 : Nat) : Int)) (by decide), dec_t (p := (0 : Int) = ((0 : Nat) : Int)) rfl, if_pos rfl, Bm.cb]
      by_cases c1 : m = 255
      · rw [if_pos c1, if_pos c1]
        simp (disch := decide) only [dec_t]
        rw [w6 (x := m / 2 + 1), w6 (x := 256 * (m / 2 + 1)), wrap64 (by omega) (by omega)]
        congr 1
        omega
      · rw [if_neg c1, if_neg c1]
        simp (disch := decide) only [dec_t]
        rw [w6 (x := m + 1), w6 (x := 256 * (m + 1)), wrap64 (by omega) (by omega)]
    · rw [dec_t (p := (0 : Int) ≤ 1 ∧ (1 : Int) < ((2 : Nat) : Int)) (by decide), dec_f (p := (1 : Int) = ((0 : Nat) : Int)) (by decide), dec_t (p := (1 : Int) = ((1 : Nat) : Int)) rfl, if_neg (by decide), Bm.cb]
      by_cases c1 : k = 255
      · rw [if_pos c1, if_pos c1]
        simp (disch := decide) only [dec_t, dec_f]
        rw [w6 (x := k / 2 + 1), w6 (x := 256 * (m / 2)), wrap64 (by omega) (by omega)]
        congr 1
        omega
      · rw [if_neg c1, if_neg c1]
        simp (disch := decide) only [dec_t, dec_f]
        rw [w6 (x := k + 1), w6 (x := 256 * m), wrap64 (by omega) (by omega)]
open Go Ev
theorem shiftsB {V B : Type} {step : V → (V → Option Ans) → B → Option Ans} {b : B} {r : Option Ans} (N : Nat) (σ : List Int → Int → Int → V)
    (hstep : ∀ o lo hi c, Rg lo hi → same lo hi → o.length < N → step (σ o lo hi) c b = c (σ (o ++ [lo / 16777216]) (nl lo) (nh hi)))
    : ∀ (n : Nat) (o : List Int) (lo hi : Int) (m : Nat), Rg lo hi → ¬ same (nrm n lo hi).2.1 (nrm n lo hi).2.2 → n < m → o.length + n ≤ N → (∀ c, step (σ (o ++ nrmB n lo hi) (nrm n lo hi).2.1 (nrm n lo hi).2.2) c b = r) → iter step m (σ o lo hi) b = r
  | n, o, lo, hi, 0, _, _, hm, _, _ => by omega
  | 0, o, lo, hi, m + 1, hr, hs, hm, hN, hn => by
    have := hn (fun v => iter step m v b)
    simp only [nrmB, List.append_nil] at this
    exact this
  | n + 1, o, lo, hi, m + 1, hr, hs, hm, hN, hn => by
    simp only [iter]
    by_cases h : same lo hi
    · rw [hstep o lo hi _ hr h (by omega)]
      refine shiftsB N σ hstep n (o ++ [lo / 16777216]) (nl lo) (nh hi) m (hr.next h) (by rw [← nrm_same h]; exact hs) (by omega) (by simp; omega) fun c => ?_
      have e := hn c
      rw [nrm, if_pos h, nrmB, if_pos h] at e
      rw [List.append_assoc]
      exact e
    · have e := hn (fun v => iter step m v b)
      rw [nrm, if_neg h, nrmB, if_neg h, List.append_nil] at e
      exact e
theorem mid_ok {fl : Nat} {kd : Int} {x : Iv} (h : x.Ok kd) {c : Int} (h0 : 0 ≤ c) (h1 : c < x.st.length) {real : Bool} {out : List Int} {K : Int × Int × Int × Int × Bool × List Int × List Int → Option Ans} :
    F_coder_interval_mid_402 fl c kd x.lo x.hi real x.st out K = K (x.mid kd c, kd, x.lo, x.hi, real, x.st, out) := by
  unfold F_coder_interval_mid_402 Fg_coder_interval_mid_402 Iv.mid Co.mid
  rw [dec_t ⟨h0, h1⟩, chance h.k (h.get h0 h1)]
  obtain ⟨p1, p2⟩ := pr_rg h.k (h.get h0 h1)
  obtain ⟨r1, r2, r3⟩ := h.r
  obtain ⟨m1, m2, m3, m4⟩ := mid_parts r2 r1 r3 p1 p2
  generalize pr kd (x.st.getD c.toNat 0) = p at *
  rw [wrapU (x := x.hi - x.lo) (by omega) (by omega), tdiv_e (by omega), tmod_e (by omega), wrapU (x := p) (by omega) (by omega), wrapU (x := (x.hi - x.lo) / 4096) (by omega) (by omega),
    wrapU (x := (x.hi - x.lo) / 4096 * p) (by omega) (by omega), wrapU (x := (x.hi - x.lo) % 4096 * p) (by omega) (by omega), tdiv_e m3, wrapU (x := x.lo + (x.hi - x.lo) / 4096 * p) (by omega) (by omega),
    wrapU (x := (x.hi - x.lo) % 4096 * p / 4096) (by omega) (by omega), wrapU (by omega) (by omega)]
theorem take_ok {fl : Nat} {kd : Int} {x : Iv} (h : x.Ok kd) {c b : Int} (h0 : 0 ≤ c) (h1 : c < x.st.length) (hb : b = 0 ∨ b = 1) {real : Bool} {out : List Int} {K : Int × Int × Int × Bool × List Int × List Int → Option Ans} :
    F_coder_interval_take_546 fl c b (x.mid kd c) kd x.lo x.hi real x.st out K = K (kd, x.clo kd c b, x.chi kd c b, real, x.st.set c.toNat (nx kd (x.st.getD c.toNat 0) b), out) := by
  have hm := h.mid_in h0 h1
  obtain ⟨r1, r2, r3⟩ := h.r
  unfold F_coder_interval_take_546 Fg_coder_interval_take_546 Iv.clo Iv.chi
  simp only [next h.k (h.get h0 h1) hb]
  rcases hb with rfl | rfl
  · rw [cond_f (b := (0 : Int) == 1) rfl, dec_t ⟨h0, h1⟩, dec_t ⟨h0, h1⟩, if_neg (by decide), if_neg (by decide), wrapU (by omega) (by omega)]
  · rw [cond_t (b := (1 : Int) == 1) rfl, dec_t ⟨h0, h1⟩, dec_t ⟨h0, h1⟩, if_pos rfl, if_pos rfl]
theorem put_loop {fl : Nat} (hfl : 9223372036854775808 ≤ fl) {kd lo hi : Int} (hr : Rg lo hi) {real : Bool} {st out : List Int} (ho : out.length ≤ 1000000000) {K : Int × Int × Int × Bool × List Int × List Int → Option Ans} :
    L_coder_Encoder_Put_cf0_1 fl (kd, lo, hi, real, st, out) K = K (kd, (nrm 5 lo hi).2.1, (nrm 5 lo hi).2.2, real, st, out ++ nrmB 5 lo hi) := by
  unfold L_coder_Encoder_Put_cf0_1
  refine shiftsB (step := S_coder_Encoder_Put_cf0_1 fl) 1000000100 (fun o lo hi => (kd, lo, hi, real, st, o)) (fun o lo hi c hr hs hl => ?_) 5 out lo hi fl hr (nrm_ends hr) (by omega) (by omega) fun c => ?_
  · obtain ⟨r1, r2, r3⟩ := hr
    simp only [S_coder_Encoder_Put_cf0_1, Sg_coder_Encoder_Put_cf0_1, F_coder_interval_same_a20, F_coder_interval_lose_a20, both_same]
    rw [shrU (x := lo) r1, shrU (x := hi) (by omega), cond_t (b := lo / 16777216 == hi / 16777216) (beq_iff_eq.2 hs), dec_t (by simp; omega), nlU r1 (by omega), nhU (by omega) r3, ← shrU (x := lo) r1, byteU r1 (by omega), shrU r1]
  · have hr' := nrm_rg 5 hr
    have hs' := nrm_ends hr
    generalize (nrm 5 lo hi).2.1 = lo' at *
    generalize (nrm 5 lo hi).2.2 = hi' at *
    obtain ⟨r1, r2, r3⟩ := hr'
    simp only [S_coder_Encoder_Put_cf0_1, Sg_coder_Encoder_Put_cf0_1, F_coder_interval_same_a20]
    rw [shrU (x := lo') r1, shrU (x := hi') (by omega), cond_f (b := lo' / 16777216 == hi' / 16777216) (beq_eq_false_iff_ne.2 hs')]
theorem put_ok {fl : Nat} (hfl : 9223372036854775808 ≤ fl) {kd : Int} {x : Iv} (h : x.Ok kd) {c b : Int} (h0 : 0 ≤ c) (h1 : c < x.st.length) (hb : b = 0 ∨ b = 1) {out : List Int} (ho : out.length ≤ 1000000000)
    {k0 k1 : Int × Int × Int × Int × Bool × List Int × List Int → Option Ans} :
    F_coder_Encoder_Put_cf0 fl c b kd x.lo x.hi true x.st out k0 k1 = k1 (0, kd, (x.next kd c b).lo, (x.next kd c b).hi, true, (x.next kd c b).st, out ++ x.bytes kd c b) := by
  unfold F_coder_Encoder_Put_cf0 Fg_coder_Encoder_Put_cf0 F_coder_Encoder_none_a20
  dsimp only
  rw [cond_f (b := !true) rfl, dec_f (by omega), dec_f (by omega)]
  simp only [mid_ok h h0 h1, take_ok h h0 h1 hb, put_loop hfl (h.cut (b := b) h0 h1) ho]
  rcases hb with rfl | rfl
  · rw [cond_f (b := (0 : Int) != 0) rfl]
    rfl
  · rw [cond_t (b := (1 : Int) != 0) rfl, cond_f (b := (1 : Int) != 1) rfl]
    rfl
theorem put_bad {fl : Nat} {kd lo hi : Int} {st out : List Int} {k0 k1 : Int × Int × Int × Int × Bool × List Int × List Int → Option Ans} :
    F_coder_Encoder_Put_cf0 fl (-1) 0 kd lo hi true st out k0 k1 = k0 (2, kd, lo, hi, true, st, out) := by
  unfold F_coder_Encoder_Put_cf0 Fg_coder_Encoder_Put_cf0 F_coder_Encoder_none_a20
  dsimp only
  rw [cond_f (b := !true) rfl, dec_t (by omega)]
theorem clone_ok {fl : Nat} {kd : Int} {st : List Int} (h : st.length ≤ 1000000) {K : Int × List Int → Option Ans} : F_coder_clone fl kd st K = K (kd, st) := by
  unfold F_coder_clone
  rw [dec_t (by omega), List.nil_append]
theorem begin_ok {fl : Nat} {kd : Int} {st : List Int} (h : st.length ≤ 1000000) {K : Int × Int × Int × List Int → Option Ans} : F_coder_begin fl kd st K = K (kd, 0, 4294967295, st) := by
  unfold F_coder_begin Fg_coder_begin F_coder_chances
  rw [clone_ok h]
def vM (kd : Int) (st : List Int) : Bool := decide (kd = 0 ∨ kd = 1) && decide (st.length ≤ 8192) && st.all fun s => decide (0 ≤ s ∧ s < most kd)
theorem valid_loop {fl : Nat} (hfl : 9223372036854775808 ≤ fl) {e : Int} {st : List Int} (hl : st.length ≤ 8192) {ret : Bool → Option Ans} {b : Unit → Option Ans} :
    L_coder_Valid_0 fl (e, st, (st.length : Int), 0) ret b = if st.all (fun s => decide (0 ≤ s ∧ s < e)) = true then b () else ret false := by
  unfold L_coder_Valid_0
  rcases all_or_first (fun s => decide (0 ≤ s ∧ s < e)) 0 st with ha | ⟨n, hn, hb, hi⟩
  · rw [if_pos ha]
    refine iter_to (step := S_coder_Valid_0 fl) (fun i : Nat => (e, st, (st.length : Int), (i : Int))) st.length (fun i hi c => ?_) (fun c => ?_) (by omega)
    · have g := all_getD ha 0 hi
      simp only [decide_eq_true_eq] at g
      simp only [S_coder_Valid_0]
      rw [dec_t (by omega), dec_t (by omega), Int.toNat_natCast, dec_f (by omega), dec_f (by omega), wrap64 (by omega) (by omega)]
      rfl
    · simp only [S_coder_Valid_0]
      rw [dec_f (by omega)]
  · rw [if_neg (by rw [not_all hn hb]; simp)]
    refine iter_to (step := S_coder_Valid_0 fl) (fun i : Nat => (e, st, (st.length : Int), (i : Int))) n (fun i hin c => ?_) (fun c => ?_) (by omega)
    · have g := hi i hin
      simp only [decide_eq_true_eq] at g
      simp only [S_coder_Valid_0]
      rw [dec_t (by omega), dec_t (by omega), Int.toNat_natCast, dec_f (by omega), dec_f (by omega), wrap64 (by omega) (by omega)]
      rfl
    · simp only [decide_eq_false_iff_not] at hb
      simp only [S_coder_Valid_0]
      rw [dec_t (by omega), dec_t (by omega), Int.toNat_natCast]
      by_cases h0 : st.getD n 0 < 0
      · rw [dec_t h0]
      · rw [dec_f h0, dec_t (by omega)]
theorem cvalid {fl : Nat} (hfl : 9223372036854775808 ≤ fl) {kd : Int} {st : List Int} {K : Bool → Option Ans} : F_coder_Valid fl kd st K = K (vM kd st) := by
  unfold F_coder_Valid vM
  by_cases hk : kd = 0 ∨ kd = 1
  · by_cases hl : st.length ≤ 8192
    · rcases hk with rfl | rfl
      · rw [cond_f (b := (0 : Int) != 0) rfl, dec_f (by omega), cond_f (b := (0 : Int) == 1) rfl, valid_loop hfl hl, decide_eq_true hl]
        show (if (st.all fun s => decide (0 ≤ s ∧ s < 64)) = true then K true else K false) = K (true && true && st.all fun s => decide (0 ≤ s ∧ s < 64))
        cases st.all _ <;> rfl
      · rw [cond_t (b := (1 : Int) != 0) rfl, cond_f (b := (1 : Int) != 1) rfl, dec_f (by omega), cond_t (b := (1 : Int) == 1) rfl, valid_loop hfl hl, decide_eq_true hl]
        show (if (st.all fun s => decide (0 ≤ s ∧ s < 65536)) = true then K true else K false) = K (true && true && st.all fun s => decide (0 ≤ s ∧ s < 65536))
        cases st.all _ <;> rfl
    · simp (disch := omega) only [dec_t]
      rw [decide_eq_false hl, Bool.and_false, Bool.false_and]
      cases kd != 0 <;> cases kd != 1 <;> rfl
  · have h0 : (kd != 0) = true := by simp; omega
    have h1 : (kd != 1) = true := by simp; omega
    rw [h0, h1, decide_eq_false hk]
    rfl
theorem new_enc {fl : Nat} (hfl : 9223372036854775808 ≤ fl) {kd : Int} {st : List Int} (hv : vM kd st = true) {k0 : Int → Option Ans} {k1 : Int × Int × Int × Int × Bool × List Int × List Int → Option Ans} :
    F_coder_NewEncoder fl kd st k0 k1 = k1 (0, kd, 0, 4294967295, true, st, []) := by
  have hl : st.length ≤ 8192 := by
    unfold vM at hv
    simp only [Bool.and_eq_true, decide_eq_true_eq] at hv
    exact hv.1.2
  unfold F_coder_NewEncoder Fg_coder_NewEncoder
  rw [cvalid hfl, hv, cond_f (b := !true) rfl, begin_ok (by omega)]
theorem ok_new {kd : Int} {st : List Int} (hv : vM kd st = true) : (Iv.mk st 0 4294967295).Ok kd := by
  unfold vM at hv
  simp only [Bool.and_eq_true, decide_eq_true_eq, List.all_eq_true] at hv
  exact ⟨hv.1.1, ⟨(show (0 : Int) ≤ 0 by decide), (show (0 : Int) ≤ 4294967295 by decide), (show (4294967295 : Int) < 4294967296 by decide)⟩, (show ¬ same 0 4294967295 by decide), fun s hs => hv.2 s hs⟩
theorem vM_zeros {kd : Int} (hk : kd = 0 ∨ kd = 1) {n : Nat} (hn : n ≤ 8192) : vM kd (List.replicate n 0) = true := by
  unfold vM most
  simp only [Bool.and_eq_true, decide_eq_true_eq, List.all_eq_true, List.length_replicate]
  refine ⟨⟨hk, hn⟩, fun s hs => ?_⟩
  have := (List.mem_replicate.1 hs).2
  split <;> omega
open Go Ev
theorem q_all : ∀ k : Fin 32, 0 ≤ q k.val ∧ q k.val ≤ 2048 := by decide
theorem unlikely {fl : Nat} (hfl : 9223372036854775808 ≤ fl) {n : Nat} (hn : n < 32) {K : Int → Option Ans} : F_ref02_unlikely fl (n : Int) K = K (q n) := by
  unfold F_ref02_unlikely L_ref02_unlikely_0
  refine iter_to (step := S_ref02_unlikely_0 fl) (fun i : Nat => ((n : Int), q i, (i : Int))) n (fun i hi c => ?_) (fun c => ?_) (by omega)
  · obtain ⟨a, b⟩ := q_all ⟨i, by omega⟩
    simp only at a b
    simp only [S_ref02_unlikely_0]
    rw [dec_t (by omega), tdiv_e a, w6 (x := q i / 8), w6 (x := q i - q i / 8), wrap64 (by omega) (by omega)]
    rfl
  · simp only [S_ref02_unlikely_0]
    rw [dec_f (by omega)]
theorem likely {fl : Nat} (hfl : 9223372036854775808 ≤ fl) {kd s : Int} (hk : kd = 0 ∨ kd = 1) (h : vst kd s) {K : Int → Option Ans} : F_ref02_Likely fl kd s K = K (pr kd s) := by
  rcases hk with rfl | rfl
  · obtain ⟨h0, h1⟩ := h
    have h1 : s < 64 := h1
    unfold F_ref02_Likely Fg_ref02_Likely pr
    have e : s.tmod 32 = ((s.toNat % 32 : Nat) : Int) := by rw [tmod_e h0]; omega
    rw [cond_t (b := (0 : Int) == 0) rfl, e, unlikely hfl (by omega), if_neg (by decide)]
    try dsimp only
    by_cases c1 : s < 32
    · rw [dec_t c1, if_neg (by omega), show s.toNat % 32 = s.toNat by omega]
    · rw [dec_f c1, if_pos (by omega), unlikely hfl (by omega), show s.toNat % 32 = (s - 32).toNat by omega]
      obtain ⟨a, b⟩ := q_all ⟨(s - 32).toNat, by omega⟩
      simp only at a b
      rw [wrap64 (by omega) (by omega)]
  · exact (show F_ref02_Likely fl 1 s K = F_coder_table_chance_bb9 fl 1 s K from rfl).trans (chance (.inr rfl) h)
theorem after {fl : Nat} {kd s b : Int} (hk : kd = 0 ∨ kd = 1) (h : vst kd s) (hb : b = 0 ∨ b = 1) {K : Int → Option Ans} : F_ref02_After fl kd s b K = K (nx kd s b) := by
  rcases hk with rfl | rfl
  · obtain ⟨h0, h1⟩ := h
    have h1 : s < 64 := h1
    unfold F_ref02_After nx
    rw [tdiv_e h0, tmod_e h0, cond_t (b := (0 : Int) == 0) rfl, if_neg (by decide)]
    have a0 : 0 ≤ s / 32 := by omega
    have a1 : s / 32 ≤ 1 := by omega
    have b0 : 0 ≤ s % 32 := by omega
    have b1 : s % 32 ≤ 31 := by omega
    generalize s / 32 = m at *
    generalize s % 32 = k at *
    have t4 : k.tdiv 4 = k / 4 := tdiv_e b0
    rw [w6 (x := m), t4, w6 (x := k + 1), w6 (x := 32 * m), w6 (x := 32 * m + k)]
    rw [Bm.cb, Bm.cb]
    by_cases c1 : b = m
    · rw [if_pos c1, if_pos c1]
      by_cases c2 : 31 < k + 1
      · rw [dec_t c2, wrap64 (by omega) (by omega), Int.min_eq_right (by omega)]
      · rw [dec_f c2, wrap64 (by omega) (by omega), Int.min_eq_left (by omega)]
    · rw [if_neg c1, if_neg c1]
      by_cases c2 : k = 0
      · rw [if_pos c2, if_pos c2, wrap64 (by omega) (by omega)]
      · rw [if_neg c2, if_neg c2, w6 (x := 32 * m + k - 1), w6 (x := k / 4), wrap64 (by omega) (by omega)]
        congr 1
        omega
  · exact (show F_ref02_After fl 1 s b K = F_coder_next fl 1 s b K from rfl).trans (next (.inr rfl) h hb)
theorem rmid {fl : Nat} {lo hi p : Int} (hr : Rg lo hi) (p1 : 1 ≤ p) (p2 : p ≤ 4095) {K : Int → Option Ans} : F_ref02_Interval_Mid fl lo hi p K = K (Co.mid lo hi p) := by
  unfold F_ref02_Interval_Mid Co.mid
  obtain ⟨r1, r2, r3⟩ := hr
  obtain ⟨m1, m2, m3, m4⟩ := mid_parts r2 r1 r3 p1 p2
  rw [wrapU (x := hi - lo) (by omega) (by omega), tdiv_e (by omega), tmod_e (by omega), wrapU (x := p) (by omega) (by omega), wrapU (x := (hi - lo) / 4096) (by omega) (by omega),
    wrapU (x := (hi - lo) / 4096 * p) (by omega) (by omega), wrapU (x := (hi - lo) % 4096 * p) (by omega) (by omega), tdiv_e m3, wrapU (x := lo + (hi - lo) / 4096 * p) (by omega) (by omega),
    wrapU (x := (hi - lo) % 4096 * p / 4096) (by omega) (by omega), wrapU (by omega) (by omega)]
theorem rpart {fl : Nat} {kd : Int} {x : Iv} (h : x.Ok kd) {c b : Int} (h0 : 0 ≤ c) (h1 : c < x.st.length) (hb : b = 0 ∨ b = 1) {K : Int × Int → Option Ans} :
    F_ref02_Interval_Part fl x.lo x.hi (pr kd (x.st.getD c.toNat 0)) b K = K (x.clo kd c b, x.chi kd c b) := by
  have hm := h.mid_in h0 h1
  obtain ⟨p1, p2⟩ := pr_rg h.k (h.get h0 h1)
  unfold F_ref02_Interval_Part Fg_ref02_Interval_Part Iv.clo Iv.chi
  rw [rmid h.r p1 p2, rmid h.r p1 p2]
  obtain ⟨r1, r2, r3⟩ := h.r
  have e : Co.mid x.lo x.hi (pr kd (x.st.getD c.toNat 0)) = x.mid kd c := rfl
  rw [e]
  rcases hb with rfl | rfl
  · rw [cond_f (b := (0 : Int) == 1) rfl, if_neg (by decide), if_neg (by decide), wrapU (by omega) (by omega)]
  · rw [cond_t (b := (1 : Int) == 1) rfl, if_pos rfl, if_pos rfl]
theorem rfixed {fl : Nat} {lo hi : Int} (hr : Rg lo hi) {K : Bool → Option Ans} : F_ref02_Interval_Fixed fl lo hi K = K (decide (same lo hi)) := by
  obtain ⟨r1, r2, r3⟩ := hr
  unfold F_ref02_Interval_Fixed same
  rw [shrU r1, shrU (by omega)]
  congr 1
theorem rshifted {fl : Nat} {lo hi : Int} (hr : Rg lo hi) {K : Int × Int → Option Ans} : F_ref02_Interval_Shifted fl lo hi K = K (nl lo, nh hi) := by
  obtain ⟨r1, r2, r3⟩ := hr
  unfold F_ref02_Interval_Shifted nl nh
  rw [tmod_e r1, tmod_e (by omega), wrapU (x := lo % 16777216 * 256) (by omega) (by omega), wrapU (x := hi % 16777216 * 256) (by omega) (by omega), wrapU (by omega) (by omega)]
theorem rvalid_loop {fl : Nat} (hfl : 9223372036854775808 ≤ fl) {e : Int} {st : List Int} (hl : st.length ≤ 8192) {ret : Bool → Option Ans} {b : Unit → Option Ans} :
    L_ref02_Valid_0 fl (e, st, (st.length : Int), 0) ret b = if st.all (fun s => decide (0 ≤ s ∧ s < e + 1)) = true then b () else ret false := by
  unfold L_ref02_Valid_0
  rcases all_or_first (fun s => decide (0 ≤ s ∧ s < e + 1)) 0 st with ha | ⟨n, hn, hb, hi⟩
  · rw [if_pos ha]
    refine iter_to (step := S_ref02_Valid_0 fl) (fun i : Nat => (e, st, (st.length : Int), (i : Int))) st.length (fun i hi c => ?_) (fun c => ?_) (by omega)
    · have g := all_getD ha 0 hi
      simp only [decide_eq_true_eq] at g
      simp only [S_ref02_Valid_0]
      rw [dec_t (by omega), dec_t (by omega), Int.toNat_natCast, dec_f (by omega), dec_f (by omega), wrap64 (by omega) (by omega)]
      rfl
    · simp only [S_ref02_Valid_0]
      rw [dec_f (by omega)]
  · rw [if_neg (by rw [not_all hn hb]; simp)]
    refine iter_to (step := S_ref02_Valid_0 fl) (fun i : Nat => (e, st, (st.length : Int), (i : Int))) n (fun i hin c => ?_) (fun c => ?_) (by omega)
    · have g := hi i hin
      simp only [decide_eq_true_eq] at g
      simp only [S_ref02_Valid_0]
      rw [dec_t (by omega), dec_t (by omega), Int.toNat_natCast, dec_f (by omega), dec_f (by omega), wrap64 (by omega) (by omega)]
      rfl
    · simp only [decide_eq_false_iff_not] at hb
      simp only [S_ref02_Valid_0]
      rw [dec_t (by omega), dec_t (by omega), Int.toNat_natCast]
      by_cases h0 : st.getD n 0 < 0
      · rw [dec_t h0]
      · rw [dec_f h0, dec_t (by omega)]
theorem rmvalid {fl : Nat} (hfl : 9223372036854775808 ≤ fl) {kd : Int} {st : List Int} {K : Bool → Option Ans} : F_ref02_Valid fl kd st K = K (vM kd st) := by
  unfold F_ref02_Valid vM
  by_cases hk : kd = 0 ∨ kd = 1
  · by_cases hl : st.length ≤ 8192
    · rcases hk with rfl | rfl
      · rw [cond_f (b := (0 : Int) == 1) rfl, cond_f (b := (0 : Int) != 0) rfl, dec_f (by omega), rvalid_loop hfl hl, decide_eq_true hl]
        show (if (st.all fun s => decide (0 ≤ s ∧ s < 64)) = true then K true else K false) = K (true && true && st.all fun s => decide (0 ≤ s ∧ s < 64))
        cases st.all _ <;> rfl
      · rw [cond_t (b := (1 : Int) == 1) rfl, cond_t (b := (1 : Int) != 0) rfl, cond_f (b := (1 : Int) != 1) rfl, dec_f (by omega), rvalid_loop hfl hl, decide_eq_true hl]
        show (if (st.all fun s => decide (0 ≤ s ∧ s < 65536)) = true then K true else K false) = K (true && true && st.all fun s => decide (0 ≤ s ∧ s < 65536))
        cases st.all _ <;> rfl
    · simp (disch := omega) only [dec_t]
      rw [decide_eq_false hl, Bool.and_false, Bool.false_and]
      cases kd == 1 <;> cases kd != 0 <;> cases kd != 1 <;> rfl
  · have h0 : (kd != 0) = true := by simp; omega
    have h1 : (kd != 1) = true := by simp; omega
    rw [h0, h1, decide_eq_false hk]
    cases kd == 1 <;> rfl
def newR (kd n : Int) : Int × Int × List Int := if (kd = 0 ∨ kd = 1) ∧ 0 ≤ n ∧ n ≤ 8192 then (kd, 0, List.replicate n.toNat 0) else (0, 2, [])
theorem gnew {fl : Nat} {kd n : Int} {K : Int × Int × List Int → Option Ans} : F_coder_New fl kd n K = K (newR kd n) := by
  unfold F_coder_New newR
  simp only [Bm.cn, Bm.cd]
  by_cases h0 : kd = 0
  · rw [if_pos h0]
    by_cases h1 : n < 0
    · rw [if_pos h1, if_neg (by omega)]
    rw [if_neg h1]
    by_cases h2 : n > 8192
    · rw [if_pos h2, if_neg (by omega)]
    rw [if_neg h2, if_pos (by refine ⟨by omega, ?_, by omega, by omega⟩; first | rfl | trivial), if_pos (by omega)]
  · rw [if_neg h0]
    by_cases h3 : kd = 1
    · rw [if_pos h3]
      by_cases h1 : n < 0
      · rw [if_pos h1, if_neg (by omega)]
      rw [if_neg h1]
      by_cases h2 : n > 8192
      · rw [if_pos h2, if_neg (by omega)]
      rw [if_neg h2, if_pos (by refine ⟨by omega, ?_, by omega, by omega⟩; first | rfl | trivial), if_pos (by omega)]
    · rw [if_neg h3, if_neg (by omega)]
theorem rnew {fl : Nat} {kd n : Int} {K : Int × Int × List Int → Option Ans} : F_ref02_New fl kd n K = K (newR kd n) := by
  exact (show F_ref02_New fl kd n K = F_coder_New fl kd n K from rfl).trans gnew
open Go Ev
theorem wrap8mod {x : Int} (h : 0 ≤ x) : IntKind.u8.wrap x = x % 256 := by
  simp [IntKind.wrap, IntKind.min, IntKind.max, IntKind.signed, IntKind.bits]
theorem shrN {x : Int} (h : 0 ≤ x) {y : Nat} (hy : y ≤ 63) : ishr .u64 x (y : Int) = x / 2 ^ y := by
  unfold ishr
  have hb : min ((y : Int)).toNat IntKind.u64.bits = y := by
    have : IntKind.u64.bits = 64 := rfl
    rw [this]
    omega
  rw [hb, Int.fdiv_eq_ediv_of_nonneg _ (Int.le_of_lt (Int.pow_pos (by omega)))]
theorem shlN {x : Int} (h : 0 ≤ x) {y : Nat} (hy : y ≤ 63) (hx : x * 2 ^ y < 18446744073709551616) : ishl .u64 x (y : Int) = x * 2 ^ y := by
  unfold ishl
  have hb : min ((y : Int)).toNat IntKind.u64.bits = y := by
    have : IntKind.u64.bits = 64 := rfl
    rw [this]
    omega
  rw [hb]
  exact wrapU (Int.mul_nonneg h (Int.le_of_lt (Int.pow_pos (by omega)))) hx
def topB (hi : Int) (n : Nat) : List Int := (List.range n).map fun i => hi / 2 ^ (24 - 8 * i) % 256
def topV (hi : Int) (n : Nat) : Int := hi / 2 ^ (32 - 8 * n) * 2 ^ (32 - 8 * n)
theorem topV_rg {hi : Int} (h0 : 0 ≤ hi) (n : Nat) : 0 ≤ topV hi n ∧ topV hi n ≤ hi := by
  unfold topV
  have hp : (0 : Int) < 2 ^ (32 - 8 * n) := Int.pow_pos (by omega)
  exact ⟨Int.mul_nonneg (Int.ediv_nonneg h0 (Int.le_of_lt hp)) (Int.le_of_lt hp), Int.ediv_mul_le _ (Int.ne_of_gt hp)⟩
theorem topV_step {hi : Int} (h0 : 0 ≤ hi) (h1 : hi < 4294967296) {n : Nat} (hn : n < 4) : topV hi (n + 1) = topV hi n + hi / 2 ^ (24 - 8 * n) % 256 * 2 ^ (24 - 8 * n) := by
  unfold topV
  match n, hn with
  | 0, _ => simp; omega
  | 1, _ => simp; omega
  | 2, _ => simp; omega
  | 3, _ => simp; omega
theorem end_first {lo hi : Int} (h : Rg lo hi) : ∃ n, n < 5 ∧ lo ≤ topV hi n ∧ (∀ i, i < n → ¬ lo ≤ topV hi i) ∧ endB lo hi = topB hi n := by
  obtain ⟨r1, r2, r3⟩ := h
  have v0 : topV hi 0 = hi / 4294967296 * 4294967296 := rfl
  have v1 : topV hi 1 = hi / 16777216 * 16777216 := rfl
  have v2 : topV hi 2 = hi / 65536 * 65536 := rfl
  have v3 : topV hi 3 = hi / 256 * 256 := rfl
  have v4 : topV hi 4 = hi / 1 * 1 := rfl
  rcases nat_or_first (fun i => ¬ lo ≤ topV hi i) 5 with h | ⟨n, hn, hb, hi'⟩
  · exact absurd (by omega) (h 4 (by omega))
  · simp only [Decidable.not_not] at hb
    refine ⟨n, hn, hb, hi', ?_⟩
    unfold endB topB
    match n, hn with
    | 0, _ => rw [if_pos (by omega)]; rfl
    | 1, _ =>
      have := hi' 0 (by omega)
      rw [if_neg (by omega), if_pos (by omega)]
      simp [List.range, List.range.loop]
      omega
    | 2, _ =>
      have := hi' 0 (by omega); have := hi' 1 (by omega)
      rw [if_neg (by omega), if_neg (by omega), if_pos (by omega)]
      simp [List.range, List.range.loop]
      omega
    | 3, _ =>
      have := hi' 0 (by omega); have := hi' 1 (by omega); have := hi' 2 (by omega)
      rw [if_neg (by omega), if_neg (by omega), if_neg (by omega), if_pos (by omega)]
      simp [List.range, List.range.loop]
      omega
    | 4, _ =>
      have := hi' 0 (by omega); have := hi' 1 (by omega); have := hi' 2 (by omega); have := hi' 3 (by omega)
      rw [if_neg (by omega), if_neg (by omega), if_neg (by omega), if_neg (by omega)]
      simp [List.range, List.range.loop]
      omega
theorem topB_succ (hi : Int) (n : Nat) : topB hi (n + 1) = topB hi n ++ [hi / 2 ^ (24 - 8 * n) % 256] := range_map_succ _ n
theorem topB_len (hi : Int) (n : Nat) : (topB hi n).length = n := by simp [topB]
theorem endB_len (lo hi : Int) : (endB lo hi).length ≤ 4 := by
  unfold endB
  repeat' split
  all_goals simp
theorem end_inner {fl : Nat} (hfl : 9223372036854775808 ≤ fl) {n : Nat} (hn : n ≤ 4) {kd lo hi : Int} (h0 : 0 ≤ hi) {real : Bool} {st out acc : List Int} (hl : acc.length ≤ 1000000000) {K : Int × Int × Int × Bool × List Int × List Int × List Int → Option Ans} :
    L_coder_Encoder_End_a20_2 fl ((n : Int), 0, kd, lo, hi, real, st, out, acc) K = K (kd, lo, hi, real, st, out, acc ++ topB hi n) := by
  unfold L_coder_Encoder_End_a20_2
  refine iter_seq (step := S_coder_Encoder_End_a20_2 fl) (fun i : Nat => ((n : Int), (i : Int), kd, lo, hi, real, st, out, acc ++ topB hi i)) n (by simp [topB]) (fun i hi' c => ?_) (fun c => ?_) (by omega)
  · simp only [S_coder_Encoder_End_a20_2, Sg_coder_Encoder_End_a20_2]
    have e : (24 : Int) - 8 * (i : Int) = ((24 - 8 * i : Nat) : Int) := by omega
    rw [dec_t (by omega), w6 (x := 8 * (i : Int)), w6 (x := 24 - 8 * (i : Int)), w6 (x := (i : Int) + 1), dec_f (by omega), e, shrN h0 (by omega),
      wrap8mod (Int.ediv_nonneg h0 (Int.le_of_lt (Int.pow_pos (by omega)))), dec_t (by simp [topB_len]; omega), topB_succ, List.append_assoc]
    rfl
  · simp only [S_coder_Encoder_End_a20_2, Sg_coder_Encoder_End_a20_2]
    rw [dec_f (by omega)]
theorem end_ok {fl : Nat} (hfl : 9223372036854775808 ≤ fl) {kd : Int} {x : Iv} (h : Rg x.lo x.hi) {out : List Int} (hl : out.length ≤ 1000000000) {K : Int × Int × Int × Bool × List Int × List Int × List Int → Option Ans} :
    F_coder_Encoder_End_a20 fl kd x.lo x.hi true x.st out K = K (kd, x.lo, x.hi, true, x.st, out, out ++ endB x.lo x.hi) := by
  obtain ⟨n, hn, hb, hbe, he⟩ := end_first h
  rw [he]
  obtain ⟨r1, r2, r3⟩ := h
  unfold F_coder_Encoder_End_a20 Fg_coder_Encoder_End_a20 F_coder_Encoder_none_a20
  dsimp only
  rw [cond_f (b := !true) rfl, dec_t (by omega), List.nil_append]
  unfold L_coder_Encoder_End_a20_0
  have cutv : ∀ i : Nat, i < 5 → ishl .u64 (ishr .u64 x.hi (IntKind.u64.wrap (IntKind.i64.wrap (32 - IntKind.i64.wrap (8 * (i : Int)))))) (IntKind.u64.wrap (IntKind.i64.wrap (32 - IntKind.i64.wrap (8 * (i : Int))))) = topV x.hi i ∧ ¬ IntKind.u64.wrap (IntKind.i64.wrap (32 - IntKind.i64.wrap (8 * (i : Int)))) < 0 := by
    intro i hi'
    have hx := topV_rg (hi := x.hi) (by omega) i
    have e : (32 : Int) - 8 * (i : Int) = ((32 - 8 * i : Nat) : Int) := by omega
    rw [w6 (x := 8 * (i : Int)), w6 (x := 32 - 8 * (i : Int)), wrapU (by omega) (by omega), e, shrN (by omega) (by omega)]
    refine ⟨?_, by omega⟩
    unfold topV at hx ⊢
    exact shlN (Int.ediv_nonneg (by omega) (Int.le_of_lt (Int.pow_pos (by omega)))) (by omega) (by omega)
  refine iter_to (step := S_coder_Encoder_End_a20_0 fl) (fun i : Nat => ((i : Int), kd, x.lo, x.hi, true, x.st, out, out)) n (fun i hi' c => ?_) (fun c => ?_) (by omega)
  · obtain ⟨c1, c2⟩ := cutv i (by omega)
    simp only [S_coder_Encoder_End_a20_0, Sg_coder_Encoder_End_a20_0]
    rw [dec_t (by omega), dec_f c2, dec_f c2, c1, dec_f (by have := hbe i hi'; omega), wrap64 (by omega) (by omega)]
    rfl
  · obtain ⟨c1, c2⟩ := cutv n hn
    simp only [S_coder_Encoder_End_a20_0, Sg_coder_Encoder_End_a20_0]
    rw [dec_t (by omega), dec_f c2, dec_f c2, c1, dec_t (by omega), end_inner hfl (by omega) (by omega) hl]
theorem emodel_ok {fl : Nat} {kd lo hi : Int} {st out : List Int} (hl : st.length ≤ 1000000) {K : Int × Int × Int × Int × Bool × List Int × List Int × List Int → Option Ans} :
    F_coder_Encoder_Model_a20 fl kd lo hi true st out K = K (kd, kd, lo, hi, true, st, out, st) := by
  unfold F_coder_Encoder_Model_a20 Fg_coder_Encoder_Model_a20 F_coder_Encoder_none_a20
  dsimp only
  rw [cond_f (b := !true) rfl, clone_ok hl]
theorem rput_loop {fl : Nat} (hfl : 9223372036854775808 ≤ fl) {kd lo hi : Int} (hr : Rg lo hi) {st out : List Int} (ho : out.length ≤ 1000000000) {K : Int × Int × Int × List Int × List Int → Option Ans} :
    L_ref02_Encoder_Put_e89_0 fl (kd, lo, hi, st, out) K = K (kd, (nrm 5 lo hi).2.1, (nrm 5 lo hi).2.2, st, out ++ nrmB 5 lo hi) := by
  unfold L_ref02_Encoder_Put_e89_0
  refine shiftsB (step := S_ref02_Encoder_Put_e89_0 fl) 1000000100 (fun o lo hi => (kd, lo, hi, st, o)) (fun o lo hi c hr hs hl => ?_) 5 out lo hi fl hr (nrm_ends hr) (by omega) (by omega) fun c => ?_
  · simp only [S_ref02_Encoder_Put_e89_0, Sg_ref02_Encoder_Put_e89_0, both_same]
    have hb : IntKind.u8.wrap (ishr .u64 hi 24) = lo / 16777216 := by
      rw [byteU (by have := hr.l; have := hr.m; omega) hr.h]
      exact hs.symm
    rw [rfixed hr, decide_eq_true hs, cond_true, hb, dec_t (by simp; omega), rshifted hr]
  · simp only [S_ref02_Encoder_Put_e89_0, Sg_ref02_Encoder_Put_e89_0]
    rw [rfixed (nrm_rg 5 hr), decide_eq_false (nrm_ends hr), cond_false]
theorem rput_ok {fl : Nat} (hfl : 9223372036854775808 ≤ fl) {kd : Int} {x : Iv} (h : x.Ok kd) {c b : Int} (h0 : 0 ≤ c) (h1 : c < x.st.length) (hb : b = 0 ∨ b = 1) {out : List Int} (ho : out.length ≤ 1000000000)
    {k0 k1 : Int × Int × Int × Int × List Int × List Int → Option Ans} :
    F_ref02_Encoder_Put_e89 fl c b kd x.lo x.hi x.st out k0 k1 = k1 (0, kd, (x.next kd c b).lo, (x.next kd c b).hi, (x.next kd c b).st, out ++ x.bytes kd c b) := by
  unfold F_ref02_Encoder_Put_e89 Fg_ref02_Encoder_Put_e89
  have hd : decide (0 ≤ c ∧ c < (x.st.length : Int)) = true := decide_eq_true ⟨h0, h1⟩
  rw [dec_f (by omega), dec_f (by omega)]
  simp only [hd, cond_true, likely hfl h.k (h.get h0 h1), rpart h h0 h1 hb, after h.k (h.get h0 h1) hb, rput_loop hfl (h.cut (b := b) h0 h1) ho]
  rcases hb with rfl | rfl
  · rw [cond_f (b := (0 : Int) != 0) rfl]
    rfl
  · rw [cond_t (b := (1 : Int) != 0) rfl, cond_f (b := (1 : Int) != 1) rfl]
    rfl
theorem rend_ok {fl : Nat} (hfl : 9223372036854775808 ≤ fl) {kd : Int} {x : Iv} (h : Rg x.lo x.hi) {out : List Int} (hl : out.length ≤ 1000000000) {K : Int × Int × Int × List Int × List Int × List Int → Option Ans} :
    F_ref02_Encoder_End_2fe fl kd x.lo x.hi x.st out K = K (kd, x.lo, x.hi, x.st, out, out ++ endB x.lo x.hi) := by
  have hel := endB_len x.lo x.hi
  obtain ⟨n, hn, hb, hbe, he⟩ := end_first h
  have hlt : ∀ i, i < n → i < 4 := fun i hi' => by omega
  obtain ⟨r1, r2, r3⟩ := h
  unfold F_ref02_Encoder_End_2fe Fg_ref02_Encoder_End_2fe F_ref02_Interval_End L_ref02_Interval_End_0
  rw [dec_t (by omega), List.nil_append]
  refine iter_seq (step := S_ref02_Interval_End_0 fl) (fun i : Nat => (topV x.hi i, x.lo, x.hi, topB x.hi i)) n (by
    have : topV x.hi 0 = 0 := by
      show x.hi / 4294967296 * 4294967296 = 0
      omega
    rw [this]
    rfl) (fun i hi' c => ?_) (fun c => ?_) (by omega)
  · have hx := topV_rg (hi := x.hi) (by omega) i
    have hx1 := topV_rg (hi := x.hi) (by omega) (i + 1)
    have hst := topV_step (hi := x.hi) (by omega) r3 (hlt i hi')
    have e : (24 : Int) - 8 * (i : Int) = ((24 - 8 * i : Nat) : Int) := by omega
    have q0 : 0 ≤ x.hi / 2 ^ (24 - 8 * i) := Int.ediv_nonneg (by omega) (Int.le_of_lt (Int.pow_pos (by omega)))
    have q1 : 0 ≤ x.hi / 2 ^ (24 - 8 * i) % 256 * 2 ^ (24 - 8 * i) := Int.mul_nonneg (Int.emod_nonneg _ (by omega)) (Int.le_of_lt (Int.pow_pos (by omega)))
    simp only [S_ref02_Interval_End_0]
    rw [topB_len, dec_t (by have := hbe i hi'; omega), w6 (x := 8 * (i : Int)), w6 (x := 24 - 8 * (i : Int)), dec_f (by omega), e, shrN (by omega) (by omega), dec_t (by simp; omega), dec_f (by omega), dec_f (by omega),
      wrap8mod q0, tmod_e q0, shlN (Int.emod_nonneg _ (by omega)) (by omega) (by omega), ← hst, wrapU (by omega) (by omega), topB_succ]
  · simp only [S_ref02_Interval_End_0]
    rw [dec_f (by omega), ← he, dec_t (by omega)]
theorem rnew_enc {fl : Nat} (hfl : 9223372036854775808 ≤ fl) {kd : Int} {st : List Int} (hv : vM kd st = true) {k0 : Int → Option Ans} {k1 : Int × Int × Int × Int × List Int × List Int → Option Ans} :
    F_ref02_NewEncoder fl kd st k0 k1 = k1 (0, kd, 0, 4294967295, st, []) := by
  have hl : st.length ≤ 8192 := by
    unfold vM at hv
    simp only [Bool.and_eq_true, decide_eq_true_eq] at hv
    exact hv.1.2
  unfold F_ref02_NewEncoder Fg_ref02_NewEncoder F_ref02_Copy F_ref02_Whole
  rw [rmvalid hfl, hv, cond_f (b := !true) rfl, dec_t (by omega), List.nil_append]
theorem remodel_ok {fl : Nat} {kd lo hi : Int} {st out : List Int} (hl : st.length ≤ 1000000) {K : Int × Int × Int × Int × List Int × List Int × List Int → Option Ans} :
    F_ref02_Encoder_Model_2fe fl kd lo hi st out K = K (kd, kd, lo, hi, st, out, st) := by
  unfold F_ref02_Encoder_Model_2fe Fg_ref02_Encoder_Model_2fe F_ref02_Copy
  rw [dec_t (by omega), List.nil_append]
end Go.Proofs.YtipdidpalcmlhaaGreat.Co
namespace Go.Proofs.YtipdidpalcmlhaaGreat.Gen
open Go Ev Bm Co
def skb (sp : List Int) (i : Nat) : Bool := decide (sp.getD i 0 = 1)
def Sk (w h : Int) (sp : List Int) : Prop := sp = [] ∨ (sp.length : Int) = w * h
theorem skips_ok {fl : Nat} {w h sw sh : Int} {sp : List Int} (hs : Sk w h sp) {i : Nat} (hi : (i : Int) < w * h) {K : Bool → Option Ans} : F_generic_skips fl sw sh sp (i : Int) K = K (skb sp i) := by
  unfold F_generic_skips skb
  rcases hs with rfl | hs
  · rw [dec_f (by simp)]
    try rfl
  · rw [dec_t (by omega), dec_t (by omega), Int.toNat_natCast]
    congr 1
theorem place_nat {w h : Int} {x y : Nat} (hx : (x : Int) < w) (hy : (y : Int) < h) : ((y * w.toNat + x : Nat) : Int) = (y : Int) * w + x ∧ (y : Int) * w + x < w * h ∧ (y : Int) * w + w ≤ w * h := by
  have hp := place (w := w) (h := h) (x := x) (y := y) ⟨by omega, by omega, hx, hy⟩
  have hw : ((w.toNat : Nat) : Int) = w := by omega
  refine ⟨by rw [Int.natCast_add, Int.natCast_mul, hw], hp.2, ?_⟩
  have : ((y : Int) + 1) * w ≤ h * w := Int.mul_le_mul_of_nonneg_right (by omega) (by omega)
  rw [Int.add_mul, Int.one_mul, Int.mul_comm h w] at this
  exact this
theorem px_in {w h : Int} {p : List Int} {x y : Nat} (hx : (x : Int) < w) (hy : (y : Int) < h) : px w h p (x : Int) (y : Int) = p.getD (y * w.toNat + x) 0 := by
  unfold px
  rw [if_pos ⟨by omega, by omega, hx, hy⟩]
  congr 1
  have := (place_nat hx hy).1
  omega
section
variable (t ax ay base w h : Int) (ty : Bool) (p sp : List Int)
def pixEv (y x : Nat) : List (Int × Int) := if skb sp (y * w.toNat + x) = true then [] else [(base + ctxv w h p (x : Int) (y : Int) (around t ax ay), p.getD (y * w.toNat + x) 0)]
def pixEvs (y : Nat) : Nat → List (Int × Int)
  | 0 => []
  | n + 1 => pixEvs y n ++ pixEv t ax ay base w h p sp y n
def aboveL (y : Nat) : List Int := (List.range w.toNat).map fun x => if skb sp (y * w.toNat + x) = true then 0 else px w h p (x : Int) ((y : Int) - 1)
def rowL (y : Nat) : List Int := (p.drop (y * w.toNat)).take w.toNat
def tb (y : Nat) : Bool := (strOfNums (aboveL w h p sp y)).toList == (strOfNums (rowL w p y)).toList
def rowEv (y : Nat) : List (Int × Int) :=
  if ty = true then (if tb w h p sp y = true then [(base + (size t - 1), 1)] else (base + (size t - 1), 0) :: pixEvs t ax ay base w h p sp y w.toNat) else pixEvs t ax ay base w h p sp y w.toNat
def allEv : Nat → List (Int × Int)
  | 0 => []
  | y + 1 => allEv y ++ rowEv t ax ay base w h ty p sp y
end
structure Reg (t ax ay kd base w h : Int) (p sp : List Int) (n : Nat) : Prop where
  v : vr t ax ay kd = true
  p : Pix w h p
  s : Sk w h sp
  b0 : 0 ≤ base
  b1 : base + size t ≤ (n : Int)
theorem around_near {t ax ay kd : Int} (hv : vr t ax ay kd = true) : ∀ d ∈ around t ax ay, -8 ≤ d.1 ∧ d.1 ≤ 8 ∧ -8 ≤ d.2 ∧ d.2 ≤ 0 := by
  obtain ⟨_, _, _, v1, v2, v3, v4, _⟩ := vr_iff.1 hv
  intro d hd
  unfold around at hd
  rcases List.mem_append.1 hd with hd | hd
  · exact tpl_near t d hd
  · simp at hd; subst hd; exact ⟨v1, v2, v3, v4⟩
theorem around_le (t ax ay : Int) : (around t ax ay).length ≤ 11 := by have := tpl_len t; rw [around_len]; omega
theorem ctx_rg {w h : Int} {p : List Int} (h0 : ∀ v ∈ p, 0 ≤ v ∧ v ≤ 1) (t ax ay x y : Int) : 0 ≤ ctxv w h p x y (around t ax ay) ∧ ctxv w h p x y (around t ax ay) < size t - 1 := by
  have := ctxv_lt (w := w) (h := h) (x := x) (y := y) h0 (around t ax ay).length (Nat.le_refl _)
  rw [List.take_length, around_len] at this
  unfold size
  omega
theorem getD_01 {p : List Int} (h0 : ∀ v ∈ p, 0 ≤ v ∧ v ≤ 1) (i : Nat) : p.getD i 0 = 0 ∨ p.getD i 0 = 1 := by
  by_cases hi : i < p.length
  · have := h0 _ (getD_mem hi 0)
    omega
  · rw [List.getD_eq_getElem?_getD, List.getElem?_eq_none (by omega)]
    exact .inl rfl
theorem pixEv_ok {t ax ay kd base w h : Int} {p sp : List Int} {n : Nat} (hr : Reg t ax ay kd base w h p sp n) (y x : Nat) : Evs n (pixEv t ax ay base w h p sp y x) ∧ (pixEv t ax ay base w h p sp y x).length ≤ 1 := by
  unfold pixEv
  split
  · exact ⟨fun e he => by simp at he, by simp⟩
  · refine ⟨fun e he => ?_, by simp⟩
    rw [List.mem_singleton] at he
    subst he
    have c := ctx_rg hr.p.bit (w := w) (h := h) t ax ay x y
    have := hr.b0
    have := hr.b1
    exact ⟨by omega, by omega, getD_01 hr.p.bit _⟩
theorem Evs.append {n : Nat} {a b : List (Int × Int)} (ha : Evs n a) (hb : Evs n b) : Evs n (a ++ b) := fun e he => by
  rcases List.mem_append.1 he with he | he
  · exact ha e he
  · exact hb e he
theorem pixEvs_ok {t ax ay kd base w h : Int} {p sp : List Int} {n : Nat} (hr : Reg t ax ay kd base w h p sp n) (y : Nat) : ∀ m, Evs n (pixEvs t ax ay base w h p sp y m) ∧ (pixEvs t ax ay base w h p sp y m).length ≤ m
  | 0 => ⟨fun e he => (by cases he), Nat.le_refl _⟩
  | m + 1 => by
    obtain ⟨a, b⟩ := pixEvs_ok hr y m
    obtain ⟨c, d⟩ := pixEv_ok hr y m
    refine ⟨Evs.append a c, ?_⟩
    rw [pixEvs, List.length_append]
    omega
theorem rowEv_ok {t ax ay kd base w h : Int} {p sp : List Int} {n : Nat} (hr : Reg t ax ay kd base w h p sp n) (ty : Bool) (y : Nat) : Evs n (rowEv t ax ay base w h ty p sp y) ∧ (rowEv t ax ay base w h ty p sp y).length ≤ w.toNat + 1 := by
  obtain ⟨a, b⟩ := pixEvs_ok hr y w.toNat
  have sz := size_eq (t := t)
  have := hr.b0
  have := hr.b1
  unfold rowEv
  split
  · split
    · exact ⟨fun e he => by rw [List.mem_singleton] at he; subst he; exact ⟨by simp only; omega, by simp only; omega, .inr rfl⟩, by simp⟩
    · refine ⟨fun e he => ?_, by simp; omega⟩
      rcases List.mem_cons.1 he with rfl | he
      · exact ⟨by simp only; omega, by simp only; omega, .inl rfl⟩
      · exact a e he
  · exact ⟨a, by omega⟩
theorem allEv_ok {t ax ay kd base w h : Int} {p sp : List Int} {n : Nat} (hr : Reg t ax ay kd base w h p sp n) (ty : Bool) : ∀ m, Evs n (allEv t ax ay base w h ty p sp m) ∧ (allEv t ax ay base w h ty p sp m).length ≤ (w.toNat + 1) * m
  | 0 => ⟨fun e he => (by cases he), Nat.zero_le _⟩
  | m + 1 => by
    obtain ⟨a, b⟩ := allEv_ok hr ty m
    obtain ⟨c, d⟩ := rowEv_ok hr ty m
    refine ⟨Evs.append a c, ?_⟩
    rw [allEv, List.length_append, Nat.mul_add]
    omega
theorem put_pix {fl : Nat} (hfl : 9223372036854775808 ≤ fl) {t ax ay kd base w h : Int} {p sp : List Int} {kx : Int} {x : Iv} (hx : x.Ok kx) (hr : Reg t ax ay kd base w h p sp x.st.length) (hn : x.st.length ≤ 8192) {out : List Int} (ho : out.length ≤ 1000000) {ty : Bool} {sw sh : Int} {y : Nat} (hy : (y : Int) < h) {K} :
    L_generic_put_d0e_2 fl (base, (y : Int), h, (y : Int), w, 0, kx, x.lo, x.hi, true, x.st, out, t, ax, ay, ty, kd, w, h, p, sw, sh, sp, w, h, p, around t ax ay) K
    = K (base, h, (y : Int), kx, (run kx x out (pixEvs t ax ay base w h p sp y w.toNat)).1.lo, (run kx x out (pixEvs t ax ay base w h p sp y w.toNat)).1.hi, true, (run kx x out (pixEvs t ax ay base w h p sp y w.toNat)).1.st, (run kx x out (pixEvs t ax ay base w h p sp y w.toNat)).2, t, ax, ay, ty, kd, w, h, p, sw, sh, sp, w, h, p, around t ax ay) := by
  have hw0 := hr.p.w0; have hw1 := hr.p.w1; have hh1 := hr.p.h1; have hwh := hr.p.n; have hlen := hr.p.len
  unfold L_generic_put_d0e_2
  refine iter_to (step := S_generic_put_d0e_2 fl) (fun i : Nat => (base, (y : Int), h, (y : Int), w, (i : Int), kx, (run kx x out (pixEvs t ax ay base w h p sp y i)).1.lo, (run kx x out (pixEvs t ax ay base w h p sp y i)).1.hi, true, (run kx x out (pixEvs t ax ay base w h p sp y i)).1.st, (run kx x out (pixEvs t ax ay base w h p sp y i)).2, t, ax, ay, ty, kd, w, h, p, sw, sh, sp, w, h, p, around t ax ay)) w.toNat (fun i hi c => ?_) (fun c => ?_) (by omega)
  · obtain ⟨p1, p2, p3⟩ := place_nat (w := w) (h := h) (x := i) (y := y) (by omega) hy
    have hyw : 0 ≤ (y : Int) * w := Int.mul_nonneg (by omega) hw0
    obtain ⟨e1, e2⟩ := pixEvs_ok hr y i
    obtain ⟨g1, g2⟩ := pixEv_ok hr y i
    obtain ⟨ok, okl⟩ := run_ok (pixEvs t ax ay base w h p sp y i) (out := out) hx e1
    have hol := run_len_le (pixEvs t ax ay base w h p sp y i) (kd := kx) (x := x) (out := out)
    have er : run kx x out (pixEvs t ax ay base w h p sp y (i + 1)) = run kx (run kx x out (pixEvs t ax ay base w h p sp y i)).1 (run kx x out (pixEvs t ax ay base w h p sp y i)).2 (pixEv t ax ay base w h p sp y i) := run_append kx _ _ _ _
    simp only [S_generic_put_d0e_2, Sg_generic_put_d0e_2]
    rw [er]
    generalize run kx x out (pixEvs t ax ay base w h p sp y i) = R at *
    obtain ⟨X, O⟩ := R
    simp only at ok okl hol ⊢
    rw [dec_t (by omega), w6 (x := (y : Int) * w), w6 (x := (y : Int) * w + (i : Int)), ← p1, skips_ok hr.s (by omega), w6 (x := (i : Int) + 1)]
    unfold pixEv at g1 ⊢
    by_cases hsk : skb sp (y * w.toNat + i) = true
    · rw [hsk, cond_f (b := !true) rfl, if_pos rfl]
      rfl
    · have hsk := Bool.eq_false_iff.2 hsk
      rw [hsk] at g1 ⊢
      rw [if_neg (by simp)] at g1
      obtain ⟨c0, c1, c2⟩ := g1 _ (List.mem_singleton.2 rfl)
      simp only at c0 c1 c2
      rw [cond_t (b := !false) rfl, if_neg (by simp), dec_t (by omega), gcontext hfl hr.p (by omega) (by omega) (around_le t ax ay) (around_near hr.v), Int.toNat_natCast]
      dsimp only
      have hb := getD_01 hr.p.bit (y * w.toNat + i)
      rw [w6 (x := base + _), w6 (x := p.getD (y * w.toNat + i) 0), Co.put_ok hfl ok c0 (by omega) c2 (by omega)]
      rfl
  · simp only [S_generic_put_d0e_2, Sg_generic_put_d0e_2]
    rw [dec_f (by omega)]
theorem fillL_skip {u : Nat → Int} {n i : Nat} (h : u i = 0) : fillL u n i = fillL u n (i + 1) := by
  apply List.ext_getElem (by simp [fillL])
  intro j h1 h2
  simp only [fillL, List.getElem_map, List.getElem_range]
  by_cases hj : j < i
  · rw [if_pos hj, if_pos (by omega)]
  · rw [if_neg hj]
    by_cases hji : j = i
    · subst hji
      rw [if_pos (by omega), h]
    · rw [if_neg (by omega)]
theorem above_ok {fl : Nat} (hfl : 9223372036854775808 ≤ fl) {w h : Int} {p sp : List Int} (hp : Pix w h p) (hs : Sk w h sp) {sw sh : Int} {y : Nat} (hy : (y : Int) < h) {l : List (Int × Int)} {K} :
    F_generic_plane_above_b9e fl (y : Int) sw sh sp w h p l K = K (w, h, p, l, aboveL w h p sp y) := by
  have hw0 := hp.w0; have hw1 := hp.w1; have hh1 := hp.h1; have hwh := hp.n
  unfold F_generic_plane_above_b9e Fg_generic_plane_above_b9e L_generic_plane_above_b9e_0
  rw [dec_t (by refine ⟨by omega, ?_, by omega, by omega⟩; first | rfl | trivial)]
  generalize hu : (fun x : Nat => if skb sp (y * w.toNat + x) = true then (0 : Int) else px w h p (x : Int) ((y : Int) - 1)) = u
  refine iter_seq (step := S_generic_plane_above_b9e_0 fl) (fun i : Nat => ((y : Int), w, (i : Int), w, h, p, l, sw, sh, sp, fillL u w.toNat i)) w.toNat (by
    rw [fillL_zero, List.length_replicate]
    simp
    omega) (fun i hi c => ?_) (fun c => ?_) (by omega)
  · obtain ⟨p1, p2, p3⟩ := place_nat (w := w) (h := h) (x := i) (y := y) (by omega) hy
    have hyw : 0 ≤ (y : Int) * w := Int.mul_nonneg (by omega) hw0
    have hui : u i = if skb sp (y * w.toNat + i) = true then (0 : Int) else px w h p (i : Int) ((y : Int) - 1) := by rw [← hu]
    simp only [S_generic_plane_above_b9e_0, Sg_generic_plane_above_b9e_0]
    rw [dec_t (by omega), w6 (x := (y : Int) * w), w6 (x := (y : Int) * w + (i : Int)), ← p1, skips_ok hs (by omega), w6 (x := (i : Int) + 1), w6 (x := (y : Int) - 1)]
    cases hsk : skb sp (y * w.toNat + i) with
    | true =>
      rw [cond_f (b := !true) rfl]
      rw [hsk, if_pos rfl] at hui
      rw [fillL_skip hui]
      rfl
    | false =>
      rw [hsk, if_neg (by simp)] at hui
      rw [cond_t (b := !false) rfl, gat hp]
      dsimp only
      rw [fillL_len, dec_t (by omega), Int.toNat_natCast, ← hui, fillL_set]
      rfl
  · simp only [S_generic_plane_above_b9e_0, Sg_generic_plane_above_b9e_0]
    rw [dec_f (by omega), fillL_all, ← hu]
    rfl
theorem row_slice {w h : Int} {p : List Int} (hp : Pix w h p) {y : Nat} (hy : (y : Int) < h) :
    List.take (hiOf (some (((y : Int) + 1) * w)) (p.length : Int) - loOf (some ((y : Int) * w))).toNat (List.drop (loOf (some ((y : Int) * w))).toNat p) = rowL w p y := by
  have hw0 := hp.w0
  have hyw : 0 ≤ (y : Int) * w := Int.mul_nonneg (by omega) hw0
  have e : ((y : Int) + 1) * w - (y : Int) * w = w := by rw [Int.add_mul, Int.one_mul]; omega
  have e2 : ((y : Int) * w).toNat = y * w.toNat := by
    have : ((y * w.toNat : Nat) : Int) = (y : Int) * w := by rw [Int.natCast_mul]; congr 1; omega
    omega
  show List.take (((y : Int) + 1) * w - (y : Int) * w).toNat (List.drop ((y : Int) * w).toNat p) = _
  rw [e, e2]
  rfl
theorem put_all {fl : Nat} (hfl : 9223372036854775808 ≤ fl) {t ax ay kd base w h : Int} {p sp : List Int} {kx : Int} {x : Iv} (hx : x.Ok kx) (hr : Reg t ax ay kd base w h p sp x.st.length) (hn : x.st.length ≤ 8192) {out : List Int} (ho : out.length ≤ 500000) {ty : Bool} {sw sh : Int} {K} :
    L_generic_put_d0e_0 fl (base, h, 0, kx, x.lo, x.hi, true, x.st, out, t, ax, ay, ty, kd, w, h, p, sw, sh, sp, w, h, p, around t ax ay) K
    = K (kx, (run kx x out (allEv t ax ay base w h ty p sp h.toNat)).1.lo, (run kx x out (allEv t ax ay base w h ty p sp h.toNat)).1.hi, true, (run kx x out (allEv t ax ay base w h ty p sp h.toNat)).1.st, (run kx x out (allEv t ax ay base w h ty p sp h.toNat)).2) := by
  have hw0 := hr.p.w0; have hw1 := hr.p.w1; have hh0 := hr.p.h0; have hh1 := hr.p.h1; have hwh := hr.p.n; have hlen := hr.p.len
  have sz := size_eq (t := t)
  have hb0 := hr.b0; have hb1 := hr.b1
  unfold L_generic_put_d0e_0
  refine iter_to (step := S_generic_put_d0e_0 fl) (fun i : Nat => (base, h, (i : Int), kx, (run kx x out (allEv t ax ay base w h ty p sp i)).1.lo, (run kx x out (allEv t ax ay base w h ty p sp i)).1.hi, true, (run kx x out (allEv t ax ay base w h ty p sp i)).1.st, (run kx x out (allEv t ax ay base w h ty p sp i)).2, t, ax, ay, ty, kd, w, h, p, sw, sh, sp, w, h, p, around t ax ay)) h.toNat (fun y hi c => ?_) (fun c => ?_) (by omega)
  · have hy : (y : Int) < h := by omega
    have hyw : 0 ≤ (y : Int) * w := Int.mul_nonneg (by omega) hw0
    have hyw2 : ((y : Int) + 1) * w ≤ h * w := Int.mul_le_mul_of_nonneg_right (by omega) (by omega)
    rw [Int.mul_comm h w] at hyw2
    have hyw3 : ((y : Int) + 1) * w = (y : Int) * w + w := by rw [Int.add_mul, Int.one_mul]
    obtain ⟨e1, e2⟩ := allEv_ok hr ty y
    have e2' : (allEv t ax ay base w h ty p sp y).length ≤ 201 * 200 := Nat.le_trans e2 (Nat.mul_le_mul (by omega) (by omega))
    obtain ⟨ok, okl⟩ := run_ok (allEv t ax ay base w h ty p sp y) (out := out) hx e1
    have hol := run_len_le (allEv t ax ay base w h ty p sp y) (kd := kx) (x := x) (out := out)
    have er : run kx x out (allEv t ax ay base w h ty p sp (y + 1)) = run kx (run kx x out (allEv t ax ay base w h ty p sp y)).1 (run kx x out (allEv t ax ay base w h ty p sp y)).2 (rowEv t ax ay base w h ty p sp y) := run_append kx _ _ _ _
    simp only [S_generic_put_d0e_0, Sg_generic_put_d0e_0]
    rw [er]
    generalize run kx x out (allEv t ax ay base w h ty p sp y) = R at *
    obtain ⟨X, O⟩ := R
    simp only at ok okl hol ⊢
    have hrX : Reg t ax ay kd base w h p sp X.st.length := ⟨hr.v, hr.p, hr.s, hr.b0, by rw [okl]; exact hr.b1⟩
    rw [dec_t (by omega), w6 (x := (y : Int) + 1), w6 (x := (y : Int) * w), w6 (x := ((y : Int) + 1) * w)]
    unfold rowEv
    cases ty with
    | false =>
      rw [cond_false, if_neg (by simp), put_pix hfl ok hrX (by omega) (by omega) hy]
      dsimp only
      rw [w6 (x := (y : Int) + 1)]
      rfl
    | true =>
      rw [cond_true, if_pos rfl, dec_t (show (0 : Int) ≤ loOf (some ((y : Int) * w)) ∧ loOf (some ((y : Int) * w)) ≤ hiOf (some (((y : Int) + 1) * w)) (p.length : Int) ∧ hiOf (some (((y : Int) + 1) * w)) (p.length : Int) ≤ (p.length : Int) by simp only [loOf_some, hiOf_some]; omega), above_ok hfl hr.p hr.s hy, row_slice hr.p hy]
      dsimp only
      unfold F_bytes_Equal
      have htb : ((strOfNums (aboveL w h p sp y)).toList == (strOfNums (rowL w p y)).toList) = tb w h p sp y := rfl
      rw [htb]
      dsimp only
      cases htt : tb w h p sp y with
      | true =>
        rw [cond_true, if_pos rfl, gcontexts, w6 (x := base + (size t - 1)), Co.put_ok hfl ok (by omega) (by omega) (.inr rfl) (by omega)]
        rfl
      | false =>
        rw [cond_false, if_neg (by simp), gcontexts, w6 (x := base + (size t - 1)), Co.put_ok hfl ok (by omega) (by omega) (.inl rfl) (by omega)]
        dsimp only
        have ok2 := ok.next (c := base + (size t - 1)) (b := 0) (by omega) (by omega) (.inl rfl)
        have hl2 := X.next_len kx (base + (size t - 1)) 0
        have hb5 : X.many kx (base + (size t - 1)) 0 ≤ 5 := nrm_le _ _ _
        have hbl := X.bytes_len kx (base + (size t - 1)) 0
        rw [put_pix hfl ok2 ⟨hr.v, hr.p, hr.s, hr.b0, by rw [hl2, okl]; exact hr.b1⟩ (by omega) (by rw [List.length_append]; omega) hy]
        dsimp only
        rw [w6 (x := (y : Int) + 1)]
        rfl
  · simp only [S_generic_put_d0e_0, Sg_generic_put_d0e_0]
    rw [dec_f (by omega)]
theorem put_reg {fl : Nat} (hfl : 9223372036854775808 ≤ fl) {t ax ay kd base w h : Int} {p sp : List Int} {kx : Int} {x : Iv} (hx : x.Ok kx) (hr : Reg t ax ay kd base w h p sp x.st.length) (hn : x.st.length ≤ 8192) {out : List Int} (ho : out.length ≤ 500000) {ty : Bool} {sw sh : Int} {K} :
    F_generic_put_d0e fl base t ax ay ty kd w h p sw sh sp kx x.lo x.hi true x.st out K
    = K (kx, (run kx x out (allEv t ax ay base w h ty p sp h.toNat)).1.lo, (run kx x out (allEv t ax ay base w h ty p sp h.toNat)).1.hi, true, (run kx x out (allEv t ax ay base w h ty p sp h.toNat)).1.st, (run kx x out (allEv t ax ay base w h ty p sp h.toNat)).2) := by
  unfold F_generic_put_d0e Fg_generic_put_d0e
  rw [gplane hr.p.mul0 (by have := hr.p.n; omega)]
  dsimp only
  rw [put_all hfl hx hr hn ho]
theorem at_p {fl : Nat} {w h : Int} {p : List Int} (hp : Pix w h p) {x y : Int} {K : Int → Option Ans} : F_ref05_At fl w h p x y K = K (px w h p x y) :=
  at_ok (by have := hp.n; omega) hp.len (fun v hv => by have := hp.bit v hv; omega)
theorem skb_nil (i : Nat) : skb [] i = false := by simp [skb]
open Go Ev Bm Co
end Go.Proofs.YtipdidpalcmlhaaGreat.Gen
namespace Go.Proofs.YtipdidpalcmlhaaGreat.Co
open Go Ev
def Bytes (l : List Int) : Prop := ∀ v ∈ l, 0 ≤ v ∧ v ≤ 255
theorem shlU {x b : Int} (h1 : 0 ≤ x) (h2 : x < 4294967296) (b1 : 0 ≤ b) (b2 : b ≤ 255) : ior .u64 (iand .u64 (ishl .u64 x 8) 4294967295) b = x % 16777216 * 256 + b := by
  rw [nlU h1 h2]
  unfold ior nl
  have e1 : IntKind.u64.bits = 64 := rfl
  rw [e1, BitVec.toNat_or, ofInt_toNat (by omega) (by omega), ofInt_toNat (by omega) (by omega)]
  have h3 : (x % 16777216 * 256).toNat = (x % 16777216).toNat <<< 8 := by rw [Nat.shiftLeft_eq]; omega
  rw [h3, ← Nat.shiftLeft_add_eq_or_of_lt (by omega), Nat.shiftLeft_eq, wrapU (by omega) (by omega)]
  omega
def byd (code : List Int) (k : Nat) : Int := ((4 + k - code.length : Nat) : Int)
theorem strm_get {code : List Int} {n : Nat} (h : n < code.length) : code.getD n 0 = strm code n := rfl
theorem strm_out {code : List Int} {n : Nat} (h : ¬ n < code.length) : strm code n = 0 := by
  unfold strm
  rw [List.getD_eq_getElem?_getD, List.getElem?_eq_none (by omega)]
  rfl
theorem shift_ok {fl : Nat} {kd lo hi : Int} {code : List Int} (hb : Bytes code) (hl : code.length ≤ 1000000) {k : Nat} (hk : k ≤ 100000000) {e r : Bool} {st : List Int} {K : Int × Int × Int × Int × Int × Int × Bool × Bool × List Int × List Int → Option Ans} :
    F_coder_Decoder_shift_40a fl kd lo hi ((4 + k : Nat) : Int) (win (strm code) k) (byd code k) e r st code K = K (kd, lo, hi, ((4 + (k + 1) : Nat) : Int), win (strm code) (k + 1), byd code (k + 1), e, r, st, code) := by
  have hS := strm_byt hb
  obtain ⟨w1, w2⟩ := win_rg hS k
  have hn := win_next hS k
  unfold F_coder_Decoder_shift_40a
  rw [w6 (x := ((4 + k : Nat) : Int) + 1)]
  by_cases h : 4 + k < code.length
  · have hv := hb _ (getD_mem h 0)
    have e4 : strm code (4 + k) = strm code (k + 4) := by rw [Nat.add_comm]
    rw [dec_t (by omega), dec_t (by omega), Int.toNat_natCast, wrapU (by omega) (by omega), shlU w1 w2 hv.1 hv.2, strm_get h, e4, ← hn]
    congr 1
    unfold byd
    rw [show 4 + k - code.length = 4 + (k + 1) - code.length by omega]
    rfl
  · rw [dec_f (by omega), wrapU (by omega) (by omega), shlU w1 w2 (by omega) (by omega)]
    have h0 : strm code (k + 4) = 0 := strm_out (by omega)
    rw [h0] at hn
    rw [← hn]
    congr 1
    unfold byd
    rw [wrap64 (by omega) (by omega), show ((4 + k - code.length : Nat) : Int) + 1 = ((4 + (k + 1) - code.length : Nat) : Int) by omega]
    rfl
theorem dmid_ok {fl : Nat} {kd : Int} {x : Iv} (h : x.Ok kd) {c : Int} (h0 : 0 ≤ c) (h1 : c < x.st.length) {at' v by' : Int} {e r : Bool} {code : List Int} {K : Int × Int × Int × Int × Int × Int × Int × Bool × Bool × List Int × List Int → Option Ans} :
    F_coder_interval_mid_aa3 fl c kd x.lo x.hi at' v by' e r x.st code K = K (x.mid kd c, kd, x.lo, x.hi, at', v, by', e, r, x.st, code) := by
  unfold F_coder_interval_mid_aa3 Fg_coder_interval_mid_aa3 Iv.mid Co.mid
  rw [dec_t ⟨h0, h1⟩, chance h.k (h.get h0 h1)]
  obtain ⟨p1, p2⟩ := pr_rg h.k (h.get h0 h1)
  obtain ⟨r1, r2, r3⟩ := h.r
  obtain ⟨m1, m2, m3, m4⟩ := mid_parts r2 r1 r3 p1 p2
  generalize pr kd (x.st.getD c.toNat 0) = p at *
  rw [wrapU (x := x.hi - x.lo) (by omega) (by omega), tdiv_e (by omega), tmod_e (by omega), wrapU (x := p) (by omega) (by omega), wrapU (x := (x.hi - x.lo) / 4096) (by omega) (by omega),
    wrapU (x := (x.hi - x.lo) / 4096 * p) (by omega) (by omega), wrapU (x := (x.hi - x.lo) % 4096 * p) (by omega) (by omega), tdiv_e m3, wrapU (x := x.lo + (x.hi - x.lo) / 4096 * p) (by omega) (by omega),
    wrapU (x := (x.hi - x.lo) % 4096 * p / 4096) (by omega) (by omega), wrapU (by omega) (by omega)]
theorem dtake_ok {fl : Nat} {kd : Int} {x : Iv} (h : x.Ok kd) {c b : Int} (h0 : 0 ≤ c) (h1 : c < x.st.length) (hb : b = 0 ∨ b = 1) {at' v by' : Int} {e r : Bool} {code : List Int} {K : Int × Int × Int × Int × Int × Int × Bool × Bool × List Int × List Int → Option Ans} :
    F_coder_interval_take_7ec fl c b (x.mid kd c) kd x.lo x.hi at' v by' e r x.st code K = K (kd, x.clo kd c b, x.chi kd c b, at', v, by', e, r, x.st.set c.toNat (nx kd (x.st.getD c.toNat 0) b), code) := by
  have hm := h.mid_in h0 h1
  obtain ⟨r1, r2, r3⟩ := h.r
  unfold F_coder_interval_take_7ec Fg_coder_interval_take_7ec Iv.clo Iv.chi
  simp only [next h.k (h.get h0 h1) hb]
  rcases hb with rfl | rfl
  · rw [cond_f (b := (0 : Int) == 1) rfl, dec_t ⟨h0, h1⟩, dec_t ⟨h0, h1⟩, if_neg (by decide), if_neg (by decide), wrapU (by omega) (by omega)]
  · rw [cond_t (b := (1 : Int) == 1) rfl, dec_t ⟨h0, h1⟩, dec_t ⟨h0, h1⟩, if_pos rfl, if_pos rfl]
theorem shiftsK {V B : Type} {step : V → (V → Option Ans) → B → Option Ans} {b : B} {r : Option Ans} (N : Nat) (σ : Nat → Int → Int → V)
    (hstep : ∀ k lo hi c, Rg lo hi → same lo hi → k < N → step (σ k lo hi) c b = c (σ (k + 1) (nl lo) (nh hi)))
    : ∀ (n : Nat) (k : Nat) (lo hi : Int) (m : Nat), Rg lo hi → ¬ same (nrm n lo hi).2.1 (nrm n lo hi).2.2 → n < m → k + n ≤ N → (∀ c, step (σ (k + (nrm n lo hi).1) (nrm n lo hi).2.1 (nrm n lo hi).2.2) c b = r) → iter step m (σ k lo hi) b = r
  | n, k, lo, hi, 0, _, _, hm, _, _ => by omega
  | 0, k, lo, hi, m + 1, hr, hs, hm, hN, hn => hn _
  | n + 1, k, lo, hi, m + 1, hr, hs, hm, hN, hn => by
    simp only [iter]
    by_cases h : same lo hi
    · rw [hstep k lo hi _ hr h (by omega)]
      refine shiftsK N σ hstep n (k + 1) (nl lo) (nh hi) m (hr.next h) (by rw [← nrm_same h]; exact hs) (by omega) (by omega) fun c => ?_
      have e := hn c
      rw [nrm, if_pos h] at e
      rw [show k + 1 + (nrm n (nl lo) (nh hi)).1 = k + ((nrm n (nl lo) (nh hi)).1 + 1) by omega]
      exact e
    · have e := hn (fun v => iter step m v b)
      rw [nrm, if_neg h] at e
      exact e
abbrev DL := Int × Int × Int × Int × Int × Int × Int × Int × Int × Bool × Bool × List Int × List Int × Int × Int × Int × Int × Int × Int × Bool × Bool
theorem get_loop {fl : Nat} (hfl : 9223372036854775808 ≤ fl) {c b s kd lo hi : Int} (hr : Rg lo hi) {code : List Int} (hb : Bytes code) (hl : code.length ≤ 1000000) {k : Nat} (hk : k ≤ 10000000) {e r : Bool} {st : List Int} {o1 o2 o3 o4 o5 o6 : Int} {o7 o8 : Bool} {K : DL → Option Ans} :
    L_coder_Decoder_Get_aa3_1 fl (c, b, s, kd, lo, hi, ((4 + k : Nat) : Int), win (strm code) k, byd code k, e, r, st, code, o1, o2, o3, o4, o5, o6, o7, o8) K
    = K (c, b, s, kd, (nrm 5 lo hi).2.1, (nrm 5 lo hi).2.2, ((4 + (k + (nrm 5 lo hi).1) : Nat) : Int), win (strm code) (k + (nrm 5 lo hi).1), byd code (k + (nrm 5 lo hi).1), e, r, st, code, o1, o2, o3, o4, o5, o6, o7, o8) := by
  unfold L_coder_Decoder_Get_aa3_1
  refine shiftsK (step := S_coder_Decoder_Get_aa3_1 fl) 20000000 (fun k lo hi => (c, b, s, kd, lo, hi, ((4 + k : Nat) : Int), win (strm code) k, byd code k, e, r, st, code, o1, o2, o3, o4, o5, o6, o7, o8)) (fun k lo hi c hr hs hk => ?_) 5 k lo hi fl hr (nrm_ends hr) (by omega) (by omega) fun c => ?_
  · obtain ⟨r1, r2, r3⟩ := hr
    simp only [S_coder_Decoder_Get_aa3_1, Sg_coder_Decoder_Get_aa3_1, F_coder_interval_same_40a, F_coder_interval_lose_40a]
    rw [shrU (x := lo) r1, shrU (x := hi) (by omega), cond_t (b := lo / 16777216 == hi / 16777216) (beq_iff_eq.2 hs), nlU r1 (by omega), nhU (by omega) r3, shift_ok hb hl (by omega)]
  · have hr' := nrm_rg 5 hr
    have hs' := nrm_ends hr
    generalize (nrm 5 lo hi).2.1 = lo' at *
    generalize (nrm 5 lo hi).2.2 = hi' at *
    obtain ⟨r1, r2, r3⟩ := hr'
    simp only [S_coder_Decoder_Get_aa3_1, Sg_coder_Decoder_Get_aa3_1, F_coder_interval_same_40a]
    rw [shrU (x := lo') r1, shrU (x := hi') (by omega), cond_f (b := lo' / 16777216 == hi' / 16777216) (beq_eq_false_iff_ne.2 hs')]
theorem set_back {st : List Int} {i : Nat} {v : Int} : (st.set i v).set i (st.getD i 0) = st := by
  rw [List.set_set]
  by_cases h : i < st.length
  · rw [getD_lt h, List.set_getElem_self]
  · exact List.set_eq_of_length_le (by omega)
theorem get_ok {fl : Nat} (hfl : 9223372036854775808 ≤ fl) {kd : Int} {x : Iv} (h : x.Ok kd) {c : Int} (h0 : 0 ≤ c) (h1 : c < x.st.length) {code : List Int} (hb : Bytes code) (hl : code.length ≤ 1000000) {k : Nat} (hk : k ≤ 10000000)
    {K : Int × Int × Int × Int × Int × Int × Int × Int × Bool × Bool × List Int × List Int → Option Ans} :
    F_coder_Decoder_Get_aa3 fl c kd x.lo x.hi ((4 + k : Nat) : Int) (win (strm code) k) (byd code k) false true x.st code K
    = match get kd code x k c with
      | some (b, x', k') => K (b, 0, kd, x'.lo, x'.hi, ((4 + k' : Nat) : Int), win (strm code) k', byd code k', false, true, x'.st, code)
      | none => K (0, 6, kd, x.lo, x.hi, ((4 + k : Nat) : Int), win (strm code) k, byd code k, true, true, x.st, code) := by
  unfold F_coder_Decoder_Get_aa3 Fg_coder_Decoder_Get_aa3 F_coder_Decoder_none_40a
  dsimp only
  rw [cond_f (b := !true) rfl, dec_f (by omega), dec_f (by omega), cond_false, dmid_ok h h0 h1]
  dsimp only
  have gen : ∀ b, b = 0 ∨ b = 1 → bitOf kd (strm code) x k c = b →
      (F_coder_interval_take_7ec fl c b (x.mid kd c) kd x.lo x.hi ((4 + k : Nat) : Int) (win (strm code) k) (byd code k) false true x.st code fun y =>
        L_coder_Decoder_Get_aa3_1 fl (c, b, x.st.getD c.toNat 0, y.1, y.2.1, y.2.2.1, y.2.2.2.1, y.2.2.2.2.1, y.2.2.2.2.2.1, y.2.2.2.2.2.2.1, y.2.2.2.2.2.2.2.1, y.2.2.2.2.2.2.2.2.1, y.2.2.2.2.2.2.2.2.2, kd, x.lo, x.hi, ((4 + k : Nat) : Int), win (strm code) k, byd code k, false, true) fun z =>
          bif decide (z.2.2.2.2.2.2.2.2.1 > 4) then
            (bif decide (0 ≤ z.1 ∧ z.1 < (z.2.2.2.2.2.2.2.2.2.2.2.1.length : Int)) then K (0, 6, z.2.2.2.2.2.2.2.2.2.2.2.2.2.1, z.2.2.2.2.2.2.2.2.2.2.2.2.2.2.1, z.2.2.2.2.2.2.2.2.2.2.2.2.2.2.2.1, z.2.2.2.2.2.2.2.2.2.2.2.2.2.2.2.2.1, z.2.2.2.2.2.2.2.2.2.2.2.2.2.2.2.2.2.1, z.2.2.2.2.2.2.2.2.2.2.2.2.2.2.2.2.2.2.1, true, z.2.2.2.2.2.2.2.2.2.2.2.2.2.2.2.2.2.2.2.2, z.2.2.2.2.2.2.2.2.2.2.2.1.set z.1.toNat z.2.2.1, z.2.2.2.2.2.2.2.2.2.2.2.2.1) else none)
          else K (z.2.1, 0, z.2.2.2.1, z.2.2.2.2.1, z.2.2.2.2.2.1, z.2.2.2.2.2.2.1, z.2.2.2.2.2.2.2.1, z.2.2.2.2.2.2.2.2.1, z.2.2.2.2.2.2.2.2.2.1, z.2.2.2.2.2.2.2.2.2.2.1, z.2.2.2.2.2.2.2.2.2.2.2.1, z.2.2.2.2.2.2.2.2.2.2.2.2.1))
      = match get kd code x k c with
        | some (b, x', k') => K (b, 0, kd, x'.lo, x'.hi, ((4 + k' : Nat) : Int), win (strm code) k', byd code k', false, true, x'.st, code)
        | none => K (0, 6, kd, x.lo, x.hi, ((4 + k : Nat) : Int), win (strm code) k, byd code k, true, true, x.st, code) := by
    intro b hb' hbit
    rw [dtake_ok h h0 h1 hb', get_loop hfl (h.cut (b := b) h0 h1) hb hl hk]
    dsimp only
    unfold get
    rw [hbit]
    have hm : (nrm 5 (x.clo kd c b) (x.chi kd c b)).1 = x.many kd c b := rfl
    rw [hm]
    by_cases hc : code.length < k + x.many kd c b
    · rw [if_pos hc, dec_t (by unfold byd; omega), dec_t (by rw [List.length_set]; omega), set_back]
    · rw [if_neg hc, dec_f (by unfold byd; omega)]
      rfl
  by_cases hv : win (strm code) k ≤ x.mid kd c
  · have hbit : bitOf kd (strm code) x k c = 1 := if_pos hv
    rw [dec_t hv, dec_t ⟨h0, h1⟩]
    simp only [both_same]
    exact gen 1 (.inr rfl) hbit
  · have hbit : bitOf kd (strm code) x k c = 0 := if_neg hv
    rw [dec_f hv, dec_t ⟨h0, h1⟩]
    simp only [both_same]
    exact gen 0 (.inl rfl) hbit
theorem get_bad {fl : Nat} {kd lo hi at' v by' : Int} {e : Bool} {st code : List Int} {K : Int × Int × Int × Int × Int × Int × Int × Int × Bool × Bool × List Int × List Int → Option Ans} :
    F_coder_Decoder_Get_aa3 fl (-1) kd lo hi at' v by' e true st code K = K (0, 2, kd, lo, hi, at', v, by', e, true, st, code) := by
  unfold F_coder_Decoder_Get_aa3 Fg_coder_Decoder_Get_aa3 F_coder_Decoder_none_40a
  dsimp only
  rw [cond_f (b := !true) rfl, dec_t (by omega)]
def pv (S : Nat → Int) : Nat → Int
  | 0 => 0
  | 1 => S 0
  | 2 => S 0 * 256 + S 1
  | 3 => S 0 * 65536 + S 1 * 256 + S 2
  | _ => win S 0
theorem pv_step {S : Nat → Int} (h : Byt S) {i : Nat} (hi : i < 4) : 0 ≤ pv S i ∧ pv S i < 4294967296 ∧ pv S (i + 1) = pv S i % 16777216 * 256 + S i ∧ pv S (i + 1) = pv S i * 256 + S i := by
  have a := h 0; have b := h 1; have c := h 2; have d := h 3
  have e0 : win S 0 = S 0 * 16777216 + S 1 * 65536 + S 2 * 256 + S 3 := rfl
  have f0 : pv S 0 = 0 := rfl
  have f1 : pv S 1 = S 0 := rfl
  have f2 : pv S 2 = S 0 * 256 + S 1 := rfl
  have f3 : pv S 3 = S 0 * 65536 + S 1 * 256 + S 2 := rfl
  match i, hi with
  | 0, _ =>
    have e1 : pv S (0 + 1) = S 0 := rfl
    omega
  | 1, _ =>
    have e1 : pv S (1 + 1) = S 0 * 256 + S 1 := rfl
    omega
  | 2, _ =>
    have e1 : pv S (2 + 1) = S 0 * 65536 + S 1 * 256 + S 2 := rfl
    omega
  | 3, _ =>
    have e1 : pv S (3 + 1) = win S 0 := rfl
    have e2 : pv S 3 = S 0 * 65536 + S 1 * 256 + S 2 := rfl
    rw [e1, e2]
    omega
theorem new_dec {fl : Nat} (hfl : 9223372036854775808 ≤ fl) {kd : Int} {st : List Int} (hv : vM kd st = true) {code : List Int} (hb : Bytes code) (hl : code.length ≤ 1000000) {k0 : Int → Option Ans} {k1 : Int × Int × Int × Int × Int × Int × Int × Bool × Bool × List Int × List Int → Option Ans} :
    F_coder_NewDecoder fl kd st code k0 k1 = k1 (0, kd, 0, 4294967295, ((4 + 0 : Nat) : Int), win (strm code) 0, byd code 0, false, true, st, code) := by
  have hl' : st.length ≤ 8192 := by
    unfold vM at hv
    simp only [Bool.and_eq_true, decide_eq_true_eq] at hv
    exact hv.1.2
  have hS := strm_byt hb
  unfold F_coder_NewDecoder Fg_coder_NewDecoder
  rw [cvalid hfl, hv, cond_f (b := !true) rfl, begin_ok (by omega)]
  dsimp only
  rw [dec_t (by omega), List.nil_append]
  unfold L_coder_NewDecoder_0
  refine iter_seq (step := S_coder_NewDecoder_0 fl) (fun i : Nat => ((i : Int), kd, 0, 4294967295, (i : Int), pv (strm code) i, ((i - code.length : Nat) : Int), false, true, st, code)) 4 (by simp [pv]) (fun i hi c => ?_) (fun c => ?_) (by omega)
  · obtain ⟨p1, p2, p3, _⟩ := pv_step hS hi
    simp only [S_coder_NewDecoder_0, Sg_coder_NewDecoder_0, F_coder_Decoder_shift_40a]
    rw [dec_t (by omega), w6 (x := (i : Int) + 1)]
    by_cases h : i < code.length
    · have hv := hb _ (getD_mem h 0)
      rw [dec_t (by omega), dec_t (by omega), Int.toNat_natCast, wrapU (x := code.getD i 0) hv.1 (by omega), shlU p1 p2 hv.1 hv.2, strm_get h, ← p3, show i - code.length = i + 1 - code.length by omega]
      rfl
    · rw [dec_f (by omega), wrapU (by omega) (by omega), shlU p1 p2 (by omega) (by omega)]
      rw [strm_out h] at p3
      rw [← p3, wrap64 (by omega) (by omega), show ((i - code.length : Nat) : Int) + 1 = ((i + 1 - code.length : Nat) : Int) by omega]
      rfl
  · simp only [S_coder_NewDecoder_0, Sg_coder_NewDecoder_0]
    rw [dec_f (by omega)]
    rfl
end Go.Proofs.YtipdidpalcmlhaaGreat.Co
namespace Go.Proofs.YtipdidpalcmlhaaGreat.Gen
open Go Ev Bm Co
structure D where
  ok : Bool
  p : List Int
  x : Iv
  k : Nat
section
variable (t ax ay base w h kx : Int) (ty : Bool) (sp code : List Int)
def dPix (y x : Nat) (s : D) : D :=
  if skb sp (y * w.toNat + x) = true then s
  else match Co.get kx code s.x s.k (base + ctxv w h s.p (x : Int) (y : Int) (around t ax ay)) with
    | some (b, x', k') => ⟨true, s.p.set (y * w.toNat + x) b, x', k'⟩
    | none => ⟨false, s.p, s.x, s.k⟩
def dPixs (y : Nat) (s : D) : Nat → D
  | 0 => s
  | n + 1 => if (dPixs y s n).ok = true then dPix t ax ay base w h kx sp code y n (dPixs y s n) else dPixs y s n
def wrRow (y : Nat) (p r : List Int) : List Int := p.take (y * w.toNat) ++ r ++ p.drop (y * w.toNat + w.toNat)
def dRow (y : Nat) (s : D) : D :=
  if ty = true then match Co.get kx code s.x s.k (base + (size t - 1)) with
    | some (b, x', k') => if b = 1 then ⟨true, wrRow w y s.p (aboveL w h s.p sp y), x', k'⟩ else dPixs t ax ay base w h kx sp code y ⟨true, s.p, x', k'⟩ w.toNat
    | none => ⟨false, s.p, s.x, s.k⟩
  else dPixs t ax ay base w h kx sp code y s w.toNat
def dAll (s : D) : Nat → D
  | 0 => s
  | n + 1 => if (dAll s n).ok = true then dRow t ax ay base w h kx ty sp code n (dAll s n) else dAll s n
end
structure DOk (t ax ay kd base w h kx : Int) (sp code : List Int) (n : Nat) (s : D) : Prop where
  r : Reg t ax ay kd base w h s.p sp n
  x : s.x.Ok kx
  sl : s.x.st.length = n
  k : s.k ≤ code.length
  n1 : n ≤ 8192
  cb : Bytes code
  cl : code.length ≤ 1000000
theorem get_some {kx : Int} {x : Iv} (h : x.Ok kx) {c : Int} (h0 : 0 ≤ c) (h1 : c < x.st.length) {code : List Int} {k : Nat} {b : Int} {x' : Iv} {k' : Nat} (e : Co.get kx code x k c = some (b, x', k')) :
    (b = 0 ∨ b = 1) ∧ x'.Ok kx ∧ x'.st.length = x.st.length ∧ k' ≤ code.length := by
  unfold Co.get at e
  split at e
  · exact absurd e (by simp)
  · injection e with e
    injection e with e1 e
    injection e with e2 e3
    have hb := bitOf_01 kx (strm code) x k c
    rw [← e1, ← e2, ← e3]
    exact ⟨hb, h.next h0 h1 hb, Iv.next_len _ _ _ _, by omega⟩
theorem bit_set {p : List Int} (h : ∀ v ∈ p, 0 ≤ v ∧ v ≤ 1) {i : Nat} {b : Int} (hb : b = 0 ∨ b = 1) : ∀ v ∈ p.set i b, 0 ≤ v ∧ v ≤ 1 := fun v hv => by
  rcases List.mem_or_eq_of_mem_set hv with hv | rfl
  · exact h v hv
  · omega
theorem Pix.set {w h : Int} {p : List Int} (hp : Pix w h p) {i : Nat} {b : Int} (hb : b = 0 ∨ b = 1) : Pix w h (p.set i b) :=
  ⟨hp.w0, hp.h0, hp.w1, hp.h1, hp.n, by rw [List.length_set]; exact hp.len, bit_set hp.bit hb⟩
theorem wrRow_len {w h : Int} {p r : List Int} (hp : Pix w h p) {y : Nat} (hy : (y : Int) < h) (hr : r.length = w.toNat) : (wrRow w y p r).length = p.length := by
  have e := (place_nat (w := w) (h := h) (x := 0) (y := y))
  have hw0 := hp.w0
  have hlen := hp.len
  have h1 : ((y : Int) + 1) * w ≤ h * w := Int.mul_le_mul_of_nonneg_right (by omega) (by omega)
  rw [Int.add_mul, Int.one_mul, Int.mul_comm h w] at h1
  have h2 : ((y * w.toNat : Nat) : Int) = (y : Int) * w := by rw [Int.natCast_mul]; congr 1; omega
  have h3 : y * w.toNat + w.toNat ≤ p.length := by omega
  unfold wrRow
  rw [List.length_append, List.length_append, List.length_take, List.length_drop]
  omega
theorem aboveL_len (w h : Int) (p sp : List Int) (y : Nat) : (aboveL w h p sp y).length = w.toNat := by simp [aboveL]
theorem aboveL_bit {w h : Int} {p sp : List Int} (hp : Pix w h p) (y : Nat) : ∀ v ∈ aboveL w h p sp y, 0 ≤ v ∧ v ≤ 1 := fun v hv => by
  unfold aboveL at hv
  obtain ⟨x, _, rfl⟩ := List.mem_map.1 hv
  split
  · omega
  · exact px_01 hp.bit _ _
theorem Pix.wr {w h : Int} {p sp : List Int} (hp : Pix w h p) {y : Nat} (hy : (y : Int) < h) : Pix w h (wrRow w y p (aboveL w h p sp y)) :=
  ⟨hp.w0, hp.h0, hp.w1, hp.h1, hp.n, by rw [wrRow_len hp hy (aboveL_len _ _ _ _ _)]; exact hp.len, fun v hv => by
    unfold wrRow at hv
    rcases List.mem_append.1 hv with hv | hv
    · rcases List.mem_append.1 hv with hv | hv
      · exact hp.bit v (List.mem_of_mem_take hv)
      · exact aboveL_bit hp y v hv
    · exact hp.bit v (List.mem_of_mem_drop hv)⟩
theorem Reg.to {t ax ay kd base w h : Int} {p p' sp : List Int} {n : Nat} (hr : Reg t ax ay kd base w h p sp n) (hp : Pix w h p') : Reg t ax ay kd base w h p' sp n := ⟨hr.v, hp, hr.s, hr.b0, hr.b1⟩
theorem ctx_in {t ax ay kd base w h : Int} {p sp : List Int} {n : Nat} (hr : Reg t ax ay kd base w h p sp n) (x y : Int) : 0 ≤ base + ctxv w h p x y (around t ax ay) ∧ base + ctxv w h p x y (around t ax ay) < n := by
  have c := ctx_rg hr.p.bit (w := w) (h := h) t ax ay x y
  have := hr.b0
  have := hr.b1
  omega
section
variable {t ax ay kd base w h kx : Int} {ty : Bool} {sp code : List Int} {n : Nat}
theorem dPix_ok {s : D} (hd : DOk t ax ay kd base w h kx sp code n s) (y x : Nat) : DOk t ax ay kd base w h kx sp code n (dPix t ax ay base w h kx sp code y x s) := by
  unfold dPix
  split
  · exact hd
  · obtain ⟨c0, c1⟩ := ctx_in hd.r (x : Int) (y : Int)
    split
    · rename_i b x' k' e
      obtain ⟨g1, g2, g3, g4⟩ := get_some hd.x c0 (by rw [hd.sl]; exact c1) e
      exact ⟨hd.r.to (hd.r.p.set g1), g2, by rw [← hd.sl]; exact g3, g4, hd.n1, hd.cb, hd.cl⟩
    · exact ⟨hd.r, hd.x, hd.sl, hd.k, hd.n1, hd.cb, hd.cl⟩
theorem dPixs_ok {s : D} (hd : DOk t ax ay kd base w h kx sp code n s) (y : Nat) : ∀ m, DOk t ax ay kd base w h kx sp code n (dPixs t ax ay base w h kx sp code y s m)
  | 0 => hd
  | m + 1 => by
    unfold dPixs
    split
    · exact dPix_ok (dPixs_ok hd y m) y m
    · exact dPixs_ok hd y m
theorem dRow_ok {s : D} (hd : DOk t ax ay kd base w h kx sp code n s) {y : Nat} (hy : (y : Int) < h) : DOk t ax ay kd base w h kx sp code n (dRow t ax ay base w h kx ty sp code y s) := by
  have sz := size_eq (t := t)
  have hb0 := hd.r.b0; have hb1 := hd.r.b1
  unfold dRow
  split
  · split
    · rename_i b x' k' e
      obtain ⟨g1, g2, g3, g4⟩ := get_some hd.x (by omega) (by rw [hd.sl]; omega) e
      split
      · exact ⟨hd.r.to (hd.r.p.wr hy), g2, by rw [← hd.sl]; exact g3, g4, hd.n1, hd.cb, hd.cl⟩
      · exact dPixs_ok (s := ⟨true, s.p, x', k'⟩) ⟨hd.r, g2, by rw [← hd.sl]; exact g3, g4, hd.n1, hd.cb, hd.cl⟩ y _
    · exact ⟨hd.r, hd.x, hd.sl, hd.k, hd.n1, hd.cb, hd.cl⟩
  · exact dPixs_ok hd y _
theorem dAll_ok {s : D} (hd : DOk t ax ay kd base w h kx sp code n s) : ∀ m : Nat, (m : Int) ≤ h → DOk t ax ay kd base w h kx sp code n (dAll t ax ay base w h kx ty sp code s m)
  | 0, _ => hd
  | m + 1, hm => by
    unfold dAll
    split
    · exact dRow_ok (dAll_ok hd m (by omega)) (by omega)
    · exact dAll_ok hd m (by omega)
end
theorem iter_stop {V B : Type} {step : V → (V → Option Ans) → B → Option Ans} {b : B} {r : Option Ans} (s : Nat → D) (σ : Nat → V) (n : Nat) (hs : ∀ i, (s i).ok = false → s (i + 1) = s i)
    (hgo : ∀ i, i < n → (s i).ok = true → (s (i + 1)).ok = true → ∀ c, step (σ i) c b = c (σ (i + 1)))
    (hstop : ∀ i, i < n → (s i).ok = true → (s (i + 1)).ok = false → s n = s (i + 1) → ∀ c, step (σ i) c b = r)
    (hend : (s n).ok = true → ∀ c, step (σ n) c b = r) (h0 : (s 0).ok = true) {m : Nat} (hm : n < m) : iter step m (σ 0) b = r := by
  have stay : ∀ d i, (s i).ok = false → s (i + d) = s i := by
    intro d
    induction d with
    | zero => intro i _; rfl
    | succ d ih => intro i hi; rw [show i + (d + 1) = (i + d) + 1 by omega, hs (i + d) (by rw [ih i hi]; exact hi), ih i hi]
  have key : ∀ d i m, i + d = n → (s i).ok = true → d < m → iter step m (σ i) b = r := by
    intro d
    induction d with
    | zero =>
      intro i m hi ho hm
      obtain ⟨m, rfl⟩ : ∃ k, m = k + 1 := ⟨m - 1, by omega⟩
      have : i = n := by omega
      subst this
      exact hend ho _
    | succ d ih =>
      intro i m hi ho hm
      obtain ⟨m, rfl⟩ : ∃ k, m = k + 1 := ⟨m - 1, by omega⟩
      simp only [iter]
      cases hn : (s (i + 1)).ok with
      | true =>
        rw [hgo i (by omega) ho hn]
        exact ih (i + 1) m (by omega) hn (by omega)
      | false => exact hstop i (by omega) ho hn (by rw [← stay d (i + 1) hn]; congr 1; omega) _
  exact key n 0 m (by omega) h0 hm
theorem iter_stops {V B : Type} {step : V → (V → Option Ans) → B → Option Ans} {b : B} {r : Option Ans} {v : V} {m : Nat} (s : Nat → D) (σ : Nat → V) (n : Nat) (hv : v = σ 0) (hs : ∀ i, (s i).ok = false → s (i + 1) = s i)
    (hgo : ∀ i, i < n → (s i).ok = true → (s (i + 1)).ok = true → ∀ c, step (σ i) c b = c (σ (i + 1)))
    (hstop : ∀ i, i < n → (s i).ok = true → (s (i + 1)).ok = false → s n = s (i + 1) → ∀ c, step (σ i) c b = r)
    (hend : (s n).ok = true → ∀ c, step (σ n) c b = r) (h0 : (s 0).ok = true) (hm : n < m) : iter step m v b = r := by
  rw [hv]
  exact iter_stop s σ n hs hgo hstop hend h0 hm
theorem gat2 {fl : Nat} {w h : Int} {p : List Int} (hp : Pix w h p) {x y : Int} {l : List (Int × Int)} {K : Int × Int × Int × List Int × List (Int × Int) → Option Ans} :
    F_generic_plane_at_b72 fl x y w h p l K = K (px w h p x y, w, h, p, l) := by
  have hl := hp.len
  have hn := hp.n
  unfold F_generic_plane_at_b72 px
  simp only [cd]
  by_cases hi : ins w h x y
  · have hq := place hi
    have hy := place_y hi
    rw [if_pos hi]
    obtain ⟨h1, h2, h3, h4⟩ := hi
    rw [if_neg (by omega), if_neg (by omega), if_neg (by omega), if_neg (by omega), w6 (x := y * w), w6 (x := y * w + x), if_pos (by omega)]
    try rw [both_same]
  · rw [if_neg hi]
    unfold ins at hi
    repeat' split
    all_goals first | rfl | omega
theorem gcontext2 {fl : Nat} (hfl : 9223372036854775808 ≤ fl) {w h : Int} {p : List Int} (hp : Pix w h p) {x y : Int} {l : List (Int × Int)} (hx : -1000 ≤ x ∧ x ≤ 1000) (hy : -1000 ≤ y ∧ y ≤ 1000) (hl : l.length ≤ 11) (hd : ∀ d ∈ l, -8 ≤ d.1 ∧ d.1 ≤ 8 ∧ -8 ≤ d.2 ∧ d.2 ≤ 0)
    {K : Int × Int × Int × List Int × List (Int × Int) → Option Ans} : F_generic_plane_context_b72 fl x y w h p l K = K (ctxv w h p x y l, w, h, p, l) := by
  unfold F_generic_plane_context_b72 Fg_generic_plane_context_b72 L_generic_plane_context_b72_0
  refine iter_seq (step := S_generic_plane_context_b72_0 fl) (fun i : Nat => (x, y, ctxv w h p x y (l.take i), (l.length : Int), (i : Int), w, h, p, l)) l.length rfl (fun i hi c => ?_) (fun c => ?_) (by omega)
  · have e := hd _ (getD_mem hi (0, 0))
    have a := ctxv_small hp.bit (w := w) (h := h) (x := x) (y := y) hl (show i ≤ l.length by omega)
    have b := px_01 (w := w) (h := h) hp.bit (x + (l.getD i (0, 0)).1) (y + (l.getD i (0, 0)).2)
    simp (disch := omega) only [S_generic_plane_context_b72_0, Sg_generic_plane_context_b72_0, dec_t, Int.toNat_natCast, wrap64, gat2 hp]
    rw [ctxv_take hi]
    rfl
  · simp (disch := omega) only [S_generic_plane_context_b72_0, Sg_generic_plane_context_b72_0, dec_f, List.take_length]
theorem above2 {fl : Nat} (hfl : 9223372036854775808 ≤ fl) {w h : Int} {p sp : List Int} (hp : Pix w h p) (hs : Sk w h sp) {sw sh : Int} {y : Nat} (hy : (y : Int) < h) {l : List (Int × Int)} {K} :
    F_generic_plane_above_3e8 fl (y : Int) sw sh sp w h p l K = K (w, h, p, l, aboveL w h p sp y) := by
  have hw0 := hp.w0; have hw1 := hp.w1; have hh1 := hp.h1; have hwh := hp.n
  unfold F_generic_plane_above_3e8 Fg_generic_plane_above_3e8 L_generic_plane_above_3e8_0
  rw [dec_t (by refine ⟨by omega, ?_, by omega, by omega⟩; first | rfl | trivial)]
  generalize hu : (fun x : Nat => if skb sp (y * w.toNat + x) = true then (0 : Int) else px w h p (x : Int) ((y : Int) - 1)) = u
  refine iter_seq (step := S_generic_plane_above_3e8_0 fl) (fun i : Nat => ((y : Int), w, (i : Int), w, h, p, l, sw, sh, sp, fillL u w.toNat i)) w.toNat (by
    rw [fillL_zero, List.length_replicate]
    simp
    omega) (fun i hi c => ?_) (fun c => ?_) (by omega)
  · obtain ⟨p1, p2, p3⟩ := place_nat (w := w) (h := h) (x := i) (y := y) (by omega) hy
    have hyw : 0 ≤ (y : Int) * w := Int.mul_nonneg (by omega) hw0
    have hui : u i = if skb sp (y * w.toNat + i) = true then (0 : Int) else px w h p (i : Int) ((y : Int) - 1) := by rw [← hu]
    simp only [S_generic_plane_above_3e8_0, Sg_generic_plane_above_3e8_0]
    rw [dec_t (by omega), w6 (x := (y : Int) * w), w6 (x := (y : Int) * w + (i : Int)), ← p1, skips_ok hs (by omega), w6 (x := (i : Int) + 1), w6 (x := (y : Int) - 1)]
    cases hsk : skb sp (y * w.toNat + i) with
    | true =>
      rw [cond_f (b := !true) rfl]
      rw [hsk, if_pos rfl] at hui
      rw [fillL_skip hui]
      rfl
    | false =>
      rw [hsk, if_neg (by simp)] at hui
      rw [cond_t (b := !false) rfl, gat2 hp]
      dsimp only
      rw [fillL_len, dec_t (by omega), Int.toNat_natCast, ← hui, fillL_set]
      rfl
  · simp only [S_generic_plane_above_3e8_0, Sg_generic_plane_above_3e8_0]
    rw [dec_f (by omega), fillL_all, ← hu]
    rfl
abbrev RowR := Int × Int × Int × Int × Int × Int × Int × Int × Int × Bool × Bool × List Int × List (Int × Int) × List Int × List Int
abbrev RowB := Int × Int × Int × Int × Int × Int × Int × Int × Bool × Bool × List Int × List (Int × Int) × List Int × List Int
section
variable {fl : Nat} {t ax ay kd base w h kx : Int} {ty : Bool} {sp code : List Int} {n : Nat}
theorem row_pix (hfl : 9223372036854775808 ≤ fl) {s : D} (hd : DOk t ax ay kd base w h kx sp code n s) (ho : s.ok = true) {sw sh : Int} {y : Nat} (hy : (y : Int) < h) {ret : RowR → Option Ans} {b : RowB → Option Ans} {s' : D} (hs' : dPixs t ax ay base w h kx sp code y s w.toNat = s') :
    L_generic_plane_row_894_0 fl (base, (y : Int), w, 0, w, h, kx, s.x.lo, s.x.hi, ((4 + s.k : Nat) : Int), win (strm code) s.k, byd code s.k, false, true, s.p, around t ax ay, s.x.st, code, sw, sh, sp) ret b
    = if s'.ok = true then b (w, h, kx, s'.x.lo, s'.x.hi, ((4 + s'.k : Nat) : Int), win (strm code) s'.k, byd code s'.k, false, true, s'.p, around t ax ay, s'.x.st, code)
      else ret (6, w, h, kx, s'.x.lo, s'.x.hi, ((4 + s'.k : Nat) : Int), win (strm code) s'.k, byd code s'.k, true, true, s'.p, around t ax ay, s'.x.st, code) := by
  subst hs'
  have hw0 := hd.r.p.w0; have hw1 := hd.r.p.w1; have hh1 := hd.r.p.h1; have hwh := hd.r.p.n
  unfold L_generic_plane_row_894_0
  generalize hS : (fun i => dPixs t ax ay base w h kx sp code y s i) = S
  have hS' : ∀ i, dPixs t ax ay base w h kx sp code y s i = S i := fun i => by rw [← hS]
  have hSs : ∀ i, S (i + 1) = if (S i).ok = true then dPix t ax ay base w h kx sp code y i (S i) else S i := fun i => by rw [← hS]; rfl
  have hSk : ∀ i, DOk t ax ay kd base w h kx sp code n (S i) := fun i => by rw [← hS]; exact dPixs_ok hd y i
  have h0 : S 0 = s := by rw [← hS]; rfl
  rw [hS' w.toNat, ← h0]
  rw [← h0] at ho
  clear hS hS' h0
  have hlen := (hSk 0).r.p.len
  refine iter_stop (step := S_generic_plane_row_894_0 fl) S (fun i : Nat => (base, (y : Int), w, (i : Int), w, h, kx, (S i).x.lo, (S i).x.hi, ((4 + (S i).k : Nat) : Int), win (strm code) (S i).k, byd code (S i).k, false, true, (S i).p, around t ax ay, (S i).x.st, code, sw, sh, sp)) w.toNat (fun i hi => by rw [hSs, if_neg (by rw [hi]; simp)]) (fun i hi o1 o2 c => ?_) (fun i hi o1 o2 hn c => ?_) (fun o c => ?_) ho (by omega)
  all_goals simp only [S_generic_plane_row_894_0, Sg_generic_plane_row_894_0]
  · obtain ⟨p1, p2, p3⟩ := place_nat (w := w) (h := h) (x := i) (y := y) (by omega) hy
    have hyw : 0 ≤ (y : Int) * w := Int.mul_nonneg (by omega) hw0
    have hk := hSk i
    obtain ⟨c0, c1⟩ := ctx_in hk.r (i : Int) (y : Int)
    have hlen' := hk.r.p.len
    have hb1 := hk.n1
    have hc1 := hk.cl
    have hkk := hk.k
    rw [dec_t (by omega), w6 (x := (y : Int) * w), w6 (x := (y : Int) * w + (i : Int)), ← p1, skips_ok hd.r.s (by omega), w6 (x := (i : Int) + 1)]
    have e := hSs i
    rw [if_pos o1] at e
    unfold dPix at e
    by_cases hsk : skb sp (y * w.toNat + i) = true
    · rw [if_pos hsk] at e
      rw [hsk, cond_t (b := true) rfl, e]
      rfl
    · rw [if_neg hsk] at e
      have hsk := Bool.eq_false_iff.2 hsk
      rw [hsk, cond_f (b := false) rfl, gcontext2 hfl hk.r.p (by omega) (by omega) (around_le t ax ay) (around_near hk.r.v)]
      dsimp only
      rw [w6 (x := base + _), Co.get_ok hfl hk.x c0 (by rw [hk.sl]; exact c1) hk.cb hk.cl (by omega)]
      cases hg : Co.get kx code (S i).x (S i).k (base + ctxv w h (S i).p (i : Int) (y : Int) (around t ax ay)) with
      | none =>
        rw [hg] at e
        rw [e] at o2
        exact absurd o2 (by simp)
      | some v =>
        obtain ⟨b', x', k'⟩ := v
        rw [hg] at e
        obtain ⟨g1, g2, g3, g4⟩ := get_some hk.x c0 (by rw [hk.sl]; exact c1) hg
        dsimp only
        rw [cond_f (b := (0 : Int) != 0) rfl, w6 (x := (y : Int) * w), w6 (x := (y : Int) * w + (i : Int)), ← p1, dec_t (by omega), Int.toNat_natCast, wrap8 (x := b') (by omega) (by omega), e]
        rfl
  · obtain ⟨p1, p2, p3⟩ := place_nat (w := w) (h := h) (x := i) (y := y) (by omega) hy
    have hyw : 0 ≤ (y : Int) * w := Int.mul_nonneg (by omega) hw0
    have hk := hSk i
    obtain ⟨c0, c1⟩ := ctx_in hk.r (i : Int) (y : Int)
    have hlen' := hk.r.p.len
    have hb1 := hk.n1
    have hc1 := hk.cl
    have hkk := hk.k
    rw [dec_t (by omega), w6 (x := (y : Int) * w), w6 (x := (y : Int) * w + (i : Int)), ← p1, skips_ok hd.r.s (by omega), w6 (x := (i : Int) + 1)]
    have e := hSs i
    rw [if_pos o1] at e
    unfold dPix at e
    by_cases hsk : skb sp (y * w.toNat + i) = true
    · rw [if_pos hsk] at e
      rw [e, o1] at o2
      exact absurd o2 (by simp)
    · rw [if_neg hsk] at e
      have hsk := Bool.eq_false_iff.2 hsk
      rw [hsk, cond_f (b := false) rfl, gcontext2 hfl hk.r.p (by omega) (by omega) (around_le t ax ay) (around_near hk.r.v)]
      dsimp only
      rw [w6 (x := base + _), Co.get_ok hfl hk.x c0 (by rw [hk.sl]; exact c1) hk.cb hk.cl (by omega)]
      cases hg : Co.get kx code (S i).x (S i).k (base + ctxv w h (S i).p (i : Int) (y : Int) (around t ax ay)) with
      | some v =>
        obtain ⟨b', x', k'⟩ := v
        rw [hg] at e
        rw [e] at o2
        exact absurd o2 (by simp)
      | none =>
        rw [hg] at e
        dsimp only
        rw [hn, if_neg (by rw [o2]; simp), e]
        rfl
  · rw [dec_f (by omega), if_pos o]
theorem wr_ok {w h : Int} {p r : List Int} (hp : Pix w h p) {y : Nat} (hy : (y : Int) < h) (hr : r.length = w.toNat) :
    List.take (loOf (some ((y : Int) * w))).toNat p ++ List.take (hiOf none (p.length : Int) - loOf (some ((y : Int) * w))).toNat r ++ List.drop ((loOf (some ((y : Int) * w))).toNat + min (hiOf none (p.length : Int) - loOf (some ((y : Int) * w))).toNat r.length) p = wrRow w y p r := by
  have hw0 := hp.w0
  have hlen := hp.len
  have h1 : ((y : Int) + 1) * w ≤ h * w := Int.mul_le_mul_of_nonneg_right (by omega) (by omega)
  rw [Int.add_mul, Int.one_mul, Int.mul_comm h w] at h1
  have h2 : ((y * w.toNat : Nat) : Int) = (y : Int) * w := by rw [Int.natCast_mul]; congr 1; omega
  have h3 : (loOf (some ((y : Int) * w))).toNat = y * w.toNat := by show ((y : Int) * w).toNat = _; omega
  have h4 : w.toNat ≤ (hiOf none (p.length : Int) - loOf (some ((y : Int) * w))).toNat := by show _ ≤ ((p.length : Int) - (y : Int) * w).toNat; omega
  unfold wrRow
  rw [h3, List.take_of_length_le (l := r) (by omega), Nat.min_eq_right (by omega), hr]
theorem row_ok (hfl : 9223372036854775808 ≤ fl) {s : D} (hd : DOk t ax ay kd base w h kx sp code n s) (ho : s.ok = true) {sw sh : Int} {y : Nat} (hy : (y : Int) < h) {K : RowR → Option Ans} {s' : D} (hs' : dRow t ax ay base w h kx ty sp code y s = s') :
    F_generic_plane_row_894 fl base t ax ay ty kd (y : Int) sw sh sp w h kx s.x.lo s.x.hi ((4 + s.k : Nat) : Int) (win (strm code) s.k) (byd code s.k) false true s.p (around t ax ay) s.x.st code K
    = K (if s'.ok = true then 0 else 6, w, h, kx, s'.x.lo, s'.x.hi, ((4 + s'.k : Nat) : Int), win (strm code) s'.k, byd code s'.k, !s'.ok, true, s'.p, around t ax ay, s'.x.st, code) := by
  have sz := size_eq (t := t)
  have hb0 := hd.r.b0; have hb1 := hd.r.b1; have hn1 := hd.n1; have hk := hd.k; have hcl := hd.cl
  have hw0 := hd.r.p.w0; have hw1 := hd.r.p.w1; have hh1 := hd.r.p.h1; have hwh := hd.r.p.n; have hlen := hd.r.p.len
  have hyw : 0 ≤ (y : Int) * w := Int.mul_nonneg (by omega) hw0
  have hyw2 : ((y : Int) + 1) * w ≤ h * w := Int.mul_le_mul_of_nonneg_right (by omega) (by omega)
  rw [Int.mul_comm h w] at hyw2
  have hyw3 : ((y : Int) + 1) * w = (y : Int) * w + w := by rw [Int.add_mul, Int.one_mul]
  unfold F_generic_plane_row_894 Fg_generic_plane_row_894
  unfold dRow at hs'
  cases ty with
  | false =>
    rw [if_neg (by simp)] at hs'
    rw [cond_false, row_pix hfl hd ho hy hs']
    cases s'.ok <;> rfl
  | true =>
    rw [if_pos rfl] at hs'
    rw [cond_true, gcontexts, w6 (x := base + (size t - 1)), Co.get_ok hfl hd.x (by omega) (by rw [hd.sl]; omega) hd.cb hd.cl (by omega)]
    cases hg : Co.get kx code s.x s.k (base + (size t - 1)) with
    | none =>
      rw [hg] at hs'
      dsimp only
      rw [cond_t (by rfl), ← hs']
      rfl
    | some v =>
      obtain ⟨b', x', k'⟩ := v
      rw [hg] at hs'
      obtain ⟨g1, g2, g3, g4⟩ := get_some hd.x (by omega) (by rw [hd.sl]; omega) hg
      dsimp only at hs' ⊢
      rw [cond_f (b := (0 : Int) != 0) rfl]
      simp only [both_same]
      by_cases hb : b' = 1
      · rw [if_pos hb] at hs'
        subst hb
        simp only [above2 hfl hd.r.p hd.r.s hy]
        rw [cond_t (b := (1 : Int) == 1) rfl, w6 (x := (y : Int) * w), dec_t (show (0 : Int) ≤ loOf (some ((y : Int) * w)) ∧ loOf (some ((y : Int) * w)) ≤ hiOf none (s.p.length : Int) ∧ hiOf none (s.p.length : Int) ≤ (s.p.length : Int) by simp only [loOf_some, hiOf]; omega)]
        simp only [both_same]
        rw [wr_ok hd.r.p hy (aboveL_len _ _ _ _ _), ← hs']
        rfl
      · rw [if_neg hb] at hs'
        rw [cond_f (b := b' == 1) (beq_eq_false_iff_ne.2 hb)]
        have hd2 : DOk t ax ay kd base w h kx sp code n ⟨true, s.p, x', k'⟩ := ⟨hd.r, g2, by rw [← hd.sl]; exact g3, g4, hd.n1, hd.cb, hd.cl⟩
        have hp := fun ret b => row_pix (s := ⟨true, s.p, x', k'⟩) (sw := sw) (sh := sh) hfl hd2 rfl hy (ret := ret) (b := b) hs'
        simp only at hp
        rw [hp]
        cases s'.ok <;> rfl
end
open Go Ev Bm Co
structure Skp (w h sw sh : Int) (sp : List Int) : Prop where
  v : valid sw sh sp = true
  z : ∀ v ∈ sp, 0 ≤ v
  s : (sw = 0 ∧ sh = 0) ∨ (sw = w ∧ sh = h)
theorem Skp.sk {w h sw sh : Int} {sp : List Int} (hs : Skp w h sw sh sp) : Sk w h sp := by
  have hp := (pix_of hs.v hs.z).len
  rcases hs.s with ⟨rfl, rfl⟩ | ⟨rfl, rfl⟩
  · left
    exact List.length_eq_zero_iff.1 (by omega)
  · exact .inr hp
theorem rskip {fl : Nat} {w h sw sh : Int} {sp : List Int} (hs : Skp w h sw sh sp) {x y : Nat} (hx : (x : Int) < w) (hy : (y : Int) < h) {K : Int → Option Ans} :
    F_ref05_At fl sw sh sp (x : Int) (y : Int) K = K (if skb sp (y * w.toNat + x) = true then 1 else 0) := by
  have hp := pix_of hs.v hs.z
  rw [at_p hp]
  congr 1
  rcases hs.s with ⟨rfl, rfl⟩ | ⟨rfl, rfl⟩
  · have : sp = [] := List.length_eq_zero_iff.1 (by have := hp.len; omega)
    subst this
    rw [skb_nil, if_neg (by simp)]
    unfold px
    rw [if_neg (by unfold ins; omega)]
  · rw [px_in hx hy]
    have := getD_01 hp.bit (y * sw.toNat + x)
    unfold skb
    by_cases h1 : sp.getD (y * sw.toNat + x) 0 = 1
    · rw [h1]; rfl
    · rw [decide_eq_false h1, if_neg (by simp)]; omega
theorem replicate_set (n i : Nat) : (List.replicate n (0 : Int)).set i 0 = List.replicate n 0 := by
  apply List.ext_getElem (by simp)
  intro j h1 h2
  simp [List.getElem_set]
theorem bnew0 {fl : Nat} (hfl : 9223372036854775808 ≤ fl) {w h : Int} (hf : fit w h = true) {K : Int × Int × Int × List Int → Option Ans} : F_bitmap_New fl w h 0 K = K (w, h, 0, List.replicate (w * h).toNat 0) := by
  obtain ⟨f1, f2, f3, f4, f5⟩ := fit_iff.1 hf
  have hm := Int.mul_nonneg f1 f2
  unfold F_bitmap_New Fg_bitmap_New F_bitmap_blank Fg_bitmap_blank
  rw [dec_f (by omega), dec_f (by omega), cond_f (b := (0 : Int) != 0) rfl, fits_ok, hf, cond_f (b := !true) rfl, w6 (x := w * h), dec_t (by refine ⟨by omega, ?_, by omega, by omega⟩; first | rfl | trivial)]
  dsimp only
  unfold L_bitmap_New_0
  refine iter_seq (step := S_bitmap_New_0 fl) (fun i : Nat => (0, 0, ((List.replicate (w * h).toNat (0 : Int)).length : Int), (i : Int), 0, 0, w, h, [], List.replicate (w * h).toNat 0)) (w * h).toNat rfl (fun i hi c => ?_) (fun c => ?_) (by omega)
  · simp only [S_bitmap_New_0, Sg_bitmap_New_0, List.length_replicate]
    rw [dec_t (by omega), dec_t (by omega), wrap64 (by omega) (by omega), wrap8 (by omega) (by omega), replicate_set]
    rfl
  · simp only [S_bitmap_New_0, Sg_bitmap_New_0, List.length_replicate]
    rw [dec_f (by omega)]
theorem bnew_bad {fl : Nat} (hfl : 9223372036854775808 ≤ fl) {w h : Int} (hf : fit w h = false) : ∃ e : Int, e ≠ 0 ∧ ∀ K : Int × Int × Int × List Int → Option Ans, F_bitmap_New fl w h 0 K = K (0, 0, e, []) := by
  unfold F_bitmap_New Fg_bitmap_New F_bitmap_blank Fg_bitmap_blank
  by_cases h1 : w < 0
  · exact ⟨2, by omega, fun K => by rw [dec_t h1]⟩
  by_cases h2 : h < 0
  · exact ⟨2, by omega, fun K => by rw [dec_f h1, dec_t h2]⟩
  refine ⟨4, by omega, fun K => ?_⟩
  rw [dec_f h1, dec_f h2, cond_f (b := (0 : Int) != 0) rfl, fits_ok, hf, cond_t (b := !false) rfl]
  dsimp only
  unfold L_bitmap_New_0
  refine iter_to (step := S_bitmap_New_0 fl) (fun i : Nat => (0, 4, (([] : List Int).length : Int), (i : Int), 0, 0, 0, 0, [], [])) 0 (fun i hi c => by omega) (fun c => ?_) (by omega)
  · simp only [S_bitmap_New_0, Sg_bitmap_New_0]
    rw [dec_f (by simp)]
theorem rbnew0 {fl : Nat} (hfl : 9223372036854775808 ≤ fl) {w h : Int} (hf : fit w h = true) {K : Int × Int × Int × List Int → Option Ans} : F_ref05_New fl w h 0 K = K (w, h, 0, List.replicate (w * h).toNat 0) := by
  obtain ⟨f1, f2, f3, f4, f5⟩ := fit_iff.1 hf
  have hm := Int.mul_nonneg f1 f2
  unfold F_ref05_New Fg_ref05_New F_ref05_make2
  rw [dec_f (by omega), dec_f (by omega), dec_f (by omega), dec_f (by omega), sides_ok, hf, cond_f (b := !true) rfl]
  unfold L_ref05_make2_0
  refine iter_seq (step := S_ref05_make2_0 fl) (fun i : Nat => (w, h, 0, (i : Int), 0, 0, w, h, [], List.replicate i 0)) (w * h).toNat rfl (fun i hi c => ?_) (fun c => ?_) (by omega)
  · simp only [S_ref05_make2_0]
    rw [w6 (x := w * h), dec_t (by omega), dec_t (by simp; omega), wrap64 (by omega) (by omega), wrap8 (by omega) (by omega), List.replicate_succ']
    rfl
  · simp only [S_ref05_make2_0]
    rw [w6 (x := w * h), dec_f (by omega)]
def gErr (t ax ay kd base w h sw sh : Int) (sp : List Int) (n : Nat) : Int :=
  if vr t ax ay kd = true then (if fit w h = true then (if valid sw sh sp = true then (if (sw = 0 ∧ sh = 0) ∨ (sw = w ∧ sh = h) then (if 0 ≤ base ∧ base + size t ≤ n then 0 else 2) else 2) else 30) else 30) else 2
def d0 (w h : Int) (x : Iv) (k : Nat) : D := ⟨true, List.replicate (w * h).toNat 0, x, k⟩
def gRes (t ax ay base w h kx : Int) (ty : Bool) (sp code : List Int) (e : Int) (x : Iv) (k : Nat) : (Int × Int × Int) × D :=
  if e = 0 then
    (if (dAll t ax ay base w h kx ty sp code (d0 w h x k) h.toNat).ok = true then ((w, h, 0), dAll t ax ay base w h kx ty sp code (d0 w h x k) h.toNat)
     else ((0, 0, 6), ⟨false, [], (dAll t ax ay base w h kx ty sp code (d0 w h x k) h.toNat).x, (dAll t ax ay base w h kx ty sp code (d0 w h x k) h.toNat).k⟩))
  else ((0, 0, e), ⟨true, [], x, k⟩)
section
variable {fl : Nat} {t ax ay kd base w h kx sw sh : Int} {ty : Bool} {sp code : List Int}
theorem pix_d0 (hf : fit w h = true) : Pix w h (List.replicate (w * h).toNat 0) := by
  obtain ⟨f1, f2, f3, f4, f5⟩ := fit_iff.1 hf
  have hm := Int.mul_nonneg f1 f2
  exact ⟨f1, f2, f3, f4, f5, by rw [List.length_replicate]; omega, fun v hv => by have := (List.mem_replicate.1 hv).2; omega⟩
theorem dOk0 (hv : vr t ax ay kd = true) (hf : fit w h = true) (hs : Sk w h sp) {x : Iv} {k : Nat} (hb : 0 ≤ base ∧ base + size t ≤ (x.st.length : Int)) (hx : x.Ok kx) (hn : x.st.length ≤ 8192) (cb : Bytes code) (cl : code.length ≤ 1000000) (hk : k ≤ code.length) :
    DOk t ax ay kd base w h kx sp code x.st.length (d0 w h x k) := ⟨⟨hv, pix_d0 hf, hs, hb.1, hb.2⟩, hx, rfl, hk, hn, cb, cl⟩
theorem gsides {K : Bool → Option Ans} : F_generic_sides fl sw sh sp w h K = K (decide ((sw = 0 ∧ sh = 0) ∨ (sw = w ∧ sh = h))) := by
  unfold F_generic_sides
  simp only [cb]
  repeat' split
  all_goals congr 1
  all_goals by_cases hh : sh = h <;> simp_all
theorem gfits {st : List Int} (hl : st.length ≤ 1000000) {K : Bool → Option Ans} : F_generic_fits fl kx st base t ax ay ty kd K = K (decide (0 ≤ base ∧ base + size t ≤ (st.length : Int))) := by
  have sz := size_eq (t := t)
  unfold F_generic_fits Fg_generic_fits
  by_cases h0 : base ≥ 0
  · rw [dec_t h0, gcontexts, w6 (x := (st.length : Int) - _), wrap64 (by omega) (by omega)]
    congr 1
    apply decide_eq_decide.2
    omega
  · rw [dec_f h0, decide_eq_false (by omega)]
theorem rroom (hv : vr t ax ay kd = true) {n : Nat} (hn : n ≤ 1000000) {K : Int → Option Ans} : F_ref07_room fl t ax ay ty kd base (n : Int) w h sw sh sp K = K (if (sw = 0 ∧ sh = 0) ∨ (sw = w ∧ sh = h) then (if 0 ≤ base ∧ base + size t ≤ (n : Int) then 0 else 2) else 2) := by
  have sz := size_eq (t := t)
  have tail : (bif decide (base < 0) then K 2 else bif decide (base > (n : Int)) then K 2 else bif decide (size t > IntKind.i64.wrap ((n : Int) - base)) then K 2 else K 0) = K (if 0 ≤ base ∧ base + size t ≤ (n : Int) then 0 else 2) := by
    by_cases h0 : base < 0
    · rw [dec_t h0, if_neg (by omega)]
    rw [dec_f h0]
    by_cases h1 : base > (n : Int)
    · rw [dec_t h1, if_neg (by omega)]
    rw [dec_f h1, wrap64 (by omega) (by omega)]
    by_cases h2 : size t > (n : Int) - base
    · rw [dec_t h2, if_neg (by omega)]
    · rw [dec_f h2, if_pos (by omega)]
  unfold F_ref07_room Fg_ref07_room F_ref07_none
  rw [rsize]
  unfold sizeR
  rw [if_pos hv]
  dsimp only
  rw [tail]
  simp only [cb, cn]
  by_cases h1 : sw = 0
  · by_cases h2 : sh = 0
    · rw [if_pos h1, if_pos (show (sw = 0 ∧ sh = 0) ∨ (sw = w ∧ sh = h) from .inl ⟨h1, h2⟩), cond_f (by simp [h2])]
    · rw [if_pos h1, cond_t (by simp [h2])]
      by_cases h3 : sw = w
      · rw [if_pos h3]
        by_cases h4 : sh = h
        · rw [if_pos h4, if_pos (show (sw = 0 ∧ sh = 0) ∨ (sw = w ∧ sh = h) from .inr ⟨h3, h4⟩)]
        · rw [if_neg h4, if_neg (show ¬ ((sw = 0 ∧ sh = 0) ∨ (sw = w ∧ sh = h)) by omega)]
      · rw [if_neg h3, if_neg (show ¬ ((sw = 0 ∧ sh = 0) ∨ (sw = w ∧ sh = h)) by omega)]
  · rw [if_neg h1, cond_t (by rfl)]
    by_cases h3 : sw = w
    · rw [if_pos h3]
      by_cases h4 : sh = h
      · rw [if_pos h4, if_pos (show (sw = 0 ∧ sh = 0) ∨ (sw = w ∧ sh = h) from .inr ⟨h3, h4⟩)]
      · rw [if_neg h4, if_neg (show ¬ ((sw = 0 ∧ sh = 0) ∨ (sw = w ∧ sh = h)) by omega)]
    · rw [if_neg h3, if_neg (show ¬ ((sw = 0 ∧ sh = 0) ∨ (sw = w ∧ sh = h)) by omega)]
theorem gget (hfl : 9223372036854775808 ≤ fl) {x : Iv} {k : Nat} (hx : x.Ok kx) (hn : x.st.length ≤ 8192) (hcb : Bytes code) (hcl : code.length ≤ 1000000) (hk : k ≤ code.length) (hz : ∀ v ∈ sp, 0 ≤ v)
    {K : Int × Int × Int × Int × Int × Int × Int × Int × Int × Bool × Bool × List Int × List Int × List Int → Option Ans} {e : Int} (he : gErr t ax ay kd base w h sw sh sp x.st.length = e) {R : (Int × Int × Int) × D} (hR : gRes t ax ay base w h kx ty sp code e x k = R) :
    F_generic_Get_fd3 fl base t ax ay ty kd w h sw sh sp kx x.lo x.hi ((4 + k : Nat) : Int) (win (strm code) k) (byd code k) false true x.st code K
    = K (R.1.1, R.1.2.1, R.1.2.2, kx, R.2.x.lo, R.2.x.hi, ((4 + R.2.k : Nat) : Int), win (strm code) R.2.k, byd code R.2.k, !R.2.ok, true, R.2.x.st, code, R.2.p) := by
  unfold F_generic_Get_fd3 Fg_generic_Get_fd3
  rw [Co.get_bad]
  dsimp only
  rw [cond_f (b := (2 : Int) == 7) rfl, gvalid]
  unfold gErr at he
  cases hv : vr t ax ay kd with
  | false =>
    rw [hv, if_neg (by simp)] at he
    subst he
    rw [gRes, if_neg (by omega)] at hR
    subst hR
    rfl
  | true =>
  rw [hv, if_pos rfl] at he
  rw [cond_f (b := !true) rfl]
  cases hf : fit w h with
  | false =>
    rw [hf, if_neg (by simp)] at he
    subst he
    rw [gRes, if_neg (by omega)] at hR
    subst hR
    obtain ⟨e, e1, e2⟩ := bnew_bad hfl hf
    rw [e2]
    dsimp only
    rw [cond_t (by simp [e1])]
    rfl
  | true =>
  rw [hf, if_pos rfl] at he
  obtain ⟨f1, f2, f3, f4, f5⟩ := fit_iff.1 hf
  rw [bnew0 hfl hf]
  dsimp only
  rw [cond_f (b := (0 : Int) != 0) rfl, valid_ok hfl]
  cases hsv : valid sw sh sp with
  | false =>
    rw [hsv, if_neg (by simp)] at he
    subst he
    rw [gRes, if_neg (by omega)] at hR
    subst hR
    rfl
  | true =>
  rw [hsv, if_pos rfl] at he
  rw [cond_f (b := !true) rfl, gsides]
  by_cases hsd : (sw = 0 ∧ sh = 0) ∨ (sw = w ∧ sh = h)
  rotate_left
  · rw [if_neg hsd] at he
    subst he
    rw [gRes, if_neg (by omega)] at hR
    subst hR
    rw [decide_eq_false hsd]
    rfl
  rw [if_pos hsd] at he
  rw [decide_eq_true hsd, cond_f (b := !true) rfl]
  unfold F_coder_Decoder_Model_40a Fg_coder_Decoder_Model_40a F_coder_Decoder_none_40a
  dsimp only
  rw [cond_f (b := !true) rfl, clone_ok (by omega)]
  dsimp only
  rw [gfits (by omega)]
  by_cases hb : 0 ≤ base ∧ base + size t ≤ (x.st.length : Int)
  rotate_left
  · rw [if_neg hb] at he
    subst he
    rw [gRes, if_neg (by omega)] at hR
    subst hR
    rw [decide_eq_false hb]
    rfl
  rw [if_pos hb] at he
  subst he
  rw [gRes, if_pos rfl] at hR
  have hsk : Skp w h sw sh sp := ⟨hsv, hz, hsd⟩
  have hd := dOk0 hv hf hsk.sk hb hx hn hcb hcl hk
  rw [decide_eq_true hb, cond_f (b := !true) rfl, gplane (Int.mul_nonneg f1 f2) (by omega)]
  dsimp only
  unfold L_generic_Get_fd3_0
  generalize hS : (fun i => dAll t ax ay base w h kx ty sp code (d0 w h x k) i) = S at *
  have hS' : ∀ i, dAll t ax ay base w h kx ty sp code (d0 w h x k) i = S i := fun i => by rw [← hS]
  have hSs : ∀ i, S (i + 1) = if (S i).ok = true then dRow t ax ay base w h kx ty sp code i (S i) else S i := fun i => by rw [← hS]; rfl
  have hSk : ∀ i : Nat, (i : Int) ≤ h → DOk t ax ay kd base w h kx sp code x.st.length (S i) := fun i hi => by rw [← hS]; exact dAll_ok hd i hi
  have h0 : S 0 = d0 w h x k := by rw [← hS]; rfl
  rw [hS'] at hR
  refine iter_stops (step := S_generic_Get_fd3_0 fl) S (fun i : Nat => (base, w, h, h, (i : Int), kx, (S i).x.lo, (S i).x.hi, ((4 + (S i).k : Nat) : Int), win (strm code) (S i).k, byd code (S i).k, false, true, (S i).x.st, code, t, ax, ay, ty, kd, sw, sh, sp, 0, 0, w, h, [], (S i).p, around t ax ay)) h.toNat (by simp only [h0]; rfl) (fun i hi => by rw [hSs, if_neg (by rw [hi]; simp)]) (fun i hi o1 o2 c => ?_) (fun i hi o1 o2 hn c => ?_) (fun o c => ?_) (by rw [h0]; rfl) (by omega)
  all_goals simp only [S_generic_Get_fd3_0, Sg_generic_Get_fd3_0]
  · have hk' := hSk i (by omega)
    have e := hSs i
    rw [if_pos o1] at e
    rw [dec_t (by omega), row_ok hfl hk' o1 (by omega) e.symm]
    dsimp only
    rw [o2, if_pos rfl, cond_f (b := (0 : Int) != 0) rfl, wrap64 (by omega) (by omega)]
    rfl
  · have hk' := hSk i (by omega)
    have e := hSs i
    rw [if_pos o1] at e
    rw [dec_t (by omega), row_ok hfl hk' o1 (by omega) e.symm]
    dsimp only
    rw [hn, if_neg (by rw [o2]; simp)] at hR
    rw [o2, if_neg (by simp), cond_t (by rfl), ← hR]
    try rfl
  · rw [dec_f (by omega)]
    rw [if_pos o] at hR
    rw [← hR]
    dsimp only
    rw [o]
    rfl
end
open Go Ev Bm Co
def White (sp p : List Int) : Prop := ∀ i, skb sp i = true → p.getD i 0 = 0
theorem white_zeros (sp : List Int) (n : Nat) : White sp (List.replicate n 0) := fun i _ => by
  rw [List.getD_eq_getElem?_getD, List.getElem?_replicate]
  split <;> rfl
theorem White.set {sp p : List Int} (hw : White sp p) {i : Nat} (hi : skb sp i = false) (b : Int) : White sp (p.set i b) := fun j hj => by
  have hij : i ≠ j := by
    intro e
    subst e
    rw [hi] at hj
    exact absurd hj (by simp)
  rw [List.getD_eq_getElem?_getD, List.getElem?_set, if_neg hij, ← List.getD_eq_getElem?_getD]
  exact hw j hj
theorem White.wr {w h : Int} {sp p : List Int} (hp : Pix w h p) (hw : White sp p) {y : Nat} (hy : (y : Int) < h) : White sp (wrRow w y p (aboveL w h p sp y)) := fun j hj => by
  have hw0 := hp.w0
  have hlen := hp.len
  have h1 : ((y : Int) + 1) * w ≤ h * w := Int.mul_le_mul_of_nonneg_right (by omega) (by omega)
  rw [Int.add_mul, Int.one_mul, Int.mul_comm h w] at h1
  have h2 : ((y * w.toNat : Nat) : Int) = (y : Int) * w := by rw [Int.natCast_mul]; congr 1; omega
  have h3 : y * w.toNat + w.toNat ≤ p.length := by omega
  have hj' := hw j hj
  have hal := aboveL_len w h p sp y
  rw [List.getD_eq_getElem?_getD] at hj' ⊢
  unfold wrRow
  rw [List.append_assoc, List.getElem?_append, List.length_take, Nat.min_eq_left (by omega)]
  by_cases c1 : j < y * w.toNat
  · rw [if_pos c1, List.getElem?_take, if_pos c1]
    exact hj'
  · rw [if_neg c1, List.getElem?_append, hal]
    by_cases c2 : j - y * w.toNat < w.toNat
    · rw [if_pos c2]
      have hsk : skb sp (y * w.toNat + (j - y * w.toNat)) = true := by rw [show y * w.toNat + (j - y * w.toNat) = j by omega]; exact hj
      unfold aboveL
      rw [List.getElem?_map, List.getElem?_range c2]
      show (if skb sp (y * w.toNat + (j - y * w.toNat)) = true then (0 : Int) else _) = 0
      rw [if_pos hsk]
    · rw [if_neg c2, List.getElem?_drop, show y * w.toNat + w.toNat + (j - y * w.toNat - w.toNat) = j by omega]
      exact hj'
section
variable {t ax ay kd base w h kx : Int} {ty : Bool} {sp code : List Int} {n : Nat}
theorem dPix_white {s : D} (hw : White sp s.p) (y x : Nat) : White sp (dPix t ax ay base w h kx sp code y x s).p := by
  unfold dPix
  split
  · exact hw
  · rename_i hs
    split
    · exact hw.set (Bool.eq_false_iff.2 hs) _
    · exact hw
theorem dPixs_white {s : D} (hw : White sp s.p) (y : Nat) : ∀ m, White sp (dPixs t ax ay base w h kx sp code y s m).p
  | 0 => hw
  | m + 1 => by
    unfold dPixs
    split
    · exact dPix_white (dPixs_white hw y m) y m
    · exact dPixs_white hw y m
theorem dRow_white {s : D} (hp : Pix w h s.p) (hw : White sp s.p) {y : Nat} (hy : (y : Int) < h) : White sp (dRow t ax ay base w h kx ty sp code y s).p := by
  unfold dRow
  split
  · split
    · split
      · exact White.wr hp hw hy
      · exact dPixs_white (s := ⟨true, s.p, _, _⟩) hw y _
    · exact hw
  · exact dPixs_white hw y _
theorem dAll_white {s : D} (hd : DOk t ax ay kd base w h kx sp code n s) (hw : White sp s.p) : ∀ m : Nat, (m : Int) ≤ h → White sp (dAll t ax ay base w h kx ty sp code s m).p
  | 0, _ => hw
  | m + 1, hm => by
    unfold dAll
    split
    · exact dRow_white (dAll_ok hd m (by omega)).r.p (dAll_white hd hw m (by omega)) (by omega)
    · exact dAll_white hd hw m (by omega)
end
theorem put_bad {fl : Nat} {b kd lo hi : Int} {st out : List Int} {k0 k1 : Int × Int × Int × Int × Bool × List Int × List Int → Option Ans} :
    F_coder_Encoder_Put_cf0 fl (-1) b kd lo hi true st out k0 k1 = k0 (2, kd, lo, hi, true, st, out) := by
  unfold F_coder_Encoder_Put_cf0 Fg_coder_Encoder_Put_cf0 F_coder_Encoder_none_a20
  dsimp only
  rw [cond_f (b := !true) rfl, dec_t (by omega)]
theorem clash_none {fl : Nat} (hfl : 9223372036854775808 ≤ fl) {w h sw sh : Int} {p sp : List Int} (hp : Pix w h p) (hs : Sk w h sp) (hw : White sp p) {K : Bool → Option Ans} : F_generic_clash fl w h p sw sh sp K = K false := by
  have hn := hp.n; have hlen := hp.len
  unfold F_generic_clash Fg_generic_clash L_generic_clash_0
  refine iter_to (step := S_generic_clash_0 fl) (fun i : Nat => (p, (p.length : Int), (i : Int), w, h, p, sw, sh, sp)) p.length (fun i hi c => ?_) (fun c => ?_) (by omega)
  · simp only [S_generic_clash_0, Sg_generic_clash_0]
    rw [dec_t (by omega), dec_t (by omega), Int.toNat_natCast, wrap64 (by omega) (by omega)]
    by_cases h1 : p.getD i 0 = 1
    · have hk : skb sp i = false := by
        cases hk : skb sp i with
        | false => rfl
        | true =>
          have := hw i hk
          omega
      rw [h1, cond_t (b := (1 : Int) == 1) rfl, gsides, skips_ok hs (by omega), hk]
      cases decide ((sw = 0 ∧ sh = 0) ∨ (sw = w ∧ sh = h)) <;> rfl
    · rw [cond_f (b := p.getD i 0 == 1) (beq_eq_false_iff_ne.2 h1)]
      rfl
  · simp only [S_generic_clash_0, Sg_generic_clash_0]
    rw [dec_f (by omega)]
open Go Ev Bm Co
theorem rput_pix2 {fl : Nat} (hfl : 9223372036854775808 ≤ fl) {t ax ay kd base w h sw sh : Int} {p sp : List Int} {kx : Int} {x : Iv} (hx : x.Ok kx) (hr : Reg t ax ay kd base w h p sp x.st.length) (hsk : Skp w h sw sh sp) (hn : x.st.length ≤ 8192) {out : List Int} (ho : out.length ≤ 1000000) {ty : Bool} {n : Int} {y : Nat} (hy : (y : Int) < h) {K} :
    L_ref07_Put_6c1_6 fl (base, n, (y : Int), 0, kx, x.lo, x.hi, x.st, out, t, ax, ay, ty, kd, w, h, p, sw, sh, sp) K
    = K (base, n, (y : Int), kx, (run kx x out (pixEvs t ax ay base w h p sp y w.toNat)).1.lo, (run kx x out (pixEvs t ax ay base w h p sp y w.toNat)).1.hi, (run kx x out (pixEvs t ax ay base w h p sp y w.toNat)).1.st, (run kx x out (pixEvs t ax ay base w h p sp y w.toNat)).2, t, ax, ay, ty, kd, w, h, p, sw, sh, sp) := by
  have hw0 := hr.p.w0; have hw1 := hr.p.w1; have hh1 := hr.p.h1; have hwh := hr.p.n; have hlen := hr.p.len
  unfold L_ref07_Put_6c1_6
  refine iter_to (step := S_ref07_Put_6c1_6 fl) (fun i : Nat => (base, n, (y : Int), (i : Int), kx, (run kx x out (pixEvs t ax ay base w h p sp y i)).1.lo, (run kx x out (pixEvs t ax ay base w h p sp y i)).1.hi, (run kx x out (pixEvs t ax ay base w h p sp y i)).1.st, (run kx x out (pixEvs t ax ay base w h p sp y i)).2, t, ax, ay, ty, kd, w, h, p, sw, sh, sp)) w.toNat (fun i hi c => ?_) (fun c => ?_) (by omega)
  · obtain ⟨e1, e2⟩ := pixEvs_ok hr y i
    obtain ⟨g1, g2⟩ := pixEv_ok hr y i
    obtain ⟨ok, okl⟩ := run_ok (pixEvs t ax ay base w h p sp y i) (out := out) hx e1
    have hol := run_len_le (pixEvs t ax ay base w h p sp y i) (kd := kx) (x := x) (out := out)
    have er : run kx x out (pixEvs t ax ay base w h p sp y (i + 1)) = run kx (run kx x out (pixEvs t ax ay base w h p sp y i)).1 (run kx x out (pixEvs t ax ay base w h p sp y i)).2 (pixEv t ax ay base w h p sp y i) := run_append kx _ _ _ _
    simp only [S_ref07_Put_6c1_6, Sg_ref07_Put_6c1_6]
    rw [er]
    generalize run kx x out (pixEvs t ax ay base w h p sp y i) = R at *
    obtain ⟨X, O⟩ := R
    simp only at ok okl hol ⊢
    have hpx := px_in (w := w) (h := h) (p := p) (x := i) (y := y) (by omega) hy
    unfold pixEv at g1 ⊢
    by_cases hk : skb sp (y * w.toNat + i) = true
    · rw [dec_t (by omega), w6 (x := (i : Int) + 1), rskip hsk (by omega) hy, if_pos hk, if_pos hk, cond_f (b := (1 : Int) == 0) rfl]
      rfl
    rw [if_neg hk] at g1
    obtain ⟨c0, c1, c2⟩ := g1 _ (List.mem_singleton.2 rfl)
    simp only at c0 c1 c2
    rw [dec_t (by omega), w6 (x := (i : Int) + 1), rskip hsk (by omega) hy, if_neg hk, if_neg hk, cond_t (b := (0 : Int) == 0) rfl, rcontext hfl hr.p hr.v (by omega) (by omega), at_p hr.p, hpx]
    try dsimp only
    rw [w6 (x := base + _), Co.rput_ok hfl ok c0 (by omega) c2 (by omega)]
    rfl
  · simp only [S_ref07_Put_6c1_6, Sg_ref07_Put_6c1_6]
    rw [dec_f (by omega)]
theorem rput_all2 {fl : Nat} (hfl : 9223372036854775808 ≤ fl) {t ax ay kd base w h sw sh : Int} {p sp : List Int} {kx : Int} {x : Iv} (hx : x.Ok kx) (hr : Reg t ax ay kd base w h p sp x.st.length) (hsk : Skp w h sw sh sp) (hn : x.st.length ≤ 8192) {out : List Int} (ho : out.length ≤ 500000) {K} :
    L_ref07_Put_6c1_4 fl (base, size t, 0, kx, x.lo, x.hi, x.st, out, t, ax, ay, false, kd, w, h, p, sw, sh, sp) K
    = K (kx, (run kx x out (allEv t ax ay base w h false p sp h.toNat)).1.lo, (run kx x out (allEv t ax ay base w h false p sp h.toNat)).1.hi, (run kx x out (allEv t ax ay base w h false p sp h.toNat)).1.st, (run kx x out (allEv t ax ay base w h false p sp h.toNat)).2) := by
  have hw0 := hr.p.w0; have hw1 := hr.p.w1; have hh0 := hr.p.h0; have hh1 := hr.p.h1; have hwh := hr.p.n; have hlen := hr.p.len
  have sz := size_eq (t := t)
  have hb0 := hr.b0; have hb1 := hr.b1
  unfold L_ref07_Put_6c1_4
  refine iter_to (step := S_ref07_Put_6c1_4 fl) (fun i : Nat => (base, size t, (i : Int), kx, (run kx x out (allEv t ax ay base w h false p sp i)).1.lo, (run kx x out (allEv t ax ay base w h false p sp i)).1.hi, (run kx x out (allEv t ax ay base w h false p sp i)).1.st, (run kx x out (allEv t ax ay base w h false p sp i)).2, t, ax, ay, false, kd, w, h, p, sw, sh, sp)) h.toNat (fun y hi c => ?_) (fun c => ?_) (by omega)
  · have hy : (y : Int) < h := by omega
    obtain ⟨e1, e2⟩ := allEv_ok hr false y
    have e2' : (allEv t ax ay base w h false p sp y).length ≤ 201 * 200 := Nat.le_trans e2 (Nat.mul_le_mul (by omega) (by omega))
    obtain ⟨ok, okl⟩ := run_ok (allEv t ax ay base w h false p sp y) (out := out) hx e1
    have hol := run_len_le (allEv t ax ay base w h false p sp y) (kd := kx) (x := x) (out := out)
    have er : run kx x out (allEv t ax ay base w h false p sp (y + 1)) = run kx (run kx x out (allEv t ax ay base w h false p sp y)).1 (run kx x out (allEv t ax ay base w h false p sp y)).2 (rowEv t ax ay base w h false p sp y) := run_append kx _ _ _ _
    simp only [S_ref07_Put_6c1_4, Sg_ref07_Put_6c1_4, both_same]
    rw [er]
    generalize run kx x out (allEv t ax ay base w h false p sp y) = R at *
    obtain ⟨X, O⟩ := R
    simp only at ok okl hol ⊢
    have hrX : Reg t ax ay kd base w h p sp X.st.length := ⟨hr.v, hr.p, hr.s, hr.b0, by rw [okl]; exact hr.b1⟩
    rw [dec_t (by omega)]
    unfold rowEv
    rw [cond_false, if_neg (by simp), rput_pix2 hfl ok hrX hsk (by omega) (by omega) hy]
    dsimp only
    rw [w6 (x := (y : Int) + 1)]
    rfl
  · simp only [S_ref07_Put_6c1_4, Sg_ref07_Put_6c1_4]
    rw [dec_f (by omega)]
theorem rclash {fl : Nat} (hfl : 9223372036854775808 ≤ fl) {t ax ay kd base w h sw sh kx lo hi : Int} {ty : Bool} {p sp st out : List Int} (hp : Pix w h p) (hsk : Skp w h sw sh sp) (hw : White sp p) (ret b) :
    L_ref07_Put_6c1_0 fl (base, 0, kx, lo, hi, st, out, t, ax, ay, ty, kd, w, h, p, sw, sh, sp) ret b = b (base, kx, lo, hi, st, out, t, ax, ay, ty, kd, w, h, p, sw, sh, sp) := by
  have hw0 := hp.w0; have hw1 := hp.w1; have hh0 := hp.h0; have hh1 := hp.h1
  unfold L_ref07_Put_6c1_0
  have hend : ∀ (i : Nat) (f : Nat), (¬ (i : Int) < h ∨ ¬ (w = sw ∧ h = sh)) → iter (S_ref07_Put_6c1_0 fl) (f + 1) (base, (i : Int), kx, lo, hi, st, out, t, ax, ay, ty, kd, w, h, p, sw, sh, sp) (ret, b) = b (base, kx, lo, hi, st, out, t, ax, ay, ty, kd, w, h, p, sw, sh, sp) := by
    intro i f hh
    simp only [iter, S_ref07_Put_6c1_0, Sg_ref07_Put_6c1_0]
    by_cases h1 : (i : Int) < h
    · rw [dec_t h1, cb]
      by_cases h2 : w = sw
      · rw [if_pos h2, cb, if_neg (by omega)]
      · rw [if_neg h2]
    · rw [dec_f h1]
  obtain ⟨f, hf⟩ : ∃ f, fl = f + 1 := ⟨fl - 1, by omega⟩
  by_cases hs : w = sw ∧ h = sh
  rotate_left
  · have := hend 0 f (.inr hs)
    rw [hf] at this ⊢
    exact this
  obtain ⟨rfl, rfl⟩ := hs
  refine iter_to (step := S_ref07_Put_6c1_0 fl) (fun i : Nat => (base, (i : Int), kx, lo, hi, st, out, t, ax, ay, ty, kd, w, h, p, w, h, sp)) h.toNat (fun y hy c => ?_) (fun c => ?_) (by omega)
  · have hy' : (y : Int) < h := by omega
    simp only [S_ref07_Put_6c1_0, Sg_ref07_Put_6c1_0]
    rw [dec_t hy', cond_t (by simp), cond_t (by simp)]
    unfold L_ref07_Put_6c1_2
    refine iter_to (step := S_ref07_Put_6c1_2 fl) (fun i : Nat => (base, (y : Int), (i : Int), kx, lo, hi, st, out, t, ax, ay, ty, kd, w, h, p, w, h, sp)) w.toNat (fun i hi' c => ?_) (fun c => ?_) (by omega)
    · simp only [S_ref07_Put_6c1_2, Sg_ref07_Put_6c1_2]
      rw [dec_t (by omega), at_p hp, px_in (by omega) hy', w6 (x := (i : Int) + 1), rskip hsk (by omega) hy']
      by_cases h1 : p.getD (y * w.toNat + i) 0 = 1
      · have hk : ¬ skb sp (y * w.toNat + i) = true := fun hk => by
          have := hw _ hk
          omega
        rw [cond_t (b := p.getD (y * w.toNat + i) 0 == 1) (beq_iff_eq.2 h1), if_neg hk, cond_f (b := (0 : Int) == 1) rfl]
        rfl
      · rw [cond_f (b := p.getD (y * w.toNat + i) 0 == 1) (beq_eq_false_iff_ne.2 h1)]
        rfl
    · simp only [S_ref07_Put_6c1_2, Sg_ref07_Put_6c1_2]
      rw [dec_f (by omega), wrap64 (by omega) (by omega)]
      rfl
  · simp only [S_ref07_Put_6c1_0, Sg_ref07_Put_6c1_0]
    rw [dec_f (by omega)]
theorem rput_reg2 {fl : Nat} (hfl : 9223372036854775808 ≤ fl) {t ax ay kd base w h sw sh : Int} {p sp : List Int} {kx : Int} {x : Iv} (hx : x.Ok kx) (hr : Reg t ax ay kd base w h p sp x.st.length) (hsk : Skp w h sw sh sp) (hw : White sp p) (hn : x.st.length ≤ 8192) {out : List Int} (ho : out.length ≤ 500000) {k0 k1} :
    F_ref07_Put_6c1 fl base t ax ay false kd w h p sw sh sp kx x.lo x.hi x.st out k0 k1
    = k1 (0, kx, (run kx x out (allEv t ax ay base w h false p sp h.toNat)).1.lo, (run kx x out (allEv t ax ay base w h false p sp h.toNat)).1.hi, (run kx x out (allEv t ax ay base w h false p sp h.toNat)).1.st, (run kx x out (allEv t ax ay base w h false p sp h.toNat)).2) := by
  have hval : valid w h p = true := valid_iff.2 ⟨⟨hr.p.w0, hr.p.h0, hr.p.w1, hr.p.h1, hr.p.n⟩, hr.p.len, fun v hv => (hr.p.bit v hv).2⟩
  unfold F_ref07_Put_6c1 Fg_ref07_Put_6c1
  rw [rvalid, hr.v, cond_f (b := !true) rfl, rvalid_ok hfl, hval, cond_f (b := !true) rfl, rvalid_ok hfl, hsk.v, cond_f (b := !true) rfl, rclash hfl hr.p hsk hw]
  dsimp only
  rw [Co.remodel_ok (by omega)]
  dsimp only
  rw [rroom hr.v (by omega), if_pos hsk.s, if_pos ⟨hr.b0, hr.b1⟩, cond_f (b := (0 : Int) != 0) rfl, rsize]
  unfold sizeR
  rw [if_pos hr.v]
  dsimp only
  rw [rput_all2 hfl hx hr hsk hn ho]
theorem gput2 {fl : Nat} (hfl : 9223372036854775808 ≤ fl) {t ax ay kd base w h sw sh : Int} {ty : Bool} {p sp : List Int} {kx : Int} {x : Iv} (hx : x.Ok kx) (hr : Reg t ax ay kd base w h p sp x.st.length) (hn : x.st.length ≤ 8192) (hs : Skp w h sw sh sp) (hw : White sp p) {out : List Int} (ho : out.length ≤ 500000)
    {r : Option Ans} {k0 k1 : Int × Int × Int × Int × Bool × List Int × List Int → Option Ans} (h0 : k0 (0, kx, (run kx x out (allEv t ax ay base w h ty p sp h.toNat)).1.lo, (run kx x out (allEv t ax ay base w h ty p sp h.toNat)).1.hi, true, (run kx x out (allEv t ax ay base w h ty p sp h.toNat)).1.st, (run kx x out (allEv t ax ay base w h ty p sp h.toNat)).2) = r) (h1 : k1 (0, kx, (run kx x out (allEv t ax ay base w h ty p sp h.toNat)).1.lo, (run kx x out (allEv t ax ay base w h ty p sp h.toNat)).1.hi, true, (run kx x out (allEv t ax ay base w h ty p sp h.toNat)).1.st, (run kx x out (allEv t ax ay base w h ty p sp h.toNat)).2) = r) :
    F_generic_Put_d0e fl base t ax ay ty kd w h p sw sh sp kx x.lo x.hi true x.st out k0 k1 = r := by
  have hval : valid w h p = true := valid_iff.2 ⟨⟨hr.p.w0, hr.p.h0, hr.p.w1, hr.p.h1, hr.p.n⟩, hr.p.len, fun v hv => (hr.p.bit v hv).2⟩
  unfold F_generic_Put_d0e Fg_generic_Put_d0e
  rw [put_bad]
  dsimp only
  rw [cond_f (b := (2 : Int) == 7) rfl, gvalid, hr.v, cond_f (b := !true) rfl, valid_ok hfl, hval, cond_f (b := !true) rfl, valid_ok hfl, hs.v, cond_f (b := !true) rfl, clash_none hfl hr.p hr.s hw, cond_f (b := false) rfl, gsides, decide_eq_true hs.s, cond_f (b := !true) rfl, Co.emodel_ok (by omega)]
  dsimp only
  rw [gfits (by omega), decide_eq_true ⟨hr.b0, hr.b1⟩, cond_f (b := !true) rfl, put_reg hfl hx hr hn ho]
  first | exact h1 | exact h0
open Go Ev Bm Co
def iv0 (t : Int) : Iv := ⟨List.replicate (size t).toNat 0, 0, 4294967295⟩
theorem vr_kd {t ax ay kd : Int} (hv : vr t ax ay kd = true) : kd = 0 ∨ kd = 1 := (vr_iff.1 hv).2.2.1
theorem newR_ok {t ax ay kd : Int} (hv : vr t ax ay kd = true) : newR kd (size t) = (kd, 0, List.replicate (size t).toNat 0) := by
  have sz := size_eq (t := t)
  unfold newR
  rw [if_pos ⟨vr_kd hv, by omega, by omega⟩]
theorem iv0_vM {t ax ay kd : Int} (hv : vr t ax ay kd = true) : vM kd (List.replicate (size t).toNat 0) = true := vM_zeros (vr_kd hv) (by have sz := size_eq (t := t); omega)
theorem iv0_ok {t ax ay kd : Int} (hv : vr t ax ay kd = true) : (iv0 t).Ok kd := ok_new (iv0_vM hv)
theorem reg0 {t ax ay kd w h : Int} {p : List Int} (hv : vr t ax ay kd = true) (hp : Pix w h p) : Reg t ax ay kd 0 w h p [] (iv0 t).st.length :=
  ⟨hv, hp, .inl rfl, by omega, by have sz := size_eq (t := t); show 0 + size t ≤ ((List.replicate (size t).toNat (0 : Int)).length : Int); rw [List.length_replicate]; omega⟩
theorem iv0_len (t : Int) : (iv0 t).st.length ≤ 8192 := by
  have sz := size_eq (t := t)
  show (List.replicate (size t).toNat (0 : Int)).length ≤ 8192
  rw [List.length_replicate]
  omega
open Go Ev Bm Co
open Go Ev Bm Co
open Go Ev Bm Co
def upTo (p : List Int) (i : Nat) : List Int := p.take i ++ List.replicate (p.length - i) 0
theorem upTo_len (p : List Int) {i : Nat} (h : i ≤ p.length) : (upTo p i).length = p.length := by
  unfold upTo
  rw [List.length_append, List.length_take, List.length_replicate]
  omega
theorem upTo_getD (p : List Int) {i : Nat} (h : i ≤ p.length) (j : Nat) : (upTo p i).getD j 0 = if j < i then p.getD j 0 else 0 := by
  unfold upTo
  simp only [List.getD_eq_getElem?_getD, List.getElem?_append, List.length_take, List.getElem?_take, List.getElem?_replicate]
  rw [Nat.min_eq_left h]
  split
  · rfl
  · split <;> rfl
theorem upTo_set {p : List Int} {i : Nat} (h : i < p.length) : (upTo p i).set i (p.getD i 0) = upTo p (i + 1) := by
  apply list_ext_getD 0
  · rw [List.length_set, upTo_len _ (by omega), upTo_len _ (by omega)]
  · intro j hj
    rw [List.length_set, upTo_len _ (by omega)] at hj
    rw [upTo_getD _ (by omega), List.getD_eq_getElem?_getD, List.getElem?_set]
    by_cases hji : i = j
    · subst hji
      rw [if_pos rfl, if_pos (by rw [upTo_len _ (by omega)]; exact h), if_pos (by omega)]
      rfl
    · rw [if_neg hji, ← List.getD_eq_getElem?_getD, upTo_getD _ (by omega)]
      by_cases hlt : j < i
      · rw [if_pos hlt, if_pos (by omega)]
      · rw [if_neg hlt, if_neg (by omega)]
theorem upTo_zero (p : List Int) : upTo p 0 = List.replicate p.length 0 := by simp [upTo]
theorem upTo_all (p : List Int) : upTo p p.length = p := by simp [upTo]
theorem px_upTo {w h : Int} {p : List Int} {i : Nat} (hi : i ≤ p.length) {x y : Int} (hx : ins w h x y → (y * w + x).toNat < i) : px w h (upTo p i) x y = px w h p x y := by
  unfold px
  by_cases hin : ins w h x y
  · rw [if_pos hin, if_pos hin, upTo_getD _ hi, if_pos (hx hin)]
  · rw [if_neg hin, if_neg hin]
theorem ctxv_congr {w h : Int} {p p' : List Int} {x y : Int} {l : List (Int × Int)} (hd : ∀ d ∈ l, px w h p (x + d.1) (y + d.2) = px w h p' (x + d.1) (y + d.2)) : ctxv w h p x y l = ctxv w h p' x y l := by
  unfold ctxv
  generalize (0 : Int) = a
  induction l generalizing a with
  | nil => rfl
  | cons d l ih =>
    rw [List.foldl_cons, List.foldl_cons, hd d (by simp)]
    exact ih (fun e he => hd e (by simp [he])) _
theorem tpl_before (t : Int) : ∀ d ∈ tpl t, d.2 < 0 ∨ (d.2 = 0 ∧ d.1 < 0) := by
  unfold tpl
  repeat' split
  all_goals decide
theorem around_before {t ax ay kd : Int} (hv : vr t ax ay kd = true) : ∀ d ∈ around t ax ay, d.2 < 0 ∨ (d.2 = 0 ∧ d.1 < 0) := by
  obtain ⟨_, _, _, v1, v2, v3, v4, v5⟩ := vr_iff.1 hv
  intro d hd
  unfold around at hd
  rcases List.mem_append.1 hd with hd | hd
  · exact tpl_before t d hd
  · simp at hd; subst hd
    dsimp only
    omega
theorem idx_above {w h : Int} {y : Nat} {x' y' : Int} (hin : ins w h x' y') (hy : y' < (y : Int)) : (y' * w + x').toNat < y * w.toNat := by
  obtain ⟨i1, i2, i3, i4⟩ := hin
  have h1 : (y' + 1) * w ≤ (y : Int) * w := Int.mul_le_mul_of_nonneg_right (by omega) (by omega)
  rw [Int.add_mul, Int.one_mul] at h1
  have h2 : ((y * w.toNat : Nat) : Int) = (y : Int) * w := by rw [Int.natCast_mul]; congr 1; omega
  have h3 : 0 ≤ y' * w := Int.mul_nonneg i2 (by omega)
  omega
theorem ctx_upTo {t ax ay kd w h : Int} {p : List Int} (hv : vr t ax ay kd = true) {x y : Nat} (hi : y * w.toNat + x ≤ p.length) (hw : 0 ≤ w) : ctxv w h (upTo p (y * w.toNat + x)) (x : Int) (y : Int) (around t ax ay) = ctxv w h p (x : Int) (y : Int) (around t ax ay) := by
  refine ctxv_congr fun d hd => px_upTo hi fun hin => ?_
  rcases around_before hv d hd with hb | ⟨hb, hb2⟩
  · have := idx_above (y := y) hin (by omega)
    omega
  · obtain ⟨i1, i2, i3, i4⟩ := hin
    rw [hb, Int.add_zero]
    have h2 : ((y * w.toNat : Nat) : Int) = (y : Int) * w := by rw [Int.natCast_mul]; congr 1; omega
    omega
section
variable {t ax ay kd base w h : Int} {p : List Int} {ty : Bool} {kx : Int} {x0 : Iv}
def codeOf (kx : Int) (x0 : Iv) (E : List (Int × Int)) (z : Nat) : List Int := ((run kx x0 [] E).2 ++ endB (run kx x0 [] E).1.lo (run kx x0 [] E).1.hi) ++ List.replicate z 0
def stOf (kx : Int) (x0 : Iv) (L : List (Int × Int)) (q : List Int) : D := ⟨true, q, (run kx x0 [] L).1, (run kx x0 [] L).2.length⟩
theorem get_ev (hx : x0.Ok kx) {E L : List (Int × Int)} {c b : Int} (hE : ∃ r, E = (L ++ [(c, b)]) ++ r) (he : Evs x0.st.length E) (z : Nat) :
    Co.get kx (codeOf kx x0 E z) (run kx x0 [] L).1 (run kx x0 [] L).2.length c = some (b, (run kx x0 [] (L ++ [(c, b)])).1, (run kx x0 [] (L ++ [(c, b)])).2.length) := by
  obtain ⟨r, hr⟩ := hE
  have hE : E = L ++ (c, b) :: r := by rw [hr, List.append_assoc]; rfl
  unfold codeOf
  rw [hE] at he ⊢
  exact get_put hx he
end
end Go.Proofs.YtipdidpalcmlhaaGreat.Gen
