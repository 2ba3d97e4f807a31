/- Laws of the typed texts' words: numbers, lists, loops. -/
import Derived.Test.YtdhkpodmlfmnpaaEvO
set_option linter.unusedVariables false
namespace Go.Proofs.Ytdhkpodmlfmnpaa.Ev
open Go

theorem cond_t {α : Sort _} {b : Bool} {x y : α} (h : b = true) : (bif b then x else y) = x := by rw [h]; rfl
theorem cond_f {α : Sort _} {b : Bool} {x y : α} (h : b = false) : (bif b then x else y) = y := by rw [h]; rfl
theorem dec_t {p : Prop} [Decidable p] {α : Sort _} {x y : α} (h : p) : (bif decide p then x else y) = x := cond_t (decide_eq_true h)
theorem dec_f {p : Prop} [Decidable p] {α : Sort _} {x y : α} (h : ¬p) : (bif decide p then x else y) = y := cond_f (decide_eq_false h)
theorem both_same (x : Option Ans) : both x x = x := by
  unfold both
  cases x with
  | none => rfl
  | some u => rfl

/-- A loop that comes to its end: by a measure. -/
theorem iter_ind {V B : Type} {step : V → (V → Option Ans) → B → Option Ans} {b : B} (I : V → Prop) (m : V → Nat) (r : V → Option Ans)
    (h : ∀ v c, I v → (∀ v', I v' → m v' < m v → c v' = r v') → step v c b = r v) : ∀ n v, I v → m v < n → iter step n v b = r v
  | 0, v, hI, hm => by omega
  | n + 1, v, hI, hm => h v _ hI fun v' hI' hm' => iter_ind I m r h n v' hI' (by omega)

theorem fuel_eq : fuel = 18446744073709551616 := rfl
theorem fuel_lt {n : Nat} (h : n < 18446744073709551616) : n < fuel := by rw [fuel_eq]; exact h

/-! ### Numbers -/
theorem wrap64 {x : Int} (h1 : -9223372036854775808 ≤ x) (h2 : x ≤ 9223372036854775807) : IntKind.i64.wrap x = x := by
  simp [IntKind.wrap, IntKind.min, IntKind.max, IntKind.signed, IntKind.bits]
  omega
theorem wrap8 {x : Int} (h1 : 0 ≤ x) (h2 : x ≤ 255) : IntKind.u8.wrap x = x := by
  simp [IntKind.wrap, IntKind.min, IntKind.max, IntKind.signed, IntKind.bits]
  omega
theorem wf64 {x : Int} (h : (Lit.int .i64 x).wf = true) : -9223372036854775808 ≤ x ∧ x ≤ 9223372036854775807 := by
  simp [Lit.wf, IntKind.min, IntKind.max, IntKind.signed, IntKind.bits] at h
  omega
theorem ishl_one {y : Int} (h0 : 0 ≤ y) (h : y ≤ 62) : ishl .i64 1 y = 2 ^ y.toNat := by
  unfold ishl
  have hb : min y.toNat IntKind.i64.bits = y.toNat := by
    have : IntKind.i64.bits = 64 := rfl
    rw [this]
    omega
  rw [hb, Int.one_mul]
  have h1 : (2 : Int) ^ y.toNat ≤ 2 ^ 62 := by
    have := Nat.pow_le_pow_right (n := 2) (by omega) (show y.toNat ≤ 62 by omega)
    exact_mod_cast this
  have h2 : (0 : Int) < 2 ^ y.toNat := Int.pow_pos (by omega)
  exact wrap64 (by omega) (by omega)
theorem ishr_eq {k : IntKind} {x y : Int} (h0 : 0 ≤ y) (h : y ≤ 8) (hk : 8 ≤ k.bits := by decide) : ishr k x y = x / 2 ^ y.toNat := by
  unfold ishr
  have hb : min y.toNat k.bits = y.toNat := by omega
  rw [hb, Int.fdiv_eq_ediv_of_nonneg]
  exact Int.le_of_lt (Int.pow_pos (by omega))
theorem ofInt_toNat {n : Nat} {x : Int} (h0 : 0 ≤ x) (h : x < 2 ^ n) : (BitVec.ofInt n x).toNat = x.toNat := by
  rw [BitVec.toNat_ofInt]
  rw [Int.emod_eq_of_lt h0 (by exact_mod_cast h)]
theorem ixor_eq {x y : Int} (hx : 0 ≤ x) (hx' : x < 2 ^ 63) (hy : 0 ≤ y) (hy' : y < 2 ^ 63) : ixor .i64 x y = ((x.toNat ^^^ y.toNat : Nat) : Int) := by
  unfold ixor
  have e : IntKind.i64.bits = 64 := rfl
  rw [e, BitVec.toNat_xor, ofInt_toNat hx (by omega), ofInt_toNat hy (by omega)]
  have h1 : x.toNat ^^^ y.toNat < 2 ^ 63 := Nat.xor_lt_two_pow (by omega) (by omega)
  exact wrap64 (by omega) (by omega)
theorem iand_one {x : Int} (hx : 0 ≤ x) (hx' : x < 2 ^ 63) : iand .i64 x 1 = x % 2 := by
  unfold iand
  have e : IntKind.i64.bits = 64 := rfl
  rw [e, BitVec.toNat_and, ofInt_toNat hx (by omega), ofInt_toNat (by omega) (by omega)]
  have h1 : x.toNat &&& (1 : Int).toNat = x.toNat % 2 := Nat.and_one_is_mod _
  rw [h1]
  have h2 : ((x.toNat % 2 : Nat) : Int) = x % 2 := by omega
  rw [h2]
  exact wrap64 (by omega) (by omega)
theorem xor_mod2 (a b : Nat) : (a ^^^ b) % 2 = (a + b) % 2 := by
  rw [← Nat.and_one_is_mod, ← Nat.and_one_is_mod (a + b), Nat.and_xor_distrib_right]
  simp only [Nat.and_one_is_mod]
  rcases Nat.mod_two_eq_zero_or_one a with ha | ha <;> rcases Nat.mod_two_eq_zero_or_one b with hb | hb <;> simp [ha, hb] <;> omega
/-- The Gray code's bit. -/
theorem gray_bit {x y : Int} (hx : 0 ≤ x) (hx' : x < 2 ^ 63) (hy : 0 ≤ y) (hy' : y < 2 ^ 63) : iand .i64 (ixor .i64 x y) 1 = (x + y) % 2 := by
  rw [ixor_eq hx hx' hy hy']
  have h1 : x.toNat ^^^ y.toNat < 2 ^ 63 := Nat.xor_lt_two_pow (by omega) (by omega)
  rw [iand_one (by omega) (by omega)]
  have := xor_mod2 x.toNat y.toNat
  omega
end Go.Proofs.Ytdhkpodmlfmnpaa.Ev
