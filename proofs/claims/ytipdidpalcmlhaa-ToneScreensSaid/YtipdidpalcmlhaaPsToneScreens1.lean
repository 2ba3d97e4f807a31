/- Laws of the typed texts that ToneScreens reaches, in plain Lean. No condition but what each theorem names. -/
import Derived.Test.YtipdidpalcmlhaaEvO
import Derived.Test.YtipdidpalcmlhaaFsToneScreens2
import Derived.Test.YtipdidpalcmlhaaFsToneScreens1
import Derived.Test.YtipdidpalcmlhaaEvS
set_option linter.unusedVariables false
set_option linter.unusedSimpArgs false
set_option linter.unusedVariables false
namespace Go.Proofs.Ytipdidpalcmlhaa.Ev
open Go

theorem cond_t {α : Sort _} {b : Bool} {x y : α} (h : b = true) : (bif b then x else y) = x := by rw [h]; rfl
theorem cond_f {α : Sort _} {b : Bool} {x y : α} (h : b = false) : (bif b then x else y) = y := by rw [h]; rfl
theorem dec_t {p : Prop} {i : Decidable p} {α : Sort _} {x y : α} (h : p) : (bif @decide p i then x else y) = x := cond_t (decide_eq_true h)
theorem dec_f {p : Prop} {i : Decidable p} {α : Sort _} {x y : α} (h : ¬p) : (bif @decide p i then x else y) = y := cond_f (decide_eq_false h)
theorem hiOf_some (x n : Int) : hiOf (some x) n = x := rfl
theorem both_same (x : Option Ans) : both x x = x := by
  unfold both
  cases x with
  | none => rfl
  | some u => rfl

theorem fuel_eq : fuel = 18446744073709551616 := rfl
theorem fuel_lt {n : Nat} (h : n < 18446744073709551616) : n < fuel := by rw [fuel_eq]; exact h

/-! ### Numbers -/
theorem wrap64 {x : Int} (h1 : -9223372036854775808 ≤ x) (h2 : x ≤ 9223372036854775807) : IntKind.i64.wrap x = x := by
  simp [IntKind.wrap, IntKind.min, IntKind.max, IntKind.signed, IntKind.bits]
  omega
theorem wrap8 {x : Int} (h1 : 0 ≤ x) (h2 : x ≤ 255) : IntKind.u8.wrap x = x := by
  simp [IntKind.wrap, IntKind.min, IntKind.max, IntKind.signed, IntKind.bits]
  omega
theorem ishl_one {y : Int} (h0 : 0 ≤ y) (h : y ≤ 62) : ishl .i64 1 y = 2 ^ y.toNat := by
  unfold ishl
  have hb : min y.toNat IntKind.i64.bits = y.toNat := by
    have : IntKind.i64.bits = 64 := rfl
    rw [this]
    omega
  rw [hb, Int.one_mul]
  have h1 : (2 : Int) ^ y.toNat ≤ 2 ^ 62 := by
    have := Nat.pow_le_pow_right (n := 2) (by omega) (show y.toNat ≤ 62 by omega)
    exact_mod_cast this
  have h2 : (0 : Int) < 2 ^ y.toNat := Int.pow_pos (by omega)
  exact wrap64 (by omega) (by omega)
theorem ishr_eq {k : IntKind} {x y : Int} (h0 : 0 ≤ y) (h : y ≤ 8) (hk : 8 ≤ k.bits := by decide) : ishr k x y = x / 2 ^ y.toNat := by
  unfold ishr
  have hb : min y.toNat k.bits = y.toNat := by omega
  rw [hb, Int.fdiv_eq_ediv_of_nonneg]
  exact Int.le_of_lt (Int.pow_pos (by omega))
theorem ofInt_toNat {n : Nat} {x : Int} (h0 : 0 ≤ x) (h : x < 2 ^ n) : (BitVec.ofInt n x).toNat = x.toNat := by
  rw [BitVec.toNat_ofInt]
  rw [Int.emod_eq_of_lt h0 (by exact_mod_cast h)]
theorem ixor_eq {x y : Int} (hx : 0 ≤ x) (hx' : x < 2 ^ 63) (hy : 0 ≤ y) (hy' : y < 2 ^ 63) : ixor .i64 x y = ((x.toNat ^^^ y.toNat : Nat) : Int) := by
  unfold ixor
  have e : IntKind.i64.bits = 64 := rfl
  rw [e, BitVec.toNat_xor, ofInt_toNat hx (by omega), ofInt_toNat hy (by omega)]
  have h1 : x.toNat ^^^ y.toNat < 2 ^ 63 := Nat.xor_lt_two_pow (by omega) (by omega)
  exact wrap64 (by omega) (by omega)
theorem iand_one {x : Int} (hx : 0 ≤ x) (hx' : x < 2 ^ 63) : iand .i64 x 1 = x % 2 := by
  unfold iand
  have e : IntKind.i64.bits = 64 := rfl
  rw [e, BitVec.toNat_and, ofInt_toNat hx (by omega), ofInt_toNat (by omega) (by omega)]
  have h1 : x.toNat &&& (1 : Int).toNat = x.toNat % 2 := Nat.and_one_is_mod _
  rw [h1]
  have h2 : ((x.toNat % 2 : Nat) : Int) = x % 2 := by omega
  rw [h2]
  exact wrap64 (by omega) (by omega)
theorem xor_mod2 (a b : Nat) : (a ^^^ b) % 2 = (a + b) % 2 := by
  rw [← Nat.and_one_is_mod, ← Nat.and_one_is_mod (a + b), Nat.and_xor_distrib_right]
  simp only [Nat.and_one_is_mod]
  rcases Nat.mod_two_eq_zero_or_one a with ha | ha <;> rcases Nat.mod_two_eq_zero_or_one b with hb | hb <;> simp [ha, hb] <;> omega
/-- The Gray code's bit. -/
theorem gray_bit {x y : Int} (hx : 0 ≤ x) (hx' : x < 2 ^ 63) (hy : 0 ≤ y) (hy' : y < 2 ^ 63) : iand .i64 (ixor .i64 x y) 1 = (x + y) % 2 := by
  rw [ixor_eq hx hx' hy hy']
  have h1 : x.toNat ^^^ y.toNat < 2 ^ 63 := Nat.xor_lt_two_pow (by omega) (by omega)
  rw [iand_one (by omega) (by omega)]
  have := xor_mod2 x.toNat y.toNat
  omega
/-! ### Loops whose states are known -/
/-- A loop that goes through known states, up to the n-th one. -/
theorem iter_to {V B : Type} {step : V → (V → Option Ans) → B → Option Ans} {b : B} {r : Option Ans} (σ : Nat → V) (n : Nat)
    (h : ∀ i, i < n → ∀ c, step (σ i) c b = c (σ (i + 1))) (hn : ∀ c, step (σ n) c b = r) {m : Nat} (hm : n < m) : iter step m (σ 0) b = r := by
  have key : ∀ d i m, i + d = n → d < m → iter step m (σ i) b = r := by
    intro d
    induction d with
    | zero =>
      intro i m hi hm
      obtain ⟨m, rfl⟩ : ∃ k, m = k + 1 := ⟨m - 1, by omega⟩
      have : i = n := by omega
      subst this
      exact hn _
    | succ d ih =>
      intro i m hi hm
      obtain ⟨m, rfl⟩ : ∃ k, m = k + 1 := ⟨m - 1, by omega⟩
      simp only [iter]
      rw [h i (by omega)]
      exact ih (i + 1) m (by omega) (by omega)
  exact key n 0 m (by omega) hm
theorem iter_seq {V B : Type} {step : V → (V → Option Ans) → B → Option Ans} {b : B} {r : Option Ans} {v : V} {m : Nat} (σ : Nat → V) (n : Nat) (hv : v = σ 0)
    (h : ∀ i, i < n → ∀ c, step (σ i) c b = c (σ (i + 1))) (hn : ∀ c, step (σ n) c b = r) (hm : n < m) : iter step m v b = r := by
  rw [hv]
  exact iter_to σ n h hn hm
/-! ### Lists -/
theorem getD_lt {α : Type} {l : List α} {i : Nat} (h : i < l.length) (d : α) : l.getD i d = l[i] := by simp [h]
theorem getD_mem {α : Type} {l : List α} {i : Nat} (h : i < l.length) (d : α) : l.getD i d ∈ l := by rw [getD_lt h]; exact List.getElem_mem h
/-- All numbers below n, or the first that is not such a one. -/
theorem nat_or_first (P : Nat → Prop) [DecidablePred P] : ∀ n, (∀ i, i < n → P i) ∨ ∃ k, k < n ∧ ¬ P k ∧ ∀ i, i < k → P i
  | 0 => .inl fun i h => by omega
  | n + 1 => by
    rcases nat_or_first P n with h | ⟨k, h1, h2, h3⟩
    · by_cases hn : P n
      · left
        intro i hi
        rcases Nat.lt_or_ge i n with h' | h'
        · exact h i h'
        · have : i = n := by omega
          subst this; exact hn
      · exact .inr ⟨n, by omega, hn, h⟩
    · exact .inr ⟨k, by omega, h2, h3⟩
end Go.Proofs.Ytipdidpalcmlhaa.Ev

set_option linter.unusedVariables false
set_option linter.unusedSimpArgs false
namespace Go.Proofs.Ytipdidpalcmlhaa.So
open Go Ev

section
variable {α : Type} (key : α → Int)
/-- Ascending. -/
def Srt (l : List α) : Prop := l.Pairwise fun x y => key x ≤ key y
/-- The same elements, those of one key in the same order. -/
def Stb (c d : List α) : Prop := c.Perm d ∧ ∀ v : Int, c.filter (fun x => key x == v) = d.filter (fun x => key x == v)
end
section
variable {α : Type} {key : α → Int}
theorem Stb.refl (l : List α) : Stb key l l := ⟨List.Perm.refl l, fun v => rfl⟩
theorem Stb.trans {a b c : List α} (h : Stb key a b) (k : Stb key b c) : Stb key a c := ⟨h.1.trans k.1, fun v => (h.2 v).trans (k.2 v)⟩
theorem Stb.symm {a b : List α} (h : Stb key a b) : Stb key b a := ⟨h.1.symm, fun v => (h.2 v).symm⟩
theorem Stb.app {a b c d : List α} (h : Stb key a b) (k : Stb key c d) : Stb key (a ++ c) (b ++ d) := ⟨h.1.append k.1, fun v => by rw [List.filter_append, List.filter_append, h.2 v, k.2 v]⟩
theorem Stb.len {a b : List α} (h : Stb key a b) : a.length = b.length := h.1.length_eq
/-- Blocks without a key in common may be exchanged. -/
theorem Stb.swap {x y : List α} (h : ∀ u ∈ x, ∀ w ∈ y, key u ≠ key w) : Stb key (x ++ y) (y ++ x) := by
  refine ⟨List.perm_append_comm, fun v => ?_⟩
  rw [List.filter_append, List.filter_append]
  by_cases hx : ∃ u ∈ x, key u = v
  · obtain ⟨u, hu, rfl⟩ := hx
    have : y.filter (fun z => key z == key u) = [] := by
      rw [List.filter_eq_nil_iff]
      intro w hw
      have := h u hu w hw
      simp
      exact fun e => this e.symm
    rw [this, List.append_nil, List.nil_append]
  · have : x.filter (fun z => key z == v) = [] := by
      rw [List.filter_eq_nil_iff]
      intro w hw
      simp
      exact fun e => hx ⟨w, hw, e⟩
    rw [this, List.append_nil, List.nil_append]
theorem srt_app {a b : List α} : Srt key (a ++ b) ↔ Srt key a ∧ Srt key b ∧ ∀ x ∈ a, ∀ y ∈ b, key x ≤ key y := by
  unfold Srt
  exact List.pairwise_append
theorem srt_single (x : α) : Srt key [x] := List.pairwise_singleton _ _
theorem srt_cons {x : α} {l : List α} : Srt key (x :: l) ↔ (∀ y ∈ l, key x ≤ key y) ∧ Srt key l := List.pairwise_cons
/-- There is but one such list. -/
theorem srt_unique : ∀ {c d : List α}, Srt key c → Srt key d → Stb key c d → c = d
  | [], d, _, _, h => by
    have := h.len
    exact (List.eq_nil_of_length_eq_zero (by simpa using this.symm)).symm
  | x :: c, [], _, _, h => by
    have := h.len
    simp at this
  | x :: c, y :: d, hc, hd, h => by
    obtain ⟨h1, h2⟩ := srt_cons.1 hc
    obtain ⟨h3, h4⟩ := srt_cons.1 hd
    have hxy : key x = key y := by
      have mx : x ∈ y :: d := h.1.mem_iff.1 (by simp)
      have my : y ∈ x :: c := h.1.mem_iff.2 (by simp)
      have a1 : key y ≤ key x := by
        rcases List.mem_cons.1 mx with rfl | hm
        · exact Int.le_refl _
        · exact h3 x hm
      have a2 : key x ≤ key y := by
        rcases List.mem_cons.1 my with rfl | hm
        · exact Int.le_refl _
        · exact h1 y hm
      omega
    have e := h.2 (key x)
    rw [List.filter_cons_of_pos (by simp), List.filter_cons_of_pos (by simp [hxy])] at e
    injection e with e1 e2
    subst e1
    congr 1
    refine srt_unique h2 h4 ⟨h.1.cons_inv, fun v => ?_⟩
    by_cases hv : key x = v
    · subst hv
      exact e2
    · have := h.2 v
      rw [List.filter_cons_of_neg (by simpa using hv), List.filter_cons_of_neg (by simpa using hv)] at this
      exact this
theorem srt_get {l : List α} (h : Srt key l) (d : α) {i j : Nat} (hij : i ≤ j) (hj : j < l.length) : key (l.getD i d) ≤ key (l.getD j d) := by
  rw [getD_lt (by omega), getD_lt hj]
  rcases Nat.lt_or_ge i j with h' | h'
  · exact List.pairwise_iff_getElem.1 h i j (by omega) hj h'
  · have : i = j := by omega
    subst this
    exact Int.le_refl _
/-- One element is moved in front of others of greater keys. -/
theorem insert_front {a b : List α} {x : α} (ha : Srt key (a ++ b)) (h1 : ∀ y ∈ a, key y ≤ key x) (h2 : ∀ y ∈ b, key x < key y) : Srt key (a ++ (x :: b)) ∧ Stb key (a ++ (x :: b)) ((a ++ b) ++ [x]) := by
  obtain ⟨p1, p2, p3⟩ := srt_app.1 ha
  refine ⟨srt_app.2 ⟨p1, srt_cons.2 ⟨fun y hy => Int.le_of_lt (h2 y hy), p2⟩, fun y hy z hz => ?_⟩, ?_⟩
  · rcases List.mem_cons.1 hz with rfl | hz
    · exact h1 y hy
    · exact p3 y hy z hz
  · rw [List.append_assoc]
    refine (Stb.refl a).app ?_
    have := Stb.swap (key := key) (x := [x]) (y := b) fun u hu w hw => by
      rw [List.mem_singleton] at hu
      subst hu
      have := h2 w hw
      omega
    exact this
/-- One element is moved behind others of lesser keys. -/
theorem insert_back {a b : List α} {x : α} (ha : Srt key (a ++ b)) (h1 : ∀ y ∈ a, key y < key x) (h2 : ∀ y ∈ b, key x ≤ key y) : Srt key (a ++ (x :: b)) ∧ Stb key (a ++ (x :: b)) (x :: (a ++ b)) := by
  obtain ⟨p1, p2, p3⟩ := srt_app.1 ha
  refine ⟨srt_app.2 ⟨p1, srt_cons.2 ⟨fun y hy => h2 y hy, p2⟩, fun y hy z hz => ?_⟩, ?_⟩
  · rcases List.mem_cons.1 hz with rfl | hz
    · exact Int.le_of_lt (h1 y hy)
    · exact p3 y hy z hz
  · have := Stb.swap (key := key) (x := a) (y := [x]) fun u hu w hw => by
      rw [List.mem_singleton] at hw
      subst hw
      have := h1 u hu
      omega
    have := this.app (Stb.refl b)
    simpa using this
/-- What is sorted by halves: a run is cut where the halves are to meet. -/
theorem halves {a1 x y b2 : List α} (hA : Srt key (a1 ++ x)) (hB : Srt key (y ++ b2)) (hxy : ∀ u ∈ y, ∀ w ∈ x, key u < key w) (hab : ∀ u ∈ a1, ∀ w ∈ b2, key u ≤ key w) {c d : List α} (hc : Srt key c) (hd : Srt key d) (sc : Stb key c (a1 ++ y)) (sd : Stb key d (x ++ b2)) :
    Srt key (c ++ d) ∧ Stb key (c ++ d) ((a1 ++ x) ++ (y ++ b2)) := by
  obtain ⟨p1, p2, p3⟩ := srt_app.1 hA
  obtain ⟨q1, q2, q3⟩ := srt_app.1 hB
  refine ⟨srt_app.2 ⟨hc, hd, fun u hu w hw => ?_⟩, (sc.app sd).trans ?_⟩
  · have hu := sc.1.mem_iff.1 hu
    have hw := sd.1.mem_iff.1 hw
    rcases List.mem_append.1 hu with hu | hu <;> rcases List.mem_append.1 hw with hw | hw
    · exact p3 u hu w hw
    · exact hab u hu w hw
    · exact Int.le_of_lt (hxy u hu w hw)
    · exact q3 u hu w hw
  · have : Stb key (y ++ x) (x ++ y) := Stb.swap fun u hu w hw => by
      have := hxy u hu w hw
      omega
    have := (Stb.refl (key := key) a1).app (this.app (Stb.refl b2))
    simpa only [List.append_assoc] using this
end
end Go.Proofs.Ytipdidpalcmlhaa.So

set_option linter.unusedVariables false
set_option linter.unusedSimpArgs false
namespace Go.Proofs.Ytipdidpalcmlhaa.So
open Go Ev

theorem half_ok {i j : Nat} (h : i + j ≤ 4000000) : IntKind.i64.wrap (ishr .u64 (IntKind.u64.wrap (IntKind.i64.wrap ((i : Int) + (j : Int)))) 1) = (((i + j) / 2 : Nat) : Int) := by
  rw [wrap64 (x := (i : Int) + (j : Int)) (by omega) (by omega)]
  have e : IntKind.u64.wrap ((i : Int) + (j : Int)) = (i : Int) + (j : Int) := by
    simp [IntKind.wrap, IntKind.min, IntKind.max, IntKind.signed, IntKind.bits]
    omega
  rw [e]
  have e2 : ishr .u64 ((i : Int) + (j : Int)) 1 = (((i + j) / 2 : Nat) : Int) := by
    unfold ishr
    have e3 : (2 : Int) ^ min (Int.toNat 1) IntKind.u64.bits = 2 := by decide
    rw [e3, Int.fdiv_eq_ediv_of_nonneg _ (by omega)]
    omega
  rw [e2, wrap64 (by omega) (by omega)]
section
variable {α : Type}
theorem get_mid (P Q : List α) (x d : α) : (P ++ x :: Q).getD P.length d = x := by simp
theorem get_mid2 (P M Q : List α) (x y d : α) : (P ++ x :: (M ++ y :: Q)).getD (P.length + 1 + M.length) d = y := by
  have : P ++ x :: (M ++ y :: Q) = (P ++ x :: M) ++ y :: Q := by simp
  rw [this, show P.length + 1 + M.length = (P ++ x :: M).length by simp; omega]
  exact get_mid _ _ _ _
theorem set_mid (P Q : List α) (x y : α) : (P ++ x :: Q).set P.length y = P ++ y :: Q := by simp
theorem swap_set (P M Q : List α) (x y : α) : ((P ++ x :: (M ++ y :: Q)).set P.length y).set (P.length + 1 + M.length) x = P ++ y :: (M ++ x :: Q) := by
  rw [set_mid]
  have : P ++ y :: (M ++ y :: Q) = (P ++ y :: M) ++ y :: Q := by simp
  rw [this, show P.length + 1 + M.length = (P ++ y :: M).length by simp; omega, set_mid]
  simp
theorem swap_set2 (P M Q : List α) (x y : α) : ((P ++ x :: (M ++ y :: Q)).set (P.length + 1 + M.length) x).set P.length y = P ++ y :: (M ++ x :: Q) := by
  have : P ++ x :: (M ++ y :: Q) = (P ++ x :: M) ++ y :: Q := by simp
  rw [this, show P.length + 1 + M.length = (P ++ x :: M).length by simp; omega, set_mid]
  rw [show (P ++ x :: M) ++ x :: Q = P ++ x :: (M ++ x :: Q) by simp, set_mid]
theorem two_get (P Q : List α) (x y d : α) : (P ++ x :: y :: Q).getD (P.length + 1) d = y := get_mid2 P [] Q x y d
theorem two_set (P Q : List α) (x y : α) : ((P ++ x :: y :: Q).set P.length y).set (P.length + 1) x = P ++ y :: x :: Q := swap_set P [] Q x y
theorem two_set2 (P Q : List α) (x y : α) : ((P ++ x :: y :: Q).set (P.length + 1) x).set P.length y = P ++ y :: x :: Q := swap_set2 P [] Q x y
/-- A search by halves. -/
theorem bs {V W : Type} {step : V → (V → Option Ans) → (W → Option Ans) → Option Ans} {st : Nat → Nat → V} {fin : Nat → W} {p : Nat → Prop} [∀ t, Decidable (p t)] {lo hi : Nat} (hmono : ∀ t u, lo ≤ t → t ≤ u → u < hi → p u → p t)
    (hstep : ∀ i j c b, lo ≤ i → i < j → j ≤ hi → step (st i j) c b = if p ((i + j) / 2) then c (st ((i + j) / 2 + 1) j) else c (st i ((i + j) / 2))) (hend : ∀ i c b, lo ≤ i → i ≤ hi → step (st i i) c b = b (fin i)) :
    ∀ (n i j : Nat), j - i ≤ n → lo ≤ i → i ≤ j → j ≤ hi → (∀ t, lo ≤ t → t < i → p t) → (∀ t, j ≤ t → t < hi → ¬ p t) →
    ∃ r, i ≤ r ∧ r ≤ j ∧ (∀ t, lo ≤ t → t < r → p t) ∧ (∀ t, r ≤ t → t < hi → ¬ p t) ∧ ∀ (f : Nat) (b : W → Option Ans), n + 1 ≤ f → iter step f (st i j) b = b (fin r) := by
  intro n
  induction n with
  | zero =>
    intro i j hn h1 h2 h3 h4 h5
    have : i = j := by omega
    subst this
    refine ⟨i, by omega, by omega, h4, h5, fun f b hf => ?_⟩
    obtain ⟨f, rfl⟩ : ∃ g, f = g + 1 := ⟨f - 1, by omega⟩
    simp only [iter]
    exact hend i _ b h1 h3
  | succ n ih =>
    intro i j hn h1 h2 h3 h4 h5
    by_cases hij : i = j
    · subst hij
      refine ⟨i, by omega, by omega, h4, h5, fun f b hf => ?_⟩
      obtain ⟨f, rfl⟩ : ∃ g, f = g + 1 := ⟨f - 1, by omega⟩
      simp only [iter]
      exact hend i _ b h1 h3
    · by_cases hp : p ((i + j) / 2)
      · obtain ⟨r, r1, r2, r3, r4, r5⟩ := ih ((i + j) / 2 + 1) j (by omega) (by omega) (by omega) h3 (fun t t1 t2 => hmono t ((i + j) / 2) t1 (by omega) (by omega) hp) h5
        refine ⟨r, by omega, r2, r3, r4, fun f b hf => ?_⟩
        obtain ⟨f, rfl⟩ : ∃ g, f = g + 1 := ⟨f - 1, by omega⟩
        simp only [iter]
        rw [hstep i j _ b h1 (by omega) h3, if_pos hp]
        exact r5 f b (by omega)
      · obtain ⟨r, r1, r2, r3, r4, r5⟩ := ih i ((i + j) / 2) (by omega) h1 (by omega) (by omega) h4 (fun t t1 t2 hpt => hp (hmono _ t (by omega) t1 t2 hpt))
        refine ⟨r, r1, by omega, r3, r4, fun f b hf => ?_⟩
        obtain ⟨f, rfl⟩ : ∃ g, f = g + 1 := ⟨f - 1, by omega⟩
        simp only [iter]
        rw [hstep i j _ b h1 (by omega) h3, if_neg hp]
        exact r5 f b (by omega)
end
section
variable {fl : Nat} {s al : Int}
theorem swap_loop : ∀ (X Y P M Q : List Int) (i a b f : Nat), X.length = Y.length → a + i = P.length → b + i = P.length + X.length + M.length → (P ++ (X ++ (M ++ (Y ++ Q)))).length ≤ 1000000 → X.length + 1 ≤ f → ∀ kk,
    iter (S_slices_swapRangeCmpFunc_int_ed8_0 fl) f ((a : Int), (b : Int), ((i + X.length : Nat) : Int), (i : Int), P ++ (X ++ (M ++ (Y ++ Q))), s, al) kk = kk (P ++ (Y ++ (M ++ (X ++ Q))), s, al)
  | [], [], P, M, Q, i, a, b, f, h1, h2, h3, h4, h5, kk => by
    obtain ⟨f, rfl⟩ : ∃ g, f = g + 1 := ⟨f - 1, by omega⟩
    simp only [iter, S_slices_swapRangeCmpFunc_int_ed8_0]
    rw [dec_f (by simp)]
  | x :: X, [], P, M, Q, i, a, b, f, h1, h2, h3, h4, h5, kk => by simp at h1
  | [], y :: Y, P, M, Q, i, a, b, f, h1, h2, h3, h4, h5, kk => by simp at h1
  | x :: X, y :: Y, P, M, Q, i, a, b, f, h1, h2, h3, h4, h5, kk => by
    obtain ⟨f, rfl⟩ : ∃ g, f = g + 1 := ⟨f - 1, by simp at h5; omega⟩
    simp only [List.length_cons] at h1 h3 h5
    have hdata : P ++ ((x :: X) ++ (M ++ ((y :: Y) ++ Q))) = P ++ x :: ((X ++ M) ++ y :: (Y ++ Q)) := by simp
    rw [hdata] at h4 ⊢
    have hlen := h4
    simp only [List.length_append, List.length_cons] at hlen
    have g1 : (P ++ x :: ((X ++ M) ++ y :: (Y ++ Q))).getD P.length 0 = x := get_mid _ _ _ _
    have g2 : (P ++ x :: ((X ++ M) ++ y :: (Y ++ Q))).getD (P.length + 1 + (X ++ M).length) 0 = y := get_mid2 _ _ _ _ _ _
    have g3 := swap_set P (X ++ M) (Y ++ Q) x y
    have ha : IntKind.i64.wrap ((a : Int) + (i : Int)) = ((P.length : Nat) : Int) := by rw [wrap64 (by omega) (by omega)]; omega
    have hb : IntKind.i64.wrap ((b : Int) + (i : Int)) = ((P.length + 1 + (X ++ M).length : Nat) : Int) := by rw [wrap64 (by omega) (by omega)]; simp only [List.length_append]; omega
    simp only [iter, S_slices_swapRangeCmpFunc_int_ed8_0, both_same]
    simp only [ha, hb, Int.toNat_natCast, g1, g2, g3]
    rw [dec_t (by simp only [List.length_cons]; omega), dec_t (by simp only [List.length_append, List.length_cons]; omega), dec_t (by simp only [List.length_append, List.length_cons]; omega), dec_t (by simp only [List.length_append, List.length_cons]; omega), dec_t (by simp only [List.length_set, List.length_append, List.length_cons]; omega), wrap64 (x := (i : Int) + 1) (by omega) (by omega)]
    have e := swap_loop X Y (P ++ [y]) (M ++ [x]) Q (i + 1) a b f (by omega) (by simp; omega) (by simp; omega) (by simp only [List.length_append, List.length_cons, List.length_nil]; omega) (by omega) kk
    rw [show i + 1 + X.length = i + (x :: X).length by simp only [List.length_cons]; omega] at e
    have e2 : P ++ y :: ((X ++ M) ++ x :: (Y ++ Q)) = (P ++ [y]) ++ (X ++ ((M ++ [x]) ++ (Y ++ Q))) := by simp
    have e3 : P ++ ((y :: Y) ++ (M ++ ((x :: X) ++ Q))) = (P ++ [y]) ++ (Y ++ ((M ++ [x]) ++ (X ++ Q))) := by simp
    rw [e2, e3]
    exact e
theorem swap_ok (hfl : 9223372036854775808 ≤ fl) {X Y P M Q : List Int} (h1 : X.length = Y.length) (h4 : (P ++ (X ++ (M ++ (Y ++ Q)))).length ≤ 1000000) {K} :
    F_slices_swapRangeCmpFunc_int_ed8 fl (P.length : Int) ((P.length + X.length + M.length : Nat) : Int) (X.length : Int) (P ++ (X ++ (M ++ (Y ++ Q)))) s al K = K (P ++ (Y ++ (M ++ (X ++ Q))), s, al) := by
  have hlen := h4
  simp only [List.length_append] at hlen
  unfold F_slices_swapRangeCmpFunc_int_ed8 L_slices_swapRangeCmpFunc_int_ed8_0
  have e := swap_loop (fl := fl) (s := s) (al := al) X Y P M Q 0 P.length (P.length + X.length + M.length) fl h1 (by omega) (by omega) h4 (by omega) fun v => match v with | (b0_0, b0_1, b0_2) => K (b0_0, b0_1, b0_2)
  rw [Nat.zero_add] at e
  exact e
theorem rot_loop (hfl : 9223372036854775808 ≤ fl) : ∀ (n : Nat) (X Y P Q : List Int), X.length + Y.length ≤ n → 0 < X.length → 0 < Y.length → (P ++ (X ++ (Y ++ Q))).length ≤ 1000000 →
    ∃ X1 Y1 P1 Q1 : List Int, X1.length = Y1.length ∧ P1.length + X1.length = P.length + X.length ∧ P1 ++ (Y1 ++ (X1 ++ Q1)) = P ++ (Y ++ (X ++ Q)) ∧ (P1 ++ (X1 ++ (Y1 ++ Q1))).length ≤ 1000000 ∧
      ∀ f, n + 1 ≤ f → ∀ kk, iter (S_slices_rotateCmpFunc_int_ed8_0 fl) f (((P.length + X.length : Nat) : Int), (X.length : Int), (Y.length : Int), P ++ (X ++ (Y ++ Q)), s, al) kk = kk (((P.length + X.length : Nat) : Int), (X1.length : Int), P1 ++ (X1 ++ (Y1 ++ Q1)), s, al)
  | 0, X, Y, P, Q, h1, h2, h3, h4 => by omega
  | n + 1, X, Y, P, Q, h1, h2, h3, h4 => by
    have hlen := h4
    simp only [List.length_append] at hlen
    by_cases hxy : X.length = Y.length
    · refine ⟨X, Y, P, Q, hxy, rfl, rfl, h4, fun f hf kk => ?_⟩
      obtain ⟨f, rfl⟩ : ∃ g, f = g + 1 := ⟨f - 1, by omega⟩
      simp only [iter, S_slices_rotateCmpFunc_int_ed8_0]
      rw [cond_f (b := (X.length : Int) != (Y.length : Int)) (by simp [hxy])]
    by_cases hgt : Y.length < X.length
    · have hX : X = X.take Y.length ++ X.drop Y.length := (List.take_append_drop _ _).symm
      generalize hX1 : X.take Y.length = X1 at hX
      generalize hX2 : X.drop Y.length = X2 at hX
      have l1 : X1.length = Y.length := by rw [← hX1, List.length_take]; omega
      have l2 : X2.length = X.length - Y.length := by rw [← hX2, List.length_drop]
      obtain ⟨A, B, P1, Q1, a1, a2, a3, a4, a5⟩ := rot_loop hfl n X2 X1 (P ++ Y) Q (by omega) (by omega) (by omega) (by simp only [List.length_append]; omega)
      refine ⟨A, B, P1, Q1, a1, by rw [a2, List.length_append]; omega, by rw [a3, hX]; simp, a4, fun f hf kk => ?_⟩
      obtain ⟨f, rfl⟩ : ∃ g, f = g + 1 := ⟨f - 1, by omega⟩
      have hs := fun K => swap_ok (K := K) (s := s) (al := al) hfl (X := X1) (Y := Y) (P := P) (M := X2) (Q := Q) l1 (by simp only [List.length_append]; omega)
      have hd : P ++ (X ++ (Y ++ Q)) = P ++ (X1 ++ (X2 ++ (Y ++ Q))) := by rw [hX]; simp
      have ea : ((P.length : Nat) : Int) = ((P.length + X.length : Nat) : Int) - (X.length : Int) := by omega
      have eb : ((P.length + X1.length + X2.length : Nat) : Int) = ((P.length + X.length : Nat) : Int) := by omega
      simp only [iter, S_slices_rotateCmpFunc_int_ed8_0]
      rw [cond_t (b := (X.length : Int) != (Y.length : Int)) (by simp; omega), dec_t (by omega), wrap64 (x := ((P.length + X.length : Nat) : Int) - (X.length : Int)) (by omega) (by omega), wrap64 (x := (X.length : Int) - (Y.length : Int)) (by omega) (by omega), hd, ← ea]
      rw [eb, l1] at hs
      rw [hs]
      dsimp only
      have e := a5 f (by omega) kk
      rw [show ((P ++ Y).length + X2.length : Nat) = P.length + X.length by rw [List.length_append]; omega, show ((X2.length : Nat) : Int) = (X.length : Int) - (Y.length : Int) by omega, show (X1.length : Int) = (Y.length : Int) by omega, show (P ++ Y) ++ (X2 ++ (X1 ++ Q)) = P ++ (Y ++ (X2 ++ (X1 ++ Q))) by simp] at e
      exact e
    · have hY : Y = Y.take (Y.length - X.length) ++ Y.drop (Y.length - X.length) := (List.take_append_drop _ _).symm
      generalize hY1 : Y.take (Y.length - X.length) = Y1 at hY
      generalize hY2 : Y.drop (Y.length - X.length) = Y2 at hY
      have l1 : Y1.length = Y.length - X.length := by rw [← hY1, List.length_take]; omega
      have l2 : Y2.length = X.length := by rw [← hY2, List.length_drop]; omega
      obtain ⟨A, B, P1, Q1, a1, a2, a3, a4, a5⟩ := rot_loop hfl n Y2 Y1 P (X ++ Q) (by omega) (by omega) (by omega) (by simp only [List.length_append]; omega)
      refine ⟨A, B, P1, Q1, a1, by rw [a2]; omega, by rw [a3, hY]; simp, a4, fun f hf kk => ?_⟩
      obtain ⟨f, rfl⟩ : ∃ g, f = g + 1 := ⟨f - 1, by omega⟩
      have hs := fun K => swap_ok (K := K) (s := s) (al := al) hfl (X := X) (Y := Y2) (P := P) (M := Y1) (Q := Q) (by omega) (by simp only [List.length_append]; omega)
      have hd : P ++ (X ++ (Y ++ Q)) = P ++ (X ++ (Y1 ++ (Y2 ++ Q))) := by rw [hY]; simp
      have ea : ((P.length : Nat) : Int) = ((P.length + X.length : Nat) : Int) - (X.length : Int) := by omega
      have eb : ((P.length + X.length + Y1.length : Nat) : Int) = ((P.length + X.length : Nat) : Int) + (Y.length : Int) - (X.length : Int) := by omega
      simp only [iter, S_slices_rotateCmpFunc_int_ed8_0]
      rw [cond_t (b := (X.length : Int) != (Y.length : Int)) (by simp; omega), dec_f (by omega), wrap64 (x := ((P.length + X.length : Nat) : Int) - (X.length : Int)) (by omega) (by omega), wrap64 (x := ((P.length + X.length : Nat) : Int) + (Y.length : Int)) (by omega) (by omega), wrap64 (x := ((P.length + X.length : Nat) : Int) + (Y.length : Int) - (X.length : Int)) (by omega) (by omega), wrap64 (x := (Y.length : Int) - (X.length : Int)) (by omega) (by omega), hd, ← ea]
      rw [eb] at hs
      rw [hs]
      dsimp only
      have e := a5 f (by omega) kk
      rw [show (P.length + Y2.length : Nat) = P.length + X.length by omega, show ((Y2.length : Nat) : Int) = (X.length : Int) by omega, show (Y1.length : Int) = (Y.length : Int) - (X.length : Int) by omega] at e
      exact e
theorem rot_ok (hfl : 9223372036854775808 ≤ fl) {X Y P Q : List Int} (h2 : 0 < X.length) (h3 : 0 < Y.length) (h4 : (P ++ (X ++ (Y ++ Q))).length ≤ 1000000) {K} :
    F_slices_rotateCmpFunc_int_ed8 fl (P.length : Int) ((P.length + X.length : Nat) : Int) ((P.length + X.length + Y.length : Nat) : Int) (P ++ (X ++ (Y ++ Q))) s al K = K (P ++ (Y ++ (X ++ Q)), s, al) := by
  have hlen := h4
  simp only [List.length_append] at hlen
  obtain ⟨X1, Y1, P1, Q1, a1, a2, a3, a4, a5⟩ := rot_loop (fl := fl) (s := s) (al := al) hfl (X.length + Y.length) X Y P Q (Nat.le_refl _) h2 h3 h4
  unfold F_slices_rotateCmpFunc_int_ed8 L_slices_rotateCmpFunc_int_ed8_0
  rw [wrap64 (x := ((P.length + X.length : Nat) : Int) - (P.length : Int)) (by omega) (by omega), wrap64 (x := ((P.length + X.length + Y.length : Nat) : Int) - ((P.length + X.length : Nat) : Int)) (by omega) (by omega), show ((P.length + X.length : Nat) : Int) - (P.length : Int) = (X.length : Int) by omega, show ((P.length + X.length + Y.length : Nat) : Int) - ((P.length + X.length : Nat) : Int) = (Y.length : Int) by omega, a5 fl (by omega)]
  dsimp only
  have hlen1 := a4
  simp only [List.length_append] at hlen1
  have hs := swap_ok (K := fun v => match v with | (y0, y1, y2) => K (y0, y1, y2)) (s := s) (al := al) hfl (X := X1) (Y := Y1) (P := P1) (M := []) (Q := Q1) a1 (by simpa using a4)
  rw [wrap64 (by omega) (by omega), show ((P.length + X.length : Nat) : Int) - (X1.length : Int) = ((P1.length : Nat) : Int) by omega, ← a2]
  simp only [List.length_nil, Nat.add_zero, List.nil_append] at hs
  rw [a3] at hs
  exact hs
end
end Go.Proofs.Ytipdidpalcmlhaa.So

set_option linter.unusedVariables false
set_option linter.unusedSimpArgs false
namespace Go.Proofs.Ytipdidpalcmlhaa.So
open Go Ev

section
variable {fl : Nat} {s al : Int} {key : Int → Int} {V : Int → Prop}
/-- What a comparison tells. -/
def Cmp (fl : Nat) (s al : Int) (key : Int → Int) (V : Int → Prop) : Prop := ∀ (x y : Int) (K : Int × Int × Int → Option Ans), V x → V y → F_tone_Screen_1_b33 fl x y s al K = K (key x - key y, s, al)
theorem ins_loop (hc : Cmp fl s al key V) {x : Int} (hx : V x) {P Q : List Int} {b i : Int} : ∀ (n : Nat) (A B : List Int), A.length = n → Srt key (A ++ B) → (∀ y ∈ B, key x < key y) → (∀ y ∈ A, V y) → (P ++ ((A ++ (x :: B)) ++ Q)).length ≤ 1000000 →
    ∃ C, Srt key C ∧ Stb key C ((A ++ B) ++ [x]) ∧ ∀ (f : Nat) kk, n + 1 ≤ f → iter (S_slices_insertionSortCmpFunc_int_e63_2 fl) f ((P.length : Int), b, i, ((P.length + A.length : Nat) : Int), P ++ ((A ++ (x :: B)) ++ Q), s, al) kk = kk ((P.length : Int), b, i, P ++ (C ++ Q), s, al)
  | 0, A, B, h1, h2, h3, h4, h5 => by
    have : A = [] := List.eq_nil_of_length_eq_zero h1
    subst this
    obtain ⟨c1, c2⟩ := insert_front (key := key) (a := []) (b := B) (x := x) h2 (by simp) h3
    refine ⟨x :: B, c1, c2, fun f kk hf => ?_⟩
    obtain ⟨f, rfl⟩ : ∃ g, f = g + 1 := ⟨f - 1, by omega⟩
    simp only [iter, S_slices_insertionSortCmpFunc_int_e63_2]
    rw [dec_f (by simp)]
    rfl
  | n + 1, A, B, h1, h2, h3, h4, h5 => by
    obtain ⟨A', y, rfl⟩ : ∃ A' y, A = A' ++ [y] := by
      refine ⟨A.dropLast, A.getLast (by intro h; rw [h] at h1; simp at h1), ?_⟩
      exact (List.dropLast_concat_getLast _).symm
    have hy : V y := h4 y (by simp)
    have hlen := h5
    simp only [List.length_append, List.length_cons, List.length_nil] at hlen h1
    have hd : P ++ (((A' ++ [y]) ++ (x :: B)) ++ Q) = (P ++ A') ++ y :: x :: (B ++ Q) := by simp
    have lp : (P ++ A').length = P.length + A'.length := List.length_append
    have g1 : ((P ++ A') ++ y :: x :: (B ++ Q)).getD (P.length + A'.length) 0 = y := by rw [← lp]; exact get_mid _ _ _ _
    have g2 : ((P ++ A') ++ y :: x :: (B ++ Q)).getD (P.length + A'.length + 1) 0 = x := by rw [← lp]; exact two_get _ _ _ _ _
    have g3 : (((P ++ A') ++ y :: x :: (B ++ Q)).set (P.length + A'.length + 1) y).set (P.length + A'.length) x = (P ++ A') ++ x :: y :: (B ++ Q) := by rw [← lp]; exact two_set2 _ _ _ _
    have ej : ((P.length + (A' ++ [y]).length : Nat) : Int) = ((P.length + A'.length + 1 : Nat) : Int) := by rw [List.length_append]; simp only [List.length_cons, List.length_nil]; omega
    have ej1 : IntKind.i64.wrap (((P.length + A'.length + 1 : Nat) : Int) - 1) = ((P.length + A'.length : Nat) : Int) := by rw [wrap64 (by omega) (by omega)]; omega
    have hstep : ∀ c kk, S_slices_insertionSortCmpFunc_int_e63_2 fl ((P.length : Int), b, i, ((P.length + (A' ++ [y]).length : Nat) : Int), P ++ (((A' ++ [y]) ++ (x :: B)) ++ Q), s, al) c kk = if key x < key y then c ((P.length : Int), b, i, ((P.length + A'.length : Nat) : Int), (P ++ A') ++ x :: y :: (B ++ Q), s, al) else kk ((P.length : Int), b, i, P ++ (((A' ++ [y]) ++ (x :: B)) ++ Q), s, al) := by
      intro c kk
      rw [hd, ej]
      simp only [S_slices_insertionSortCmpFunc_int_e63_2, both_same, ej1, Int.toNat_natCast, g1, g2, g3]
      rw [dec_t (by omega), dec_t (by simp only [List.length_append, List.length_cons]; omega), dec_t (by simp only [List.length_append, List.length_cons]; omega), hc x y _ hx hy]
      dsimp only
      by_cases hlt : key x < key y
      · rw [if_pos hlt, dec_t (by omega), dec_t (by simp only [List.length_append, List.length_cons]; omega), dec_t (by simp only [List.length_append, List.length_cons]; omega), dec_t (by simp only [List.length_append, List.length_cons]; omega), dec_t (by simp only [List.length_set, List.length_append, List.length_cons]; omega)]
      · rw [if_neg hlt, dec_f (by omega)]
    by_cases hlt : key x < key y
    · have h2' : Srt key (A' ++ (y :: B)) := by simpa using h2
      obtain ⟨C, c1, c2, c3⟩ := ins_loop hc hx (P := P) (Q := Q) (b := b) (i := i) n A' (y :: B) (by omega) h2' (fun z hz => by
        rcases List.mem_cons.1 hz with rfl | hz
        · exact hlt
        · exact h3 z hz) (fun z hz => h4 z (by simp [hz])) (by simp only [List.length_append, List.length_cons]; omega)
      refine ⟨C, c1, by simpa using c2, fun f kk hf => ?_⟩
      obtain ⟨f, rfl⟩ : ∃ g, f = g + 1 := ⟨f - 1, by omega⟩
      simp only [iter]
      rw [hstep, if_pos hlt]
      have := c3 f kk (by omega)
      rw [show P ++ ((A' ++ (x :: y :: B)) ++ Q) = (P ++ A') ++ x :: y :: (B ++ Q) by simp] at this
      exact this
    · obtain ⟨p1, p2, p3⟩ := srt_app.1 h2
      obtain ⟨q1, q2, q3⟩ := srt_app.1 p1
      obtain ⟨c1, c2⟩ := insert_front (key := key) (a := A' ++ [y]) (b := B) (x := x) h2 (fun z hz => by
        rcases List.mem_append.1 hz with hz | hz
        · have := q3 z hz y (by simp)
          omega
        · rw [List.mem_singleton] at hz
          subst hz
          omega) h3
      refine ⟨_, c1, c2, fun f kk hf => ?_⟩
      obtain ⟨f, rfl⟩ : ∃ g, f = g + 1 := ⟨f - 1, by omega⟩
      simp only [iter]
      rw [hstep, if_neg hlt]
theorem isort_loop (hfl : 9223372036854775808 ≤ fl) (hc : Cmp fl s al key V) {P Q : List Int} : ∀ (R C : List Int), Srt key C → (∀ y ∈ C, V y) → (∀ y ∈ R, V y) → (P ++ (C ++ (R ++ Q))).length ≤ 1000000 →
    ∃ D, Srt key D ∧ Stb key D (C ++ R) ∧ ∀ (f : Nat) kk, R.length + 1 ≤ f → iter (S_slices_insertionSortCmpFunc_int_e63_0 fl) f ((P.length : Int), ((P.length + C.length + R.length : Nat) : Int), ((P.length + C.length : Nat) : Int), P ++ (C ++ (R ++ Q)), s, al) kk = kk (P ++ (D ++ Q), s, al)
  | [], C, h1, h2, h3, h4 => by
    refine ⟨C, h1, by rw [List.append_nil]; exact Stb.refl _, fun f kk hf => ?_⟩
    obtain ⟨f, rfl⟩ : ∃ g, f = g + 1 := ⟨f - 1, by omega⟩
    simp only [iter, S_slices_insertionSortCmpFunc_int_e63_0]
    rw [dec_f (by simp)]
    rfl
  | x :: R, C, h1, h2, h3, h4 => by
    have hlen := h4
    simp only [List.length_append, List.length_cons] at hlen
    obtain ⟨C', c1, c2, c3⟩ := ins_loop hc (h3 x (by simp)) (P := P) (Q := R ++ Q) (b := ((P.length + C.length + (x :: R).length : Nat) : Int)) (i := ((P.length + C.length : Nat) : Int)) C.length C [] rfl (by rw [List.append_nil]; exact h1) (by simp) h2 (by simp only [List.length_append, List.length_cons, List.length_nil]; omega)
    rw [List.append_nil] at c2
    have lc : C'.length = C.length + 1 := by rw [c2.len]; simp
    have hV : ∀ y ∈ C', V y := fun y hy => by
      rcases List.mem_append.1 (c2.1.mem_iff.1 hy) with hy | hy
      · exact h2 y hy
      · rw [List.mem_singleton] at hy
        subst hy
        exact h3 _ (by simp)
    obtain ⟨D, d1, d2, d3⟩ := isort_loop hfl hc (P := P) (Q := Q) R C' c1 hV (fun y hy => h3 y (by simp [hy])) (by simp only [List.length_append]; omega)
    refine ⟨D, d1, d2.trans ?_, fun f kk hf => ?_⟩
    · have := c2.app (Stb.refl R)
      simpa using this
    · obtain ⟨f, rfl⟩ : ∃ g, f = g + 1 := ⟨f - 1, by simp at hf; omega⟩
      simp only [iter, S_slices_insertionSortCmpFunc_int_e63_0]
      rw [dec_t (by simp only [List.length_cons]; omega)]
      unfold L_slices_insertionSortCmpFunc_int_e63_2
      have e1 : P ++ (C ++ ((x :: R) ++ Q)) = P ++ ((C ++ [x]) ++ (R ++ Q)) := by simp
      rw [e1, c3 fl _ (by omega)]
      dsimp only
      have := d3 f kk (by simp at hf; omega)
      rw [wrap64 (x := ((P.length + C.length : Nat) : Int) + 1) (by omega) (by omega), show ((P.length + C.length : Nat) : Int) + 1 = ((P.length + C'.length : Nat) : Int) by omega, show P.length + C.length + (x :: R).length = P.length + C'.length + R.length by simp only [List.length_cons]; omega]
      exact this
/-- A part is sorted, element by element. -/
theorem isort (hfl : 9223372036854775808 ≤ fl) (hc : Cmp fl s al key V) {P A Q : List Int} (hV : ∀ y ∈ A, V y) (hl : (P ++ (A ++ Q)).length ≤ 1000000) :
    ∃ D, Srt key D ∧ Stb key D A ∧ ∀ K, F_slices_insertionSortCmpFunc_int_e63 fl (P.length : Int) ((P.length + A.length : Nat) : Int) (P ++ (A ++ Q)) s al K = K (P ++ (D ++ Q), s, al) := by
  unfold F_slices_insertionSortCmpFunc_int_e63 L_slices_insertionSortCmpFunc_int_e63_0
  have hlen := hl
  simp only [List.length_append] at hlen
  cases A with
  | nil =>
    refine ⟨[], List.Pairwise.nil, Stb.refl _, fun K => ?_⟩
    obtain ⟨f, hf⟩ : ∃ g, fl = g + 1 := ⟨fl - 1, by omega⟩
    conv => lhs; arg 2; rw [hf]
    simp only [iter, S_slices_insertionSortCmpFunc_int_e63_0]
    rw [wrap64 (by omega) (by omega), dec_f (by simp; omega)]
  | cons x R =>
    obtain ⟨D, d1, d2, d3⟩ := isort_loop hfl hc (P := P) (Q := Q) R [x] (srt_single x) (fun y hy => by rw [List.mem_singleton] at hy; subst hy; exact hV _ (by simp)) (fun y hy => hV y (by simp [hy])) (by simp only [List.length_append, List.length_cons, List.length_nil] at hlen ⊢; omega)
    refine ⟨D, d1, d2, fun K => ?_⟩
    simp only [List.length_cons] at hlen ⊢
    rw [wrap64 (x := (P.length : Int) + 1) (by omega) (by omega)]
    have := d3 fl (fun v => match v with | (b0, b1, b2) => K (b0, b1, b2)) (by omega)
    rw [show ((P.length + [x].length : Nat) : Int) = (P.length : Int) + 1 by simp, show P.length + [x].length + R.length = P.length + (R.length + 1) by simp; omega] at this
    exact this

/-! ### Merging -/
/-- x goes behind so many. -/
theorem fwd_loop {x : Int} : ∀ (Y : List Int) (P R : List Int) (e f : Nat), e = P.length + Y.length + 1 → (P ++ x :: (Y ++ R)).length ≤ 1000000 → Y.length + 1 ≤ f → ∀ kk, iter (S_slices_symMergeCmpFunc_int_ed8_2 fl) f ((e : Int), (P.length : Int), P ++ x :: (Y ++ R), s, al) kk = kk (P ++ (Y ++ x :: R), s, al)
  | [], P, R, e, f, h1, h2, h3, kk => by
    obtain ⟨f, rfl⟩ : ∃ g, f = g + 1 := ⟨f - 1, by omega⟩
    simp only [List.length_append, List.length_cons, List.length_nil] at h1 h2
    simp only [iter, S_slices_symMergeCmpFunc_int_ed8_2]
    rw [wrap64 (by omega) (by omega), dec_f (by omega)]
    rfl
  | y :: Y, P, R, e, f, h1, h2, h3, kk => by
    obtain ⟨f, rfl⟩ : ∃ g, f = g + 1 := ⟨f - 1, by omega⟩
    have hlen := h2
    simp only [List.length_append, List.length_cons] at hlen h1 h3
    have hd : P ++ x :: ((y :: Y) ++ R) = P ++ x :: y :: (Y ++ R) := by simp
    have g1 : (P ++ x :: y :: (Y ++ R)).getD P.length 0 = x := get_mid _ _ _ _
    have g2 : (P ++ x :: y :: (Y ++ R)).getD (P.length + 1) 0 = y := two_get _ _ _ _ _
    have g3 : ((P ++ x :: y :: (Y ++ R)).set P.length y).set (P.length + 1) x = P ++ y :: x :: (Y ++ R) := two_set _ _ _ _
    have e1 : IntKind.i64.wrap ((P.length : Int) + 1) = ((P.length + 1 : Nat) : Int) := by rw [wrap64 (by omega) (by omega)]; omega
    rw [hd]
    simp only [iter, S_slices_symMergeCmpFunc_int_ed8_2, both_same, e1, Int.toNat_natCast, g1, g2, g3]
    rw [wrap64 (x := (e : Int) - 1) (by omega) (by omega), dec_t (by omega), dec_t (by simp only [List.length_append, List.length_cons]; omega), dec_t (by simp only [List.length_append, List.length_cons]; omega), dec_t (by simp only [List.length_append, List.length_cons]; omega), dec_t (by simp only [List.length_set, List.length_append, List.length_cons]; omega)]
    have := fwd_loop (x := x) Y (P ++ [y]) R e f (by simp; omega) (by simp only [List.length_append, List.length_cons, List.length_nil]; omega) (by omega) kk
    rw [show ((P ++ [y]).length : Nat) = P.length + 1 by simp] at this
    simpa using this
/-- x goes in front of so many. -/
theorem bwd_loop {x : Int} : ∀ (n : Nat) (Z P R : List Int) (f : Nat), Z.length = n → (P ++ (Z ++ x :: R)).length ≤ 1000000 → n + 1 ≤ f → ∀ kk, iter (S_slices_symMergeCmpFunc_int_ed8_6 fl) f ((P.length : Int), ((P.length + Z.length : Nat) : Int), P ++ (Z ++ x :: R), s, al) kk = kk (P ++ (x :: (Z ++ R)), s, al)
  | 0, Z, P, R, f, h1, h2, h3, kk => by
    have : Z = [] := List.eq_nil_of_length_eq_zero h1
    subst this
    obtain ⟨f, rfl⟩ : ∃ g, f = g + 1 := ⟨f - 1, by omega⟩
    simp only [iter, S_slices_symMergeCmpFunc_int_ed8_6]
    rw [dec_f (by simp)]
    rfl
  | n + 1, Z, P, R, f, h1, h2, h3, kk => by
    obtain ⟨Z', y, rfl⟩ : ∃ A' y, Z = A' ++ [y] := by
      refine ⟨Z.dropLast, Z.getLast (by intro h; rw [h] at h1; simp at h1), ?_⟩
      exact (List.dropLast_concat_getLast _).symm
    obtain ⟨f, rfl⟩ : ∃ g, f = g + 1 := ⟨f - 1, by omega⟩
    have hlen := h2
    simp only [List.length_append, List.length_cons, List.length_nil] at hlen h1
    have hd : P ++ ((Z' ++ [y]) ++ x :: R) = (P ++ Z') ++ y :: x :: R := by simp
    have lp : (P ++ Z').length = P.length + Z'.length := List.length_append
    have g1 : ((P ++ Z') ++ y :: x :: R).getD (P.length + Z'.length) 0 = y := by rw [← lp]; exact get_mid _ _ _ _
    have g2 : ((P ++ Z') ++ y :: x :: R).getD (P.length + Z'.length + 1) 0 = x := by rw [← lp]; exact two_get _ _ _ _ _
    have g3 : (((P ++ Z') ++ y :: x :: R).set (P.length + Z'.length + 1) y).set (P.length + Z'.length) x = (P ++ Z') ++ x :: y :: R := by rw [← lp]; exact two_set2 _ _ _ _
    have ej : ((P.length + (Z' ++ [y]).length : Nat) : Int) = ((P.length + Z'.length + 1 : Nat) : Int) := by rw [List.length_append]; simp only [List.length_cons, List.length_nil]; omega
    have ej1 : IntKind.i64.wrap (((P.length + Z'.length + 1 : Nat) : Int) - 1) = ((P.length + Z'.length : Nat) : Int) := by rw [wrap64 (by omega) (by omega)]; omega
    rw [hd, ej]
    simp only [iter, S_slices_symMergeCmpFunc_int_ed8_6, both_same, ej1, Int.toNat_natCast, g1, g2, g3]
    rw [dec_t (by omega), dec_t (by simp only [List.length_append, List.length_cons]; omega), dec_t (by simp only [List.length_append, List.length_cons]; omega), dec_t (by simp only [List.length_append, List.length_cons]; omega), dec_t (by simp only [List.length_set, List.length_append, List.length_cons]; omega)]
    have := bwd_loop (x := x) n Z' P (y :: R) f (by omega) (by simp only [List.length_append, List.length_cons]; omega) (by omega) kk
    rw [show P ++ (Z' ++ x :: y :: R) = (P ++ Z') ++ x :: y :: R by simp] at this
    rw [this]
    simp
end
end Go.Proofs.Ytipdidpalcmlhaa.So

set_option linter.unusedVariables false
set_option linter.unusedSimpArgs false
namespace Go.Proofs.Ytipdidpalcmlhaa.So
open Go Ev

theorem app_get {α : Type} {A B : List α} {i : Nat} (d : α) : (A ++ B).getD i d = if i < A.length then A.getD i d else B.getD (i - A.length) d := by
  split
  · rw [getD_lt (by simp; omega), getD_lt (by assumption), List.getElem_append_left]
  · rename_i h
    by_cases h2 : i - A.length < B.length
    · rw [getD_lt (by simp; omega), getD_lt h2, List.getElem_append_right (by omega)]
    · rw [List.getD_eq_getElem?_getD, List.getD_eq_getElem?_getD, List.getElem?_eq_none (by simp; omega), List.getElem?_eq_none (by omega)]
theorem getD_memD {α : Type} {l : List α} {i : Nat} (h : i < l.length) (d : α) : l.getD i d ∈ l := getD_mem h d
theorem mem_getD {α : Type} {l : List α} {x : α} (d : α) (h : x ∈ l) : ∃ i, i < l.length ∧ l.getD i d = x := by
  obtain ⟨i, hi, e⟩ := List.mem_iff_getElem.1 h
  exact ⟨i, hi, by rw [getD_lt hi, e]⟩
theorem take_getD {α : Type} {l : List α} {n i : Nat} (h : i < n) (d : α) : (l.take n).getD i d = l.getD i d := by
  rw [List.getD_eq_getElem?_getD, List.getD_eq_getElem?_getD, List.getElem?_take, if_pos h]
theorem drop_getD {α : Type} {l : List α} {n i : Nat} (d : α) : (l.drop n).getD i d = l.getD (n + i) d := by
  rw [List.getD_eq_getElem?_getD, List.getD_eq_getElem?_getD, List.getElem?_drop]
section
variable {fl : Nat} {s al : Int} {key : Int → Int} {V : Int → Prop}
/-- What is asked of a merge that may go n deep. -/
def MergeOk (fl : Nat) (s al : Int) (key : Int → Int) (V : Int → Prop) (F : YF142_ed8) (n : Nat) : Prop := ∀ (P A B Q : List Int), 0 < A.length → 0 < B.length → A.length + B.length ≤ n → Srt key A → Srt key B → (∀ y ∈ A, V y) → (∀ y ∈ B, V y) → (P ++ (A ++ (B ++ Q))).length ≤ 1000000 →
  ∃ C, Srt key C ∧ Stb key C (A ++ B) ∧ ∀ K, F (P.length : Int) ((P.length + A.length : Nat) : Int) ((P.length + A.length + B.length : Nat) : Int) (P ++ (A ++ (B ++ Q))) s al K = K (P ++ (C ++ Q), s, al)
/-- As MergeOk, but for empty runs, where nothing is called. -/
theorem merge_if {F : YF142_ed8} {n : Nat} (hF : MergeOk fl s al key V F n) {P A B Q : List Int} (hn : A.length + B.length ≤ n) (hA : Srt key A) (hB : Srt key B) (vA : ∀ y ∈ A, V y) (vB : ∀ y ∈ B, V y) (hl : (P ++ (A ++ (B ++ Q))).length ≤ 1000000) :
    ∃ C, Srt key C ∧ Stb key C (A ++ B) ∧ ∀ K : List Int × Int × Int → Option Ans, (if 0 < A.length ∧ 0 < B.length then F (P.length : Int) ((P.length + A.length : Nat) : Int) ((P.length + A.length + B.length : Nat) : Int) (P ++ (A ++ (B ++ Q))) s al K else K (P ++ (A ++ (B ++ Q)), s, al)) = K (P ++ (C ++ Q), s, al) := by
  by_cases h : 0 < A.length ∧ 0 < B.length
  · obtain ⟨C, c1, c2, c3⟩ := hF P A B Q h.1 h.2 hn hA hB vA vB hl
    exact ⟨C, c1, c2, fun K => by rw [if_pos h]; exact c3 K⟩
  · refine ⟨A ++ B, ?_, Stb.refl _, fun K => by rw [if_neg h, List.append_assoc]⟩
    rcases Nat.eq_zero_or_pos A.length with h0 | h0
    · have : A = [] := List.eq_nil_of_length_eq_zero h0
      subst this
      exact hB
    · have : B = [] := List.eq_nil_of_length_eq_zero (by omega)
      subst this
      rw [List.append_nil]
      exact hA
theorem one_left (hfl : 9223372036854775808 ≤ fl) (hc : Cmp fl s al key V) {x : Int} (hx : V x) {P B Q : List Int} (hB : Srt key B) (vB : ∀ y ∈ B, V y) (hl : (P ++ (x :: (B ++ Q))).length ≤ 1000000) {F : YF142_ed8} :
    ∃ C, Srt key C ∧ Stb key C ([x] ++ B) ∧ ∀ K, Fb_slices_symMergeCmpFunc_int_ed8 F fl (P.length : Int) ((P.length + 1 : Nat) : Int) ((P.length + 1 + B.length : Nat) : Int) (P ++ (x :: (B ++ Q))) s al K = K (P ++ (C ++ Q), s, al) := by
  have hlen := hl
  simp only [List.length_append, List.length_cons] at hlen
  have gx : (P ++ (x :: (B ++ Q))).getD P.length 0 = x := get_mid _ _ _ _
  have gb : ∀ t, P.length + 1 ≤ t → t < P.length + 1 + B.length → (P ++ (x :: (B ++ Q))).getD t 0 = B.getD (t - (P.length + 1)) 0 := fun t h1 h2 => by
    have : P ++ (x :: (B ++ Q)) = (P ++ [x]) ++ (B ++ Q) := by simp
    rw [this, app_get, if_neg (by simp; omega), app_get, if_pos (by simp; omega)]
    simp
  have lp : P.length + 1 = (P ++ [x]).length := by simp
  obtain ⟨r, r1, r2, r3, r4, r5⟩ := bs (step := S_slices_symMergeCmpFunc_int_ed8_0 fl) (st := fun i j => ((P.length : Int), (i : Int), (j : Int), P ++ (x :: (B ++ Q)), s, al)) (fin := fun r => ((P.length : Int), (r : Int), P ++ (x :: (B ++ Q)), s, al)) (p := fun t => key (B.getD (t - (P.length + 1)) 0) < key x) (lo := P.length + 1) (hi := P.length + 1 + B.length)
    (fun t u h1 h2 h3 hp => by
      have := srt_get hB 0 (i := t - (P.length + 1)) (j := u - (P.length + 1)) (by omega) (by omega)
      omega)
    (fun i j c b h1 h2 h3 => by
      have hh := half_ok (i := i) (j := j) (by omega)
      have hm : (i + j) / 2 < P.length + 1 + B.length := by omega
      have hm2 : P.length + 1 ≤ (i + j) / 2 := by omega
      have vm : V (B.getD ((i + j) / 2 - (P.length + 1)) 0) := vB _ (getD_memD (by omega) 0)
      have hg := gb ((i + j) / 2) hm2 hm
      simp only [S_slices_symMergeCmpFunc_int_ed8_0, both_same, hh, Int.toNat_natCast, gx, hg]
      rw [dec_t (by omega), dec_t (by simp only [List.length_append, List.length_cons]; omega), dec_t (by simp only [List.length_append, List.length_cons]; omega), hc _ _ _ vm hx]
      dsimp only
      by_cases hlt : key (B.getD ((i + j) / 2 - (P.length + 1)) 0) < key x
      · rw [if_pos hlt, dec_t (by omega), wrap64 (by omega) (by omega)]
        rfl
      · rw [if_neg hlt, dec_f (by omega)])
    (fun i c b h1 h2 => by
      simp only [S_slices_symMergeCmpFunc_int_ed8_0]
      rw [dec_f (by omega)])
    B.length (P.length + 1) (P.length + 1 + B.length) (by omega) (by omega) (by omega) (by omega) (by omega) (by omega)
  have hsp : B = B.take (r - (P.length + 1)) ++ B.drop (r - (P.length + 1)) := (List.take_append_drop _ _).symm
  generalize hB1 : B.take (r - (P.length + 1)) = B1 at hsp
  generalize hB2 : B.drop (r - (P.length + 1)) = B2 at hsp
  have l1 : B1.length = r - (P.length + 1) := by rw [← hB1, List.length_take]; omega
  obtain ⟨c1, c2⟩ := insert_back (key := key) (a := B1) (b := B2) (x := x) (by rw [← hsp]; exact hB) (fun y hy => by
    obtain ⟨i, hi, rfl⟩ := mem_getD 0 hy
    have := r3 (P.length + 1 + i) (by omega) (by omega)
    rw [← hB1, take_getD (by omega)]
    simpa [show P.length + 1 + i - (P.length + 1) = i by omega] using this) (fun y hy => by
    obtain ⟨i, hi, rfl⟩ := mem_getD 0 hy
    have hl2 : B2.length = B.length - (r - (P.length + 1)) := by rw [← hB2, List.length_drop]
    have := r4 (r + i) (by omega) (by omega)
    rw [← hB2, drop_getD]
    rw [show r + i - (P.length + 1) = r - (P.length + 1) + i by omega] at this
    omega)
  refine ⟨B1 ++ (x :: B2), c1, by rw [hsp]; exact c2, fun K => ?_⟩
  unfold Fb_slices_symMergeCmpFunc_int_ed8 L_slices_symMergeCmpFunc_int_ed8_0
  rw [wrap64 (x := ((P.length + 1 : Nat) : Int) - (P.length : Int)) (by omega) (by omega), cond_t (by simp; omega)]
  have hr := r5 fl (fun v => match v with | (b0_0, b0_1, b0_2, b0_3, b0_4) => (L_slices_symMergeCmpFunc_int_ed8_2 fl (b0_1, b0_0, b0_2, b0_3, b0_4) (fun (b2_0, b2_1, b2_2) => K (b2_0, b2_1, b2_2)))) (by omega)
  refine Eq.trans hr ?_
  dsimp only
  unfold L_slices_symMergeCmpFunc_int_ed8_2
  have e1 : P ++ (x :: (B ++ Q)) = P ++ x :: (B1 ++ (B2 ++ Q)) := by rw [hsp]; simp
  rw [e1, fwd_loop B1 P (B2 ++ Q) r fl (by omega) (by rw [← e1]; exact hl) (by omega)]
  simp
theorem one_right (hfl : 9223372036854775808 ≤ fl) (hc : Cmp fl s al key V) {x : Int} (hx : V x) {P A Q : List Int} (hA1 : 2 ≤ A.length) (hA : Srt key A) (vA : ∀ y ∈ A, V y) (hl : (P ++ (A ++ (x :: Q))).length ≤ 1000000) {F : YF142_ed8} :
    ∃ C, Srt key C ∧ Stb key C (A ++ [x]) ∧ ∀ K, Fb_slices_symMergeCmpFunc_int_ed8 F fl (P.length : Int) ((P.length + A.length : Nat) : Int) ((P.length + A.length + 1 : Nat) : Int) (P ++ (A ++ (x :: Q))) s al K = K (P ++ (C ++ Q), s, al) := by
  have hlen := hl
  simp only [List.length_append, List.length_cons] at hlen
  have gx : (P ++ (A ++ (x :: Q))).getD (P.length + A.length) 0 = x := by
    have : P ++ (A ++ (x :: Q)) = (P ++ A) ++ x :: Q := by simp
    rw [this, show P.length + A.length = (P ++ A).length by simp]
    exact get_mid _ _ _ _
  have ga : ∀ t, P.length ≤ t → t < P.length + A.length → (P ++ (A ++ (x :: Q))).getD t 0 = A.getD (t - P.length) 0 := fun t h1 h2 => by
    rw [app_get, if_neg (by omega), app_get, if_pos (by omega)]
  obtain ⟨r, r1, r2, r3, r4, r5⟩ := bs (step := S_slices_symMergeCmpFunc_int_ed8_4 fl) (st := fun i j => (((P.length + A.length : Nat) : Int), (i : Int), (j : Int), P ++ (A ++ (x :: Q)), s, al)) (fin := fun r => (((P.length + A.length : Nat) : Int), (r : Int), P ++ (A ++ (x :: Q)), s, al)) (p := fun t => key (A.getD (t - P.length) 0) ≤ key x) (lo := P.length) (hi := P.length + A.length)
    (fun t u h1 h2 h3 hp => by
      have := srt_get hA 0 (i := t - P.length) (j := u - P.length) (by omega) (by omega)
      omega)
    (fun i j c b h1 h2 h3 => by
      have hh := half_ok (i := i) (j := j) (by omega)
      have hm : (i + j) / 2 < P.length + A.length := by omega
      have hm2 : P.length ≤ (i + j) / 2 := by omega
      have vm : V (A.getD ((i + j) / 2 - P.length) 0) := vA _ (getD_memD (by omega) 0)
      have hg := ga ((i + j) / 2) hm2 hm
      simp only [S_slices_symMergeCmpFunc_int_ed8_4, both_same, hh, Int.toNat_natCast, gx, hg]
      rw [dec_t (by omega), dec_t (by simp only [List.length_append, List.length_cons]; omega), dec_t (by simp only [List.length_append, List.length_cons]; omega), hc _ _ _ hx vm]
      dsimp only
      by_cases hlt : key (A.getD ((i + j) / 2 - P.length) 0) ≤ key x
      · rw [if_pos hlt, decide_eq_false (by omega), cond_t (b := !false) rfl, wrap64 (by omega) (by omega)]
        rfl
      · rw [if_neg hlt, decide_eq_true (by omega), cond_f (b := !true) rfl])
    (fun i c b h1 h2 => by
      simp only [S_slices_symMergeCmpFunc_int_ed8_4]
      rw [dec_f (by omega)])
    A.length P.length (P.length + A.length) (by omega) (by omega) (by omega) (by omega) (by omega) (by omega)
  have hsp : A = A.take (r - P.length) ++ A.drop (r - P.length) := (List.take_append_drop _ _).symm
  generalize hA1' : A.take (r - P.length) = A1 at hsp
  generalize hA2' : A.drop (r - P.length) = A2 at hsp
  have l1 : A1.length = r - P.length := by rw [← hA1', List.length_take]; omega
  have l2 : A2.length = A.length - (r - P.length) := by rw [← hA2', List.length_drop]
  obtain ⟨c1, c2⟩ := insert_front (key := key) (a := A1) (b := A2) (x := x) (by rw [← hsp]; exact hA) (fun y hy => by
    obtain ⟨i, hi, rfl⟩ := mem_getD 0 hy
    have := r3 (P.length + i) (by omega) (by omega)
    rw [← hA1', take_getD (by omega)]
    simpa [show P.length + i - P.length = i by omega] using this) (fun y hy => by
    obtain ⟨i, hi, rfl⟩ := mem_getD 0 hy
    have := r4 (r + i) (by omega) (by omega)
    rw [← hA2', drop_getD]
    rw [show r + i - P.length = r - P.length + i by omega] at this
    omega)
  refine ⟨A1 ++ (x :: A2), c1, by rw [hsp]; exact c2, fun K => ?_⟩
  unfold Fb_slices_symMergeCmpFunc_int_ed8 L_slices_symMergeCmpFunc_int_ed8_4
  rw [wrap64 (x := ((P.length + A.length : Nat) : Int) - (P.length : Int)) (by omega) (by omega), cond_f (by simp; omega), wrap64 (x := ((P.length + A.length + 1 : Nat) : Int) - ((P.length + A.length : Nat) : Int)) (by omega) (by omega), cond_t (by simp; omega)]
  have hr := r5 fl (fun v => match v with | (b4_0, b4_1, b4_2, b4_3, b4_4) => (L_slices_symMergeCmpFunc_int_ed8_6 fl (b4_1, b4_0, b4_2, b4_3, b4_4) (fun (b6_0, b6_1, b6_2) => K (b6_0, b6_1, b6_2)))) (by omega)
  refine Eq.trans hr ?_
  dsimp only
  unfold L_slices_symMergeCmpFunc_int_ed8_6
  have e1 : P ++ (A ++ (x :: Q)) = (P ++ A1) ++ (A2 ++ x :: Q) := by rw [hsp]; simp
  have hb := bwd_loop (fl := fl) (s := s) (al := al) (x := x) A2.length A2 (P ++ A1) Q fl rfl (by rw [← e1]; exact hl) (by omega) (fun v => match v with | (b6_0, b6_1, b6_2) => K (b6_0, b6_1, b6_2))
  have lp : (P ++ A1).length = r := by rw [List.length_append]; omega
  rw [lp, show r + A2.length = P.length + A.length by omega] at hb
  rw [e1]
  refine Eq.trans hb ?_
  simp
end
end Go.Proofs.Ytipdidpalcmlhaa.So

set_option linter.unusedVariables false
set_option linter.unusedSimpArgs false
namespace Go.Proofs.Ytipdidpalcmlhaa.So
open Go Ev

theorem cdi {p : Prop} [Decidable p] {α : Sort _} {x y : α} : (bif decide p then x else y) = if p then x else y := by
  by_cases h : p
  · rw [if_pos h, decide_eq_true h]; rfl
  · rw [if_neg h, decide_eq_false h]; rfl
section
variable {fl : Nat} {s al : Int} {key : Int → Int} {V : Int → Prop}
/-- What stands behind the search: the runs change places, and each half is merged. -/
noncomputable def SF (F : YF142_ed8) (fl : Nat) (a st m mid e b : Nat) (D : List Int) (s al : Int) (K : List Int × Int × Int → Option Ans) : Option Ans :=
  if st < m ∧ m < e then
    F_slices_rotateCmpFunc_int_ed8 fl (st : Int) (m : Int) (e : Int) D s al (fun (w0, w1, w2) =>
      if a < st ∧ st < mid then F (a : Int) (st : Int) (mid : Int) w0 w1 w2 (fun (y0, y1, y2) => if mid < e ∧ e < b then F (mid : Int) (e : Int) (b : Int) y0 y1 y2 (fun (z0, z1, z2) => K (z0, z1, z2)) else K (y0, y1, y2))
      else if mid < e ∧ e < b then F (mid : Int) (e : Int) (b : Int) w0 w1 w2 (fun (z0, z1, z2) => K (z0, z1, z2)) else K (w0, w1, w2))
  else
    if a < st ∧ st < mid then F (a : Int) (st : Int) (mid : Int) D s al (fun (y0, y1, y2) => if mid < e ∧ e < b then F (mid : Int) (e : Int) (b : Int) y0 y1 y2 (fun (z0, z1, z2) => K (z0, z1, z2)) else K (y0, y1, y2))
    else if mid < e ∧ e < b then F (mid : Int) (e : Int) (b : Int) D s al (fun (z0, z1, z2) => K (z0, z1, z2)) else K (D, s, al)
theorem tail_ok (hfl : 9223372036854775808 ≤ fl) {F : YF142_ed8} {n : Nat} (hF : MergeOk fl s al key V F n) {P A B Q : List Int} {st mid e lo hi : Nat} (hA : Srt key A) (hB : Srt key B) (vA : ∀ y ∈ A, V y) (vB : ∀ y ∈ B, V y) (hl : (P ++ (A ++ (B ++ Q))).length ≤ 1000000)
    (k1 : P.length ≤ st) (k2 : st ≤ P.length + A.length) (k3 : st ≤ mid) (k4 : e + st = mid + P.length + A.length) (k5 : e ≤ P.length + A.length + B.length) (k6 : mid - P.length ≤ n) (k7 : P.length + A.length + B.length - mid ≤ n) (k8 : mid ≤ P.length + A.length + B.length)
    (k9 : lo = P.length ∨ lo + B.length = mid) (k10 : hi = P.length + A.length ∨ hi = mid)
    (r3 : ∀ c, lo ≤ c → c < st → key (A.getD (c - P.length) 0) ≤ key (B.getD (mid - 1 - c) 0)) (r4 : ∀ c, st ≤ c → c < hi → key (B.getD (mid - 1 - c) 0) < key (A.getD (c - P.length) 0)) :
    ∃ C, Srt key C ∧ Stb key C (A ++ B) ∧ ∀ K, SF F fl P.length st (P.length + A.length) mid e (P.length + A.length + B.length) (P ++ (A ++ (B ++ Q))) s al K = K (P ++ (C ++ Q), s, al) := by
  have hlen := hl
  simp only [List.length_append] at hlen
  have sA : A = A.take (st - P.length) ++ A.drop (st - P.length) := (List.take_append_drop _ _).symm
  have sB : B = B.take (mid - st) ++ B.drop (mid - st) := (List.take_append_drop _ _).symm
  have gA1 : ∀ i, i < st - P.length → (A.take (st - P.length)).getD i 0 = A.getD i 0 := fun i hi => take_getD hi 0
  have gX : ∀ i, (A.drop (st - P.length)).getD i 0 = A.getD (st - P.length + i) 0 := fun i => drop_getD 0
  have gY : ∀ i, i < mid - st → (B.take (mid - st)).getD i 0 = B.getD i 0 := fun i hi => take_getD hi 0
  have gB2 : ∀ i, (B.drop (mid - st)).getD i 0 = B.getD (mid - st + i) 0 := fun i => drop_getD 0
  have lA1 : (A.take (st - P.length)).length = st - P.length := by rw [List.length_take]; omega
  have lX : (A.drop (st - P.length)).length = P.length + A.length - st := by rw [List.length_drop]; omega
  have lY : (B.take (mid - st)).length = mid - st := by rw [List.length_take]; omega
  have lB2 : (B.drop (mid - st)).length = B.length - (mid - st) := by rw [List.length_drop]
  generalize A.take (st - P.length) = A1 at *
  generalize A.drop (st - P.length) = X at *
  generalize B.take (mid - st) = Y at *
  generalize B.drop (mid - st) = B2 at *
  have hxy : ∀ u ∈ Y, ∀ w ∈ X, key u < key w := by
    intro u hu w hw
    obtain ⟨j, hj, rfl⟩ := mem_getD 0 hu
    obtain ⟨i, hi', rfl⟩ := mem_getD 0 hw
    rw [gY j (by omega), gX]
    have a1 := srt_get hB 0 (i := j) (j := mid - 1 - st) (by omega) (by omega)
    have a2 := r4 st (by omega) (by omega)
    have a3 := srt_get hA 0 (i := st - P.length) (j := st - P.length + i) (by omega) (by omega)
    omega
  have hab : ∀ u ∈ A1, ∀ w ∈ B2, key u ≤ key w := by
    intro u hu w hw
    obtain ⟨i, hi', rfl⟩ := mem_getD 0 hu
    obtain ⟨j, hj, rfl⟩ := mem_getD 0 hw
    rw [gA1 i (by omega), gB2]
    have a1 := srt_get hA 0 (i := i) (j := st - 1 - P.length) (by omega) (by omega)
    have a2 := r3 (st - 1) (by omega) (by omega)
    rw [show mid - 1 - (st - 1) = mid - st by omega] at a2
    have a3 := srt_get hB 0 (i := mid - st) (j := mid - st + j) (by omega) (by omega)
    omega
  have hA' : Srt key (A1 ++ X) := by rw [← sA]; exact hA
  have hB' : Srt key (Y ++ B2) := by rw [← sB]; exact hB
  obtain ⟨p1, p2, p3⟩ := srt_app.1 hA'
  obtain ⟨q1, q2, q3⟩ := srt_app.1 hB'
  have vA1 : ∀ y ∈ A1, V y := fun y hy => vA y (by rw [sA]; exact List.mem_append_left _ hy)
  have vX : ∀ y ∈ X, V y := fun y hy => vA y (by rw [sA]; exact List.mem_append_right _ hy)
  have vY : ∀ y ∈ Y, V y := fun y hy => vB y (by rw [sB]; exact List.mem_append_left _ hy)
  have vB2 : ∀ y ∈ B2, V y := fun y hy => vB y (by rw [sB]; exact List.mem_append_right _ hy)
  obtain ⟨C1, c1, c2, c3⟩ := merge_if hF (P := P) (A := A1) (B := Y) (Q := X ++ (B2 ++ Q)) (by omega) p1 q1 vA1 vY (by simp only [List.length_append]; omega)
  have lC1 : C1.length = A1.length + Y.length := by rw [c2.len, List.length_append]
  obtain ⟨C2, d1, d2, d3⟩ := merge_if hF (P := P ++ C1) (A := X) (B := B2) (Q := Q) (by omega) p2 q2 vX vB2 (by simp only [List.length_append]; omega)
  obtain ⟨e1, e2⟩ := halves hA' hB' hxy hab c1 d1 c2 d2
  refine ⟨C1 ++ C2, e1, by rw [← sA, ← sB] at e2; exact e2, fun K => ?_⟩
  have lPC : (P ++ C1).length = mid := by rw [List.length_append]; omega
  -- the second half
  have h2 : ∀ K : List Int × Int × Int → Option Ans, (if mid < e ∧ e < P.length + A.length + B.length then F (mid : Int) (e : Int) ((P.length + A.length + B.length : Nat) : Int) (P ++ (C1 ++ (X ++ (B2 ++ Q)))) s al K else K (P ++ (C1 ++ (X ++ (B2 ++ Q))), s, al)) = K (P ++ ((C1 ++ C2) ++ Q), s, al) := by
    intro K
    have := d3 K
    rw [lPC, show mid + X.length = e by omega, show e + B2.length = P.length + A.length + B.length by omega, List.append_assoc] at this
    rw [show ((C1 ++ C2) ++ Q) = C1 ++ (C2 ++ Q) by simp]
    rw [show P ++ (C1 ++ (C2 ++ Q)) = (P ++ C1) ++ (C2 ++ Q) by simp, ← this]
    by_cases hh : mid < e ∧ e < P.length + A.length + B.length
    · rw [if_pos hh, if_pos (by omega)]
    · rw [if_neg hh, if_neg (by omega)]
  -- the first half
  have h1 : ∀ K : List Int × Int × Int → Option Ans, (if P.length < st ∧ st < mid then F (P.length : Int) (st : Int) (mid : Int) (P ++ (A1 ++ (Y ++ (X ++ (B2 ++ Q))))) s al K else K (P ++ (A1 ++ (Y ++ (X ++ (B2 ++ Q)))), s, al)) = K (P ++ (C1 ++ (X ++ (B2 ++ Q))), s, al) := by
    intro K
    have := c3 K
    rw [show P.length + A1.length = st by omega, show st + Y.length = mid by omega] at this
    rw [← this]
    by_cases hh : P.length < st ∧ st < mid
    · rw [if_pos hh, if_pos (by omega)]
    · rw [if_neg hh, if_neg (by omega)]
  have hJ : (if P.length < st ∧ st < mid then F (P.length : Int) (st : Int) (mid : Int) (P ++ (A1 ++ (Y ++ (X ++ (B2 ++ Q))))) s al (fun (y0, y1, y2) => if mid < e ∧ e < P.length + A.length + B.length then F (mid : Int) (e : Int) ((P.length + A.length + B.length : Nat) : Int) y0 y1 y2 (fun (z0, z1, z2) => K (z0, z1, z2)) else K (y0, y1, y2))
      else if mid < e ∧ e < P.length + A.length + B.length then F (mid : Int) (e : Int) ((P.length + A.length + B.length : Nat) : Int) (P ++ (A1 ++ (Y ++ (X ++ (B2 ++ Q))))) s al (fun (z0, z1, z2) => K (z0, z1, z2)) else K (P ++ (A1 ++ (Y ++ (X ++ (B2 ++ Q)))), s, al)) = K (P ++ ((C1 ++ C2) ++ Q), s, al) := by
    have e1 := h1 (fun v => if mid < e ∧ e < P.length + A.length + B.length then F (mid : Int) (e : Int) ((P.length + A.length + B.length : Nat) : Int) v.1 v.2.1 v.2.2 K else K v)
    exact e1.trans (h2 K)
  unfold SF
  by_cases hr : st < P.length + A.length ∧ P.length + A.length < e
  · rw [if_pos hr]
    have hro := fun K => rot_ok (fl := fl) (s := s) (al := al) (K := K) hfl (X := X) (Y := Y) (P := P ++ A1) (Q := B2 ++ Q) (by omega) (by omega) (by simp only [List.length_append]; omega)
    have lp1 : (P ++ A1).length = st := by rw [List.length_append]; omega
    rw [lp1, show st + X.length = P.length + A.length by omega, show P.length + A.length + Y.length = e by omega] at hro
    have ed : P ++ (A ++ (B ++ Q)) = (P ++ A1) ++ (X ++ (Y ++ (B2 ++ Q))) := by rw [sA, sB]; simp
    rw [ed, hro]
    dsimp only
    rw [show (P ++ A1) ++ (Y ++ (X ++ (B2 ++ Q))) = P ++ (A1 ++ (Y ++ (X ++ (B2 ++ Q)))) by simp]
    exact hJ
  · rw [if_neg hr]
    have ed : P ++ (A ++ (B ++ Q)) = P ++ (A1 ++ (Y ++ (X ++ (B2 ++ Q)))) := by
      rw [sA, sB]
      rcases Nat.lt_or_ge st (P.length + A.length) with h' | h'
      · have : Y = [] := List.eq_nil_of_length_eq_zero (by omega)
        subst this
        simp
      · have : X = [] := List.eq_nil_of_length_eq_zero (by omega)
        subst this
        simp
    rw [ed]
    exact hJ
/-- The search for the place where the runs are cut. -/
theorem srch (hfl : 9223372036854775808 ≤ fl) (hc : Cmp fl s al key V) {P A B Q : List Int} {mid lo hi : Nat} (hA : Srt key A) (hB : Srt key B) (vA : ∀ y ∈ A, V y) (vB : ∀ y ∈ B, V y) (hl : (P ++ (A ++ (B ++ Q))).length ≤ 1000000)
    (k1 : P.length ≤ lo) (k2 : hi ≤ P.length + A.length) (k3 : hi ≤ mid) (k4 : lo ≤ hi) (k5 : mid ≤ lo + B.length) :
    ∃ st, lo ≤ st ∧ st ≤ hi ∧ (∀ c, lo ≤ c → c < st → key (A.getD (c - P.length) 0) ≤ key (B.getD (mid - 1 - c) 0)) ∧ (∀ c, st ≤ c → c < hi → key (B.getD (mid - 1 - c) 0) < key (A.getD (c - P.length) 0)) ∧
      ∀ (x0 x1 x2 x3 x4 : Int) (T : Int × Int × Int × Int × Int × Int × List Int × Int × Int → Option Ans), L_slices_symMergeCmpFunc_int_ed8_8 fl (x0, x1, x2, x3, x4, (lo : Int), (hi : Int), ((mid + (P.length + A.length) : Nat) : Int) - 1, P ++ (A ++ (B ++ Q)), s, al) T = T (x0, x1, x2, x3, x4, (st : Int), P ++ (A ++ (B ++ Q)), s, al) := by
  have hlen := hl
  simp only [List.length_append] at hlen
  have ga : ∀ t, P.length ≤ t → t < P.length + A.length → (P ++ (A ++ (B ++ Q))).getD t 0 = A.getD (t - P.length) 0 := fun t h1 h2 => by
    rw [app_get, if_neg (by omega), app_get, if_pos (by omega)]
  have gb : ∀ t, P.length + A.length ≤ t → t < P.length + A.length + B.length → (P ++ (A ++ (B ++ Q))).getD t 0 = B.getD (t - (P.length + A.length)) 0 := fun t h1 h2 => by
    rw [app_get, if_neg (by omega), app_get, if_neg (by omega), app_get, if_pos (by omega)]
    congr 1
    omega
  have main := fun (x0 x1 x2 x3 x4 : Int) => bs (step := S_slices_symMergeCmpFunc_int_ed8_8 fl) (st := fun i j => (x0, x1, x2, x3, x4, (i : Int), (j : Int), ((mid + (P.length + A.length) : Nat) : Int) - 1, P ++ (A ++ (B ++ Q)), s, al)) (fin := fun r => (x0, x1, x2, x3, x4, (r : Int), P ++ (A ++ (B ++ Q)), s, al)) (p := fun t => key (A.getD (t - P.length) 0) ≤ key (B.getD (mid - 1 - t) 0)) (lo := lo) (hi := hi)
    (fun t u h1 h2 h3 hp => by
      have a1 := srt_get hA 0 (i := t - P.length) (j := u - P.length) (by omega) (by omega)
      have a2 := srt_get hB 0 (i := mid - 1 - u) (j := mid - 1 - t) (by omega) (by omega)
      omega)
    (fun i j c b h1 h2 h3 => by
      have hh := half_ok (i := i) (j := j) (by omega)
      have hm : (i + j) / 2 < hi := by omega
      have hm2 : lo ≤ (i + j) / 2 := by omega
      have hg := ga ((i + j) / 2) (by omega) (by omega)
      have hg2 := gb (mid - 1 - (i + j) / 2 + (P.length + A.length)) (by omega) (by omega)
      rw [show mid - 1 - (i + j) / 2 + (P.length + A.length) - (P.length + A.length) = mid - 1 - (i + j) / 2 by omega] at hg2
      have ep : IntKind.i64.wrap (((mid + (P.length + A.length) : Nat) : Int) - 1 - (((i + j) / 2 : Nat) : Int)) = ((mid - 1 - (i + j) / 2 + (P.length + A.length) : Nat) : Int) := by rw [wrap64 (by omega) (by omega)]; omega
      have v1 : V (A.getD ((i + j) / 2 - P.length) 0) := vA _ (getD_memD (by omega) 0)
      have v2 : V (B.getD (mid - 1 - (i + j) / 2) 0) := vB _ (getD_memD (by omega) 0)
      simp only [S_slices_symMergeCmpFunc_int_ed8_8, both_same, hh, ep, Int.toNat_natCast, hg, hg2]
      rw [dec_t (by omega), dec_t (by simp only [List.length_append]; omega), dec_t (by simp only [List.length_append]; omega), hc _ _ _ v2 v1]
      dsimp only
      by_cases hlt : key (A.getD ((i + j) / 2 - P.length) 0) ≤ key (B.getD (mid - 1 - (i + j) / 2) 0)
      · rw [if_pos hlt, decide_eq_false (by omega), cond_t (b := !false) rfl, wrap64 (x := (((i + j) / 2 : Nat) : Int) + 1) (by omega) (by omega)]
        rfl
      · rw [if_neg hlt, decide_eq_true (by omega), cond_f (b := !true) rfl])
    (fun i c b h1 h2 => by
      simp only [S_slices_symMergeCmpFunc_int_ed8_8]
      rw [dec_f (by omega)])
    (hi - lo) lo hi (by omega) (by omega) (by omega) (by omega) (by omega) (by omega)
  obtain ⟨r, r1, r2, r3, r4, _⟩ := main 0 0 0 0 0
  refine ⟨r, r1, r2, r3, fun c h1 h2 => by have := r4 c h1 h2; omega, fun x0 x1 x2 x3 x4 T => ?_⟩
  obtain ⟨r', q1, q2, q3, q4, q5⟩ := main x0 x1 x2 x3 x4
  have : r' = r := by
    rcases Nat.lt_trichotomy r r' with h | h | h
    · exact absurd (q3 r r1 h) (r4 r (Nat.le_refl _) (by omega))
    · exact h.symm
    · exact absurd (r3 r' q1 h) (q4 r' (Nat.le_refl _) (by omega))
  subst this
  unfold L_slices_symMergeCmpFunc_int_ed8_8
  exact q5 fl T (by omega)
theorem merge_ok (hfl : 9223372036854775808 ≤ fl) (hc : Cmp fl s al key V) : ∀ n, MergeOk fl s al key V (Fr_slices_symMergeCmpFunc_int_ed8 fl n) n
  | 0 => fun P A B Q h1 h2 h3 => by omega
  | n + 1 => fun P A B Q h1 h2 h3 hA hB vA vB hl => by
    have ih := merge_ok hfl hc n
    have hlen := hl
    simp only [List.length_append] at hlen
    show ∃ C, Srt key C ∧ Stb key C (A ++ B) ∧ ∀ K, Fb_slices_symMergeCmpFunc_int_ed8 (Fr_slices_symMergeCmpFunc_int_ed8 fl n) fl (P.length : Int) ((P.length + A.length : Nat) : Int) ((P.length + A.length + B.length : Nat) : Int) (P ++ (A ++ (B ++ Q))) s al K = K (P ++ (C ++ Q), s, al)
    by_cases hA1 : A.length = 1
    · obtain ⟨x, rfl⟩ : ∃ x, A = [x] := List.length_eq_one_iff.1 hA1
      exact one_left hfl hc (vA x (by simp)) hB vB hl
    by_cases hB1 : B.length = 1
    · obtain ⟨x, rfl⟩ : ∃ x, B = [x] := List.length_eq_one_iff.1 hB1
      exact one_right hfl hc (vB x (by simp)) (by omega) hA vA hl
    have hmid := half_ok (i := P.length) (j := P.length + A.length + B.length) (by omega)
    generalize hM : (P.length + (P.length + A.length + B.length)) / 2 = mid at hmid
    by_cases hgt : P.length + A.length > mid
    · obtain ⟨st, r1, r2, r3, r4, r5⟩ := srch (mid := mid) (lo := mid - B.length) (hi := mid) hfl hc hA hB vA vB hl (by omega) (by omega) (by omega) (by omega) (by omega)
      obtain ⟨C, c1, c2, c3⟩ := tail_ok (lo := mid - B.length) (hi := mid) (st := st) (mid := mid) (e := mid + (P.length + A.length) - st) hfl ih hA hB vA vB hl (by omega) (by omega) (by omega) (by omega) (by omega) (by omega) (by omega) (by omega) (by omega) (by omega) r3 r4
      refine ⟨C, c1, c2, fun K => ?_⟩
      unfold Fb_slices_symMergeCmpFunc_int_ed8
      rw [wrap64 (x := ((P.length + A.length : Nat) : Int) - (P.length : Int)) (by omega) (by omega), cond_f (by simp; omega), wrap64 (x := ((P.length + A.length + B.length : Nat) : Int) - ((P.length + A.length : Nat) : Int)) (by omega) (by omega), cond_f (by simp; omega), hmid, dec_t (by omega), wrap64 (x := (mid : Int) + ((P.length + A.length : Nat) : Int)) (by omega) (by omega), wrap64 (x := (mid : Int) + ((P.length + A.length : Nat) : Int) - ((P.length + A.length + B.length : Nat) : Int)) (by omega) (by omega), wrap64 (x := (mid : Int) + ((P.length + A.length : Nat) : Int) - 1) (by omega) (by omega)]
      rw [show (mid : Int) + ((P.length + A.length : Nat) : Int) - ((P.length + A.length + B.length : Nat) : Int) = ((mid - B.length : Nat) : Int) by omega, show (mid : Int) + ((P.length + A.length : Nat) : Int) = ((mid + (P.length + A.length) : Nat) : Int) by omega]
      rw [r5]
      dsimp only
      rw [wrap64 (x := ((mid + (P.length + A.length) : Nat) : Int) - (st : Int)) (by omega) (by omega), show ((mid + (P.length + A.length) : Nat) : Int) - (st : Int) = ((mid + (P.length + A.length) - st : Nat) : Int) by omega]
      refine Eq.trans ?_ (c3 K)
      unfold SF
      simp only [cdi, Int.ofNat_lt]
      generalize mid + (P.length + A.length) - st = e
      by_cases g1 : st < P.length + A.length <;> by_cases g2 : P.length + A.length < e <;> by_cases g3 : P.length < st <;> by_cases g4 : st < mid <;> by_cases g5 : mid < e <;> by_cases g6 : e < P.length + A.length + B.length <;> simp only [g1, g2, g3, g4, g5, g6, if_true, if_false, and_true, and_false, true_and, false_and, and_self]
    · obtain ⟨st, r1, r2, r3, r4, r5⟩ := srch (mid := mid) (lo := P.length) (hi := P.length + A.length) hfl hc hA hB vA vB hl (by omega) (by omega) (by omega) (by omega) (by omega)
      obtain ⟨C, c1, c2, c3⟩ := tail_ok (lo := P.length) (hi := P.length + A.length) (st := st) (mid := mid) (e := mid + (P.length + A.length) - st) hfl ih hA hB vA vB hl (by omega) (by omega) (by omega) (by omega) (by omega) (by omega) (by omega) (by omega) (by omega) (by omega) r3 r4
      refine ⟨C, c1, c2, fun K => ?_⟩
      unfold Fb_slices_symMergeCmpFunc_int_ed8
      rw [wrap64 (x := ((P.length + A.length : Nat) : Int) - (P.length : Int)) (by omega) (by omega), cond_f (by simp; omega), wrap64 (x := ((P.length + A.length + B.length : Nat) : Int) - ((P.length + A.length : Nat) : Int)) (by omega) (by omega), cond_f (by simp; omega), hmid, dec_f (by omega), wrap64 (x := (mid : Int) + ((P.length + A.length : Nat) : Int)) (by omega) (by omega), wrap64 (x := (mid : Int) + ((P.length + A.length : Nat) : Int) - 1) (by omega) (by omega)]
      rw [show (mid : Int) + ((P.length + A.length : Nat) : Int) = ((mid + (P.length + A.length) : Nat) : Int) by omega]
      rw [r5]
      dsimp only
      rw [wrap64 (x := ((mid + (P.length + A.length) : Nat) : Int) - (st : Int)) (by omega) (by omega), show ((mid + (P.length + A.length) : Nat) : Int) - (st : Int) = ((mid + (P.length + A.length) - st : Nat) : Int) by omega]
      refine Eq.trans ?_ (c3 K)
      unfold SF
      simp only [cdi, Int.ofNat_lt]
      generalize mid + (P.length + A.length) - st = e
      by_cases g1 : st < P.length + A.length <;> by_cases g2 : P.length + A.length < e <;> by_cases g3 : P.length < st <;> by_cases g4 : st < mid <;> by_cases g5 : mid < e <;> by_cases g6 : e < P.length + A.length + B.length <;> simp only [g1, g2, g3, g4, g5, g6, if_true, if_false, and_true, and_false, true_and, false_and, and_self]
end
end Go.Proofs.Ytipdidpalcmlhaa.So

set_option linter.unusedVariables false
set_option linter.unusedSimpArgs false
namespace Go.Proofs.Ytipdidpalcmlhaa.So
open Go Ev

/-- Sorted block by block, of so many each. -/
inductive Ch (key : Int → Int) (bs : Nat) : List Int → Prop where
  | last {D : List Int} : D.length ≤ bs → Srt key D → Ch key bs D
  | cons {A D : List Int} : A.length = bs → Srt key A → Ch key bs D → Ch key bs (A ++ D)
section
variable {fl : Nat} {s al : Int} {key : Int → Int} {V : Int → Prop}
theorem Ch.srt {bs : Nat} {D : List Int} (h : Ch key bs D) (hb : 0 < bs) (hl : D.length ≤ bs) : Srt key D := by
  cases h with
  | last _ h => exact h
  | cons h1 h2 h3 =>
    rename_i A D
    rw [List.length_append] at hl
    have : D = [] := List.eq_nil_of_length_eq_zero (by omega)
    subst this
    rw [List.append_nil]
    exact h2
theorem Ch.two {bs : Nat} {D : List Int} (h : Ch key bs D) (hb : 0 < bs) (hl : bs < D.length) : ∃ A B R, D = A ++ (B ++ R) ∧ A.length = bs ∧ Srt key A ∧ Srt key B ∧ 0 < B.length ∧ B.length ≤ bs ∧ Ch key bs R ∧ (B.length < bs → R = []) := by
  cases h with
  | last h1 _ => omega
  | cons h1 h2 h3 =>
    rename_i A D
    rw [List.length_append] at hl
    cases h3 with
    | last h4 h5 => exact ⟨A, D, [], by simp, h1, h2, h5, by omega, h4, .last (by simp) List.Pairwise.nil, fun _ => rfl⟩
    | cons h4 h5 h6 =>
      rename_i B R
      exact ⟨A, B, R, rfl, h1, h2, h5, by omega, by omega, h6, fun h => by omega⟩
theorem blocks (hfl : 9223372036854775808 ≤ fl) (hc : Cmp fl s al key V) : ∀ (m : Nat) (P D : List Int), D.length ≤ m → (∀ y ∈ D, V y) → (P ++ D).length ≤ 500000 →
    ∃ D', Ch key 20 D' ∧ Stb key D' D ∧ ∀ (f : Nat) (T : Int × Int × List Int × Int × Int → Option Ans), m + 1 ≤ f →
      iter (S_slices_stableCmpFunc_int_a94_0 fl) f (((P.length + D.length : Nat) : Int), 20, (P.length : Int), ((P.length + 20 : Nat) : Int), P ++ D, s, al) (fun (b0, b1, b2, b3, b4, b5) => F_slices_insertionSortCmpFunc_int_e63 fl b2 b0 b3 b4 b5 (fun (y0, y1, y2) => T (b0, b1, y0, y1, y2))) = T (((P.length + D.length : Nat) : Int), 20, P ++ D', s, al) := by
  intro m
  induction m with
  | zero =>
    intro P D hm hV hl
    have : D = [] := List.eq_nil_of_length_eq_zero (by omega)
    subst this
    obtain ⟨C, c1, c2, c3⟩ := isort hfl hc (P := P) (A := []) (Q := []) (by simp) (by simp at hl ⊢; omega)
    have hC : C = [] := List.eq_nil_of_length_eq_zero (by have := c2.len; simpa using this)
    subst hC
    refine ⟨[], .last (by simp) List.Pairwise.nil, Stb.refl _, fun f T hf => ?_⟩
    obtain ⟨f, rfl⟩ : ∃ g, f = g + 1 := ⟨f - 1, by omega⟩
    simp only [iter, S_slices_stableCmpFunc_int_a94_0]
    rw [dec_f (by simp; omega)]
    have := c3 (fun v => T (((P.length + ([] : List Int).length : Nat) : Int), 20, v.1, v.2.1, v.2.2))
    simp only [List.append_nil] at this ⊢
    exact this
  | succ m ih =>
    intro P D hm hV hl
    have hlen := hl
    simp only [List.length_append] at hlen
    by_cases h20 : 20 ≤ D.length
    · have hsp : D = D.take 20 ++ D.drop 20 := (List.take_append_drop _ _).symm
      have lA : (D.take 20).length = 20 := by rw [List.length_take]; omega
      have lR : (D.drop 20).length = D.length - 20 := by rw [List.length_drop]
      generalize D.take 20 = A at *
      generalize D.drop 20 = R at *
      subst hsp
      obtain ⟨C, c1, c2, c3⟩ := isort hfl hc (P := P) (A := A) (Q := R) (fun y hy => hV y (by simp [hy])) (by simp only [List.length_append]; omega)
      have lC : C.length = 20 := by rw [c2.len, lA]
      obtain ⟨R', d1, d2, d3⟩ := ih (P ++ C) R (by omega) (fun y hy => hV y (by simp [hy])) (by simp only [List.length_append]; omega)
      refine ⟨C ++ R', .cons lC c1 d1, c2.app d2, fun f T hf => ?_⟩
      obtain ⟨f, rfl⟩ : ∃ g, f = g + 1 := ⟨f - 1, by omega⟩
      simp only [iter, S_slices_stableCmpFunc_int_a94_0]
      rw [dec_t (by simp only [List.length_append]; omega), show ((P.length + 20 : Nat) : Int) = ((P.length + A.length : Nat) : Int) by omega, c3]
      dsimp only
      have := d3 f T (by omega)
      simp only [List.length_append] at this ⊢
      rw [wrap64 (by omega) (by omega)]
      rw [show P.length + C.length + R.length = P.length + (A.length + R.length) by omega, show ((P.length + C.length : Nat) : Int) = ((P.length + A.length : Nat) : Int) by omega, show ((P.length + C.length + 20 : Nat) : Int) = ((P.length + A.length : Nat) : Int) + 20 by omega, List.append_assoc, List.append_assoc] at this
      exact this
    · obtain ⟨C, c1, c2, c3⟩ := isort hfl hc (P := P) (A := D) (Q := []) hV (by simpa using Nat.le_trans hl (by omega))
      refine ⟨C, .last (by rw [c2.len]; omega) c1, c2, fun f T hf => ?_⟩
      obtain ⟨f, rfl⟩ : ∃ g, f = g + 1 := ⟨f - 1, by omega⟩
      simp only [iter, S_slices_stableCmpFunc_int_a94_0]
      rw [dec_f (by omega)]
      have := c3 (fun v => T (((P.length + D.length : Nat) : Int), 20, v.1, v.2.1, v.2.2))
      simp only [List.append_nil] at this
      exact this
theorem pass (hfl : 9223372036854775808 ≤ fl) (hc : Cmp fl s al key V) {bs : Nat} (hb : 0 < bs) (hb2 : bs ≤ 500000) : ∀ (m : Nat) (P D : List Int), D.length ≤ m → Ch key bs D → (∀ y ∈ D, V y) → (P ++ D).length ≤ 500000 →
    ∃ D', Ch key (2 * bs) D' ∧ Stb key D' D ∧ ∀ (f : Nat) (c : Int × Int × List Int × Int × Int → Option Ans), m + 1 ≤ f →
      iter (S_slices_stableCmpFunc_int_a94_4 fl) f (((P.length + D.length : Nat) : Int), (bs : Int), (P.length : Int), ((P.length + 2 * bs : Nat) : Int), P ++ D, s, al) (fun (b4_0, b4_1, b4_2, b4_3, b4_4, b4_5) =>
        bif decide (IntKind.i64.wrap (b4_2 + b4_1) < b4_0) then
          F_slices_symMergeCmpFunc_int_ed8 fl b4_2 (IntKind.i64.wrap (b4_2 + b4_1)) b4_0 b4_3 b4_4 b4_5 (fun (y8_0, y8_1, y8_2) => c (b4_0, IntKind.i64.wrap (b4_1 * 2), y8_0, y8_1, y8_2))
        else c (b4_0, IntKind.i64.wrap (b4_1 * 2), b4_3, b4_4, b4_5)) = c (((P.length + D.length : Nat) : Int), ((2 * bs : Nat) : Int), P ++ D', s, al) := by
  have hM := merge_ok hfl hc fl
  intro m
  induction m with
  | zero =>
    intro P D hm hD hV hl
    have : D = [] := List.eq_nil_of_length_eq_zero (by omega)
    subst this
    have hlen := hl
    simp only [List.length_append, List.length_nil] at hlen
    refine ⟨[], .last (by simp) List.Pairwise.nil, Stb.refl _, fun f c hf => ?_⟩
    obtain ⟨f, rfl⟩ : ∃ g, f = g + 1 := ⟨f - 1, by omega⟩
    simp only [iter, S_slices_stableCmpFunc_int_a94_4]
    rw [dec_f (by simp; omega)]
    rw [wrap64 (x := (P.length : Int) + (bs : Int)) (by omega) (by omega), dec_f (by simp; omega), wrap64 (x := (bs : Int) * 2) (by omega) (by omega), show (bs : Int) * 2 = ((2 * bs : Nat) : Int) by omega]
  | succ m ih =>
    intro P D hm hD hV hl
    have hlen := hl
    simp only [List.length_append] at hlen
    by_cases h2 : 2 * bs ≤ D.length
    · obtain ⟨A, B, R, rfl, a1, a2, a3, a4, a5, a6, a7⟩ := hD.two hb (by omega)
      have lB : B.length = bs := by
        rcases Nat.lt_or_ge B.length bs with h | h
        · have := a7 h
          subst this
          simp only [List.length_append, List.length_nil] at h2
          omega
        · omega
      simp only [List.length_append] at hlen hm h2
      obtain ⟨C, c1, c2, c3⟩ := hM P A B R (by omega) a4 (by omega) a2 a3 (fun y hy => hV y (by simp [hy])) (fun y hy => hV y (by simp [hy])) (by simp only [List.length_append]; omega)
      have lC : C.length = 2 * bs := by rw [c2.len, List.length_append]; omega
      obtain ⟨R', d1, d2, d3⟩ := ih (P ++ C) R (by omega) a6 (fun y hy => hV y (by simp [hy])) (by simp only [List.length_append]; omega)
      refine ⟨C ++ R', .cons lC c1 d1, by have := c2.app d2; simpa using this, fun f c hf => ?_⟩
      obtain ⟨f, rfl⟩ : ∃ g, f = g + 1 := ⟨f - 1, by omega⟩
      simp only [iter, S_slices_stableCmpFunc_int_a94_4]
      rw [dec_t (by simp only [List.length_append]; omega), wrap64 (x := (P.length : Int) + (bs : Int)) (by omega) (by omega), show (P.length : Int) + (bs : Int) = ((P.length + A.length : Nat) : Int) by omega, show ((P.length + 2 * bs : Nat) : Int) = ((P.length + A.length + B.length : Nat) : Int) by omega]
      have c3' := fun K => c3 K
      unfold F_slices_symMergeCmpFunc_int_ed8 at *
      rw [c3]
      dsimp only
      have := d3 f c (by omega)
      simp only [List.length_append] at this ⊢
      rw [wrap64 (x := 2 * (bs : Int)) (by omega) (by omega), wrap64 (by omega) (by omega)]
      rw [show P.length + C.length + R.length = P.length + (A.length + (B.length + R.length)) by omega, show ((P.length + C.length : Nat) : Int) = ((P.length + A.length + B.length : Nat) : Int) by omega, show ((P.length + C.length + 2 * bs : Nat) : Int) = ((P.length + A.length + B.length : Nat) : Int) + 2 * (bs : Int) by omega, List.append_assoc, List.append_assoc] at this
      exact this
    · have hend : ∀ (f : Nat) b, iter (S_slices_stableCmpFunc_int_a94_4 fl) (f + 1) (((P.length + D.length : Nat) : Int), (bs : Int), (P.length : Int), ((P.length + 2 * bs : Nat) : Int), P ++ D, s, al) b = b (((P.length + D.length : Nat) : Int), (bs : Int), (P.length : Int), P ++ D, s, al) := by
        intro f b
        simp only [iter, S_slices_stableCmpFunc_int_a94_4]
        rw [dec_f (by omega)]
      by_cases h1 : bs < D.length
      · obtain ⟨A, B, R, rfl, a1, a2, a3, a4, a5, a6, a7⟩ := hD.two hb h1
        simp only [List.length_append] at hlen hm h2 h1
        have hR : R = [] := a7 (by omega)
        subst hR
        simp only [List.length_nil] at hlen hm h2 h1
        obtain ⟨C, c1, c2, c3⟩ := hM P A B [] (by omega) a4 (by omega) a2 a3 (fun y hy => hV y (by simp [hy])) (fun y hy => hV y (by simp [hy])) (by simp only [List.length_append, List.length_nil]; omega)
        have lC : C.length = A.length + B.length := by rw [c2.len, List.length_append]
        refine ⟨C, .last (by omega) c1, by rw [List.append_nil]; exact c2, fun f c hf => ?_⟩
        obtain ⟨f, rfl⟩ : ∃ g, f = g + 1 := ⟨f - 1, by omega⟩
        rw [hend]
        dsimp only
        unfold F_slices_symMergeCmpFunc_int_ed8
        rw [wrap64 (x := (P.length : Int) + (bs : Int)) (by omega) (by omega), dec_t (by simp only [List.length_append, List.length_nil]; omega), wrap64 (x := (bs : Int) * 2) (by omega) (by omega), show (bs : Int) * 2 = ((2 * bs : Nat) : Int) by omega, show (P.length : Int) + (bs : Int) = ((P.length + A.length : Nat) : Int) by omega]
        have := c3 (fun v => c (((P.length + A.length + B.length : Nat) : Int), ((2 * bs : Nat) : Int), v.1, v.2.1, v.2.2))
        simp only [List.append_nil, List.length_append, List.length_nil, Nat.add_zero, ← Nat.add_assoc] at this ⊢
        exact this
      · have hs := hD.srt hb (by omega)
        refine ⟨D, .last (by omega) hs, Stb.refl _, fun f c hf => ?_⟩
        obtain ⟨f, rfl⟩ : ∃ g, f = g + 1 := ⟨f - 1, by omega⟩
        rw [hend]
        dsimp only
        rw [wrap64 (x := (P.length : Int) + (bs : Int)) (by omega) (by omega), dec_f (by omega), wrap64 (x := (bs : Int) * 2) (by omega) (by omega), show (bs : Int) * 2 = ((2 * bs : Nat) : Int) by omega]
theorem passes (hfl : 9223372036854775808 ≤ fl) (hc : Cmp fl s al key V) : ∀ (m bs : Nat) (D : List Int), 0 < bs → bs ≤ 500000 → D.length ≤ bs + m → Ch key bs D → (∀ y ∈ D, V y) → D.length ≤ 400000 →
    ∃ D', Srt key D' ∧ Stb key D' D ∧ ∀ (f : Nat) (T : List Int × Int × Int → Option Ans), m + 1 ≤ f → iter (S_slices_stableCmpFunc_int_a94_2 fl) f ((D.length : Int), (bs : Int), D, s, al) T = T (D', s, al) := by
  intro m
  induction m with
  | zero =>
    intro bs D hb hb2 hm hD hV hl
    refine ⟨D, hD.srt hb (by omega), Stb.refl _, fun f T hf => ?_⟩
    obtain ⟨f, rfl⟩ : ∃ g, f = g + 1 := ⟨f - 1, by omega⟩
    simp only [iter, S_slices_stableCmpFunc_int_a94_2]
    rw [dec_f (by omega)]
  | succ m ih =>
    intro bs D hb hb2 hm hD hV hl
    by_cases h : bs < D.length
    · obtain ⟨C, c1, c2, c3⟩ := pass hfl hc hb (by omega) D.length [] D (Nat.le_refl _) hD hV (by simp; omega)
      have lC := c2.len
      by_cases hbig : 2 * bs ≤ 500000
      · obtain ⟨E, e1, e2, e3⟩ := ih (2 * bs) C (by omega) hbig (by omega) c1 (fun y hy => hV y (c2.1.mem_iff.1 hy)) (by omega)
        refine ⟨E, e1, e2.trans c2, fun f T hf => ?_⟩
        obtain ⟨f, rfl⟩ : ∃ g, f = g + 1 := ⟨f - 1, by omega⟩
        simp only [iter, S_slices_stableCmpFunc_int_a94_2]
        unfold L_slices_stableCmpFunc_int_a94_4
        have h4 := c3 fl (fun v => iter (S_slices_stableCmpFunc_int_a94_2 fl) f v T) (by omega)
        simp only [List.length_nil, Nat.zero_add, List.nil_append] at h4
        rw [dec_t (by omega), wrap64 (x := 2 * (bs : Int)) (by omega) (by omega), show 2 * (bs : Int) = ((2 * bs : Nat) : Int) by omega]
        refine Eq.trans h4 ?_
        have := e3 f T (by omega)
        rw [lC] at this
        exact this
      · -- so great a block holds all
        refine ⟨C, c1.srt (by omega) (by omega), c2, fun f T hf => ?_⟩
        obtain ⟨f, rfl⟩ : ∃ g, f = g + 1 := ⟨f - 1, by omega⟩
        simp only [iter, S_slices_stableCmpFunc_int_a94_2]
        unfold L_slices_stableCmpFunc_int_a94_4
        have h4 := c3 fl (fun v => iter (S_slices_stableCmpFunc_int_a94_2 fl) f v T) (by omega)
        simp only [List.length_nil, Nat.zero_add, List.nil_append] at h4
        rw [dec_t (by omega), wrap64 (x := 2 * (bs : Int)) (by omega) (by omega), show 2 * (bs : Int) = ((2 * bs : Nat) : Int) by omega]
        refine Eq.trans h4 ?_
        obtain ⟨f, rfl⟩ : ∃ g, f = g + 1 := ⟨f - 1, by omega⟩
        simp only [iter, S_slices_stableCmpFunc_int_a94_2]
        rw [dec_f (by omega)]
    · refine ⟨D, hD.srt hb (by omega), Stb.refl _, fun f T hf => ?_⟩
      obtain ⟨f, rfl⟩ : ∃ g, f = g + 1 := ⟨f - 1, by omega⟩
      simp only [iter, S_slices_stableCmpFunc_int_a94_2]
      rw [dec_f (by omega)]
/-- What the sort comes to. -/
theorem sort_ok (hfl : 9223372036854775808 ≤ fl) (hc : Cmp fl s al key V) {D : List Int} (hV : ∀ y ∈ D, V y) (hl : D.length ≤ 400000) : ∃ C, Srt key C ∧ Stb key C D ∧ ∀ K, F_slices_SortStableFunc_int_int_f91 fl D s al K = K (C, s, al) := by
  obtain ⟨B, b1, b2, b3⟩ := blocks hfl hc D.length [] D (Nat.le_refl _) hV (by simp; omega)
  have lB := b2.len
  obtain ⟨C, c1, c2, c3⟩ := passes hfl hc B.length 20 B (by omega) (by omega) (by omega) b1 (fun y hy => hV y (b2.1.mem_iff.1 hy)) (by omega)
  refine ⟨C, c1, c2.trans b2, fun K => ?_⟩
  unfold F_slices_SortStableFunc_int_int_f91 F_slices_stableCmpFunc_int_a94 L_slices_stableCmpFunc_int_a94_0
  have h0 := b3 fl (fun v => L_slices_stableCmpFunc_int_a94_2 fl v (fun (b2_0, b2_1, b2_2) => K (b2_0, b2_1, b2_2))) (by omega)
  simp only [List.length_nil, Nat.zero_add, List.nil_append] at h0
  refine Eq.trans h0 ?_
  unfold L_slices_stableCmpFunc_int_a94_2
  have := c3 fl (fun (b2_0, b2_1, b2_2) => K (b2_0, b2_1, b2_2)) (by omega)
  rw [lB] at this
  exact this
end
end Go.Proofs.Ytipdidpalcmlhaa.So

set_option linter.unusedVariables false
set_option linter.unusedSimpArgs false
namespace Go.Proofs.Ytipdidpalcmlhaa.Bm
open Go Ev

theorem cd {α : Sort _} {p : Prop} {i : Decidable p} {x y : α} : (bif @decide p i then x else y) = @ite α p i x y := by by_cases h : p <;> simp [h]
theorem cb {α : Sort _} {a b : Int} {x y : α} : (bif a == b then x else y) = if a = b then x else y := by
  by_cases h : a = b
  · simp [h]
  · rw [if_neg h, cond_f (by simpa using h)]
theorem mul_le {w h a b : Int} (h0 : 0 ≤ w) (h1 : w ≤ a) (h2 : 0 ≤ h) (h3 : h ≤ b) : 0 ≤ w * h ∧ w * h ≤ a * b :=
  ⟨Int.mul_nonneg h0 h2, Int.mul_le_mul h1 h3 h2 (by omega)⟩

/-- Sides of a bitmap. -/
def fit (w h : Int) : Bool := decide (0 ≤ w ∧ 0 ≤ h ∧ w ≤ 200 ∧ h ≤ 200 ∧ w * h ≤ 8192)
theorem fit_iff {w h : Int} : fit w h = true ↔ 0 ≤ w ∧ 0 ≤ h ∧ w ≤ 200 ∧ h ≤ 200 ∧ w * h ≤ 8192 := by simp [fit]
theorem fits_ok {fl : Nat} {w h : Int} {K : Bool → Option Ans} : F_bitmap_fits fl w h K = K (fit w h) := by
  unfold F_bitmap_fits fit
  simp only [cd]
  split
  · split
    · split
      · split
        · have := mul_le (a := 200) (b := 200) (show 0 ≤ w by omega) (by omega) (show 0 ≤ h by omega) (by omega)
          rw [wrap64 (by omega) (by omega)]
          exact congrArg K (decide_eq_decide.2 (by omega))
        · exact congrArg K (decide_eq_false (by omega)).symm
      · exact congrArg K (decide_eq_false (by omega)).symm
    · exact congrArg K (decide_eq_false (by omega)).symm
  · exact congrArg K (decide_eq_false (by omega)).symm
theorem sides_ok {fl : Nat} {w h : Int} {K : Bool → Option Ans} : F_ref05_Sides fl w h K = K (fit w h) := by
  unfold F_ref05_Sides fit
  simp only [cd]
  split
  · split
    · split
      · split
        · have := mul_le (a := 200) (b := 200) (show 0 ≤ w by omega) (by omega) (show 0 ≤ h by omega) (by omega)
          rw [wrap64 (by omega) (by omega)]
          exact congrArg K (decide_eq_decide.2 (by omega))
        · exact congrArg K (decide_eq_false (by omega)).symm
      · exact congrArg K (decide_eq_false (by omega)).symm
    · exact congrArg K (decide_eq_false (by omega)).symm
  · exact congrArg K (decide_eq_false (by omega)).symm

/-- A bitmap. -/
def valid (w h : Int) (pix : List Int) : Bool := fit w h && decide ((pix.length : Int) = w * h) && pix.all fun x => decide (x ≤ 1)
/-- A place in a bitmap. -/
def ins (w h x y : Int) : Prop := 0 ≤ x ∧ 0 ≤ y ∧ x < w ∧ y < h
instance {w h x y : Int} : Decidable (ins w h x y) := by unfold ins; infer_instance
end Go.Proofs.Ytipdidpalcmlhaa.Bm

set_option linter.unusedVariables false
set_option linter.unusedSimpArgs false
namespace Go.Proofs.Ytipdidpalcmlhaa.Gen
open Go Ev Bm

def vr (t ax ay kd : Int) : Bool := decide (0 ≤ t ∧ t ≤ 3 ∧ (kd = 0 ∨ kd = 1) ∧ -8 ≤ ax ∧ ax ≤ 8 ∧ -8 ≤ ay ∧ ay ≤ 0 ∧ (ay < 0 ∨ ax < 0))
/-- The offsets of a template. -/
def tpl (t : Int) : List (Int × Int) :=
  if t = 0 then [(-1, -2), (0, -2), (1, -2), (-2, -1), (-1, -1), (0, -1), (1, -1), (2, -1), (-2, 0), (-1, 0)]
  else if t = 1 then [(-1, -2), (0, -2), (-1, -1), (0, -1), (1, -1), (-2, 0), (-1, 0)]
  else if t = 2 then [(-2, -1), (-1, -1), (0, -1), (1, -1), (2, -1), (-2, 0), (-1, 0)]
  else [(-1, -1), (0, -1), (1, -1), (-1, 0)]
/-- How many contexts a region takes. -/
def size (t : Int) : Int := 2 ^ ((tpl t).length + 1) + 1
/-! ### The context of a pixel -/
/-- A bitmap's pixels. -/
structure Pix (w h : Int) (p : List Int) : Prop where
  w0 : 0 ≤ w
  h0 : 0 ≤ h
  w1 : w ≤ 200
  h1 : h ≤ 200
  n : w * h ≤ 8192
  len : (p.length : Int) = w * h
  bit : ∀ v ∈ p, 0 ≤ v ∧ v ≤ 1
end Go.Proofs.Ytipdidpalcmlhaa.Gen

set_option linter.unusedVariables false
set_option linter.unusedSimpArgs false
namespace Go.Proofs.Ytipdidpalcmlhaa.Ton
open Go Ev Bm Gen

section
variable (W H x y op w h : Int) (q : List Int)
end
section
variable {W H x y op w h : Int} {p q : List Int}
end
end Go.Proofs.Ytipdidpalcmlhaa.Ton

set_option linter.unusedVariables false
set_option linter.unusedSimpArgs false
namespace Go.Proofs.Ytipdidpalcmlhaa.Ton
open Go Ev Bm Gen

/-! ### Patterns -/
abbrev Bmp := Int × Int × List Int
def l0 (l : List Bmp) : Bmp := l.getD 0 (0, 0, [])
/-! ### New bitmaps -/
theorem replicate_set (n i : Nat) : (List.replicate n (0 : Int)).set i 0 = List.replicate n 0 := by
  apply List.ext_getElem (by simp)
  intro j h1 h2
  simp [List.getElem_set]
theorem bnew0 {fl : Nat} (hfl : 9223372036854775808 ≤ fl) {w h : Int} (hf : fit w h = true) {K : Int × Int × Int × List Int → Option Ans} : F_bitmap_New fl w h 0 K = K (w, h, 0, List.replicate (w * h).toNat 0) := by
  obtain ⟨f1, f2, f3, f4, f5⟩ := fit_iff.1 hf
  have hm := Int.mul_nonneg f1 f2
  unfold F_bitmap_New F_bitmap_blank
  rw [dec_f (by omega), dec_f (by omega), cond_f (b := (0 : Int) != 0) rfl, fits_ok, hf, cond_f (b := !true) rfl, wrap64 (x := w * h) (by omega) (by omega), dec_t (by refine ⟨by omega, ?_, by omega, by omega⟩; first | rfl | trivial)]
  dsimp only
  unfold L_bitmap_New_0
  refine iter_seq (step := S_bitmap_New_0 fl) (fun i : Nat => (0, 0, ((List.replicate (w * h).toNat (0 : Int)).length : Int), (i : Int), 0, 0, w, h, [], List.replicate (w * h).toNat 0)) (w * h).toNat rfl (fun i hi c => ?_) (fun c => ?_) (by omega)
  · simp only [S_bitmap_New_0, List.length_replicate]
    rw [dec_t (by omega), dec_t (by omega), wrap64 (by omega) (by omega), wrap8 (by omega) (by omega), replicate_set]
    rfl
  · simp only [S_bitmap_New_0, List.length_replicate]
    rw [dec_f (by omega)]
theorem rbnew0 {fl : Nat} (hfl : 9223372036854775808 ≤ fl) {w h : Int} (hf : fit w h = true) {K : Int × Int × Int × List Int → Option Ans} : F_ref05_New fl w h 0 K = K (w, h, 0, List.replicate (w * h).toNat 0) := by
  obtain ⟨f1, f2, f3, f4, f5⟩ := fit_iff.1 hf
  have hm := Int.mul_nonneg f1 f2
  unfold F_ref05_New F_ref05_make2
  rw [dec_f (by omega), dec_f (by omega), dec_f (by omega), dec_f (by omega), sides_ok, hf, cond_f (b := !true) rfl]
  unfold L_ref05_make2_0
  refine iter_seq (step := S_ref05_make2_0 fl) (fun i : Nat => (w, h, 0, (i : Int), 0, 0, w, h, [], List.replicate i 0)) (w * h).toNat rfl (fun i hi c => ?_) (fun c => ?_) (by omega)
  · simp only [S_ref05_make2_0]
    rw [wrap64 (x := w * h) (by omega) (by omega), dec_t (by omega), dec_t (by simp; omega), wrap64 (by omega) (by omega), wrap8 (by omega) (by omega), List.replicate_succ']
    rfl
  · simp only [S_ref05_make2_0]
    rw [wrap64 (x := w * h) (by omega) (by omega), dec_f (by omega)]

/-! ### The first error -/
end Go.Proofs.Ytipdidpalcmlhaa.Ton

set_option linter.unusedVariables false
set_option linter.unusedSimpArgs false
namespace Go.Proofs.Ytipdidpalcmlhaa.Sc
open Go Ev Bm Gen So Ton

theorem loOf_noneS : loOf none = 0 := rfl
def keyI (s a x : Int) : Int := (x % s * 7 + x / s * 3) % a
def VV (x : Int) : Prop := 0 ≤ x ∧ x < 256
theorem key_rg {s a x : Int} (ha : 1 ≤ a) : 0 ≤ keyI s a x ∧ keyI s a x < a := ⟨Int.emod_nonneg _ (by omega), Int.emod_lt_of_pos _ (by omega)⟩
theorem key_text {s a x : Int} (hs : 1 ≤ s ∧ s ≤ 16) (ha : 1 ≤ a ∧ a ≤ 256) (hx : VV x) : (IntKind.i64.wrap (IntKind.i64.wrap (x.tmod s * 7) + IntKind.i64.wrap (IntKind.i64.wrap (x.tdiv s) * 3))).tmod a = keyI s a x := by
  obtain ⟨x0, x1⟩ := hx
  rw [Int.tmod_eq_emod_of_nonneg x0, Int.tdiv_eq_ediv_of_nonneg x0]
  have a1 := Int.emod_nonneg x (show s ≠ 0 by omega)
  have a2 := Int.emod_lt_of_pos x (show 0 < s by omega)
  have a3 : 0 ≤ x / s := Int.ediv_nonneg x0 (by omega)
  have a4 : x / s ≤ x := Int.ediv_le_self s x0
  unfold keyI
  generalize x % s = r at *
  generalize x / s = q at *
  rw [wrap64 (x := q) (by omega) (by omega), wrap64 (x := r * 7) (by omega) (by omega), wrap64 (x := q * 3) (by omega) (by omega), wrap64 (by omega) (by omega), Int.tmod_eq_emod_of_nonneg (by omega)]
theorem cmp_ok {fl : Nat} {s a : Int} (hs : 1 ≤ s ∧ s ≤ 16) (ha : 1 ≤ a ∧ a ≤ 256) : Cmp fl s a (keyI s a) VV := by
  intro x y K hx hy
  unfold F_tone_Screen_1_b33
  have h1 : decide (s = 0) = false := decide_eq_false (by omega)
  have h2 : decide (a = 0) = false := decide_eq_false (by omega)
  simp only [h1, h2, cond_false, key_text hs ha hx, key_text hs ha hy]
  have k1 := key_rg (s := s) (x := x) ha.1
  have k2 := key_rg (s := s) (x := y) ha.1
  rw [wrap64 (by omega) (by omega)]
def ord (a : Nat) : List Int := (List.range a).map fun i : Nat => (i : Int)
theorem ord_len (a : Nat) : (ord a).length = a := by simp [ord]
theorem ord_mem {a : Nat} {x : Int} (h : x ∈ ord a) : 0 ≤ x ∧ x < a := by
  obtain ⟨i, hi, rfl⟩ := List.mem_map.1 h
  have := List.mem_range.1 hi
  omega
/-- The order of the reference: key by key. -/
def byKey (s : Int) (a : Nat) : Nat → List Int
  | 0 => []
  | k + 1 => byKey s a k ++ (ord a).filter fun x => keyI s a x == (k : Int)
theorem byKey_mem {s : Int} {a : Nat} : ∀ {k : Nat} {x : Int}, x ∈ byKey s a k → x ∈ ord a ∧ keyI s a x < k
  | 0, x, h => by simp [byKey] at h
  | k + 1, x, h => by
    rcases List.mem_append.1 h with h | h
    · have := byKey_mem h
      exact ⟨this.1, by omega⟩
    · rw [List.mem_filter] at h
      exact ⟨h.1, by have := eq_of_beq h.2; omega⟩
theorem byKey_srt {s : Int} {a : Nat} : ∀ k : Nat, Srt (keyI s a) (byKey s a k)
  | 0 => List.Pairwise.nil
  | k + 1 => by
    refine srt_app.2 ⟨byKey_srt k, ?_, fun x hx y hy => ?_⟩
    · refine List.pairwise_of_forall_mem_list fun x hx y hy => ?_
      rw [List.mem_filter] at hx hy
      have := eq_of_beq hx.2
      have := eq_of_beq hy.2
      omega
    · have := (byKey_mem hx).2
      rw [List.mem_filter] at hy
      have := eq_of_beq hy.2
      omega
theorem byKey_filter {s : Int} {a : Nat} (v : Int) : ∀ k : Nat, (byKey s a k).filter (fun x => keyI s a x == v) = if 0 ≤ v ∧ v < k then (ord a).filter (fun x => keyI s a x == v) else []
  | 0 => by rw [if_neg (by omega)]; rfl
  | k + 1 => by
    rw [byKey, List.filter_append, byKey_filter v k, List.filter_filter]
    by_cases h1 : 0 ≤ v ∧ v < k
    · rw [if_pos h1, if_pos (by omega)]
      have : (ord a).filter (fun x => keyI s a x == v && keyI s a x == (k : Int)) = [] := by
        rw [List.filter_eq_nil_iff]
        intro x _
        simp
        omega
      rw [this, List.append_nil]
    · rw [if_neg h1, List.nil_append]
      by_cases h2 : v = k
      · subst h2
        rw [if_pos (by omega)]
        congr 1
        funext x
        simp
      · rw [if_neg (by omega), List.filter_eq_nil_iff]
        intro x _
        simp
        omega
theorem stb_of {key : Int → Int} {c d : List Int} (h : ∀ v : Int, c.filter (fun x => key x == v) = d.filter (fun x => key x == v)) : Stb key c d := by
  refine ⟨List.perm_iff_count.2 fun x => ?_, h⟩
  rw [← List.count_filter (p := fun y => key y == key x) (l := c) (by simp), ← List.count_filter (p := fun y => key y == key x) (l := d) (by simp), h]
theorem byKey_stb {s : Int} {a : Nat} (ha : 1 ≤ a) : Stb (keyI s a) (byKey s a a) (ord a) := stb_of fun v => by
  rw [byKey_filter]
  by_cases h : 0 ≤ v ∧ v < a
  · rw [if_pos h]
  · rw [if_neg h]
    symm
    rw [List.filter_eq_nil_iff]
    intro x _
    have := key_rg (s := s) (a := a) (x := x) (by omega)
    simp
    omega
/-! ### Patterns -/
def onesL (N : Nat) (xs : List Int) : List Int := xs.foldl (fun p x => p.set x.toNat 1) (List.replicate N 0)
theorem onesL_snoc (N : Nat) (xs : List Int) (x : Int) : onesL N (xs ++ [x]) = (onesL N xs).set x.toNat 1 := by simp [onesL]
theorem fold_len (xs : List Int) : ∀ p : List Int, (xs.foldl (fun p x => p.set x.toNat 1) p).length = p.length := by
  induction xs with
  | nil => intro p; rfl
  | cons x xs ih =>
    intro p
    rw [List.foldl_cons, ih, List.length_set]
theorem onesL_len (N : Nat) (xs : List Int) : (onesL N xs).length = N := by unfold onesL; rw [fold_len, List.length_replicate]
theorem fold_one (xs : List Int) (k : Nat) : ∀ p : List Int, p.getD k 0 = 1 → (xs.foldl (fun p x => p.set x.toNat 1) p).getD k 0 = 1 := by
  induction xs with
  | nil => intro p h; exact h
  | cons x xs ih =>
    intro p h
    rw [List.foldl_cons]
    refine ih _ ?_
    rw [List.getD_eq_getElem?_getD, List.getElem?_set]
    by_cases hx : x.toNat = k
    · rw [if_pos hx]
      split
      · rfl
      · rename_i hn
        rw [List.getD_eq_getElem?_getD, List.getElem?_eq_none (by omega)] at h
        exact absurd h (by decide)
    · rw [if_neg hx, ← List.getD_eq_getElem?_getD]
      exact h
theorem onesL_mono (N : Nat) (xs : List Int) {m m' : Nat} (h : m ≤ m') (k : Nat) (h1 : (onesL N (xs.take m)).getD k 0 = 1) : (onesL N (xs.take m')).getD k 0 = 1 := by
  have : xs.take m' = xs.take m ++ (xs.take m').drop m := by
    conv => lhs; rw [← List.take_append_drop m (xs.take m')]
    rw [List.take_take, Nat.min_eq_left h]
  rw [this]
  unfold onesL at h1 ⊢
  rw [List.foldl_append]
  exact fold_one _ _ _ h1
def scr (s n : Nat) (i : Nat) : Bmp := ((s : Int), (s : Int), onesL (s * s) ((byKey s (s * s) (s * s)).take (i * (s * s) / n)))
def screenL (s n : Nat) : Nat → List Bmp
  | 0 => []
  | i + 1 => screenL s n i ++ [scr s n i]
theorem screenL_len (s n : Nat) : ∀ i, (screenL s n i).length = i
  | 0 => rfl
  | i + 1 => by rw [screenL, List.length_append, screenL_len s n i]; rfl
theorem screenL_get (s n : Nat) : ∀ (i j : Nat), j < i → (screenL s n i).getD j (0, 0, []) = scr s n j
  | 0, j, h => by omega
  | i + 1, j, h => by
    rw [screenL, app_get, screenL_len]
    by_cases hj : j < i
    · rw [if_pos hj, screenL_get s n i j hj]
    · have : j = i := by omega
      subst this
      rw [if_neg hj, Nat.sub_self]
      rfl
section
variable {fl : Nat} {s n : Nat}
theorem wh_nat (s : Nat) : ((s : Int) * (s : Int)).toNat = s * s := by rw [← Int.natCast_mul, Int.toNat_natCast]
theorem sq_le (hs : 1 ≤ s ∧ s ≤ 16) : 1 ≤ s * s ∧ s * s ≤ 256 := ⟨Nat.mul_le_mul hs.1 hs.1, Nat.mul_le_mul hs.2 hs.2⟩
theorem cnt_le {i a n : Nat} (hi : i < n) : i * a / n ≤ a := by
  rw [Nat.div_le_iff_le_mul_add_pred (by omega)]
  have : i * a ≤ n * a := Nat.mul_le_mul_right _ (by omega)
  omega
theorem cnt_text {i a n : Nat} (hi : i < n) (hn : n ≤ 64) (ha : a ≤ 256) : IntKind.i64.wrap ((IntKind.i64.wrap ((i : Int) * (a : Int))).tdiv (n : Int)) = ((i * a / n : Nat) : Int) := by
  have h1 : i * a ≤ 64 * 256 := Nat.mul_le_mul (by omega) ha
  have h2 := cnt_le (a := a) hi
  rw [← Int.natCast_mul, wrap64 (x := ((i * a : Nat) : Int)) (by omega) (by omega), Int.tdiv_eq_ediv_of_nonneg (by omega), ← Int.natCast_ediv]
  generalize i * a / n = q at *
  rw [wrap64 (by omega) (by omega)]
theorem screen_ok (hfl : 9223372036854775808 ≤ fl) (hs : 1 ≤ s ∧ s ≤ 16) (hn : 1 ≤ n ∧ n ≤ 64) {K : Int × List Bmp → Option Ans} : F_tone_Screen fl (s : Int) (n : Int) K = K (0, screenL s n n) := by
  obtain ⟨q1, q2⟩ := sq_le hs
  have hss : (s : Int) * (s : Int) = ((s * s : Nat) : Int) := (Int.natCast_mul s s).symm
  unfold F_tone_Screen
  rw [dec_f (by omega), dec_f (by omega), dec_f (by omega), dec_f (by omega), hss, wrap64 (x := ((s * s : Nat) : Int)) (by omega) (by omega)]
  have l0 : ∀ K, L_tone_Screen_0 fl ((n : Int), ((s * s : Nat) : Int), 0, (s : Int), ((s * s : Nat) : Int), []) K = K ((n : Int), (s : Int), ((s * s : Nat) : Int), ord (s * s)) := by
    intro K
    unfold L_tone_Screen_0
    refine iter_seq (step := S_tone_Screen_0 fl) (fun i : Nat => ((n : Int), ((s * s : Nat) : Int), (i : Int), (s : Int), ((s * s : Nat) : Int), ord i)) (s * s) rfl (fun i hi c => ?_) (fun c => ?_) (by omega)
    · simp only [S_tone_Screen_0]
      have e : ord (i + 1) = ord i ++ [(i : Int)] := by simp [ord, List.range_succ]
      rw [dec_t (by omega), dec_t (by simp [ord_len]; omega), wrap64 (by omega) (by omega), e]
      rfl
    · simp only [S_tone_Screen_0]
      rw [dec_f (by omega)]
  rw [l0]
  dsimp only
  obtain ⟨C, c1, c2, c3⟩ := sort_ok hfl (cmp_ok (fl := fl) (s := (s : Int)) (a := ((s * s : Nat) : Int)) (by omega) (by omega)) (D := ord (s * s)) (fun y hy => by have := ord_mem hy; exact ⟨this.1, by omega⟩) (by rw [ord_len]; omega)
  have hC : C = byKey s (s * s) (s * s) := srt_unique c1 (byKey_srt _) (c2.trans (byKey_stb (by omega)).symm)
  rw [c3]
  dsimp only
  have lC : C.length = s * s := by rw [c2.len, ord_len]
  unfold L_tone_Screen_2
  refine iter_seq (step := S_tone_Screen_2 fl) (fun i : Nat => ((n : Int), (n : Int), (i : Int), (s : Int), ((s * s : Nat) : Int), C, screenL s n i)) n rfl (fun i hi c => ?_) (fun c => ?_) (by omega)
  · have hfit : fit (s : Int) (s : Int) = true := fit_iff.2 ⟨by omega, by omega, by omega, by omega, by rw [hss]; omega⟩
    have hm := cnt_le (a := s * s) hi
    simp only [S_tone_Screen_2]
    rw [dec_t (by omega), bnew0 hfl hfit]
    dsimp only
    rw [dec_f (by omega), cnt_text hi hn.2 q2, wh_nat]
    generalize hmm : i * (s * s) / n = m at *
    rw [dec_t (by simp only [loOf_noneS, hiOf_some]; omega)]
    have ecut : (hiOf (some ((m : Nat) : Int)) (C.length : Int) - loOf none).toNat = m := by
      simp only [loOf_noneS, hiOf_some]
      omega
    rw [ecut, show (loOf none).toNat = 0 from rfl]
    have hlist := screenL_len s n i
    have l4 : ∀ K, L_tone_Screen_4 fl ((n : Int), (n : Int), (i : Int), 0, m, ((m : Nat) : Int), 0, (s : Int), ((s * s : Nat) : Int), C, screenL s n i, (s : Int), (s : Int), List.replicate (s * s) 0) K = K ((n : Int), (n : Int), (i : Int), (s : Int), ((s * s : Nat) : Int), C, screenL s n i, (s : Int), (s : Int), onesL (s * s) (C.take m)) := by
      intro K
      unfold L_tone_Screen_4
      refine iter_seq (step := S_tone_Screen_4 fl) (fun j : Nat => ((n : Int), (n : Int), (i : Int), 0, m, (m : Int), (j : Int), (s : Int), ((s * s : Nat) : Int), C, screenL s n i, (s : Int), (s : Int), onesL (s * s) (C.take j))) m rfl (fun j hj c => ?_) (fun c => ?_) (by omega)
      · have hv := ord_mem (c2.1.mem_iff.1 (getD_mem (l := C) (i := j) (by omega) 0))
        simp only [S_tone_Screen_4]
        rw [dec_t (by omega), dec_t (by omega), Int.toNat_natCast, Nat.zero_add, dec_t (by rw [onesL_len]; omega), wrap64 (by omega) (by omega)]
        have e : C.take (j + 1) = C.take j ++ [C.getD j 0] := by rw [List.take_succ_eq_append_getElem (by omega), getD_lt (by omega)]
        rw [e, onesL_snoc]
        rfl
      · simp only [S_tone_Screen_4]
        rw [dec_f (by omega)]
    rw [l4]
    dsimp only
    rw [dec_t (by simp; omega), wrap64 (by omega) (by omega)]
    have e2 : screenL s n (i + 1) = screenL s n i ++ [((s : Int), (s : Int), onesL (s * s) (C.take m))] := by rw [screenL, scr, hC, hmm]
    rw [e2]
    rfl
  · simp only [S_tone_Screen_2]
    rw [dec_f (by omega)]
theorem rscreen_ok (hfl : 9223372036854775808 ≤ fl) (hs : 1 ≤ s ∧ s ≤ 16) (hn : 1 ≤ n ∧ n ≤ 64) {K : Int × List Bmp → Option Ans} : F_ref11_Screen fl (s : Int) (n : Int) K = K (0, screenL s n n) := by
  obtain ⟨q1, q2⟩ := sq_le hs
  have hss : (s : Int) * (s : Int) = ((s * s : Nat) : Int) := (Int.natCast_mul s s).symm
  unfold F_ref11_Screen
  rw [dec_f (by omega), dec_f (by omega), dec_f (by omega), dec_f (by omega), hss, wrap64 (x := ((s * s : Nat) : Int)) (by omega) (by omega)]
  have hbl : ∀ k : Nat, k ≤ s * s → (byKey s (s * s) k).length ≤ 65536 := by
    intro k hk
    have : ∀ k : Nat, (byKey s (s * s) k).length ≤ k * (s * s) := by
      intro k
      induction k with
      | zero => simp [byKey]
      | succ k ih =>
        have := List.length_filter_le (fun x => keyI s ((s * s : Nat) : Int) x == (k : Int)) (ord (s * s))
        rw [ord_len] at this
        rw [byKey, List.length_append, Nat.add_mul]
        omega
    have h2 : k * (s * s) ≤ 256 * 256 := Nat.mul_le_mul (by omega) q2
    have := this k
    omega
  have l0 : ∀ K, L_ref11_Screen_0 fl ((s : Int), (n : Int), ((s * s : Nat) : Int), 0, []) K = K ((s : Int), (n : Int), ((s * s : Nat) : Int), byKey s (s * s) (s * s)) := by
    intro K
    unfold L_ref11_Screen_0
    refine iter_seq (step := S_ref11_Screen_0 fl) (fun k : Nat => ((s : Int), (n : Int), ((s * s : Nat) : Int), (k : Int), byKey s (s * s) k)) (s * s) rfl (fun k hk c => ?_) (fun c => ?_) (by omega)
    · simp only [S_ref11_Screen_0]
      rw [dec_t (by omega)]
      unfold L_ref11_Screen_2
      have hb := hbl k (by omega)
      refine iter_seq (step := S_ref11_Screen_2 fl) (fun i : Nat => ((s : Int), (n : Int), ((s * s : Nat) : Int), (k : Int), (i : Int), byKey s (s * s) k ++ (ord i).filter fun x => keyI s ((s * s : Nat) : Int) x == (k : Int))) (s * s) (by simp [ord]) (fun i hi c => ?_) (fun c => ?_) (by omega)
      · have e : ord (i + 1) = ord i ++ [(i : Int)] := by simp [ord, List.range_succ]
        have hf := List.length_filter_le (fun x => keyI s ((s * s : Nat) : Int) x == (k : Int)) (ord i)
        rw [ord_len] at hf
        simp only [S_ref11_Screen_2]
        rw [dec_t (by omega), dec_f (by omega), dec_f (by omega), dec_f (by omega), key_text (s := (s : Int)) (a := ((s * s : Nat) : Int)) (by omega) (by omega) ⟨by omega, by omega⟩, wrap64 (x := (i : Int) + 1) (by omega) (by omega), e, List.filter_append]
        cases hk' : keyI s ((s * s : Nat) : Int) (i : Int) == (k : Int) with
        | true =>
          rw [cond_true, dec_t (by simp only [List.length_append, List.length_cons, List.length_nil]; omega)]
          simp only [List.filter_cons, hk', if_true, List.filter_nil, List.append_assoc]
          rfl
        | false =>
          rw [cond_false]
          simp only [List.filter_cons, hk', List.filter_nil]
          rw [if_neg (by decide), List.append_nil]
          rfl
      · simp only [S_ref11_Screen_2]
        rw [dec_f (by omega), wrap64 (by omega) (by omega)]
        rfl
    · simp only [S_ref11_Screen_0]
      rw [dec_f (by omega)]
  rw [l0]
  dsimp only
  have hstb := byKey_stb (s := (s : Int)) (a := s * s) q1
  have lC : (byKey s (s * s) (s * s)).length = s * s := by rw [hstb.len, ord_len]
  have hmem : ∀ x ∈ byKey s (s * s) (s * s), 0 ≤ x ∧ x < ((s * s : Nat) : Int) := fun x hx => ord_mem (hstb.1.mem_iff.1 hx)
  generalize hC : byKey s (s * s) (s * s) = C at *
  unfold L_ref11_Screen_4
  refine iter_seq (step := S_ref11_Screen_4 fl) (fun i : Nat => ((s : Int), (n : Int), ((s * s : Nat) : Int), (i : Int), C, screenL s n i)) n rfl (fun i hi c => ?_) (fun c => ?_) (by omega)
  · have hfit : fit (s : Int) (s : Int) = true := fit_iff.2 ⟨by omega, by omega, by omega, by omega, by rw [hss]; omega⟩
    have hm := cnt_le (a := s * s) hi
    have hct := cnt_text hi hn.2 q2
    simp only [S_ref11_Screen_4]
    rw [dec_t (by omega), rbnew0 hfl hfit]
    dsimp only
    rw [wh_nat]
    generalize hmm : i * (s * s) / n = m at *
    have hlist := screenL_len s n i
    have l4 : ∀ K, L_ref11_Screen_6 fl ((s : Int), (n : Int), ((s * s : Nat) : Int), (i : Int), 0, C, screenL s n i, (s : Int), (s : Int), List.replicate (s * s) 0) K = K ((s : Int), (n : Int), ((s * s : Nat) : Int), (i : Int), C, screenL s n i, (s : Int), (s : Int), onesL (s * s) (C.take m)) := by
      intro K
      unfold L_ref11_Screen_6
      refine iter_seq (step := S_ref11_Screen_6 fl) (fun j : Nat => ((s : Int), (n : Int), ((s * s : Nat) : Int), (i : Int), (j : Int), C, screenL s n i, (s : Int), (s : Int), onesL (s * s) (C.take j))) m rfl (fun j hj c => ?_) (fun c => ?_) (by omega)
      · have hv := hmem _ (getD_mem (l := C) (i := j) (by omega) 0)
        simp only [S_ref11_Screen_6]
        rw [dec_f (by omega), hct, dec_t (by omega), dec_t (by omega), Int.toNat_natCast, dec_t (by rw [onesL_len]; omega), wrap64 (by omega) (by omega)]
        have e : C.take (j + 1) = C.take j ++ [C.getD j 0] := by rw [List.take_succ_eq_append_getElem (by omega), getD_lt (by omega)]
        rw [e, onesL_snoc]
        rfl
      · simp only [S_ref11_Screen_6]
        rw [dec_f (by omega), hct, dec_f (by omega)]
    rw [l4]
    dsimp only
    rw [dec_t (by simp; omega), wrap64 (by omega) (by omega)]
    have e2 : screenL s n (i + 1) = screenL s n i ++ [((s : Int), (s : Int), onesL (s * s) (C.take m))] := by rw [screenL, scr, hC, hmm]
    rw [e2]
    rfl
  · simp only [S_ref11_Screen_4]
    rw [dec_f (by omega)]
end
end Go.Proofs.Ytipdidpalcmlhaa.Sc

set_option linter.unusedVariables false
set_option linter.unusedSimpArgs false
namespace Go.Proofs.Ytipdidpalcmlhaa.Sc
open Go Ev Bm Gen So Ton
section
variable {fl : Nat} {sd nn W H : Int} {p : List Int}
theorem idx_ok (hW : 0 ≤ W ∧ W ≤ 200) (hH : 0 ≤ H ∧ H ≤ 200) (hp : (p.length : Int) = W * H) {v u : Int} (hv : 0 ≤ v ∧ v < H) (hu : 0 ≤ u ∧ u < W) : 0 ≤ IntKind.i64.wrap (IntKind.i64.wrap (v * W) + u) ∧ IntKind.i64.wrap (IntKind.i64.wrap (v * W) + u) < (p.length : Int) := by
  have h1 : 0 ≤ v * W := Int.mul_nonneg hv.1 (by omega)
  have h2 : (v + 1) * W ≤ H * W := Int.mul_le_mul_of_nonneg_right (by omega) (by omega)
  rw [Int.add_mul, Int.one_mul, Int.mul_comm H W] at h2
  have h3 : W * H ≤ 200 * 200 := Int.mul_le_mul hW.2 hH.2 (by omega) (by omega)
  rw [wrap64 (x := v * W) (by omega) (by omega), wrap64 (by omega) (by omega)]
  omega
theorem min_text {a b : Int} (ha : 0 ≤ a ∧ a ≤ 1000) (hb : 0 ≤ b ∧ b ≤ 1000) (W : Int) : (bif decide (W < IntKind.i64.wrap (a + b)) then W else IntKind.i64.wrap (a + b)) = if W < a + b then W else a + b := by
  rw [wrap64 (by omega) (by omega)]
  by_cases h : W < a + b
  · rw [if_pos h, decide_eq_true h]; rfl
  · rw [if_neg h, decide_eq_false h]; rfl
/-- A row of a square. -/
theorem d6 (hW : 0 ≤ W ∧ W ≤ 200) (hH : 0 ≤ H ∧ H ≤ 200) (hp : (p.length : Int) = W * H) (hs : 1 ≤ sd ∧ sd ≤ 16) {y x v : Int} {out : List Int} {lim : Int} (hlim : (if W < x + sd then W else x + sd) = lim) (hx : 0 ≤ x ∧ x < W) (hv : 0 ≤ v ∧ v < H) :
    ∀ (m : Nat) (u c s : Int), u + m = lim → 0 ≤ u → 0 ≤ c → c + m ≤ 100000 → m ≤ 16 → ∃ c' s' : Int, c ≤ c' ∧ c' ≤ c + m ∧ ∀ f, m + 1 ≤ f →
      (∀ kk, iter (S_tone_Dither_6 fl) f (sd, nn, y, x, c, s, v, u, W, H, p, out) kk = kk (sd, nn, y, x, c', s', v, W, H, p, out)) ∧
      (∀ kk, iter (S_ref11_Dither_6 fl) f (sd, nn, y, x, s, c, v, u, W, H, p, out) kk = kk (sd, nn, y, x, s', c', v, W, H, p, out)) := by
  have hl1 : lim ≤ W := by rw [← hlim]; split <;> omega
  intro m
  induction m with
  | zero =>
    intro u c s h1 h2 h3 h4 h5
    refine ⟨c, s, by omega, by omega, fun f hf => ?_⟩
    obtain ⟨f, rfl⟩ : ∃ g, f = g + 1 := ⟨f - 1, by omega⟩
    constructor
    · intro kk
      simp only [iter, S_tone_Dither_6, min_text (a := x) (b := sd) (by omega) (by omega) W, hlim]
      rw [dec_f (by omega)]
    · intro kk
      simp only [iter, S_ref11_Dither_6, min_text (a := x) (b := sd) (by omega) (by omega) W, hlim]
      rw [dec_f (by omega)]
  | succ m ih =>
    intro u c s h1 h2 h3 h4 h5
    have hu : u < W := by omega
    have hi := idx_ok hW hH hp hv ⟨h2, hu⟩
    obtain ⟨c', s', e1, e2, e3⟩ := ih (u + 1) (c + 1) (IntKind.i64.wrap (s + p.getD (IntKind.i64.wrap (IntKind.i64.wrap (v * W) + u)).toNat 0)) (by omega) (by omega) (by omega) (by omega) (by omega)
    refine ⟨c', s', by omega, by omega, fun f hf => ?_⟩
    obtain ⟨f, rfl⟩ : ∃ g, f = g + 1 := ⟨f - 1, by omega⟩
    obtain ⟨g1, g2⟩ := e3 f (by omega)
    constructor
    · intro kk
      simp only [iter, S_tone_Dither_6, min_text (a := x) (b := sd) (by omega) (by omega) W, hlim]
      rw [dec_t (by omega), dec_t hi, wrap64 (x := c + 1) (by omega) (by omega), wrap64 (x := u + 1) (by omega) (by omega)]
      exact g1 kk
    · intro kk
      simp only [iter, S_ref11_Dither_6, min_text (a := x) (b := sd) (by omega) (by omega) W, hlim]
      rw [dec_t (by omega), dec_t hi, wrap64 (x := c + 1) (by omega) (by omega), wrap64 (x := u + 1) (by omega) (by omega)]
      exact g2 kk
/-- A square. -/
theorem d4 (hfl : 9223372036854775808 ≤ fl) (hW : 0 ≤ W ∧ W ≤ 200) (hH : 0 ≤ H ∧ H ≤ 200) (hp : (p.length : Int) = W * H) (hs : 1 ≤ sd ∧ sd ≤ 16) {y x : Int} {out : List Int} {lim : Int} (hlim : (if H < y + sd then H else y + sd) = lim) (hx : 0 ≤ x ∧ x < W) (hy : 0 ≤ y ∧ y < H) :
    ∀ (m : Nat) (v c s : Int), v + m = lim → 0 ≤ v → 0 ≤ c → c + 16 * m ≤ 1000 → ∃ c' s' : Int, 0 ≤ c' ∧ c' ≤ c + 16 * m ∧ ∀ f, m + 1 ≤ f →
      (∀ kk, iter (S_tone_Dither_4 fl) f (sd, nn, y, x, c, s, v, W, H, p, out) kk = kk (sd, nn, y, x, c', s', W, H, p, out)) ∧
      (∀ kk, iter (S_ref11_Dither_4 fl) f (sd, nn, y, x, s, c, v, W, H, p, out) kk = kk (sd, nn, y, x, s', c', W, H, p, out)) := by
  have hl1 : lim ≤ H := by rw [← hlim]; split <;> omega
  intro m
  induction m with
  | zero =>
    intro v c s h1 h2 h3 h4
    refine ⟨c, s, by omega, by omega, fun f hf => ?_⟩
    obtain ⟨f, rfl⟩ : ∃ g, f = g + 1 := ⟨f - 1, by omega⟩
    constructor
    · intro kk
      simp only [iter, S_tone_Dither_4, min_text (a := y) (b := sd) (by omega) (by omega) H, hlim]
      rw [dec_f (by omega)]
    · intro kk
      simp only [iter, S_ref11_Dither_4, min_text (a := y) (b := sd) (by omega) (by omega) H, hlim]
      rw [dec_f (by omega)]
  | succ m ih =>
    intro v c s h1 h2 h3 h4
    have hv : v < H := by omega
    obtain ⟨k, hk, hk2⟩ : ∃ k : Nat, (if W < x + sd then W else x + sd) = x + k ∧ k ≤ 16 := by
      split
      · exact ⟨(W - x).toNat, by omega, by omega⟩
      · exact ⟨sd.toNat, by omega, by omega⟩
    obtain ⟨c1, s1, a1, a2, a3⟩ := d6 (fl := fl) (nn := nn) (y := y) (out := out) hW hH hp hs hk hx ⟨h2, hv⟩ k x c s rfl hx.1 h3 (by omega) hk2
    obtain ⟨c', s', e1, e2, e3⟩ := ih (v + 1) c1 s1 (by omega) (by omega) (by omega) (by omega)
    refine ⟨c', s', e1, by omega, fun f hf => ?_⟩
    obtain ⟨f, rfl⟩ : ∃ g, f = g + 1 := ⟨f - 1, by omega⟩
    obtain ⟨g1, g2⟩ := e3 f (by omega)
    obtain ⟨b1, b2⟩ := a3 fl (by omega)
    constructor
    · intro kk
      simp only [iter, S_tone_Dither_4, min_text (a := y) (b := sd) (by omega) (by omega) H, hlim]
      unfold L_tone_Dither_6
      rw [dec_t (by omega), b1]
      dsimp only
      rw [wrap64 (x := v + 1) (by omega) (by omega)]
      exact g1 kk
    · intro kk
      simp only [iter, S_ref11_Dither_4, min_text (a := y) (b := sd) (by omega) (by omega) H, hlim]
      unfold L_ref11_Dither_6
      rw [dec_t (by omega), b2]
      dsimp only
      rw [wrap64 (x := v + 1) (by omega) (by omega)]
      exact g2 kk
/-- A row of squares. -/
theorem d2 (hfl : 9223372036854775808 ≤ fl) (hW : 0 ≤ W ∧ W ≤ 200) (hH : 0 ≤ H ∧ H ≤ 200) (hp : (p.length : Int) = W * H) (hs : 1 ≤ sd ∧ sd ≤ 16) {y : Int} (hy : 0 ≤ y ∧ y < H) :
    ∀ (m : Nat) (x : Int) (out : List Int), W - x ≤ m → 0 ≤ x → x ≤ 1000 → out.length + m ≤ 1000000 → ∃ out' : List Int, out'.length ≤ out.length + m ∧ ∀ f, m + 1 ≤ f →
      (∀ kk, iter (S_tone_Dither_2 fl) f (sd, nn, y, x, W, H, p, out) kk = kk (sd, nn, y, W, H, p, out')) ∧
      (∀ kk, iter (S_ref11_Dither_2 fl) f (sd, nn, y, x, W, H, p, out) kk = kk (sd, nn, y, W, H, p, out')) := by
  intro m
  induction m with
  | zero =>
    intro x out h1 h2 h3 h4
    refine ⟨out, by omega, fun f hf => ?_⟩
    obtain ⟨f, rfl⟩ : ∃ g, f = g + 1 := ⟨f - 1, by omega⟩
    constructor
    · intro kk
      simp only [iter, S_tone_Dither_2]
      rw [dec_f (by omega)]
    · intro kk
      simp only [iter, S_ref11_Dither_2]
      rw [dec_f (by omega)]
  | succ m ih =>
    intro x out h1 h2 h3 h4
    by_cases hx : x < W
    rotate_left
    · refine ⟨out, by omega, fun f hf => ?_⟩
      obtain ⟨f, rfl⟩ : ∃ g, f = g + 1 := ⟨f - 1, by omega⟩
      constructor
      · intro kk
        simp only [iter, S_tone_Dither_2]
        rw [dec_f (by omega)]
      · intro kk
        simp only [iter, S_ref11_Dither_2]
        rw [dec_f (by omega)]
    obtain ⟨k, hk, hk2⟩ : ∃ k : Nat, (if H < y + sd then H else y + sd) = y + k ∧ k ≤ 16 := by
      split
      · exact ⟨(H - y).toNat, by omega, by omega⟩
      · exact ⟨sd.toNat, by omega, by omega⟩
    obtain ⟨c, s, a1, a2, a3⟩ := d4 (fl := fl) (nn := nn) (out := out) hfl hW hH hp hs hk ⟨h2, hx⟩ hy k y 0 0 rfl hy.1 (by omega) (by omega)
    obtain ⟨out', e1, e2⟩ := ih (x + sd) (out ++ [IntKind.i64.wrap ((IntKind.i64.wrap (IntKind.i64.wrap (IntKind.i64.wrap (255 * c) - s) * nn)).tdiv (IntKind.i64.wrap (IntKind.i64.wrap (255 * c) + 1)))]) (by omega) (by omega) (by omega) (by simp; omega)
    have hne : ¬ IntKind.i64.wrap (IntKind.i64.wrap (255 * c) + 1) = 0 := by
      rw [wrap64 (x := 255 * c) (by omega) (by omega), wrap64 (by omega) (by omega)]
      omega
    refine ⟨out', by simp at e1; omega, fun f hf => ?_⟩
    obtain ⟨f, rfl⟩ : ∃ g, f = g + 1 := ⟨f - 1, by omega⟩
    obtain ⟨g1, g2⟩ := e2 f (by omega)
    obtain ⟨b1, b2⟩ := a3 fl (by omega)
    constructor
    · intro kk
      simp only [iter, S_tone_Dither_2]
      unfold L_tone_Dither_4
      rw [dec_t hx, b1]
      dsimp only
      rw [dec_f hne, dec_t (by simp; omega), wrap64 (x := x + sd) (by omega) (by omega)]
      exact g1 kk
    · intro kk
      simp only [iter, S_ref11_Dither_2]
      unfold L_ref11_Dither_4
      rw [dec_t hx, b2]
      dsimp only
      rw [dec_f hne, dec_t (by simp; omega), wrap64 (x := x + sd) (by omega) (by omega)]
      exact g2 kk
theorem d0 (hfl : 9223372036854775808 ≤ fl) (hW : 0 ≤ W ∧ W ≤ 200) (hH : 0 ≤ H ∧ H ≤ 200) (hp : (p.length : Int) = W * H) (hs : 1 ≤ sd ∧ sd ≤ 16) :
    ∀ (m : Nat) (y : Int) (out : List Int), H - y ≤ m → 0 ≤ y → y ≤ 1000 → m ≤ 200 → out.length + 200 * m ≤ 100000 → ∃ out' : List Int, out'.length ≤ out.length + 200 * m ∧ ∀ f, m + 1 ≤ f →
      (∀ kk, iter (S_tone_Dither_0 fl) f (sd, nn, y, W, H, p, out) kk = kk out') ∧
      (∀ kk, iter (S_ref11_Dither_0 fl) f (sd, nn, y, W, H, p, out) kk = kk out') := by
  intro m
  induction m with
  | zero =>
    intro y out h1 h2 h3 h4 h5
    refine ⟨out, by omega, fun f hf => ?_⟩
    obtain ⟨f, rfl⟩ : ∃ g, f = g + 1 := ⟨f - 1, by omega⟩
    constructor
    · intro kk
      simp only [iter, S_tone_Dither_0]
      rw [dec_f (by omega)]
    · intro kk
      simp only [iter, S_ref11_Dither_0]
      rw [dec_f (by omega)]
  | succ m ih =>
    intro y out h1 h2 h3 h4 h5
    by_cases hy : y < H
    rotate_left
    · refine ⟨out, by omega, fun f hf => ?_⟩
      obtain ⟨f, rfl⟩ : ∃ g, f = g + 1 := ⟨f - 1, by omega⟩
      constructor
      · intro kk
        simp only [iter, S_tone_Dither_0]
        rw [dec_f (by omega)]
      · intro kk
        simp only [iter, S_ref11_Dither_0]
        rw [dec_f (by omega)]
    obtain ⟨o1, a1, a2⟩ := d2 (fl := fl) (nn := nn) hfl hW hH hp hs ⟨h2, hy⟩ 200 0 out (by omega) (by omega) (by omega) (by omega)
    obtain ⟨out', e1, e2⟩ := ih (y + sd) o1 (by omega) (by omega) (by omega) (by omega) (by omega)
    refine ⟨out', by omega, fun f hf => ?_⟩
    obtain ⟨f, rfl⟩ : ∃ g, f = g + 1 := ⟨f - 1, by omega⟩
    obtain ⟨g1, g2⟩ := e2 f (by omega)
    obtain ⟨b1, b2⟩ := a2 fl (by omega)
    constructor
    · intro kk
      simp only [iter, S_tone_Dither_0]
      unfold L_tone_Dither_2
      rw [dec_t hy, b1]
      dsimp only
      rw [wrap64 (x := y + sd) (by omega) (by omega)]
      exact g1 kk
    · intro kk
      simp only [iter, S_ref11_Dither_0]
      unfold L_ref11_Dither_2
      rw [dec_t hy, b2]
      dsimp only
      rw [wrap64 (x := y + sd) (by omega) (by omega)]
      exact g2 kk
end
/-! ### Grey planes -/
def greyV (x : Int) : Bool := decide (0 ≤ x ∧ x ≤ 255)
section
variable {fl : Nat} {W H : Int} {p : List Int}
theorem first_bad (p : List Int) : (∀ i, i < p.length → greyV (p.getD i 0) = true) ∨ ∃ m, m < p.length ∧ greyV (p.getD m 0) = false ∧ ∀ i, i < m → greyV (p.getD i 0) = true := by
  rcases nat_or_first (fun i => greyV (p.getD i 0) = true) p.length with h | ⟨m, h1, h2, h3⟩
  · exact .inl h
  · exact .inr ⟨m, h1, by simpa using h2, h3⟩
theorem contains_ok (hfl : 9223372036854775808 ≤ fl) (hl : p.length ≤ 1000000000000000) {K : Bool → Option Ans} : F_slices_ContainsFunc_int_int_b52 fl p K = K (decide (∃ i, i < p.length ∧ greyV (p.getD i 0) = false)) := by
  unfold F_slices_ContainsFunc_int_int_b52 F_slices_IndexFunc_int_int_b52 L_slices_IndexFunc_int_int_b52_0
  have hstep : ∀ (i : Nat) c (ret : Int → Option Ans) (b : Unit → Option Ans), i < p.length → S_slices_IndexFunc_int_int_b52_0 fl (p, (p.length : Int), (i : Int)) c (ret, b) = if greyV (p.getD i 0) = true then c (p, (p.length : Int), ((i + 1 : Nat) : Int)) else ret (i : Int) := by
    intro i c ret b hi
    simp only [S_slices_IndexFunc_int_int_b52_0]
    unfold F_tone_isGrey_1 greyV
    rw [dec_t (by omega), dec_t (by omega), Int.toNat_natCast, wrap64 (by omega) (by omega)]
    by_cases h1 : p.getD i 0 < 0
    · rw [dec_t h1, if_neg (by intro h; have := of_decide_eq_true h; omega)]
      rfl
    · rw [dec_f h1]
      by_cases h2 : p.getD i 0 > 255
      · rw [decide_eq_true h2, if_neg (by intro h; have := of_decide_eq_true h; omega)]
        rfl
      · rw [decide_eq_false h2, if_pos (decide_eq_true (by omega))]
        rfl
  rcases first_bad p with h | ⟨m, h1, h2, h3⟩
  · rw [decide_eq_false (by rintro ⟨i, hi, h'⟩; rw [h i hi] at h'; cases h')]
    refine iter_to (step := S_slices_IndexFunc_int_int_b52_0 fl) (fun i : Nat => (p, (p.length : Int), (i : Int))) p.length (fun i hi c => ?_) (fun c => ?_) (by omega)
    · rw [hstep i c _ _ hi, if_pos (h i hi)]
    · simp only [S_slices_IndexFunc_int_int_b52_0]
      rw [dec_f (by omega)]
      rfl
  · rw [decide_eq_true ⟨m, h1, h2⟩]
    refine iter_to (step := S_slices_IndexFunc_int_int_b52_0 fl) (fun i : Nat => (p, (p.length : Int), (i : Int))) m (fun i hi c => ?_) (fun c => ?_) (by omega)
    · rw [hstep i c _ _ (by omega), if_pos (h3 i hi)]
    · rw [hstep m c _ _ h1, if_neg (by rw [h2]; simp)]
      dsimp only
      rw [decide_eq_true (by omega)]
theorem grey_ok (hfl : 9223372036854775808 ≤ fl) (hl : p.length ≤ 1000000000000000) : ∃ b : Bool, (b = true → 0 ≤ W ∧ 0 ≤ H ∧ W ≤ 200 ∧ H ≤ 200 ∧ (p.length : Int) = W * H) ∧ ∀ K : Bool → Option Ans, F_tone_isGrey fl W H p K = K b ∧ F_ref11_isGrey fl W H p K = K b := by
  unfold F_tone_isGrey F_ref11_isGrey
  simp only [sides_ok]
  by_cases hf : 0 ≤ W ∧ 0 ≤ H ∧ W ≤ 200 ∧ H ≤ 200 ∧ W * H ≤ 8192
  rotate_left
  · refine ⟨false, (fun h => by cases h), fun K => ?_⟩
    have hfit : fit W H = false := by
      cases h : fit W H with
      | false => rfl
      | true => exact absurd (fit_iff.1 h) hf
    rw [hfit, cond_t (b := !false) rfl]
    refine ⟨?_, rfl⟩
    by_cases h1 : W ≥ 0 ∧ H ≥ 0 ∧ W ≤ 200 ∧ H ≤ 200
    · have m1 : W * H ≤ 200 * 200 := Int.mul_le_mul h1.2.2.1 h1.2.2.2 (by omega) (by omega)
      have m2 : 0 ≤ W * H := Int.mul_nonneg h1.1 h1.2.1
      rw [dec_t h1.1, dec_t h1.2.1, dec_t h1.2.2.1, dec_t h1.2.2.2, wrap64 (by omega) (by omega), dec_f (by omega)]
    · simp only [cdi]
      repeat' split
      all_goals first | rfl | omega
  · have hfit : fit W H = true := fit_iff.2 hf
    obtain ⟨f1, f2, f3, f4, f5⟩ := hf
    have m2 : 0 ≤ W * H := Int.mul_nonneg f1 f2
    have e1 : decide (W ≥ 0) = true := decide_eq_true f1
    have e2 : decide (H ≥ 0) = true := decide_eq_true f2
    have e3 : decide (W ≤ 200) = true := decide_eq_true f3
    have e4 : decide (H ≤ 200) = true := decide_eq_true f4
    have e5 : decide (W * H ≤ 8192) = true := decide_eq_true f5
    have e6 : IntKind.i64.wrap (W * H) = W * H := wrap64 (by omega) (by omega)
    simp only [hfit, e1, e2, e3, e4, e6, e5, cond_true, Bool.not_true, cond_false]
    by_cases hlen : (p.length : Int) = W * H
    rotate_left
    · refine ⟨false, (fun h => by cases h), fun K => ?_⟩
      rw [cond_f (b := (p.length : Int) == W * H) (by simpa using hlen), cond_t (by simpa using hlen)]
      exact ⟨rfl, rfl⟩
    have e7 : ((p.length : Int) == W * H) = true := by simpa using hlen
    have e8 : ((p.length : Int) != W * H) = false := by simp [hlen]
    simp only [e7, e8, cond_true, cond_false, contains_ok hfl hl]
    unfold L_ref11_isGrey_0
    have hstep : ∀ (i : Nat) c (ret : Bool → Option Ans) (b : Unit → Option Ans), i < p.length → S_ref11_isGrey_0 fl ((i : Int), W, H, p) c (ret, b) = if greyV (p.getD i 0) = true then c (((i + 1 : Nat) : Int), W, H, p) else ret false := by
      intro i c ret b hi
      simp only [S_ref11_isGrey_0]
      unfold greyV
      rw [dec_t (by omega), dec_t (by omega), Int.toNat_natCast, wrap64 (x := (i : Int) + 1) (by omega) (by omega)]
      by_cases h1 : p.getD i 0 < 0
      · rw [dec_t h1, if_neg (by intro h; have := of_decide_eq_true h; omega)]
      · rw [dec_f h1, dec_t (by omega)]
        by_cases h2 : p.getD i 0 > 255
        · rw [dec_t h2, if_neg (by intro h; have := of_decide_eq_true h; omega)]
        · rw [dec_f h2, if_pos (decide_eq_true (by omega))]
          rfl
    rcases first_bad p with h | ⟨m, h1, h2, h3⟩
    · refine ⟨true, fun _ => ⟨f1, f2, f3, f4, hlen⟩, fun K => ⟨?_, ?_⟩⟩
      · rw [decide_eq_false (by rintro ⟨i, hi, h'⟩; rw [h i hi] at h'; cases h')]
        rfl
      · refine iter_to (step := S_ref11_isGrey_0 fl) (fun i : Nat => ((i : Int), W, H, p)) p.length (fun i hi c => ?_) (fun c => ?_) (by omega)
        · rw [hstep i c _ _ hi, if_pos (h i hi)]
        · simp only [S_ref11_isGrey_0]
          rw [dec_f (by omega)]
    · refine ⟨false, (fun h => by cases h), fun K => ⟨?_, ?_⟩⟩
      · rw [decide_eq_true ⟨m, h1, h2⟩]
        rfl
      · refine iter_to (step := S_ref11_isGrey_0 fl) (fun i : Nat => ((i : Int), W, H, p)) m (fun i hi c => ?_) (fun c => ?_) (by omega)
        · rw [hstep i c _ _ (by omega), if_pos (h3 i hi)]
        · rw [hstep m c _ _ h1, if_neg (by rw [h2]; simp)]
theorem dither_ok (hfl : 9223372036854775808 ≤ fl) (hl : p.length ≤ 1000000000000000) (sd nn : Int) : ∃ (e : Int) (v : List Int), v.length ≤ 100000 ∧ ∀ K : Int × List Int → Option Ans, F_tone_Dither fl W H p sd nn K = K (e, v) ∧ F_ref11_Dither fl W H p sd nn K = K (e, v) := by
  obtain ⟨g, g1, g2⟩ := grey_ok (fl := fl) (W := W) (H := H) hfl hl
  unfold F_tone_Dither F_ref11_Dither
  by_cases h1 : sd < 1
  · exact ⟨2, [], by simp, fun K => by rw [dec_t h1, dec_t h1]; exact ⟨rfl, rfl⟩⟩
  by_cases h2 : sd > 16
  · exact ⟨2, [], by simp, fun K => by rw [dec_f h1, dec_f h1, dec_t h2, dec_t h2]; exact ⟨rfl, rfl⟩⟩
  by_cases h3 : nn < 1
  · exact ⟨2, [], by simp, fun K => by rw [dec_f h1, dec_f h1, dec_f h2, dec_f h2, dec_t h3, dec_t h3]; exact ⟨rfl, rfl⟩⟩
  by_cases h4 : nn > 64
  · exact ⟨2, [], by simp, fun K => by rw [dec_f h1, dec_f h1, dec_f h2, dec_f h2, dec_f h3, dec_f h3, dec_t h4, dec_t h4]; exact ⟨rfl, rfl⟩⟩
  cases hg : g with
  | false =>
    subst hg
    exact ⟨2, [], by simp, fun K => by rw [dec_f h1, dec_f h1, dec_f h2, dec_f h2, dec_f h3, dec_f h3, dec_f h4, dec_f h4, (g2 _).1, (g2 _).2]; exact ⟨rfl, rfl⟩⟩
  | true =>
    subst hg
    obtain ⟨f1, f2, f3, f4, f5⟩ := g1 rfl
    obtain ⟨out, a1, a2⟩ := d0 (fl := fl) (nn := nn) hfl ⟨f1, f3⟩ ⟨f2, f4⟩ f5 (sd := sd) (by omega) 200 0 [] (by omega) (by omega) (by omega) (by omega) (by simp)
    refine ⟨0, out, by simp at a1; omega, fun K => ?_⟩
    obtain ⟨b1, b2⟩ := a2 fl (by omega)
    unfold L_tone_Dither_0 L_ref11_Dither_0
    rw [dec_f h1, dec_f h1, dec_f h2, dec_f h2, dec_f h3, dec_f h3, dec_f h4, dec_f h4, (g2 _).1, (g2 _).2, cond_f (b := !true) rfl, cond_f (b := !true) rfl, b1, b2]
    exact ⟨rfl, rfl⟩
end
end Go.Proofs.Ytipdidpalcmlhaa.Sc

set_option linter.unusedVariables false
set_option linter.unusedSimpArgs false
namespace Go.Proofs.Ytipdidpalcmlhaa.Co
open Go Ev

/-- Where the interval is cut. -/
def mid (lo hi p : Int) : Int := lo + (hi - lo) / 4096 * p + (hi - lo) % 4096 * p / 4096
/-- Whether both ends have the same highest byte. -/
def same (lo hi : Int) : Prop := lo / 16777216 = hi / 16777216
instance (lo hi : Int) : Decidable (same lo hi) := by unfold same; infer_instance
structure Rg (lo hi : Int) : Prop where
  l : 0 ≤ lo
  m : lo ≤ hi
  h : hi < 4294967296
/-! ### A stream of bytes, and its windows -/
end Go.Proofs.Ytipdidpalcmlhaa.Co

set_option linter.unusedVariables false
set_option linter.unusedSimpArgs false
namespace Go.Proofs.Ytipdidpalcmlhaa.Co
open Go Ev

def q : Nat → Int
  | 0 => 2048
  | k + 1 => q k - q k / 8
/-- How likely a 1 is. -/
def pr (kd s : Int) : Int :=
  if kd = 1 then min (max ((2 * (s % 256) + 1) * 4096 / (2 * (s / 256) + 2 * (s % 256) + 2)) 1) 4095
  else if 32 ≤ s then 4096 - q (s - 32).toNat else q s.toNat
def most (kd : Int) : Int := if kd = 1 then 65536 else 64
def vst (kd s : Int) : Prop := 0 ≤ s ∧ s < most kd
/-- An interval and its model's states. -/
structure Iv where
  st : List Int
  lo : Int
  hi : Int
structure Iv.Ok (kd : Int) (x : Iv) : Prop where
  k : kd = 0 ∨ kd = 1
  r : Rg x.lo x.hi
  d : ¬ same x.lo x.hi
  s : ∀ s ∈ x.st, vst kd s
def Iv.mid (kd : Int) (x : Iv) (c : Int) : Int := Co.mid x.lo x.hi (pr kd (x.st.getD c.toNat 0))
def Evs (n : Nat) (l : List (Int × Int)) : Prop := ∀ e ∈ l, 0 ≤ e.1 ∧ e.1 < (n : Int) ∧ (e.2 = 0 ∨ e.2 = 1)
/-! ### The end of a code -/
/-! ### What is got from any bytes -/
end Go.Proofs.Ytipdidpalcmlhaa.Co

set_option linter.unusedVariables false
set_option linter.unusedSimpArgs false
namespace Go.Proofs.Ytipdidpalcmlhaa.Co
open Go Ev

/-! ### Chances -/
end Go.Proofs.Ytipdidpalcmlhaa.Co

set_option linter.unusedVariables false
set_option linter.unusedSimpArgs false
namespace Go.Proofs.Ytipdidpalcmlhaa.Co
open Go Ev

/-! ### A new encoder -/
end Go.Proofs.Ytipdidpalcmlhaa.Co

set_option linter.unusedVariables false
set_option linter.unusedSimpArgs false
namespace Go.Proofs.Ytipdidpalcmlhaa.Co
open Go Ev

/-! ### Models -/
end Go.Proofs.Ytipdidpalcmlhaa.Co

set_option linter.unusedVariables false
set_option linter.unusedSimpArgs false
namespace Go.Proofs.Ytipdidpalcmlhaa.Co
open Go Ev

/-! ### The reference's encoder -/
end Go.Proofs.Ytipdidpalcmlhaa.Co

set_option linter.unusedVariables false
set_option linter.unusedSimpArgs false
namespace Go.Proofs.Ytipdidpalcmlhaa.Gen
open Go Ev Bm Co

/-- What is skipped has the region's sides, or none. -/
def Sk (w h : Int) (sp : List Int) : Prop := sp = [] ∨ (sp.length : Int) = w * h
/-! ### The events -/
section
variable (t ax ay base w h : Int) (ty : Bool) (p sp : List Int)
end
structure Reg (t ax ay kd base w h : Int) (p sp : List Int) (n : Nat) : Prop where
  v : vr t ax ay kd = true
  p : Pix w h p
  s : Sk w h sp
  b0 : 0 ≤ base
  b1 : base + size t ≤ (n : Int)
theorem Evs.append {n : Nat} {a b : List (Int × Int)} (ha : Evs n a) (hb : Evs n b) : Evs n (a ++ b) := fun e he => by
  rcases List.mem_append.1 he with he | he
  · exact ha e he
  · exact hb e he
/-! ### The program puts them -/
end Go.Proofs.Ytipdidpalcmlhaa.Gen

set_option linter.unusedVariables false
set_option linter.unusedSimpArgs false
namespace Go.Proofs.Ytipdidpalcmlhaa.Co
open Go Ev

def Bytes (l : List Int) : Prop := ∀ v ∈ l, 0 ≤ v ∧ v ≤ 255
/-! ### A new decoder -/
/-! ### The reference's decoder -/
end Go.Proofs.Ytipdidpalcmlhaa.Co

set_option linter.unusedVariables false
set_option linter.unusedSimpArgs false
namespace Go.Proofs.Ytipdidpalcmlhaa.Gen
open Go Ev Bm Co

structure D where
  ok : Bool
  p : List Int
  x : Iv
  k : Nat
section
variable (t ax ay base w h kx : Int) (ty : Bool) (sp code : List Int)
end
/-- What holds while a region is decoded. -/
structure DOk (t ax ay kd base w h kx : Int) (sp code : List Int) (n : Nat) (s : D) : Prop where
  r : Reg t ax ay kd base w h s.p sp n
  x : s.x.Ok kx
  sl : s.x.st.length = n
  k : s.k ≤ code.length
  n1 : n ≤ 8192
  cb : Bytes code
  cl : code.length ≤ 1000000
theorem bit_set {p : List Int} (h : ∀ v ∈ p, 0 ≤ v ∧ v ≤ 1) {i : Nat} {b : Int} (hb : b = 0 ∨ b = 1) : ∀ v ∈ p.set i b, 0 ≤ v ∧ v ≤ 1 := fun v hv => by
  rcases List.mem_or_eq_of_mem_set hv with hv | rfl
  · exact h v hv
  · omega
theorem Pix.set {w h : Int} {p : List Int} (hp : Pix w h p) {i : Nat} {b : Int} (hb : b = 0 ∨ b = 1) : Pix w h (p.set i b) :=
  ⟨hp.w0, hp.h0, hp.w1, hp.h1, hp.n, by rw [List.length_set]; exact hp.len, bit_set hp.bit hb⟩
section
variable {t ax ay kd base w h kx : Int} {ty : Bool} {sp code : List Int} {n : Nat}
end
/-! ### The program -/
section
variable {fl : Nat} {t ax ay kd base w h kx : Int} {ty : Bool} {sp code : List Int} {n : Nat}
end
end Go.Proofs.Ytipdidpalcmlhaa.Gen

set_option linter.unusedVariables false
set_option linter.unusedSimpArgs false
namespace Go.Proofs.Ytipdidpalcmlhaa.Gen
open Go Ev Bm Co

/-! ### What is skipped -/
structure Skp (w h sw sh : Int) (sp : List Int) : Prop where
  v : valid sw sh sp = true
  z : ∀ v ∈ sp, 0 ≤ v
  s : (sw = 0 ∧ sh = 0) ∨ (sw = w ∧ sh = h)
/-! ### New bitmaps -/
theorem replicate_set (n i : Nat) : (List.replicate n (0 : Int)).set i 0 = List.replicate n 0 := by
  apply List.ext_getElem (by simp)
  intro j h1 h2
  simp [List.getElem_set]
theorem bnew0 {fl : Nat} (hfl : 9223372036854775808 ≤ fl) {w h : Int} (hf : fit w h = true) {K : Int × Int × Int × List Int → Option Ans} : F_bitmap_New fl w h 0 K = K (w, h, 0, List.replicate (w * h).toNat 0) := by
  obtain ⟨f1, f2, f3, f4, f5⟩ := fit_iff.1 hf
  have hm := Int.mul_nonneg f1 f2
  unfold F_bitmap_New F_bitmap_blank
  rw [dec_f (by omega), dec_f (by omega), cond_f (b := (0 : Int) != 0) rfl, fits_ok, hf, cond_f (b := !true) rfl, wrap64 (x := w * h) (by omega) (by omega), dec_t (by refine ⟨by omega, ?_, by omega, by omega⟩; first | rfl | trivial)]
  dsimp only
  unfold L_bitmap_New_0
  refine iter_seq (step := S_bitmap_New_0 fl) (fun i : Nat => (0, 0, ((List.replicate (w * h).toNat (0 : Int)).length : Int), (i : Int), 0, 0, w, h, [], List.replicate (w * h).toNat 0)) (w * h).toNat rfl (fun i hi c => ?_) (fun c => ?_) (by omega)
  · simp only [S_bitmap_New_0, List.length_replicate]
    rw [dec_t (by omega), dec_t (by omega), wrap64 (by omega) (by omega), wrap8 (by omega) (by omega), replicate_set]
    rfl
  · simp only [S_bitmap_New_0, List.length_replicate]
    rw [dec_f (by omega)]
theorem rbnew0 {fl : Nat} (hfl : 9223372036854775808 ≤ fl) {w h : Int} (hf : fit w h = true) {K : Int × Int × Int × List Int → Option Ans} : F_ref05_New fl w h 0 K = K (w, h, 0, List.replicate (w * h).toNat 0) := by
  obtain ⟨f1, f2, f3, f4, f5⟩ := fit_iff.1 hf
  have hm := Int.mul_nonneg f1 f2
  unfold F_ref05_New F_ref05_make2
  rw [dec_f (by omega), dec_f (by omega), dec_f (by omega), dec_f (by omega), sides_ok, hf, cond_f (b := !true) rfl]
  unfold L_ref05_make2_0
  refine iter_seq (step := S_ref05_make2_0 fl) (fun i : Nat => (w, h, 0, (i : Int), 0, 0, w, h, [], List.replicate i 0)) (w * h).toNat rfl (fun i hi c => ?_) (fun c => ?_) (by omega)
  · simp only [S_ref05_make2_0]
    rw [wrap64 (x := w * h) (by omega) (by omega), dec_t (by omega), dec_t (by simp; omega), wrap64 (by omega) (by omega), wrap8 (by omega) (by omega), List.replicate_succ']
    rfl
  · simp only [S_ref05_make2_0]
    rw [wrap64 (x := w * h) (by omega) (by omega), dec_f (by omega)]

/-! ### Get -/
def d0 (w h : Int) (x : Iv) (k : Nat) : D := ⟨true, List.replicate (w * h).toNat 0, x, k⟩
section
variable {fl : Nat} {t ax ay kd base w h kx sw sh : Int} {ty : Bool} {sp code : List Int}
/-! ### The reference -/
end
theorem same_b {fl : Nat} {w h : Int} {p : List Int} {K : Bool → Option Ans} : F_ref05_Same fl w h p w h p K = K true := by
  unfold F_ref05_Same
  rw [cond_t (by simp), cond_t (by simp), beq_self_eq_true]
end Go.Proofs.Ytipdidpalcmlhaa.Gen

set_option linter.unusedVariables false
set_option linter.unusedSimpArgs false
namespace Go.Proofs.Ytipdidpalcmlhaa.Gen
open Go Ev Bm Co

end Go.Proofs.Ytipdidpalcmlhaa.Gen

set_option linter.unusedVariables false
set_option linter.unusedSimpArgs false
namespace Go.Proofs.Ytipdidpalcmlhaa.Gen
open Go Ev Bm Co

end Go.Proofs.Ytipdidpalcmlhaa.Gen

set_option linter.unusedVariables false
set_option linter.unusedSimpArgs false
namespace Go.Proofs.Ytipdidpalcmlhaa.Gen
open Go Ev Bm Co

/-! ### Patterns -/
theorem same_bs {fl : Nat} (hfl : 9223372036854775808 ≤ fl) {l : List (Int × Int × List Int)} (hl : l.length ≤ 1000000) {K : Bool → Option Ans} : F_ref09_SameBitmaps fl l l K = K true := by
  unfold F_ref09_SameBitmaps L_ref09_SameBitmaps_0
  rw [cond_f (by simp)]
  refine iter_to (step := S_ref09_SameBitmaps_0 fl) (fun i : Nat => (l, l, (i : Int))) l.length (fun i hi c => ?_) (fun c => ?_) (by omega)
  · simp only [S_ref09_SameBitmaps_0]
    rw [dec_t (by omega), dec_t (by omega), dec_t (by omega), Int.toNat_natCast, same_b, wrap64 (by omega) (by omega)]
    rfl
  · simp only [S_ref09_SameBitmaps_0]
    rw [dec_f (by omega)]
end Go.Proofs.Ytipdidpalcmlhaa.Gen

set_option linter.unusedVariables false
set_option linter.unusedSimpArgs false
namespace Go.Proofs.Ytipdidpalcmlhaa.Tone
open Go Ev

theorem getD_mid {α : Type} (pre : List α) (x : α) (suf : List α) (d : α) : (pre ++ x :: suf).getD pre.length d = x := by simp

/-- Not a value of k bits. -/
def bad (k v : Int) : Bool := decide (v < 0) || decide (v ≥ 2 ^ k.toNat)
theorem f58 {fl : Nat} {v k : Int} {K : Bool × Int → Option Ans} (h0 : 0 ≤ k) (h : k ≤ 62) : F_tone_Planes_1_e21 fl v k K = K (bad k v, k) := by
  unfold F_tone_Planes_1_e21 bad
  by_cases hv : v < 0
  · rw [dec_t hv, decide_eq_true hv]; rfl
  · rw [dec_f hv, dec_f (by omega), decide_eq_false hv, ishl_one h0 h]; rfl

def ffind (p : Int → Bool) : List Int → Option Nat
  | [] => none
  | x :: r => bif p x then some 0 else (match ffind p r with | some j => some (j + 1) | none => none)
theorem ffind_any (p : Int → Bool) : ∀ l, (ffind p l).isSome = l.any p
  | [] => rfl
  | x :: r => by
    simp only [ffind, List.any_cons]
    cases hp : p x with
    | true => rfl
    | false =>
      simp only [cond_false, Bool.false_or]
      rw [← ffind_any p r]
      cases ffind p r <;> rfl

theorem idx_loop {fl : Nat} {k : Int} (h0 : 0 ≤ k) (h : k ≤ 62) {ret : Int × Int → Option Ans} {b : Int → Option Ans} : ∀ (suf pre : List Int) (n : Nat), suf.length < n → pre.length + suf.length < 4611686018427387904 →
    iter (S_slices_IndexFunc_int_int_69c_0 fl) n (pre ++ suf, ((pre.length + suf.length : Nat) : Int), (pre.length : Int), k) (ret, b) = match ffind (bad k) suf with | some j => ret ((pre.length : Int) + j, k) | none => b k
  | [], pre, n, hn, hl => by
    obtain ⟨m, rfl⟩ : ∃ m, n = m + 1 := ⟨n - 1, by simp at hn; omega⟩
    simp only [iter, S_slices_IndexFunc_int_int_69c_0]
    rw [dec_f (by simp)]
    rfl
  | x :: suf, pre, n, hn, hl => by
    obtain ⟨m, rfl⟩ : ∃ m, n = m + 1 := ⟨n - 1, by simp at hn; omega⟩
    simp only [List.length_cons] at hn hl
    simp only [iter, S_slices_IndexFunc_int_int_69c_0]
    rw [dec_t (by simp; omega), dec_t (by simp; omega), f58 h0 h, Int.toNat_natCast, getD_mid]
    simp only [ffind]
    cases hb : bad k x with
    | true => simp
    | false =>
      simp only [cond_false]
      have ih := idx_loop h0 h (ret := ret) (b := b) (fl := fl) suf (pre ++ [x]) m (by omega) (by simp; omega)
      rw [wrap64 (by omega) (by omega)]
      have e1 : (pre ++ [x]) ++ suf = pre ++ x :: suf := by simp
      have e2 : (((pre ++ [x]).length + suf.length : Nat) : Int) = ((pre.length + (x :: suf).length : Nat) : Int) := by simp; omega
      have e3 : (((pre ++ [x]).length : Nat) : Int) = (pre.length : Int) + 1 := by simp
      rw [e1, e2, e3] at ih
      rw [ih]
      cases ffind (bad k) suf with
      | none => rfl
      | some j => simp only []; congr 2; simp; omega

theorem f57 {k : Int} (h0 : 0 ≤ k) (h : k ≤ 62) {l : List Int} (hl : l.length < 4611686018427387904) {K : Bool × Int → Option Ans} : F_slices_ContainsFunc_int_int_69c fuel l k K = K (l.any (bad k), k) := by
  unfold F_slices_ContainsFunc_int_int_69c F_slices_IndexFunc_int_int_69c L_slices_IndexFunc_int_int_69c_0
  have := idx_loop h0 h (fl := fuel) (ret := fun v => match v with | (a, c) => K (decide (a ≥ 0), c)) (b := fun c => K (decide ((-1 : Int) ≥ 0), c)) l [] fuel (fuel_lt (by omega)) (by simpa using hl)
  simp only [List.nil_append, List.length_nil, Nat.zero_add, Int.natCast_zero] at this
  refine this.trans ?_
  rw [← ffind_any]
  cases ffind (bad k) l with
  | none => rfl
  | some j =>
    simp only [Option.isSome_some]
    rw [decide_eq_true (by omega)]

/-- Bit j of a value in Gray's code. -/
def gb (j : Nat) (v : Int) : Int := (v / 2 ^ j + v / 2 ^ (j + 1)) % 2
theorem pow_pos' (j : Nat) : (0 : Int) < 2 ^ j := Int.pow_pos (by omega)
theorem div_le' {v : Int} (h : 0 ≤ v) (j : Nat) : 0 ≤ v / 2 ^ j ∧ v / 2 ^ j ≤ v :=
  ⟨Int.ediv_nonneg h (Int.le_of_lt (pow_pos' j)), Int.ediv_le_self _ h⟩
theorem gb_text {j v : Int} (h0 : 0 ≤ j) (h : j ≤ 7) (hv : 0 ≤ v) (hv' : v < 9223372036854775808) :
    IntKind.u8.wrap (iand .i64 (ixor .i64 (ishr .i64 v j) (ishr .i64 v (j + 1))) 1) = gb j.toNat v := by
  rw [ishr_eq h0 (by omega), ishr_eq (by omega) (by omega)]
  have a := div_le' hv j.toNat
  have b := div_le' hv (j + 1).toNat
  rw [gray_bit a.1 (by omega) b.1 (by omega)]
  have e : (j + 1).toNat = j.toNat + 1 := by omega
  rw [e]
  rw [e] at b
  unfold gb
  exact wrap8 (by omega) (by omega)

theorem plane_loop {fl : Nat} {vals out j b} (h0 : 0 ≤ j) (h : j ≤ 7) : ∀ (suf pre pl : List Int) (n : Nat), suf.length < n → pre.length + suf.length ≤ 17592186044416 → pl.length = pre.length → (∀ v ∈ suf, 0 ≤ v ∧ v < 9223372036854775808) →
    iter (S_tone_Planes_2 fl) n (vals, j, pre ++ suf, ((pre.length + suf.length : Nat) : Int), (pre.length : Int), out, pl) b = b (vals, j, out, pl ++ suf.map (gb j.toNat))
  | [], pre, pl, n, hn, hl, hp, hv => by
    obtain ⟨m, rfl⟩ : ∃ m, n = m + 1 := ⟨n - 1, by simp at hn; omega⟩
    simp only [iter, S_tone_Planes_2]
    rw [dec_f (by simp)]
    simp
  | x :: suf, pre, pl, n, hn, hl, hp, hv => by
    obtain ⟨m, rfl⟩ : ∃ m, n = m + 1 := ⟨n - 1, by simp at hn; omega⟩
    simp only [List.length_cons] at hn hl
    obtain ⟨hx0, hx1⟩ := hv x (by simp)
    simp only [iter, S_tone_Planes_2]
    rw [dec_t (by simp; omega), dec_t (by simp; omega), dec_f (by omega), wrap64 (by omega) (by omega), dec_f (by omega), Int.toNat_natCast, getD_mid, gb_text h0 h hx0 hx1, dec_t (by simp; omega)]
    have ih := plane_loop (fl := fl) (vals := vals) (out := out) (b := b) h0 h suf (pre ++ [x]) (pl ++ [gb j.toNat x]) m (by omega) (by simp; omega) (by simp [hp]) (fun v hv' => hv v (by simp [hv']))
    rw [wrap64 (by omega) (by omega)]
    have e1 : (pre ++ [x]) ++ suf = pre ++ x :: suf := by simp
    have e2 : (((pre ++ [x]).length + suf.length : Nat) : Int) = ((pre.length + (x :: suf).length : Nat) : Int) := by simp; omega
    have e3 : (((pre ++ [x]).length : Nat) : Int) = (pre.length : Int) + 1 := by simp
    rw [e1, e2, e3] at ih
    rw [ih]
    simp

/-- The planes, the highest first. -/
def plD (vals : List Int) : Nat → List (List Int)
  | 0 => []
  | t + 1 => vals.map (gb t) :: plD vals t
theorem planes_loop {fl : Nat} (hfl : 17592186044416 < fl) {vals b} (hl : vals.length ≤ 17592186044416) (hv : ∀ v ∈ vals, 0 ≤ v ∧ v < 9223372036854775808) : ∀ (t : Nat) (out : List (List Int)) (n : Nat), t < n → t ≤ 8 → out.length + t ≤ 1000 →
    iter (S_tone_Planes_0 fl) n (vals, (t : Int) - 1, out) b = b (out ++ plD vals t)
  | 0, out, n, hn, ht, ho => by
    obtain ⟨m, rfl⟩ : ∃ m, n = m + 1 := ⟨n - 1, by omega⟩
    simp only [iter, S_tone_Planes_0]
    rw [dec_f (by omega)]
    simp [plD]
  | t + 1, out, n, hn, ht, ho => by
    obtain ⟨m, rfl⟩ : ∃ m, n = m + 1 := ⟨n - 1, by omega⟩
    simp only [iter, S_tone_Planes_0, L_tone_Planes_2]
    rw [dec_t (by omega)]
    have e : ((t + 1 : Nat) : Int) - 1 = t := by omega
    rw [e]
    have hp := fun b => plane_loop (fl := fl) (vals := vals) (out := out) (j := t) (b := b) (by omega) (by omega) vals [] [] fl (by omega) (by simpa using hl) rfl hv
    simp only [List.nil_append, List.length_nil, Nat.zero_add, Int.natCast_zero] at hp
    rw [hp]
    simp only
    rw [dec_t (by simp; omega), wrap64 (by omega) (by omega), planes_loop hfl hl hv t _ m (by omega) (by omega) (by simp; omega)]
    simp [plD]

theorem bad_iff {k v : Int} : bad k v = false ↔ 0 ≤ v ∧ v < 2 ^ k.toNat := by
  unfold bad
  rw [Bool.or_eq_false_iff, decide_eq_false_iff_not, decide_eq_false_iff_not]
  omega

theorem pow_le8 {k : Int} (h0 : 0 ≤ k) (h : k ≤ 8) : (2 : Int) ^ k.toNat ≤ 256 := by
  have := Nat.pow_le_pow_right (n := 2) (by omega) (show k.toNat ≤ 8 by omega)
  have h2 : (2 : Nat) ^ k.toNat ≤ 256 := this
  have h3 : (2 : Int) ^ k.toNat = ((2 ^ k.toNat : Nat) : Int) := by rw [Int.natCast_pow]; rfl
  rw [h3]
  omega

/-- What Planes returns. -/
def planes (vals : List Int) (k : Int) : Int × List (List Int) :=
  if k < 0 ∨ k > 8 ∨ vals.any (bad k) = true then (2, []) else (0, plD vals k.toNat)
theorem f16 {vals : List Int} {k : Int} (hl : vals.length ≤ 17592186044416) {K : Int × List (List Int) → Option Ans} : F_tone_Planes fuel vals k K = K (planes vals k) := by
  unfold F_tone_Planes planes
  by_cases h1 : k < 0
  · rw [dec_t h1, if_pos (.inl h1)]
  · rw [dec_f h1]
    by_cases h2 : k > 8
    · rw [dec_t h2, if_pos (.inr (.inl h2))]
    · rw [dec_f h2, f57 (by omega) (by omega) (by omega)]
      simp only
      cases h3 : vals.any (bad k) with
      | true => rw [if_pos (.inr (.inr rfl))]; rfl
      | false =>
        rw [if_neg (by simp; omega)]
        simp only [cond_false]
        unfold L_tone_Planes_0
        have hv : ∀ v ∈ vals, 0 ≤ v ∧ v < 9223372036854775808 := fun v hv => by
          have := bad_iff.1 (Bool.eq_false_iff.2 fun hb => by
            have := List.any_eq_false.1 h3 v hv
            exact this hb)
          have h8 := pow_le8 (k := k) (by omega) (by omega)
          omega
        have hp := planes_loop (fl := fuel) (fuel_lt (by omega)) (b := fun v => K (0, v)) hl hv k.toNat [] fuel (fuel_lt (by omega)) (by omega) (by simp; omega)
        rw [wrap64 (by omega) (by omega)]
        have e : ((k.toNat : Nat) : Int) = k := by omega
        rw [e] at hp
        simpa using hp

theorem f17 {K : Bool → Option Ans} : F_law11_Sane fuel K = K true := by
  unfold F_law11_Sane
  rw [f16 (by decide)]
  have : planes [0, 1, 2, 3] 2 = (0, [[0, 0, 1, 1], [0, 1, 1, 0]]) := by decide
  rw [this]
  simp only [show ([[0, 0, 1, 1], [0, 1, 1, 0]] : List (List Int)).getD (Int.toNat 0) [] = [0, 0, 1, 1] from rfl, show ([[0, 0, 1, 1], [0, 1, 1, 0]] : List (List Int)).getD (Int.toNat 1) [] = [0, 1, 1, 0] from rfl, beq_self_eq_true,
    show ((([[0, 0, 1, 1], [0, 1, 1, 0]] : List (List Int)).length : Int) == 2) = true from rfl, show decide ((0 : Int) ≤ 0 ∧ (0 : Int) < (([[0, 0, 1, 1], [0, 1, 1, 0]] : List (List Int)).length : Int)) = true from rfl,
    show decide ((0 : Int) ≤ 1 ∧ (1 : Int) < (([[0, 0, 1, 1], [0, 1, 1, 0]] : List (List Int)).length : Int)) = true from rfl, cond_true, both_same]
end Go.Proofs.Ytipdidpalcmlhaa.Tone

set_option linter.unusedVariables false
set_option linter.unusedSimpArgs false
namespace Go.Proofs.Ytipdidpalcmlhaa.Tone
open Go Ev

theorem sameInts {l : List Int} {K : Bool → Option Ans} {fl : Nat} (hl : l.length < fl) (hl2 : l.length ≤ 4611686018427387904) : F_ref01_SameInts fl l l K = K true := by
  unfold F_ref01_SameInts L_ref01_SameInts_0
  rw [cond_f (by simp)]
  refine iter_to (step := S_ref01_SameInts_0 fl) (fun i => (l, l, (i : Int))) l.length (fun i hi c => ?_) (fun c => ?_) hl
  · simp (disch := omega) only [S_ref01_SameInts_0, dec_t, wrap64, Int.toNat_natCast]
    simp
  · simp only [S_ref01_SameInts_0]
    rw [dec_f (by omega)]

/-! ### FromPlanes -/
/-- A value with its next digit. -/
def gs (v x : Int) : Int := 2 * v + (v % 2 + x) % 2
def gz (vs xs : List Int) : List Int := List.zipWith gs vs xs
/-- The first i values have got their digit. -/
def half (vs xs : List Int) (i : Nat) : List Int := (gz vs xs).take i ++ vs.drop i
end Go.Proofs.Ytipdidpalcmlhaa.Tone

set_option linter.unusedVariables false
set_option linter.unusedSimpArgs false
namespace Go.Proofs.Ytipdidpalcmlhaa.PureToneScreens
open Go Ev Bm Gen So Ton Sc
theorem screens_any {fl : Nat} (hfl : 9223372036854775808 ≤ fl) (side n : Int) : (∃ s k : Nat, side = (s : Int) ∧ n = (k : Int) ∧ (1 ≤ s ∧ s ≤ 16) ∧ (1 ≤ k ∧ k ≤ 64)) ∨ ∀ K : Int × List Bmp → Option Ans, F_tone_Screen fl side n K = K (2, []) ∧ F_ref11_Screen fl side n K = K (2, []) := by
  by_cases h : 1 ≤ side ∧ side ≤ 16 ∧ 1 ≤ n ∧ n ≤ 64
  · exact .inl ⟨side.toNat, n.toNat, by omega, by omega, by omega, by omega⟩
  · right
    intro K
    unfold F_tone_Screen F_ref11_Screen
    by_cases h1 : side < 1
    · rw [dec_t h1, dec_t h1]; exact ⟨rfl, rfl⟩
    by_cases h2 : side > 16
    · rw [dec_f h1, dec_f h1, dec_t h2, dec_t h2]; exact ⟨rfl, rfl⟩
    by_cases h3 : n < 1
    · rw [dec_f h1, dec_f h1, dec_f h2, dec_f h2, dec_t h3, dec_t h3]; exact ⟨rfl, rfl⟩
    · rw [dec_f h1, dec_f h1, dec_f h2, dec_f h2, dec_f h3, dec_f h3, dec_t (by omega), dec_t (by omega)]; exact ⟨rfl, rfl⟩
/-- Each pattern has the black pixels of the one in front. -/
theorem grow_loop {fl : Nat} (hfl : 9223372036854775808 ≤ fl) {s n : Nat} (hs : 1 ≤ s ∧ s ≤ 16) (hn : 1 ≤ n ∧ n ≤ 64) {ret b} : L_law11_ToneScreens_0 fl (1, screenL s n n) ret b = b () := by
  obtain ⟨q1, q2⟩ := sq_le hs
  have hlen := screenL_len s n n
  unfold L_law11_ToneScreens_0
  refine iter_seq (step := S_law11_ToneScreens_0 fl) (fun i : Nat => (((i + 1 : Nat) : Int), screenL s n n)) (n - 1) rfl (fun i hi c => ?_) (fun c => ?_) (by omega)
  · have g1 := screenL_get s n n (i + 1) (by omega)
    have g0 := screenL_get s n n i (by omega)
    have l1 : (scr s n (i + 1)).2.2.length = s * s := onesL_len _ _
    have l0 : (scr s n i).2.2.length = s * s := onesL_len _ _
    have ei : IntKind.i64.wrap (((i + 1 : Nat) : Int) - 1) = (i : Int) := by rw [wrap64 (by omega) (by omega)]; omega
    simp only [S_law11_ToneScreens_0]
    rw [dec_t (by omega)]
    unfold L_law11_ToneScreens_2
    refine iter_seq (step := S_law11_ToneScreens_2 fl) (fun k : Nat => (((i + 1 : Nat) : Int), (k : Int), screenL s n n)) (s * s) rfl (fun k hk c => ?_) (fun c => ?_) (by omega)
    · simp only [S_law11_ToneScreens_2, ei, Int.toNat_natCast, g1, g0, l1, l0]
      rw [dec_t (by omega), dec_t (by omega), dec_t (by omega), dec_t (by omega), wrap64 (x := (k : Int) + 1) (by omega) (by omega)]
      by_cases h1 : (scr s n i).2.2.getD k 0 = 1
      · have h2 : (scr s n (i + 1)).2.2.getD k 0 = 1 := onesL_mono (s * s) (byKey s (s * s) (s * s)) (m := i * (s * s) / n) (m' := (i + 1) * (s * s) / n) (Nat.div_le_div_right (Nat.mul_le_mul_right _ (by omega))) k h1
        rw [cond_t (b := (scr s n i).2.2.getD k 0 == 1) (beq_iff_eq.2 h1), dec_t (by omega), dec_t (by omega), h2, cond_f (b := (1 : Int) == 0) rfl]
        rfl
      · rw [cond_f (b := (scr s n i).2.2.getD k 0 == 1) (beq_eq_false_iff_ne.2 h1)]
        rfl
    · simp only [S_law11_ToneScreens_2, Int.toNat_natCast, g1, l1]
      rw [dec_t (by omega), dec_f (by omega), wrap64 (by omega) (by omega)]
      rfl
  · simp only [S_law11_ToneScreens_0]
    rw [dec_f (by omega)]
theorem pure_fl {fl : Nat} (hfl : 9223372036854775808 ≤ fl) (hs : ∀ K : Bool → Option Ans, F_law11_Sane fl K = K true) (W H : Int) (p : List Int) (side n : Int) (K : Bool → Option Ans) (hll : p.length ≤ 1000000000000000) : F_law11_ToneScreens fl W H p side n K = K true := by
  unfold F_law11_ToneScreens
  by_cases hm : (p.length : Int) > 2000
  · rw [dec_t hm, hs]
  rw [dec_f hm]
  obtain ⟨e, v, v1, v2⟩ := dither_ok (fl := fl) (W := W) (H := H) hfl hll side n
  rcases screens_any hfl side n with ⟨s, k, rfl, rfl, h1, h2⟩ | h
  · rw [screen_ok hfl h1 h2]
    dsimp only
    rw [rscreen_ok hfl h1 h2]
    dsimp only
    rw [(v2 _).1]
    dsimp only
    rw [(v2 _).2]
    dsimp only
    rw [cond_f (b := (0 : Int) != 0) rfl, cond_f (by simp), same_bs hfl (by rw [screenL_len]; omega), cond_f (b := !true) rfl, Tone.sameInts (by omega) (by omega), cond_f (b := !true) rfl, grow_loop hfl h1 h2, hs]
  · rw [(h _).1]
    dsimp only
    rw [(h _).2]
    dsimp only
    rw [(v2 _).1]
    dsimp only
    rw [(v2 _).2]
    dsimp only
    rw [cond_f (b := (2 : Int) != 2) rfl, cond_f (by simp), same_bs hfl (by simp), cond_f (b := !true) rfl, Tone.sameInts (by omega) (by omega), cond_f (b := !true) rfl]
    unfold L_law11_ToneScreens_0
    obtain ⟨f, hf⟩ : ∃ g, fl = g + 1 := ⟨fl - 1, by omega⟩
    conv => lhs; arg 2; rw [hf]
    simp only [iter, S_law11_ToneScreens_0]
    rw [dec_f (by simp), hs]
theorem pure (W H : Int) (p : List Int) (side n : Int) (K : Bool → Option Ans) (g : given (.pair (.int .i64) (.pair (.int .i64) (.sl (.int .i64)))) (W, H, p)) (gs : (Lit.int .i64 side).wf = true) (gn : (Lit.int .i64 n).wf = true) : F_law11_ToneScreens fuel W H p side n K = K true := by
  obtain ⟨_, _, hg, _⟩ := g
  have h1 : p.length * 8 ≤ 140737488351232 := hg
  exact pure_fl (by rw [fuel_eq]; omega) (fun _ => Tone.f17) W H p side n K (by omega)
end Go.Proofs.Ytipdidpalcmlhaa.PureToneScreens

