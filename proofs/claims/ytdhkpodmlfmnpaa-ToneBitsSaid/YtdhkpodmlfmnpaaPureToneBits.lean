/- ToneBits, as plain Lean: so many values as a k has bits are told apart by k planes. -/
import Derived.Test.YtdhkpodmlfmnpaaTp1
import Derived.Test.YtdhkpodmlfmnpaaF3
set_option linter.unusedVariables false
set_option linter.unusedSimpArgs false
namespace Go.Proofs.Ytdhkpodmlfmnpaa.PureToneBits
open Go Ev Tone

theorem width_loop {fl : Nat} {n : Int} (h1 : 1 ≤ n) (h : n ≤ 256) : ∀ (d x : Nat), x + d = 8 → ∃ w : Nat, w ≤ 8 ∧ n ≤ 2 ^ w ∧ ∀ m b, d < m → iter (S15_0 fl) m (n, (x : Int)) b = b (n, (w : Int))
  | 0, x, hx => by
    have hx : x = 8 := by omega
    subst hx
    refine ⟨8, by omega, by omega, fun m b hm => ?_⟩
    obtain ⟨m, rfl⟩ : ∃ k, m = k + 1 := ⟨m - 1, by omega⟩
    simp only [iter, S15_0]
    rw [dec_t (by omega), dec_f (by omega), ishl_one (by omega) (by omega), dec_f (by simp; omega)]
  | d + 1, x, hx => by
    by_cases hlt : (2 : Int) ^ x < n
    · obtain ⟨w, hw, hn, hi⟩ := width_loop (fl := fl) h1 h d (x + 1) (by omega)
      refine ⟨w, hw, hn, fun m b hm => ?_⟩
      obtain ⟨m, rfl⟩ : ∃ k, m = k + 1 := ⟨m - 1, by omega⟩
      simp only [iter, S15_0]
      rw [dec_t (by omega), dec_f (by omega), ishl_one (by omega) (by omega), dec_t (by simpa using hlt), wrap64 (by omega) (by omega)]
      have := hi m b (by omega)
      simpa using this
    · refine ⟨x, by omega, by omega, fun m b hm => ?_⟩
      obtain ⟨m, rfl⟩ : ∃ k, m = k + 1 := ⟨m - 1, by omega⟩
      simp only [iter, S15_0]
      rw [dec_t (by omega), dec_f (by omega), ishl_one (by omega) (by omega), dec_f (by simpa using hlt)]

theorem width {n : Int} (h1 : 1 ≤ n) (h : n ≤ 256) : ∃ w : Nat, w ≤ 8 ∧ n ≤ 2 ^ w ∧ ∀ K, F15 fuel n K = K (w : Int) := by
  obtain ⟨w, hw, hn, hi⟩ := width_loop (fl := fuel) h1 h 8 0 (by omega)
  refine ⟨w, hw, hn, fun K => ?_⟩
  unfold F15 L15_0
  have := hi fuel (fun v => match v with | (b0_0, b0_1) => bif Decidable.decide (b0_1 < (0 : Int)) then none else bif Decidable.decide (ishl IntKind.i64 (1 : Int) b0_1 < b0_0) then K (63 : Int) else K b0_1) (fuel_lt (by omega))
  refine this.trans ?_
  simp only
  rw [dec_f (by omega), ishl_one (by omega) (by omega), dec_f (by simp; omega)]

/-- The numbers below t. -/
def upTo (t : Nat) : List Int := (List.range t).map fun (i : Nat) => (i : Int)
theorem upTo_length (t : Nat) : (upTo t).length = t := by simp [upTo]
theorem upTo_succ (t : Nat) : upTo (t + 1) = upTo t ++ [(t : Int)] := by simp [upTo, List.range_succ]

theorem values_loop {fl : Nat} {N : Nat} (hN : N ≤ 255) {w : Int} {b} : ∀ (d i m : Nat), i + d = N + 1 → d < m → iter (S3_0 fl) m ((N : Int), w, (i : Int), upTo i) b = b ((N : Int), w, upTo (N + 1))
  | 0, i, m, hi, hm => by
    obtain ⟨m, rfl⟩ : ∃ k, m = k + 1 := ⟨m - 1, by omega⟩
    simp only [iter, S3_0]
    have : i = N + 1 := by omega
    subst this
    rw [dec_f (by omega)]
  | d + 1, i, m, hi, hm => by
    obtain ⟨m, rfl⟩ : ∃ k, m = k + 1 := ⟨m - 1, by omega⟩
    simp only [iter, S3_0]
    rw [dec_t (by omega), dec_t (by simp [upTo_length]; omega), wrap64 (by omega) (by omega), ← upTo_succ]
    exact_mod_cast values_loop hN d (i + 1) m (by omega) (by omega)

theorem same_loop {fl : Nat} {N a c : Nat} (hN : N ≤ 255) (ha : a ≤ N) (hc : c ≤ N) {ret b} : ∀ (suf pre : List (List Int)) (s : Bool) (m : Nat), suf.length < m → pre.length + suf.length ≤ 8 → (∀ pl ∈ suf, pl.length = N + 1) →
    iter (S3_4 fl) m ((N : Int), ((pre.length + suf.length : Nat) : Int), (a : Int), (c : Int), s, (pre.length : Int), pre ++ suf) (ret, b)
      = b ((N : Int), ((pre.length + suf.length : Nat) : Int), (a : Int), (c : Int), s && suf.all (fun pl => pl.getD a 0 == pl.getD c 0), pre ++ suf)
  | [], pre, s, m, hm, hl, hp => by
    obtain ⟨m, rfl⟩ : ∃ k, m = k + 1 := ⟨m - 1, by simp at hm; omega⟩
    simp only [iter, S3_4]
    rw [dec_f (by simp)]
    simp
  | x :: suf, pre, s, m, hm, hl, hp => by
    obtain ⟨m, rfl⟩ : ∃ k, m = k + 1 := ⟨m - 1, by simp at hm; omega⟩
    simp only [List.length_cons] at hm hl
    have hx := hp x (by simp)
    simp only [iter, S3_4]
    rw [dec_t (by simp; omega), dec_t (by simp; omega), Int.toNat_natCast, getD_mid, hx, wrap64 (x := (N : Int) + 1) (by omega) (by omega), cond_f (b := ((N + 1 : Nat) : Int) != (N : Int) + 1) (by simp)]
    have ih := fun s => same_loop (fl := fl) hN ha hc (ret := ret) (b := b) suf (pre ++ [x]) s m (by omega) (by simp; omega) (fun v hv' => hp v (by simp [hv']))
    rw [wrap64 (x := (pre.length : Int) + 1) (by omega) (by omega)]
    have e1 : (pre ++ [x]) ++ suf = pre ++ x :: suf := by simp
    have e2 : (((pre ++ [x]).length + suf.length : Nat) : Int) = ((pre.length + (x :: suf).length : Nat) : Int) := by simp; omega
    have e3 : (((pre ++ [x]).length : Nat) : Int) = (pre.length : Int) + 1 := by simp
    rw [e1, e2, e3] at ih
    cases s with
    | false =>
      simp only [cond_false]
      rw [ih]
      simp
    | true =>
      simp only [cond_true]
      have hA : decide ((0 : Int) ≤ (a : Int) ∧ (a : Int) < ((N + 1 : Nat) : Int)) = true := decide_eq_true (by omega)
      have hC : decide ((0 : Int) ≤ (c : Int) ∧ (c : Int) < ((N + 1 : Nat) : Int)) = true := decide_eq_true (by omega)
      have hI : decide ((0 : Int) ≤ (pre.length : Int) ∧ (pre.length : Int) < ((pre ++ x :: suf).length : Int)) = true := decide_eq_true (by simp; omega)
      simp only [hA, hC, hI, cond_true, both_same, Int.toNat_natCast]
      rw [ih]
      simp

theorem gray_step {x y : Int} {j : Nat} (h : x / 2 ^ (j + 1) = y / 2 ^ (j + 1)) (hg : gb j x = gb j y) : x / 2 ^ j = y / 2 ^ j := by
  unfold gb at hg
  have e : ∀ z : Int, z / 2 ^ (j + 1) = z / 2 ^ j / 2 := fun z => by
    rw [Int.pow_succ, Int.ediv_ediv_of_nonneg (Int.le_of_lt (pow_pos' j))]
  rw [e, e] at h hg
  omega
theorem gray_inj {x y : Int} {t : Nat} (hx : 0 ≤ x) (hx' : x < 2 ^ t) (hy : 0 ≤ y) (hy' : y < 2 ^ t) (hg : ∀ j, j < t → gb j x = gb j y) : x = y := by
  have : ∀ i, i ≤ t → x / 2 ^ (t - i) = y / 2 ^ (t - i) := by
    intro i
    induction i with
    | zero => intro _; simp only [Nat.sub_zero]; rw [Int.ediv_eq_zero_of_lt hx hx', Int.ediv_eq_zero_of_lt hy hy']
    | succ i ih =>
      intro hi
      have e : t - i = (t - (i + 1)) + 1 := by omega
      have h1 := ih (by omega)
      rw [e] at h1
      exact gray_step h1 (hg _ (by omega))
  have := this t (by omega)
  simpa using this

theorem upTo_get {N a : Nat} (ha : a ≤ N) (j : Nat) : ((upTo (N + 1)).map (gb j)).getD a 0 = gb j a := by
  simp only [List.getD_eq_getElem?_getD, List.getElem?_map, upTo]
  rw [List.getElem?_range (by omega)]
  rfl
theorem plD_all {N a c : Nat} (ha : a ≤ N) (hc : c ≤ N) : ∀ t, (plD (upTo (N + 1)) t).all (fun pl => pl.getD a 0 == pl.getD c 0) = true ↔ ∀ j, j < t → gb j a = gb j c
  | 0 => by simp [plD]
  | t + 1 => by
    simp only [plD, List.all_cons, Bool.and_eq_true, plD_all ha hc t, upTo_get ha, upTo_get hc, beq_iff_eq]
    constructor
    · rintro ⟨h1, h2⟩ j hj
      rcases Nat.lt_or_ge j t with h | h
      · exact h2 j h
      · have : j = t := by omega
        subst this; exact h1
    · intro h
      exact ⟨h t (by omega), fun j hj => h j (by omega)⟩
theorem plD_len {N : Nat} : ∀ t, ∀ pl ∈ plD (upTo (N + 1)) t, pl.length = N + 1
  | 0, pl, h => by simp [plD] at h
  | t + 1, pl, h => by
    simp only [plD, List.mem_cons] at h
    rcases h with rfl | h
    · simp [upTo_length]
    · exact plD_len t pl h

theorem outer_loop {fl : Nat} (hfl : 100 < fl) {N w : Nat} (hN : N ≤ 255) (hw : w ≤ 8) (hn : (N : Int) + 1 ≤ 2 ^ w) {ret b} : ∀ (d a m : Nat), a + d = N + 1 → d < m →
    iter (S3_2 fl) m ((N : Int), (w : Int), (a : Int), plD (upTo (N + 1)) w) (ret, b) = b ()
  | 0, a, m, ha, hm => by
    obtain ⟨m, rfl⟩ : ∃ k, m = k + 1 := ⟨m - 1, by omega⟩
    simp only [iter, S3_2]
    rw [dec_f (by omega)]
  | d + 1, a, m, ha, hm => by
    obtain ⟨m, rfl⟩ : ∃ k, m = k + 1 := ⟨m - 1, by omega⟩
    simp only [iter, S3_2, L3_4]
    rw [dec_t (by omega), wrap64 (x := (N : Int) + 1) (by omega) (by omega), dec_f (by omega), wrap64 (x := (a : Int) + 1) (by omega) (by omega)]
    have hmod : ((a : Int) + 1).tmod ((N : Int) + 1) = (((a + 1) % (N + 1) : Nat) : Int) := by
      rw [Int.tmod_eq_emod_of_nonneg (by omega)]
      simp
    rw [hmod]
    have hc : (a + 1) % (N + 1) ≤ N := by have := Nat.mod_lt (a + 1) (show 0 < N + 1 by omega); omega
    have hs := fun ret b => same_loop (fl := fl) (ret := ret) (b := b) hN (show a ≤ N by omega) hc (plD (upTo (N + 1)) w) [] true fl (by rw [plD_length]; omega) (by simp [plD_length]; omega) (plD_len w)
    simp only [List.length_nil, Nat.zero_add, List.nil_append, plD_length, Int.natCast_zero, Bool.true_and] at hs
    rw [hs]
    simp only
    have hall : (plD (upTo (N + 1)) w).all (fun pl => pl.getD a 0 == pl.getD ((a + 1) % (N + 1)) 0) = ((a : Int) == (((a + 1) % (N + 1) : Nat) : Int)) := by
      rw [Bool.eq_iff_iff, plD_all (show a ≤ N by omega) hc, beq_iff_eq]
      constructor
      · intro hg
        exact gray_inj (t := w) (by omega) (by omega) (by omega) (by omega) hg
      · intro he j hj
        rw [he]
    rw [hall, cond_f (by simp), wrap64 (x := (a : Int) + 1) (by omega) (by omega)]
    exact_mod_cast outer_loop hfl hN hw hn d (a + 1) m (by omega) (by omega)

theorem pure (a0 : Int) (k : Bool → Option Ans) (h : (Lit.int .i64 a0).wf = true) : F3 fuel a0 k = k true := by
  obtain ⟨h1, h2⟩ := wf64 h
  have hm := Int.tmod_lt_of_pos a0 (show (0 : Int) < 256 by omega)
  have hm2 : -256 < a0.tmod 256 := by
    have := Int.lt_tmod_of_pos a0 (show (0 : Int) < 256 by omega)
    omega
  unfold F3
  rw [wrap64 (x := a0.tmod 256 + 256) (by omega) (by omega)]
  rw [Int.tmod_eq_emod_of_nonneg (show 0 ≤ a0.tmod 256 + 256 by omega)]
  generalize hn : (a0.tmod 256 + 256) % 256 = n
  have hn0 : 0 ≤ n ∧ n < 256 := by omega
  clear hn
  obtain ⟨N, rfl⟩ : ∃ N : Nat, n = N := ⟨n.toNat, by omega⟩
  rw [wrap64 (by omega) (by omega)]
  obtain ⟨w, hw, hle, hF⟩ := width (n := (N : Int) + 1) (by omega) (by omega)
  rw [hF]
  simp only [L3_0]
  have hv := fun b => values_loop (fl := fuel) (N := N) (by omega) (w := (w : Int)) (b := b) (N + 1) 0 fuel (by omega) (fuel_lt (by omega))
  have e0 : upTo 0 = [] := rfl
  rw [e0] at hv
  simp only [Int.natCast_zero] at hv
  rw [hv]
  simp only
  rw [f16 (by rw [upTo_length]; omega)]
  have hp : planes (upTo (N + 1)) (w : Int) = (0, plD (upTo (N + 1)) w) := by
    unfold planes
    rw [if_neg]
    · simp
    · rintro (h | h | h)
      · omega
      · omega
      · obtain ⟨v, hv, hb⟩ := List.any_eq_true.1 h
        simp only [upTo, List.mem_map, List.mem_range] at hv
        obtain ⟨i, hi, rfl⟩ := hv
        have : bad (w : Int) (i : Int) = false := bad_iff.2 ⟨by omega, by simp only [Int.toNat_natCast]; omega⟩
        rw [this] at hb
        cases hb
  rw [hp]
  simp only
  rw [cond_f (by rfl), cond_f (by simp [plD_length])]
  simp only [L3_2]
  have ho := fun ret b => outer_loop (fl := fuel) (fuel_lt (by omega)) (N := N) (w := w) (by omega) hw hle (ret := ret) (b := b) (N + 1) 0 fuel (by omega) (fuel_lt (by omega))
  simp only [Int.natCast_zero] at ho
  rw [ho]
  exact f17
end Go.Proofs.Ytdhkpodmlfmnpaa.PureToneBits
