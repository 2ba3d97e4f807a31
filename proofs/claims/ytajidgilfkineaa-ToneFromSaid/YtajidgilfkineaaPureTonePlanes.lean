/- TonePlanes, as plain Lean: the planes of values, that FromPlanes of them is the values, and that values side by side differ in one plane. -/
import Derived.Test.YtajidgilfkineaaTp3
import Derived.Test.YtajidgilfkineaaFlaw11TonePlanes
import Derived.Test.YtajidgilfkineaaEvS
set_option linter.unusedVariables false
set_option linter.unusedSimpArgs false
namespace Go.Proofs.Ytajidgilfkineaa.Tone
open Go Ev

theorem div_pow_succ (v : Int) (t : Nat) : v / 2 ^ (t + 1) = v / 2 ^ t / 2 := by
  rw [Int.pow_succ, Int.ediv_ediv_of_nonneg (Int.le_of_lt (pow_pos' t))]
theorem gs_gb (v : Int) (t : Nat) : gs (v / 2 ^ (t + 1)) (gb t v) = v / 2 ^ t := by
  unfold gs gb
  rw [div_pow_succ]
  omega
theorem fold_plD (vals : List Int) : ∀ t, (plD vals t).foldl gz (vals.map fun v => v / 2 ^ t) = vals
  | 0 => by simp [plD]
  | t + 1 => by
    simp only [plD, List.foldl_cons]
    have : gz (vals.map fun v => v / 2 ^ (t + 1)) (vals.map (gb t)) = vals.map fun v => v / 2 ^ t := by
      unfold gz
      rw [List.zipWith_map]
      apply List.ext_getElem (by simp)
      intro i h1 h2
      simp [gs_gb]
    rw [this]
    exact fold_plD vals t
theorem fromP_plD {vals : List Int} {t : Nat} (h : ∀ v ∈ vals, 0 ≤ v ∧ v < 2 ^ t) : fromP vals.length (plD vals t) = vals := by
  have e : List.replicate vals.length (0 : Int) = vals.map fun v => v / 2 ^ t := by
    apply List.ext_getElem (by simp)
    intro i h1 h2
    simp only [List.getElem_replicate, List.getElem_map]
    have := h _ (List.getElem_mem (show i < vals.length by simpa using h2))
    exact (Int.ediv_eq_zero_of_lt this.1 this.2).symm
  unfold fromP
  rw [e]
  exact fold_plD vals t
theorem plD_mem {vals : List Int} : ∀ {t : Nat} {p : List Int}, p ∈ plD vals t → p.length = vals.length ∧ ∀ x ∈ p, 0 ≤ x ∧ x ≤ 1
  | 0, p, h => by simp [plD] at h
  | t + 1, p, h => by
    simp only [plD, List.mem_cons] at h
    rcases h with rfl | h
    · refine ⟨by simp, fun x hx => ?_⟩
      obtain ⟨v, _, rfl⟩ := List.mem_map.1 hx
      rcases gb_01 t v with h | h <;> omega
    · exact plD_mem h

/-- How many planes tell two values apart. -/
def cnt (v w : Int) : Nat → Nat
  | 0 => 0
  | t + 1 => (if gb t v = gb t w then 0 else 1) + cnt v w t
theorem cnt_nat : ∀ k : Fin 9, ∀ v : Fin 256, v.val + 1 < 2 ^ k.val → cnt (v.val : Int) ((v.val : Int) + 1) k.val = 1 := by
  decide +kernel
theorem plD_get (v w : Int) : ∀ (t i : Nat), i < t → (plD [v, w] t).getD i [] = [gb (t - 1 - i) v, gb (t - 1 - i) w]
  | 0, i, h => by omega
  | t + 1, i, h => by
    cases i with
    | zero => simp [plD]
    | succ i =>
      simp only [plD, List.getD_cons_succ]
      rw [plD_get v w t i (by omega)]
      rw [show t + 1 - 1 - (i + 1) = t - 1 - i by omega]
/-- How many of the first i planes. -/
def cu (v w : Int) (t : Nat) : Nat → Nat
  | 0 => 0
  | i + 1 => cu v w t i + (if gb (t - 1 - i) v = gb (t - 1 - i) w then 0 else 1)
theorem cu_cnt (v w : Int) : ∀ (t i : Nat), i ≤ t → cu v w t i + cnt v w (t - i) = cnt v w t
  | t, 0, _ => by simp [cu]
  | t, i + 1, h => by
    have ih := cu_cnt v w t i (by omega)
    have e : t - i = (t - (i + 1)) + 1 := by omega
    rw [e] at ih
    simp only [cnt] at ih
    simp only [cu]
    rw [show t - 1 - i = t - (i + 1) by omega]
    omega
theorem cu_le (v w : Int) (t : Nat) : ∀ i, cu v w t i ≤ i
  | 0 => by simp [cu]
  | i + 1 => by have := cu_le v w t i; simp only [cu]; split <;> omega

theorem pair_loop {k : Nat} (hk : k ≤ 8) {v : Int} {ret b} : L_law11_TonePlanes_4 fuel ((k : Int), v, 0, 0, plD [v, v + 1] k) ret b = b ((k : Int), v, (cu v (v + 1) k k : Int)) := by
  unfold L_law11_TonePlanes_4
  refine iter_seq (step := S_law11_TonePlanes_4 fuel) (fun i : Nat => ((k : Int), v, (cu v (v + 1) k i : Int), (i : Int), plD [v, v + 1] k)) k rfl (fun i hi c => ?_) (fun c => ?_) (fuel_lt (by omega))
  · have hl := plD_length [v, v + 1] k
    have hc := cu_le v (v + 1) k i
    simp (disch := omega) only [S_law11_TonePlanes_4, dec_t, Int.toNat_natCast, wrap64 (x := (i : Int) + 1), plD_get v (v + 1) k i hi]
    rw [cond_f (by rfl)]
    simp only [show ((([gb (k - 1 - i) v, gb (k - 1 - i) (v + 1)] : List Int).length : Nat) : Int) = 2 from rfl, show decide ((0 : Int) ≤ 0 ∧ (0 : Int) < 2) = true from rfl, show decide ((0 : Int) ≤ 1 ∧ (1 : Int) < 2) = true from rfl, cond_true, both_same]
    simp only [show Int.toNat 0 = 0 from rfl, show Int.toNat 1 = 1 from rfl, List.getD_cons_zero, List.getD_cons_succ]
    simp only [cu]
    by_cases he : gb (k - 1 - i) v = gb (k - 1 - i) (v + 1)
    · rw [cond_f (by simp [he]), if_pos he]
      rfl
    · rw [cond_t (by simp [he]), if_neg he, wrap64 (by omega) (by omega)]
      rfl
  · simp (disch := omega) only [S_law11_TonePlanes_4, dec_f]

theorem pairs_loop {k : Nat} (hk : k ≤ 8) {ret b} : L_law11_TonePlanes_2 fuel ((k : Int), 0) ret b = b () := by
  unfold L_law11_TonePlanes_2
  have hp : (2 : Int) ^ k = ((2 ^ k : Nat) : Int) := by rw [Int.natCast_pow]; rfl
  have hp8 : 2 ^ k ≤ 256 := Nat.pow_le_pow_right (n := 2) (by omega) hk
  have hpos : 0 < 2 ^ k := Nat.pow_pos (by omega)
  refine iter_seq (step := S_law11_TonePlanes_2 fuel) (fun i : Nat => ((k : Int), (i : Int))) (2 ^ k - 1) rfl (fun i hi c => ?_) (fun c => ?_) (fuel_lt (by omega))
  · simp (disch := omega) only [S_law11_TonePlanes_2, dec_f, wrap64 (x := (i : Int) + 1), ishl_one, Int.toNat_natCast]
    rw [dec_t (by omega), f16 (by simp)]
    have hpl : planes [(i : Int), (i : Int) + 1] (k : Int) = (0, plD [(i : Int), (i : Int) + 1] k) := by
      unfold planes
      rw [if_neg]
      · rw [Int.toNat_natCast]
      · rintro (h | h | h)
        · omega
        · omega
        · have h1 : bad (k : Int) (i : Int) = false := bad_iff.2 ⟨by omega, by rw [Int.toNat_natCast]; omega⟩
          have h2 : bad (k : Int) ((i : Int) + 1) = false := bad_iff.2 ⟨by omega, by rw [Int.toNat_natCast]; omega⟩
          simp [h1, h2] at h
    rw [hpl]
    dsimp only
    rw [cond_f (by rfl), cond_f (by rw [plD_length]; simp), pair_loop hk]
    have hc : cu (i : Int) ((i : Int) + 1) k k = 1 := by
      have h1 := cu_cnt (i : Int) ((i : Int) + 1) k k (Nat.le_refl _)
      have h2 := cnt_nat ⟨k, by omega⟩ ⟨i, by omega⟩ (show i + 1 < 2 ^ k by omega)
      simp only at h2
      rw [Nat.sub_self] at h1
      simp only [cnt] at h1
      omega
    dsimp only
    rw [hc, cond_f (by rfl), wrap64 (by omega) (by omega)]
    rfl
  · simp (disch := omega) only [S_law11_TonePlanes_2, dec_f, wrap64, ishl_one, Int.toNat_natCast]
end Go.Proofs.Ytajidgilfkineaa.Tone
namespace Go.Proofs.Ytajidgilfkineaa.PureTonePlanes
open Go Ev Tone
theorem pure (vals : List Int) (k : Int) (K : Bool → Option Ans) (hg : given (.sl (.int .i64)) vals) (hk : (Lit.int .i64 k).wf = true) : F_law11_TonePlanes fuel vals k K = K true := by
  unfold F_law11_TonePlanes
  by_cases hl : vals.length > 2000
  · rw [dec_t (by omega)]
    exact f17
  rw [dec_f (by omega), f16 (by omega)]
  dsimp only
  rw [refPlanes (by omega)]
  skip
  rw [cond_f (by simp), cond_f (by simp)]
  have h1 : ∀ ret b, L_law11_TonePlanes_0 fuel (vals, k, (planes vals k).1, 0, (planes vals k).2, (planes vals k).2) ret b = b (vals, k, (planes vals k).1, (planes vals k).2) := by
    intro ret b
    have hpl : (planes vals k).2.length ≤ 8 := by
      unfold planes
      split
      · simp
      · rw [plD_length]; omega
    unfold L_law11_TonePlanes_0
    refine iter_seq (step := S_law11_TonePlanes_0 fuel) (fun i : Nat => (vals, k, (planes vals k).1, (i : Int), (planes vals k).2, (planes vals k).2)) (planes vals k).2.length rfl (fun i hi c => ?_) (fun c => ?_) (fuel_lt (by omega))
    · simp (disch := omega) only [S_law11_TonePlanes_0, dec_t, wrap64, Int.toNat_natCast, both_same, sameBytes]
      rfl
    · simp (disch := omega) only [S_law11_TonePlanes_0, dec_f]
  rw [h1]
  dsimp only
  by_cases hbad : k < 0 ∨ k > 8 ∨ vals.any (bad k) = true
  · have e : planes vals k = (2, []) := by unfold planes; rw [if_pos hbad]
    rw [e, cond_t (by rfl)]
    exact f17
  have e : planes vals k = (0, plD vals k.toNat) := by unfold planes; rw [if_neg hbad]
  rw [e, cond_f (by rfl)]
  by_cases hk0 : k = 0
  · subst hk0
    rw [cond_t (by rfl)]
    exact f17
  rw [cond_f (by simpa using hk0)]
  obtain ⟨t, rfl⟩ : ∃ t : Nat, k = t := ⟨k.toNat, by omega⟩
  rw [Int.toNat_natCast]
  have ht : t ≤ 8 ∧ 0 < t := by omega
  have hv : ∀ v ∈ vals, 0 ≤ v ∧ v < 2 ^ t := by
    intro v hv
    have hf : bad (t : Int) v = false := by
      cases hb : bad (t : Int) v with
      | false => rfl
      | true => exact absurd (.inr (.inr (List.any_eq_true.2 ⟨v, hv, hb⟩))) hbad
    have := bad_iff.1 hf
    rwa [Int.toNat_natCast] at this
  rw [fromPlanes_ok (fun p hp => by rw [(plD_mem hp).1]; omega) (fun p hp x hx => ((plD_mem hp).2 x hx).1)]
  have hs : sides (plD vals t) = vals.length := by
    unfold sides
    obtain ⟨u, rfl⟩ : ∃ u, t = u + 1 := ⟨t - 1, by omega⟩
    simp [plD]
  have hfp : fromPlanes (plD vals t) = (0, vals) := by
    unfold fromPlanes
    rw [if_neg, hs, fromP_plD hv]
    rw [plD_length, hs]
    rintro (h | h)
    · omega
    · have : (plD vals t).all (okP vals.length) = true := by
        rw [List.all_eq_true]
        intro p hp
        exact okP_iff.2 ⟨(plD_mem hp).1, fun x hx => ((plD_mem hp).2 x hx).2⟩
      rw [this] at h
      cases h
  rw [hfp]
  dsimp only
  rw [cond_f (by rfl), sameInts (fuel_lt (by omega)) (by omega)]
  simp only [Bool.not_true, cond_false]
  rw [pairs_loop ht.1]
  exact f17
end Go.Proofs.Ytajidgilfkineaa.PureTonePlanes
