/- ToneFrom, as plain Lean: which values any planes have, and that Planes of these are the planes. -/
import Derived.Test.YtajidgilfkineaaPureTonePlanes
import Derived.Test.YtajidgilfkineaaFlaw11ToneFrom
set_option linter.unusedVariables false
set_option linter.unusedSimpArgs false
namespace Go.Proofs.Ytajidgilfkineaa.Tone
open Go Ev

theorem plD_fold : ∀ (ps : List (List Int)) (vs : List Int), (∀ p ∈ ps, p.length = vs.length ∧ ∀ x ∈ p, 0 ≤ x ∧ x ≤ 1) →
    plD (ps.foldl gz vs) ps.length = ps ∧ (ps.foldl gz vs).map (fun v => v / 2 ^ ps.length) = vs
  | [], vs, h => by simp [plD]
  | p :: ps, vs, h => by
    obtain ⟨h1, h2⟩ := h p (by simp)
    have hl := gz_length (vs := vs) (xs := p) h1
    obtain ⟨i1, i2⟩ := plD_fold ps (gz vs p) fun q hq => by rw [hl]; exact h q (by simp [hq])
    simp only [List.foldl_cons, List.length_cons, plD]
    generalize ps.foldl gz (gz vs p) = V at i1 i2
    have e : ∀ i (hi : i < V.length), ∃ (a : i < vs.length) (b : i < p.length), V[i] / 2 ^ ps.length = gs vs[i] p[i] := by
      intro i hi
      have hV : V.length = vs.length := by rw [← hl, ← i2, List.length_map]
      refine ⟨by omega, by omega, ?_⟩
      have : (V.map fun v => v / 2 ^ ps.length)[i]'(by simpa using hi) = (gz vs p)[i]'(by rw [hl]; omega) := by simp only [i2]
      simpa [gz] using this
    have hV : V.length = vs.length := by rw [← hl, ← i2, List.length_map]
    constructor
    · rw [i1]
      congr 1
      apply List.ext_getElem (by simp; omega)
      intro i a b
      simp only [List.getElem_map]
      obtain ⟨_, c, d⟩ := e i (by simpa using a)
      have := h2 _ (List.getElem_mem c)
      unfold gb
      rw [div_pow_succ, d]
      unfold gs
      omega
    · apply List.ext_getElem (by simp; omega)
      intro i a b
      simp only [List.getElem_map]
      obtain ⟨_, c, d⟩ := e i (by simpa using a)
      rw [div_pow_succ, d]
      unfold gs
      omega
theorem fold_small8 {ps : List (List Int)} {n : Nat} : small ps.length (fromP n ps) := by
  have := fold_small (t := 0) (ps := ps) (small_zero n)
  simpa [fromP] using this

theorem from_big {ps : List (List Int)} (h : ps.length > 8) {K : Int × List Int → Option Ans} : F_tone_FromPlanes fuel ps K = K (2, []) := by
  unfold F_tone_FromPlanes
  rw [dec_t (by omega)]
theorem rfrom_big {ps : List (List Int)} (h : ps.length > 8) {K : Int × List Int → Option Ans} : F_ref11_FromPlanes fuel ps K = K (2, []) := by
  unfold F_ref11_FromPlanes
  rw [dec_t (by omega)]

/-- The count, as the machine has it. -/
def wn (ps : List (List Int)) : Nat → Int
  | 0 => 0
  | i + 1 => IntKind.i64.wrap (IntKind.i64.wrap (wn ps i + 1) + ((ps.getD i []).length : Int))
def tot (ps : List (List Int)) : Nat → Nat
  | 0 => 0
  | i + 1 => tot ps i + 1 + (ps.getD i []).length
theorem tot_mono {ps : List (List Int)} {i : Nat} : ∀ {j : Nat}, i < j → (ps.getD i []).length ≤ tot ps j
  | 0, h => by omega
  | j + 1, h => by
    simp only [tot]
    rcases Nat.lt_or_ge i j with h' | h'
    · have := tot_mono (ps := ps) h'; omega
    · have : i = j := by omega
      subst this; omega
theorem wn_tot {ps : List (List Int)} (h8 : ps.length ≤ 8) (hl : ∀ p ∈ ps, p.length ≤ 140737488351232) : ∀ i, i ≤ ps.length → wn ps i = tot ps i ∧ tot ps i ≤ i * 140737488351233
  | 0, _ => ⟨rfl, by simp [tot]⟩
  | i + 1, hi => by
    obtain ⟨a, b⟩ := wn_tot h8 hl i (by omega)
    have hp := hl _ (getD_mem (show i < ps.length by omega) [])
    simp only [wn, tot]
    rw [a, wrap64 (x := (tot ps i : Int) + 1) (by omega) (by omega), wrap64 (by omega) (by omega)]
    refine ⟨by omega, by omega⟩
end Go.Proofs.Ytajidgilfkineaa.Tone
namespace Go.Proofs.Ytajidgilfkineaa.PureToneFrom
open Go Ev Tone
theorem pure (ps : List (List Int)) (K : Bool → Option Ans) (hg : given (.sl (.sl (.int .u8))) ps) : F_law11_ToneFrom fuel ps K = K true := by
  obtain ⟨hg1, hg2⟩ := hg
  have hg1 : ps.length * 24 ≤ 140737488351232 := hg1
  have hpl : ∀ p ∈ ps, p.length ≤ 140737488351232 := fun p hp => by
    have h : p.length * 1 ≤ 140737488351232 := (hg2 p hp).1
    omega
  have hp0 : ∀ p ∈ ps, ∀ x ∈ p, 0 ≤ x := fun p hp x hx => by
    have h : (Lit.int .u8 x).wf = true := (hg2 p hp).2 x hx
    simp [Lit.wf, IntKind.min, IntKind.max, IntKind.signed, IntKind.bits] at h
    omega
  unfold F_law11_ToneFrom
  have h1 : ∀ b, L_law11_ToneFrom_0 fuel (ps, 0, 0) b = b (ps, wn ps ps.length) := by
    intro b
    unfold L_law11_ToneFrom_0
    refine iter_seq (step := S_law11_ToneFrom_0 fuel) (fun i : Nat => (ps, wn ps i, (i : Int))) ps.length rfl (fun i hi c => ?_) (fun c => ?_) (fuel_lt (by omega))
    · simp (disch := omega) only [S_law11_ToneFrom_0, dec_t, wrap64 (x := (i : Int) + 1), Int.toNat_natCast]
      rfl
    · simp (disch := omega) only [S_law11_ToneFrom_0, dec_f]
  rw [h1]
  dsimp only
  by_cases hn : wn ps ps.length > 4000
  · rw [dec_t hn]
    exact f17
  rw [dec_f hn]
  by_cases h8 : ps.length > 8
  · rw [from_big h8]
    dsimp only
    rw [rfrom_big h8]
    dsimp only
    rw [cond_f (by rfl), sameInts (fuel_lt (by rw [List.length_nil]; omega)) (by rw [List.length_nil]; omega)]
    rw [cond_f (b := !true) rfl, cond_t (by rfl)]
    exact f17
  have hlen : ∀ p ∈ ps, p.length ≤ 4000 := by
    intro p hp
    obtain ⟨i, hi, rfl⟩ := List.mem_iff_getElem.1 hp
    have hw := (wn_tot (by omega) hpl ps.length (Nat.le_refl _)).1
    have := tot_mono (ps := ps) hi
    rw [getD_lt hi] at this
    omega
  rw [fromPlanes_ok (fun p hp => by have := hlen p hp; omega) hp0]
  skip
  rw [refFromPlanes (fun p hp => by have := hlen p hp; omega) hp0]
  skip
  have hfl : (fromPlanes ps).2.length ≤ 4000 := by
    unfold fromPlanes
    split
    · simp
    · rename_i h
      have h : ps.all (okP (sides ps)) = true := by
        cases hb : ps.all (okP (sides ps)) with
        | true => rfl
        | false => exact absurd (.inr hb) h
      have := fromP_length (n := sides ps) (ps := ps) (fun p hp => (okP_iff.1 (List.all_eq_true.1 h p hp)).1) (vs := List.replicate (sides ps) 0) (by simp)
      show (fromP (sides ps) ps).length ≤ 4000
      unfold fromP
      rw [this]
      unfold sides
      by_cases h0 : ps.length = 0
      · have : ps = [] := List.eq_nil_of_length_eq_zero h0
        subst this
        simp
      · exact hlen _ (getD_mem (by omega) [])
  rw [cond_f (by simp), sameInts (fuel_lt (by omega)) (by omega)]
  rw [cond_f (b := !true) rfl]
  by_cases hbad : ps.length > 8 ∨ ps.all (okP (sides ps)) = false
  · have e : fromPlanes ps = (2, []) := by unfold fromPlanes; rw [if_pos hbad]
    rw [e, cond_t (by rfl)]
    exact f17
  have e : fromPlanes ps = (0, fromP (sides ps) ps) := by unfold fromPlanes; rw [if_neg hbad]
  rw [e] at hfl ⊢
  dsimp only at hfl ⊢
  rw [cond_f (by rfl)]
  by_cases h0 : ps.length = 0
  · rw [cond_t (by simpa using h0)]
    exact f17
  rw [cond_f (by simp; intro e; subst e; simp at h0)]
  have hok : ps.all (okP (sides ps)) = true := by
    cases hb : ps.all (okP (sides ps)) with
    | true => rfl
    | false => exact absurd (.inr hb) hbad
  have hpp : ∀ p ∈ ps, p.length = (List.replicate (sides ps) (0 : Int)).length ∧ ∀ x ∈ p, 0 ≤ x ∧ x ≤ 1 := fun p hp => by
    rw [List.length_replicate]
    exact okP_get (List.all_eq_true.1 hok p hp) (hp0 p hp)
  have hpf := (plD_fold ps _ hpp).1
  rw [f16 (by omega)]
  have hpl : planes (fromP (sides ps) ps) (ps.length : Int) = (0, ps) := by
    unfold planes
    rw [if_neg]
    · rw [Int.toNat_natCast]
      exact congrArg (Prod.mk 0) hpf
    · rintro (h | h | h)
      · omega
      · omega
      · obtain ⟨v, hv, hb⟩ := List.any_eq_true.1 h
        have := fold_small8 (ps := ps) (n := sides ps) v hv
        have hf : bad (ps.length : Int) v = false := bad_iff.2 ⟨this.1, by rw [Int.toNat_natCast]; exact this.2⟩
        rw [hf] at hb
        cases hb
  rw [hpl]
  dsimp only
  rw [cond_f (by rfl), cond_f (by simp)]
  have h2 : ∀ ret b, L_law11_ToneFrom_2 fuel (ps, 0, ps) ret b = b () := by
    intro ret b
    unfold L_law11_ToneFrom_2
    refine iter_seq (step := S_law11_ToneFrom_2 fuel) (fun i : Nat => (ps, (i : Int), ps)) ps.length rfl (fun i hi c => ?_) (fun c => ?_) (fuel_lt (by omega))
    · simp (disch := omega) only [S_law11_ToneFrom_2, dec_t, wrap64, Int.toNat_natCast, sameBytes]
      rfl
    · simp (disch := omega) only [S_law11_ToneFrom_2, dec_f]
  rw [h2]
  exact f17
end Go.Proofs.Ytajidgilfkineaa.PureToneFrom
