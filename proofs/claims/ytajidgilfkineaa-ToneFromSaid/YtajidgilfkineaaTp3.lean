/- FromPlanes: what both say. -/
import Derived.Test.YtajidgilfkineaaTp2
set_option linter.unusedVariables false
set_option linter.unusedSimpArgs false
namespace Go.Proofs.Ytajidgilfkineaa.Tone
open Go Ev

theorem contains510 {p : List Int} (hl : p.length ≤ 4611686018427387904) {K : Bool → Option Ans} : F_slices_ContainsFunc_byte_byte_510 fuel p K = K (p.any fun x => decide (x > 1)) := by
  unfold F_slices_ContainsFunc_byte_byte_510 F_slices_IndexFunc_byte_byte_510 L_slices_IndexFunc_byte_byte_510_0
  rcases all_or_first (fun x => !decide (x > 1)) 0 p with h | ⟨n, hn, hb, hi⟩
  · have hany : (p.any fun x => decide (x > 1)) = false := by
      rw [List.any_eq_false]
      intro v hv
      simpa using List.all_eq_true.1 h v hv
    rw [hany]
    refine iter_to (step := S_slices_IndexFunc_byte_byte_510_0 fuel) (fun i => (p, (p.length : Int), (i : Int))) p.length (fun i hi c => ?_) (fun c => ?_) (fuel_lt (by omega))
    · have g := all_getD h 0 hi
      simp only [Bool.not_eq_true', decide_eq_false_iff_not] at g
      simp (disch := omega) only [S_slices_IndexFunc_byte_byte_510_0, F_tone_FromPlanes_1, dec_t, dec_f, wrap64, Int.toNat_natCast]
      rfl
    · simp (disch := omega) only [S_slices_IndexFunc_byte_byte_510_0, dec_f]
      rfl
  · have hb : p.getD n 0 > 1 := by simpa using hb
    have hany : (p.any fun x => decide (x > 1)) = true := List.any_eq_true.2 ⟨_, getD_mem hn 0, decide_eq_true hb⟩
    rw [hany]
    refine iter_to (step := S_slices_IndexFunc_byte_byte_510_0 fuel) (fun i => (p, (p.length : Int), (i : Int))) n (fun i hin c => ?_) (fun c => ?_) (fuel_lt (by omega))
    · have g := hi i hin
      simp only [Bool.not_eq_true', decide_eq_false_iff_not] at g
      simp (disch := omega) only [S_slices_IndexFunc_byte_byte_510_0, F_tone_FromPlanes_1, dec_t, dec_f, wrap64, Int.toNat_natCast]
      rfl
    · simp (disch := omega) only [S_slices_IndexFunc_byte_byte_510_0, F_tone_FromPlanes_1, dec_t, Int.toNat_natCast]
      simp

theorem fp_inner {x0 x1 : List (List Int)} {x2 x3 : Int} {xs vs : List Int} {b} (hl : xs.length = vs.length) (hlen : vs.length ≤ 17592186044416) (hs : small 8 vs) (hx : ∀ x ∈ xs, 0 ≤ x ∧ x ≤ 1) :
    L_tone_FromPlanes_2 fuel (x0, x1, x2, x3, xs, (xs.length : Int), 0, vs) b = b (x0, x1, x2, x3, gz vs xs) := by
  unfold L_tone_FromPlanes_2
  have h0 : (x0, x1, x2, x3, xs, (xs.length : Int), (0 : Int), vs) = (fun i : Nat => (x0, x1, x2, x3, xs, (xs.length : Int), (i : Int), half vs xs i)) 0 := by simp only [half_zero]; rfl
  refine iter_seq (step := S_tone_FromPlanes_2 fuel) (fun i => (x0, x1, x2, x3, xs, (xs.length : Int), (i : Int), half vs xs i)) vs.length h0 (fun i hi c => ?_) (fun c => ?_) (fuel_lt (by omega))
  · have hg := hs _ (getD_mem hi 0)
    have hxi := hx _ (getD_mem (show i < xs.length by omega) 0)
    have hh := half_len hl (show i ≤ vs.length by omega)
    simp (disch := omega) only [S_tone_FromPlanes_2, dec_t, wrap64 (x := (i : Int) + 1), Int.toNat_natCast, both_same, half_get hl hi]
    rw [xor_text hg.1 (by omega) (by omega), half_set hl hi]
    rfl
  · simp (disch := omega) only [S_tone_FromPlanes_2, dec_f]
    rw [half_all hl]

theorem fromP_take {n : Nat} {ps : List (List Int)} {i : Nat} (hi : i < ps.length) : fromP n (ps.take (i + 1)) = gz (fromP n (ps.take i)) (ps.getD i []) := by
  unfold fromP
  rw [take_succ_getD hi [], List.foldl_append]
  rfl
theorem fromP_length {n : Nat} : ∀ {ps : List (List Int)}, (∀ p ∈ ps, p.length = n) → ∀ {vs : List Int}, vs.length = n → (ps.foldl gz vs).length = n
  | [], _, vs, hv => hv
  | p :: ps, h, vs, hv => fromP_length (vs := gz vs p) (fun q hq => h q (by simp [hq])) ((gz_length (by rw [h p (by simp), hv])).trans hv)
theorem fold_small {t : Nat} : ∀ {ps : List (List Int)} {vs : List Int}, small t vs → small (t + ps.length) (ps.foldl gz vs)
  | [], vs, h => h
  | p :: ps, vs, h => by
    have := fold_small (ps := ps) (gz_small (xs := p) h)
    simp only [List.length_cons, List.foldl_cons]
    rw [show t + (ps.length + 1) = t + 1 + ps.length by omega]
    exact this
theorem small_zero (n : Nat) : small 0 (List.replicate n 0) := fun v hv => by
  have := List.eq_of_mem_replicate hv
  subst this
  exact ⟨by omega, by decide⟩
theorem small_mono {s t : Nat} {vs : List Int} (h : small s vs) (hst : s ≤ t) : small t vs := fun v hv => by
  have := h v hv
  have h2 : (2 : Int) ^ s ≤ 2 ^ t := by
    have := Nat.pow_le_pow_right (n := 2) (by omega) hst
    exact_mod_cast this
  omega
theorem fromP_take_small {n i : Nat} {ps : List (List Int)} (hi : i ≤ ps.length) (h : ps.length ≤ 8) : small 8 (fromP n (ps.take i)) := by
  have := fold_small (t := 0) (ps := ps.take i) (small_zero n)
  refine small_mono this ?_
  simp
  omega

theorem okP_get {n : Nat} {p : List Int} (h : okP n p = true) (h0 : ∀ x ∈ p, 0 ≤ x) : p.length = n ∧ ∀ x ∈ p, 0 ≤ x ∧ x ≤ 1 := by
  obtain ⟨h1, h2⟩ := okP_iff.1 h
  exact ⟨h1, fun x hx => ⟨h0 x hx, h2 x hx⟩⟩
theorem okP_any {n : Nat} {p : List Int} (h : p.length = n) : (p.any fun x => decide (x > 1)) = !okP n p := by
  have e : (fun x : Int => decide (x > 1)) = fun x => !decide (x ≤ 1) := by
    funext x
    by_cases h : x ≤ 1
    · simp [h]
    · simp [h]; omega
  unfold okP
  rw [decide_eq_true h, Bool.true_and, List.all_eq_not_any_not, e, Bool.not_not]

/-- The state of the outer loop. -/
theorem fromPlanes_ok {ps : List (List Int)} (hlen : ∀ p ∈ ps, p.length ≤ 17592186044416) (h0 : ∀ p ∈ ps, ∀ x ∈ p, 0 ≤ x) {K : Int × List Int → Option Ans} : F_tone_FromPlanes fuel ps K = K (fromPlanes ps) := by
  unfold F_tone_FromPlanes fromPlanes
  by_cases h8 : ps.length > 8
  · rw [dec_t (by omega), if_pos (.inl h8)]
  rw [dec_f (by omega)]
  unfold L_tone_FromPlanes_0
  -- one round
  have round : ∀ i, i < ps.length → okP (sides ps) (ps.getD i []) = true → ∀ vs, (i = 0 ∨ vs = fromP (sides ps) (ps.take i)) → (∀ j, j < i → okP (sides ps) (ps.getD j []) = true) → ∀ c B,
      S_tone_FromPlanes_0 fuel (ps, ps, (ps.length : Int), (i : Int), vs) c B = c (ps, ps, (ps.length : Int), ((i + 1 : Nat) : Int), fromP (sides ps) (ps.take (i + 1))) := by
    intro i hi hok vs hvs hall c B
    obtain ⟨g1, g2⟩ := okP_get hok (h0 _ (getD_mem hi []))
    have gl := hlen _ (getD_mem hi [])
    have hfl : (fromP (sides ps) (ps.take i)).length = sides ps := by
      refine fromP_length (fun p hp => ?_) (by simp)
      obtain ⟨j, hj, rfl⟩ := List.mem_iff_getElem.1 hp
      simp only [List.length_take] at hj
      have := (okP_iff.1 (hall j (by omega))).1
      rw [getD_lt (by omega)] at this
      simpa using this
    obtain ⟨B1, B2⟩ := B
    simp (disch := omega) only [S_tone_FromPlanes_0, dec_t, Int.toNat_natCast, wrap64]
    rw [cond_f (by simp only [bne_eq_false_iff_eq]; rw [g1]; rfl), contains510 (by omega), okP_any g1, hok]
    simp only [Bool.not_true, cond_false]
    by_cases hi0 : i = 0
    · subst hi0
      rw [cond_t (by rfl), dec_t ⟨by omega, trivial, by omega, by omega⟩, fp_inner (by rw [List.length_replicate]) (by rw [List.length_replicate]; simpa using gl) (small_mono (small_zero _) (by omega)) g2]
      have e : fromP (sides ps) (ps.take 0) = List.replicate (sides ps) 0 := by simp [fromP]
      dsimp only
      rw [wrap64 (by omega) (by omega), fromP_take hi, e, g1]
      rfl
    · have hvs : vs = fromP (sides ps) (ps.take i) := by rcases hvs with h | h; exact absurd h hi0; exact h
      subst hvs
      rw [cond_f (by simp; omega), fp_inner (by rw [g1, hfl]) (by rw [hfl, ← g1]; exact gl) (fromP_take_small (by omega) (by omega)) g2, ← fromP_take hi]
      dsimp only
      rw [wrap64 (by omega) (by omega)]
      rfl
  rcases all_or_first (okP (sides ps)) [] ps with h | ⟨n, hn, hb, hall⟩
  · rw [if_neg (by rw [h]; simp; omega)]
    have h0' : (ps, ps, (ps.length : Int), (0 : Int), ([] : List Int)) = (fun i : Nat => (ps, ps, (ps.length : Int), (i : Int), if i = 0 then [] else fromP (sides ps) (ps.take i))) 0 := rfl
    refine iter_seq (step := S_tone_FromPlanes_0 fuel) (fun i : Nat => (ps, ps, (ps.length : Int), (i : Int), if i = 0 then [] else fromP (sides ps) (ps.take i))) ps.length h0' (fun i hi c => ?_) (fun c => ?_) (fuel_lt (by omega))
    · simp only
      rw [round i hi (all_getD h [] hi) _ (by by_cases e : i = 0; exact .inl e; right; rw [if_neg e]) (fun j hj => all_getD h [] (by omega)), if_neg (by omega)]
    · simp (disch := omega) only [S_tone_FromPlanes_0, dec_f]
      by_cases e : ps.length = 0
      · have : ps = [] := List.eq_nil_of_length_eq_zero e
        subst this
        rfl
      · rw [if_neg e, List.take_length]
  · rw [if_pos (.inr (not_all hn hb))]
    have h0' : (ps, ps, (ps.length : Int), (0 : Int), ([] : List Int)) = (fun i : Nat => (ps, ps, (ps.length : Int), (i : Int), if i = 0 then [] else fromP (sides ps) (ps.take i))) 0 := rfl
    refine iter_seq (step := S_tone_FromPlanes_0 fuel) (fun i : Nat => (ps, ps, (ps.length : Int), (i : Int), if i = 0 then [] else fromP (sides ps) (ps.take i))) n h0' (fun i hi c => ?_) (fun c => ?_) (fuel_lt (by omega))
    · simp only
      rw [round i (by omega) (hall i hi) _ (by by_cases e : i = 0; exact .inl e; right; rw [if_neg e]) (fun j hj => hall j (by omega)), if_neg (by omega)]
    · have gl := hlen _ (getD_mem hn [])
      simp (disch := omega) only [S_tone_FromPlanes_0, dec_t, Int.toNat_natCast]
      by_cases hs : (ps.getD n []).length = sides ps
      · rw [cond_f (by simp only [bne_eq_false_iff_eq]; rw [hs]; rfl), contains510 (by omega), okP_any hs, hb]
        rfl
      · rw [cond_t (by simp only [bne_iff_ne, ne_eq]; intro e; exact hs (by exact_mod_cast e))]

theorem rp_inner {ps : List (List Int)} {j : Nat} {vs : List Int} {ret b} (hj : j < ps.length) (hj8 : ps.length ≤ 8) (hl : (ps.getD j []).length = vs.length) (hlen : vs.length ≤ 17592186044416) (hs : small 8 vs) (h0 : ∀ x ∈ ps.getD j [], 0 ≤ x) :
    L_ref11_FromPlanes_2 fuel (ps, (j : Int), 0, vs) ret b = if ((ps.getD j []).all fun x => decide (x ≤ 1)) = true then b (ps, (j : Int), gz vs (ps.getD j [])) else ret (2, []) := by
  unfold L_ref11_FromPlanes_2
  have hz : (ps, (j : Int), (0 : Int), vs) = (fun i : Nat => (ps, (j : Int), (i : Int), half vs (ps.getD j []) i)) 0 := by simp only [half_zero]; rfl
  have round : ∀ i, i < vs.length → (ps.getD j []).getD i 0 ≤ 1 → ∀ c B, S_ref11_FromPlanes_2 fuel (ps, (j : Int), (i : Int), half vs (ps.getD j []) i) c B = c (ps, (j : Int), ((i + 1 : Nat) : Int), half vs (ps.getD j []) (i + 1)) := by
    intro i hi h1 c B
    obtain ⟨B1, B2⟩ := B
    have hg := hs _ (getD_mem hi 0)
    have hxi := h0 _ (getD_mem (show i < (ps.getD j []).length by omega) 0)
    have hh := half_len hl (show i ≤ vs.length by omega)
    simp (disch := omega) only [S_ref11_FromPlanes_2, dec_t, dec_f, wrap64 (x := (i : Int) + 1), Int.toNat_natCast, half_get hl hi]
    rw [add_text hg.1 (by omega) (by omega), half_set hl hi]
    rfl
  rcases all_or_first (fun x => decide (x ≤ 1)) 0 (ps.getD j []) with h | ⟨n, hn, hb, hall⟩
  · rw [if_pos h]
    refine iter_seq (step := S_ref11_FromPlanes_2 fuel) (fun i : Nat => (ps, (j : Int), (i : Int), half vs (ps.getD j []) i)) vs.length hz (fun i hi c => ?_) (fun c => ?_) (fuel_lt (by omega))
    · exact round i hi (by simpa using all_getD h 0 (show i < (ps.getD j []).length by omega)) c _
    · have hh := half_len hl (show vs.length ≤ vs.length by omega)
      simp (disch := omega) only [S_ref11_FromPlanes_2, dec_f]
      rw [half_all hl]
  · rw [if_neg (by rw [not_all hn hb]; simp)]
    refine iter_seq (step := S_ref11_FromPlanes_2 fuel) (fun i : Nat => (ps, (j : Int), (i : Int), half vs (ps.getD j []) i)) n hz (fun i hi c => ?_) (fun c => ?_) (fuel_lt (by omega))
    · exact round i (by omega) (by simpa using hall i hi) c _
    · have hb : (ps.getD j []).getD n 0 > 1 := by simpa using hb
      have hh := half_len hl (show n ≤ vs.length by omega)
      simp (disch := omega) only [S_ref11_FromPlanes_2, dec_t, Int.toNat_natCast]

theorem refFromPlanes {ps : List (List Int)} (hlen : ∀ p ∈ ps, p.length ≤ 17592186044416) (h0 : ∀ p ∈ ps, ∀ x ∈ p, 0 ≤ x) {K : Int × List Int → Option Ans} : F_ref11_FromPlanes fuel ps K = K (fromPlanes ps) := by
  unfold F_ref11_FromPlanes fromPlanes
  by_cases h8 : ps.length > 8
  · rw [dec_t (by omega), if_pos (.inl h8)]
  rw [dec_f (by omega)]
  by_cases hn0 : ps.length = 0
  · have : ps = [] := List.eq_nil_of_length_eq_zero hn0
    subst this
    rfl
  rw [cond_f (by simp; intro e; subst e; simp at hn0), dec_t (by omega)]
  have gl0 := hlen _ (getD_mem (show 0 < ps.length by omega) [])
  rw [dec_t (by rw [show (0 : Int).toNat = 0 from rfl]; omega)]
  unfold L_ref11_FromPlanes_0
  have fl : ∀ i, i ≤ ps.length → (∀ j, j < i → okP (sides ps) (ps.getD j []) = true) → (fromP (sides ps) (ps.take i)).length = sides ps := by
    intro i hi hall
    refine fromP_length (fun p hp => ?_) (by simp)
    obtain ⟨j, hj, rfl⟩ := List.mem_iff_getElem.1 hp
    simp only [List.length_take] at hj
    have := (okP_iff.1 (hall j (by omega))).1
    rw [getD_lt (by omega)] at this
    simpa using this
  have hz : (ps, (0 : Int), List.replicate (((ps.getD (Int.toNat 0) []).length : Int)).toNat (0 : Int)) = (fun i : Nat => (ps, (i : Int), fromP (sides ps) (ps.take i))) 0 := by
    simp only [List.take_zero]
    rfl
  have round : ∀ i, i < ps.length → okP (sides ps) (ps.getD i []) = true → (∀ j, j < i → okP (sides ps) (ps.getD j []) = true) → ∀ c B,
      S_ref11_FromPlanes_0 fuel (ps, (i : Int), fromP (sides ps) (ps.take i)) c B = c (ps, ((i + 1 : Nat) : Int), fromP (sides ps) (ps.take (i + 1))) := by
    intro i hi hok hall c B
    obtain ⟨B1, B2⟩ := B
    have g1 := (okP_iff.1 hok).1
    have g2 := (okP_iff.1 hok).2
    have f1 := fl i (by omega) hall
    have gl := hlen _ (getD_mem hi [])
    simp (disch := omega) only [S_ref11_FromPlanes_0, dec_t, Int.toNat_natCast]
    rw [cond_f (by rw [g1, f1]; simp), rp_inner hi (by omega) (by rw [g1, f1]) (by rw [f1, ← g1]; exact gl) (fromP_take_small (by omega) (by omega)) (h0 _ (getD_mem hi []))]
    rw [if_pos (by rw [List.all_eq_true]; intro x hx; exact decide_eq_true (g2 x hx)), ← fromP_take hi]
    simp only
    rw [wrap64 (by omega) (by omega)]
    rfl
  rcases all_or_first (okP (sides ps)) [] ps with h | ⟨n, hn, hb, hall⟩
  · rw [if_neg (by rw [h]; simp; omega)]
    refine iter_seq (step := S_ref11_FromPlanes_0 fuel) (fun i : Nat => (ps, (i : Int), fromP (sides ps) (ps.take i))) ps.length hz (fun i hi c => ?_) (fun c => ?_) (fuel_lt (by omega))
    · exact round i hi (all_getD h [] hi) (fun j hj => all_getD h [] (by omega)) c _
    · simp (disch := omega) only [S_ref11_FromPlanes_0, dec_f]
      rw [List.take_length]
  · rw [if_pos (.inr (not_all hn hb))]
    refine iter_seq (step := S_ref11_FromPlanes_0 fuel) (fun i : Nat => (ps, (i : Int), fromP (sides ps) (ps.take i))) n hz (fun i hi c => ?_) (fun c => ?_) (fuel_lt (by omega))
    · exact round i (by omega) (hall i hi) (fun j hj => hall j (by omega)) c _
    · have f1 := fl n (by omega) hall
      have gl := hlen _ (getD_mem hn [])
      simp (disch := omega) only [S_ref11_FromPlanes_0, dec_t, Int.toNat_natCast]
      by_cases hs : (ps.getD n []).length = sides ps
      · rw [cond_f (by rw [hs, f1]; simp), rp_inner hn (by omega) (by rw [hs, f1]) (by rw [f1, ← hs]; exact gl) (fromP_take_small (by omega) (by omega)) (h0 _ (getD_mem hn []))]
        rw [if_neg]
        intro hh
        unfold okP at hb
        rw [decide_eq_true hs, Bool.true_and, hh] at hb
        cases hb
      · rw [cond_t (by rw [f1]; simp only [bne_iff_ne, ne_eq]; intro e; exact hs (by exact_mod_cast e))]
end Go.Proofs.Ytajidgilfkineaa.Tone
