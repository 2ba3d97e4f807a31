/- Planes and FromPlanes, as the references have them. -/
import Derived.Test.YtajidgilfkineaaTp1
import Derived.Test.YtajidgilfkineaaFref11Planes
import Derived.Test.YtajidgilfkineaaFtoneFromPlanes
import Derived.Test.YtajidgilfkineaaFref11FromPlanes
import Derived.Test.YtajidgilfkineaaFref01SameBytes
import Derived.Test.YtajidgilfkineaaFref01SameInts
set_option linter.unusedVariables false
set_option linter.unusedSimpArgs false
namespace Go.Proofs.Ytajidgilfkineaa.Tone
open Go Ev

theorem sameBytes {l : List Int} {K : Bool → Option Ans} {fl : Nat} : F_ref01_SameBytes fl l l K = K true := by
  unfold F_ref01_SameBytes
  rw [beq_self_eq_true]

theorem sameInts {l : List Int} {K : Bool → Option Ans} {fl : Nat} (hl : l.length < fl) (hl2 : l.length ≤ 4611686018427387904) : F_ref01_SameInts fl l l K = K true := by
  unfold F_ref01_SameInts L_ref01_SameInts_0
  rw [cond_f (by simp)]
  refine iter_to (step := S_ref01_SameInts_0 fl) (fun i => (l, l, (i : Int))) l.length (fun i hi c => ?_) (fun c => ?_) hl
  · simp (disch := omega) only [S_ref01_SameInts_0, dec_t, wrap64, Int.toNat_natCast]
    simp
  · simp only [S_ref01_SameInts_0]
    rw [dec_f (by omega)]

theorem gb_text2 {j v : Int} (h0 : 0 ≤ j) (h : j ≤ 7) (hv : 0 ≤ v) (hv' : v < 256) :
    IntKind.u8.wrap ((IntKind.i64.wrap (ishr .i64 v j + ishr .i64 v (j + 1))).tmod 2) = gb j.toNat v := by
  rw [ishr_eq h0 (by omega), ishr_eq (by omega) (by omega)]
  have a := div_le' hv j.toNat
  have b := div_le' hv (j + 1).toNat
  have e : (j + 1).toNat = j.toNat + 1 := by omega
  rw [e] at b ⊢
  unfold gb
  rw [wrap64 (by omega) (by omega), Int.tmod_eq_emod_of_nonneg (by omega)]
  exact wrap8 (by omega) (by omega)

theorem r_plane {fl : Nat} {vals out j b} (h0 : 0 ≤ j) (h : j ≤ 7) (hl : vals.length ≤ 17592186044416) (hfl : 17592186044416 < fl) (hv : ∀ v ∈ vals, 0 ≤ v ∧ v < 256) :
    L_ref11_Planes_4 fl (vals, j, 0, out, []) b = b (vals, j, out, vals.map (gb j.toNat)) := by
  unfold L_ref11_Planes_4
  refine iter_to (step := S_ref11_Planes_4 fl) (fun i => (vals, j, (i : Int), out, (vals.take i).map (gb j.toNat))) vals.length (fun i hi c => ?_) (fun c => ?_) (by omega)
  · obtain ⟨h1, h2⟩ := hv _ (getD_mem hi 0)
    simp (disch := omega) only [S_ref11_Planes_4, dec_t, dec_f, wrap64, Int.toNat_natCast, gb_text2, map_take_succ hi 0]
    rw [dec_t (by simp; omega)]
    rfl
  · simp only [S_ref11_Planes_4, List.take_length]
    rw [dec_f (by omega)]

theorem r_planes {fl : Nat} (hfl : 17592186044416 < fl) {vals b} (hl : vals.length ≤ 17592186044416) (hv : ∀ v ∈ vals, 0 ≤ v ∧ v < 256) : ∀ (t : Nat) (out : List (List Int)) (n : Nat), t < n → t ≤ 8 → out.length + t ≤ 1000 →
    iter (S_ref11_Planes_2 fl) n (vals, (t : Int) - 1, out) b = b (out ++ plD vals t)
  | 0, out, n, hn, ht, ho => by
    obtain ⟨m, rfl⟩ : ∃ m, n = m + 1 := ⟨n - 1, by omega⟩
    simp only [iter, S_ref11_Planes_2]
    rw [dec_f (by omega)]
    simp [plD]
  | t + 1, out, n, hn, ht, ho => by
    obtain ⟨m, rfl⟩ : ∃ m, n = m + 1 := ⟨n - 1, by omega⟩
    simp only [iter, S_ref11_Planes_2]
    rw [dec_t (by omega)]
    have e : ((t + 1 : Nat) : Int) - 1 = t := by omega
    rw [e, r_plane (by omega) (by omega) hl hfl hv]
    simp only
    rw [dec_t (by simp; omega), wrap64 (by omega) (by omega), r_planes hfl hl hv t _ m (by omega) (by omega) (by simp; omega)]
    simp [plD]

theorem any_bad {k : Int} (h0 : 0 ≤ k) (h8 : k ≤ 8) {vals : List Int} (h : vals.any (bad k) = false) : ∀ v ∈ vals, 0 ≤ v ∧ v < 256 := by
  intro v hv
  have := bad_iff.1 (Bool.eq_false_iff.2 fun hb => List.any_eq_false.1 h v hv hb)
  have h8 := pow_le8 (k := k) h0 h8
  omega

theorem refPlanes {vals : List Int} {k : Int} (hl : vals.length ≤ 17592186044416) {K : Int × List (List Int) → Option Ans} : F_ref11_Planes fuel vals k K = K (planes vals k) := by
  unfold F_ref11_Planes planes
  by_cases h1 : k < 0
  · rw [dec_t h1, if_pos (.inl h1)]
  · rw [dec_f h1]
    by_cases h2 : k > 8
    · rw [dec_t h2, if_pos (.inr (.inl h2))]
    · rw [dec_f h2]
      unfold L_ref11_Planes_0
      rcases all_or_first (fun v => !bad k v) 0 vals with h | ⟨n, hn, hb, hi⟩
      · have hany : vals.any (bad k) = false := by
          rw [List.any_eq_false]
          intro v hv
          have := List.all_eq_true.1 h v hv
          simpa using this
        have hv := any_bad (by omega) (by omega) hany
        rw [if_neg (by rw [hany]; simp; omega)]
        refine iter_to (step := S_ref11_Planes_0 fuel) (fun i => (vals, k, (i : Int))) vals.length (fun i hi c => ?_) (fun c => ?_) (fuel_lt (by omega))
        · obtain ⟨g1, g2⟩ := bad_iff.1 (show bad k (vals.getD i 0) = false by simpa using all_getD h 0 hi)
          simp (disch := omega) only [S_ref11_Planes_0, dec_t, dec_f, wrap64, Int.toNat_natCast, ishl_one]
          rfl
        · simp (disch := omega) only [S_ref11_Planes_0, dec_f, L_ref11_Planes_2]
          have hp := r_planes (fl := fuel) (fuel_lt (by omega)) (b := fun v => K (0, v)) hl hv k.toNat [] fuel (fuel_lt (by omega)) (by omega) (by simp; omega)
          rw [wrap64 (by omega) (by omega)]
          have e : ((k.toNat : Nat) : Int) = k := by omega
          rw [e] at hp
          simpa using hp
      · have hb : bad k (vals.getD n 0) = true := by simpa using hb
        rw [if_pos (.inr (.inr (List.any_eq_true.2 ⟨_, getD_mem hn 0, hb⟩)))]
        refine iter_to (step := S_ref11_Planes_0 fuel) (fun i => (vals, k, (i : Int))) n (fun i hin c => ?_) (fun c => ?_) (fuel_lt (by omega))
        · obtain ⟨g1, g2⟩ := bad_iff.1 (show bad k (vals.getD i 0) = false by simpa using hi i hin)
          simp (disch := omega) only [S_ref11_Planes_0, dec_t, dec_f, wrap64, Int.toNat_natCast, ishl_one]
          rfl
        · unfold bad at hb
          simp (disch := omega) only [S_ref11_Planes_0, dec_t, Int.toNat_natCast]
          by_cases hneg : vals.getD n 0 < 0
          · rw [dec_t hneg]
          · rw [dec_f hneg, dec_f (by omega), ishl_one (by omega) (by omega)]
            rw [decide_eq_false hneg, Bool.false_or] at hb
            rw [hb]
            rfl

/-! ### FromPlanes -/
/-- A value with its next digit. -/
def gs (v x : Int) : Int := 2 * v + (v % 2 + x) % 2
def gz (vs xs : List Int) : List Int := List.zipWith gs vs xs
def fromP (n : Nat) : List (List Int) → List Int
  | ps => ps.foldl gz (List.replicate n 0)
def okP (n : Nat) (p : List Int) : Bool := decide (p.length = n) && p.all fun x => decide (x ≤ 1)
def sides (ps : List (List Int)) : Nat := (ps.getD 0 []).length
/-- What FromPlanes returns. -/
def fromPlanes (ps : List (List Int)) : Int × List Int :=
  if ps.length > 8 ∨ ps.all (okP (sides ps)) = false then (2, []) else (0, fromP (sides ps) ps)

/-- The values are not too large. -/
def small (t : Nat) (vs : List Int) : Prop := ∀ v ∈ vs, 0 ≤ v ∧ v < 2 ^ t
theorem gs_small {t : Nat} {v x : Int} (h : 0 ≤ v ∧ v < 2 ^ t) : 0 ≤ gs v x ∧ gs v x < 2 ^ (t + 1) := by
  unfold gs
  rw [Int.pow_succ]
  omega
theorem gz_small {t : Nat} {vs xs : List Int} (h : small t vs) : small (t + 1) (gz vs xs) := by
  intro v hv
  obtain ⟨i, hi, rfl⟩ := List.mem_iff_getElem.1 hv
  simp only [gz, List.getElem_zipWith]
  simp only [gz, List.length_zipWith] at hi
  exact gs_small (h _ (List.getElem_mem (by omega)))
theorem gz_length {vs xs : List Int} (h : xs.length = vs.length) : (gz vs xs).length = vs.length := by simp [gz, h]

theorem xor_text {v x : Int} (h0 : 0 ≤ v) (h : v < 2 ^ 9) (hx : x = 0 ∨ x = 1) : IntKind.i64.wrap (IntKind.i64.wrap (2 * v) + ixor .i64 (iand .i64 v 1) (IntKind.i64.wrap x)) = gs v x := by
  have e9 : (2 : Int) ^ 9 = 512 := by decide
  rw [e9] at h
  rw [wrap64 (x := x) (by omega) (by omega), wrap64 (x := 2 * v) (by omega) (by omega), iand_one h0 (by omega)]
  have hm : v % 2 = 0 ∨ v % 2 = 1 := by omega
  have key : ixor .i64 (v % 2) x = (v % 2 + x) % 2 := by
    rcases hm with hm | hm <;> rcases hx with rfl | rfl <;> rw [hm] <;> decide
  rw [key]
  unfold gs
  exact wrap64 (by omega) (by omega)
theorem add_text {v x : Int} (h0 : 0 ≤ v) (h : v < 2 ^ 9) (hx : x = 0 ∨ x = 1) : IntKind.i64.wrap (IntKind.i64.wrap (2 * v) + (IntKind.i64.wrap (IntKind.i64.wrap x + Int.tmod v 2)).tmod 2) = gs v x := by
  have e9 : (2 : Int) ^ 9 = 512 := by decide
  rw [e9] at h
  rw [Int.tmod_eq_emod_of_nonneg h0, wrap64 (x := x) (by omega) (by omega), wrap64 (x := 2 * v) (by omega) (by omega), wrap64 (x := x + v % 2) (by omega) (by omega), Int.tmod_eq_emod_of_nonneg (by omega)]
  unfold gs
  rw [show x + v % 2 = v % 2 + x from Int.add_comm _ _]
  exact wrap64 (by omega) (by omega)

/-- The first i values have got their digit. -/
def half (vs xs : List Int) (i : Nat) : List Int := (gz vs xs).take i ++ vs.drop i
theorem half_zero (vs xs : List Int) : half vs xs 0 = vs := by simp [half]
theorem half_all {vs xs : List Int} (h : xs.length = vs.length) : half vs xs vs.length = gz vs xs := by
  unfold half
  rw [List.drop_length, List.append_nil, List.take_of_length_le]
  rw [gz_length h]
  exact Nat.le_refl _
theorem half_len {vs xs : List Int} (h : xs.length = vs.length) {i : Nat} (hi : i ≤ vs.length) : (half vs xs i).length = vs.length := by
  simp [half, gz_length h]
  omega
theorem half_get {vs xs : List Int} (h : xs.length = vs.length) {i : Nat} (hi : i < vs.length) : (half vs xs i).getD i 0 = vs.getD i 0 := by
  have hl : ((gz vs xs).take i).length = i := by rw [List.length_take, gz_length h]; omega
  unfold half
  rw [List.getD_eq_getElem?_getD, List.getElem?_append_right (by omega), hl, List.getElem?_drop]
  simp
theorem half_set {vs xs : List Int} (h : xs.length = vs.length) {i : Nat} (hi : i < vs.length) : (half vs xs i).set i (gs (vs.getD i 0) (xs.getD i 0)) = half vs xs (i + 1) := by
  have hl : ((gz vs xs).take i).length = i := by rw [List.length_take, gz_length h]; omega
  unfold half
  rw [List.set_append_right _ _ (by omega), hl, Nat.sub_self, take_succ_getD (by rw [gz_length h]; exact hi) 0, List.append_assoc]
  congr 1
  rw [List.drop_eq_getElem_cons hi]
  have : (gz vs xs).getD i 0 = gs (vs.getD i 0) (xs.getD i 0) := by
    rw [getD_lt (by rw [gz_length h]; exact hi), getD_lt hi, getD_lt (by omega)]
    simp [gz]
  rw [this]
  rfl

theorem okP_iff {n : Nat} {p : List Int} : okP n p = true ↔ p.length = n ∧ ∀ x ∈ p, x ≤ 1 := by
  unfold okP
  rw [Bool.and_eq_true, decide_eq_true_eq, List.all_eq_true]
  simp
end Go.Proofs.Ytajidgilfkineaa.Tone
