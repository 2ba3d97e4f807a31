/- Segments: when two are the same; when lists are large. -/
import Derived.Test.YtajidgilfkineaaSeg2
set_option linter.unusedVariables false
set_option linter.unusedSimpArgs false
namespace Go.Proofs.Ytajidgilfkineaa.Seg
open Go Ev Bm

theorem eqInts {fl : Nat} (hfl : 9223372036854775808 ≤ fl) {a b : List Int} (hl : a.length ≤ 1000000000000000) {K : Bool → Option Ans} : F_slices_Equal_int_int fl a b K = K (decide (a = b)) := by
  unfold F_slices_Equal_int_int L_slices_Equal_int_int_0
  rw [cn]
  by_cases h : (a.length : Int) = b.length
  · rw [if_pos h]
    rcases nat_or_first (fun i => a.getD i 0 = b.getD i 0) a.length with h1 | ⟨m, hm, hb, hi⟩
    · rw [decide_eq_true (list_ext_getD 0 (by omega) h1)]
      refine iter_seq (step := S_slices_Equal_int_int_0 fl) (fun i : Nat => (a, b, (a.length : Int), (i : Int))) a.length rfl (fun i hi c => ?_) (fun c => ?_) (by omega)
      · have e := h1 i hi
        simp (disch := omega) only [S_slices_Equal_int_int_0, dec_t, wrap64, Int.toNat_natCast]
        rw [cond_f (by rw [e]; simp)]
        rfl
      · simp (disch := omega) only [S_slices_Equal_int_int_0, dec_f]
    · rw [decide_eq_false (fun e => hb (by rw [e]))]
      refine iter_seq (step := S_slices_Equal_int_int_0 fl) (fun i : Nat => (a, b, (a.length : Int), (i : Int))) m rfl (fun i him c => ?_) (fun c => ?_) (by omega)
      · have e := hi i him
        simp (disch := omega) only [S_slices_Equal_int_int_0, dec_t, wrap64, Int.toNat_natCast]
        rw [cond_f (by rw [e]; simp)]
        rfl
      · simp (disch := omega) only [S_slices_Equal_int_int_0, dec_t, Int.toNat_natCast]
        rw [cond_t (by simpa using hb)]
  · rw [if_neg h, decide_eq_false (fun e => h (by rw [e]))]
theorem eqBools {fl : Nat} (hfl : 9223372036854775808 ≤ fl) {a b : List Bool} (hl : a.length ≤ 1000000000000000) {K : Bool → Option Ans} : F_slices_Equal_bool_bool fl a b K = K (decide (a = b)) := by
  unfold F_slices_Equal_bool_bool L_slices_Equal_bool_bool_0
  rw [cn]
  by_cases h : (a.length : Int) = b.length
  · rw [if_pos h]
    rcases nat_or_first (fun i => a.getD i false = b.getD i false) a.length with h1 | ⟨m, hm, hb, hi⟩
    · rw [decide_eq_true (list_ext_getD false (by omega) h1)]
      refine iter_seq (step := S_slices_Equal_bool_bool_0 fl) (fun i : Nat => (a, b, (a.length : Int), (i : Int))) a.length rfl (fun i hi c => ?_) (fun c => ?_) (by omega)
      · have e := h1 i hi
        simp (disch := omega) only [S_slices_Equal_bool_bool_0, dec_t, wrap64, Int.toNat_natCast]
        rw [cond_f (by rw [e]; simp)]
        rfl
      · simp (disch := omega) only [S_slices_Equal_bool_bool_0, dec_f]
    · rw [decide_eq_false (fun e => hb (by rw [e]))]
      refine iter_seq (step := S_slices_Equal_bool_bool_0 fl) (fun i : Nat => (a, b, (a.length : Int), (i : Int))) m rfl (fun i him c => ?_) (fun c => ?_) (by omega)
      · have e := hi i him
        simp (disch := omega) only [S_slices_Equal_bool_bool_0, dec_t, wrap64, Int.toNat_natCast]
        rw [cond_f (by rw [e]; simp)]
        rfl
      · simp (disch := omega) only [S_slices_Equal_bool_bool_0, dec_t, Int.toNat_natCast]
        rw [cond_t (by simpa using hb)]
  · rw [if_neg h, decide_eq_false (fun e => h (by rw [e]))]

/-- The same bytes. -/
def sameD (x y : List Int) : Bool := (strOfNums x).toList == (strOfNums y).toList
theorem sameD_self (x : List Int) : sameD x x = true := by unfold sameD; rw [beq_self_eq_true]
/-- The same segment. -/
def same (n k p : Int) (refs : List Int) (keep : List Bool) (data : List Int) (n' k' p' : Int) (refs' : List Int) (keep' : List Bool) (data' : List Int) : Bool :=
  decide (n = n' ∧ k = k' ∧ p = p' ∧ refs = refs' ∧ keep = keep') && sameD data data'
theorem same_self (n k p : Int) (refs : List Int) (keep : List Bool) (data : List Int) : same n k p refs keep data n k p refs keep data = true := by simp [same, sameD_self]
theorem ssame {fl : Nat} (hfl : 9223372036854775808 ≤ fl) {n k p n' k' p' : Int} {refs refs' : List Int} {keep keep' : List Bool} {data data' : List Int} (h1 : refs.length ≤ 1000000000000000) (h2 : keep.length ≤ 1000000000000000) {K : Bool → Option Ans} :
    F_segment_Same fl n k p refs keep data n' k' p' refs' keep' data' K = K (same n k p refs keep data n' k' p' refs' keep' data') := by
  unfold F_segment_Same same F_bytes_Equal
  simp only [eqInts hfl h1, eqBools hfl h2, cb, cd]
  by_cases hall : n = n' ∧ k = k' ∧ p = p' ∧ refs = refs' ∧ keep = keep'
  · obtain ⟨a, b, c, d, e⟩ := hall
    rw [if_pos a, if_pos b, if_pos c, if_pos d, if_pos e, decide_eq_true ⟨a, b, c, d, e⟩]
    rfl
  · rw [decide_eq_false hall, Bool.false_and]
    repeat' split
    all_goals first
      | rfl
      | exact absurd ⟨by assumption, by assumption, by assumption, by assumption, by assumption⟩ hall
theorem rsame {fl : Nat} (hfl : 9223372036854775808 ≤ fl) {n k p n' k' p' : Int} {refs refs' : List Int} {keep keep' : List Bool} {data data' : List Int} (h1 : refs.length ≤ 1000000000000000) (h2 : keep.length ≤ 1000000000000000) {K : Bool → Option Ans} :
    F_ref12_Same fl n k p refs keep data n' k' p' refs' keep' data' K = K (same n k p refs keep data n' k' p' refs' keep' data') := by
  unfold F_ref12_Same same
  simp only [cn]
  by_cases c1 : n = n'
  rotate_left
  · rw [if_neg c1, decide_eq_false (fun h => c1 h.1)]; rfl
  rw [if_pos c1]
  by_cases c2 : k = k'
  rotate_left
  · rw [if_neg c2, decide_eq_false (fun h => c2 h.2.1)]; rfl
  rw [if_pos c2]
  by_cases c3 : p = p'
  rotate_left
  · rw [if_neg c3, decide_eq_false (fun h => c3 h.2.2.1)]; rfl
  rw [if_pos c3]
  by_cases c4 : (refs.length : Int) = refs'.length
  rotate_left
  · rw [if_neg c4, decide_eq_false (fun h => c4 (by rw [h.2.2.2.1]))]; rfl
  rw [if_pos c4]
  by_cases c5 : (keep.length : Int) = keep'.length
  rotate_left
  · rw [if_neg c5, decide_eq_false (fun h => c5 (by rw [h.2.2.2.2]))]; rfl
  rw [if_pos c5]
  have hd : ((strOfNums data).toList == (strOfNums data').toList) = sameD data data' := rfl
  rw [hd]
  cases c6 : sameD data data' with
  | false => rw [Bool.and_false]; rfl
  | true =>
  rw [cond_f (b := !true) rfl, Bool.and_true]
  unfold L_ref12_Same_0
  rcases nat_or_first (fun i => refs.getD i 0 = refs'.getD i 0) refs.length with g1 | ⟨m, hm, hb, hi⟩
  rotate_left
  · rw [decide_eq_false (fun h => hb (by rw [h.2.2.2.1]))]
    refine iter_seq (step := S_ref12_Same_0 fl) (fun i : Nat => ((refs.length : Int), (i : Int), n, k, p, refs, keep, data, n', k', p', refs', keep', data')) m rfl (fun i him c => ?_) (fun c => ?_) (by omega)
    · have e := hi i him
      simp (disch := omega) only [S_ref12_Same_0, dec_t, wrap64, Int.toNat_natCast]
      rw [cond_f (by rw [e]; simp)]
      rfl
    · simp (disch := omega) only [S_ref12_Same_0, dec_t, Int.toNat_natCast]
      rw [cond_t (by simpa using hb)]
  have e4 := list_ext_getD 0 (by omega) g1
  have key : ∀ ret b, iter (S_ref12_Same_0 fl) fl ((refs.length : Int), 0, n, k, p, refs, keep, data, n', k', p', refs', keep', data') (ret, b) = b (n, k, p, refs, keep, data, n', k', p', refs', keep', data') := by
    intro ret b
    refine iter_seq (step := S_ref12_Same_0 fl) (fun i : Nat => ((refs.length : Int), (i : Int), n, k, p, refs, keep, data, n', k', p', refs', keep', data')) refs.length rfl (fun i hi c => ?_) (fun c => ?_) (by omega)
    · have e := g1 i hi
      simp (disch := omega) only [S_ref12_Same_0, dec_t, wrap64, Int.toNat_natCast]
      rw [cond_f (by rw [e]; simp)]
      rfl
    · simp (disch := omega) only [S_ref12_Same_0, dec_f]
  rw [key]
  dsimp only
  unfold L_ref12_Same_2
  rcases nat_or_first (fun i => keep.getD i false = keep'.getD i false) keep.length with g2 | ⟨m, hm, hb, hi⟩
  · have e5 := list_ext_getD false (by omega) g2
    rw [decide_eq_true ⟨c1, c2, c3, e4, e5⟩]
    refine iter_seq (step := S_ref12_Same_2 fl) (fun i : Nat => ((keep.length : Int), (i : Int), n, k, p, refs, keep, data, n', k', p', refs', keep', data')) keep.length rfl (fun i hi c => ?_) (fun c => ?_) (by omega)
    · have e := g2 i hi
      simp (disch := omega) only [S_ref12_Same_2, dec_t, wrap64, Int.toNat_natCast]
      rw [cond_f (by rw [e]; simp)]
      rfl
    · simp (disch := omega) only [S_ref12_Same_2, dec_f]
  · rw [decide_eq_false (fun h => hb (by rw [h.2.2.2.2]))]
    refine iter_seq (step := S_ref12_Same_2 fl) (fun i : Nat => ((keep.length : Int), (i : Int), n, k, p, refs, keep, data, n', k', p', refs', keep', data')) m rfl (fun i him c => ?_) (fun c => ?_) (by omega)
    · have e := hi i him
      simp (disch := omega) only [S_ref12_Same_2, dec_t, wrap64, Int.toNat_natCast]
      rw [cond_f (by rw [e]; simp)]
      rfl
    · simp (disch := omega) only [S_ref12_Same_2, dec_t, Int.toNat_natCast]
      rw [cond_t (by cases h1 : keep.getD m false <;> cases h2 : keep'.getD m false <;> simp_all)]

abbrev SegT := Int × Int × Int × List Int × List Bool × List Int
def lgW (l : List SegT) : Nat → Int
  | 0 => 0
  | i + 1 => IntKind.i64.wrap (lgW l i + IntKind.i64.wrap (((l.getD i (0, 0, 0, [], [], [])).2.2.2.2.2.length : Int) + ((l.getD i (0, 0, 0, [], [], [])).2.2.2.1.length : Int)))
def large (l : List SegT) : Bool := decide ((l.length : Int) > 300) || decide (lgW l l.length > 200000)
theorem llarge {fl : Nat} (hfl : 9223372036854775808 ≤ fl) {l : List SegT} (hl : l.length ≤ 1000000000000000) {K : Bool → Option Ans} : F_law12_large fl l K = K (large l) := by
  unfold F_law12_large L_law12_large_0 large
  refine iter_seq (step := S_law12_large_0 fl) (fun i : Nat => (l, lgW l i, l, (l.length : Int), (i : Int))) l.length rfl (fun i hi c => ?_) (fun c => ?_) (by omega)
  · simp (disch := omega) only [S_law12_large_0, dec_t, wrap64 (x := (i : Int) + 1), Int.toNat_natCast]
    rfl
  · simp (disch := omega) only [S_law12_large_0, dec_f, cd]
    by_cases h : (l.length : Int) > 300
    · rw [if_pos h, decide_eq_true h]; rfl
    · rw [if_neg h, decide_eq_false h]; rfl
end Go.Proofs.Ytajidgilfkineaa.Seg
