/- Segments: what Valid, Header and Same say. -/
import Derived.Test.YtajidgilfkineaaSeg1
import Derived.Test.YtajidgilfkineaaFlaw12Awake
import Derived.Test.YtajidgilfkineaaFlaw12large
set_option linter.unusedVariables false
set_option linter.unusedSimpArgs false
namespace Go.Proofs.Ytajidgilfkineaa.Seg
open Go Ev Bm

/-- The number in front of the i-th one. -/
def lastOf (refs : List Int) : Nat → Int
  | 0 => -1
  | i + 1 => refs.getD i 0
def asc (refs : List Int) (n : Int) : Prop := ∀ i, i < refs.length → lastOf refs i < refs.getD i 0 ∧ refs.getD i 0 < n
instance {refs : List Int} {n : Int} : Decidable (asc refs n) := by unfold asc; infer_instance
def nums (n k p : Int) (refs : List Int) (keep : List Bool) (data : List Int) : Prop :=
  0 ≤ n ∧ n ≤ 10000 ∧ 0 ≤ k ∧ k ≤ 15 ∧ 0 ≤ p ∧ p ≤ 1000 ∧ refs.length ≤ 20 ∧ keep.length = refs.length + 1 ∧ data.length ≤ 20000
instance {n k p : Int} {refs : List Int} {keep : List Bool} {data : List Int} : Decidable (nums n k p refs keep data) := by unfold nums; infer_instance
/-- A segment is valid. -/
def valS (n k p : Int) (refs : List Int) (keep : List Bool) (data : List Int) : Bool := decide (nums n k p refs keep data ∧ asc refs n)

theorem svalid {fl : Nat} (hfl : 9223372036854775808 ≤ fl) {n k p : Int} {refs : List Int} {keep : List Bool} {data : List Int} (h1 : refs.length ≤ 1000000000000000) (h2 : keep.length ≤ 1000000000000000) (h3 : data.length ≤ 1000000000000000) {K : Bool → Option Ans} :
    F_segment_Valid fl n k p refs keep data K = K (valS n k p refs keep data) := by
  unfold F_segment_Valid valS
  simp only [cd, cn]
  rw [wrap64 (by omega) (by omega)]
  by_cases hn : nums n k p refs keep data
  · obtain ⟨a1, a2, a3, a4, a5, a6, a7, a8, a9⟩ := hn
    have hn : nums n k p refs keep data := ⟨a1, a2, a3, a4, a5, a6, a7, a8, a9⟩
    rw [if_neg (by omega), if_neg (by omega), if_neg (by omega), if_neg (by omega), if_neg (by omega), if_neg (by omega), if_neg (by omega), if_pos (by omega), if_neg (by omega)]
    unfold L_segment_Valid_0
    rcases nat_or_first (fun i => lastOf refs i < refs.getD i 0 ∧ refs.getD i 0 < n) refs.length with h | ⟨m, hm, hb, hi⟩
    · rw [decide_eq_true (show nums n k p refs keep data ∧ asc refs n from ⟨hn, h⟩)]
      refine iter_seq (step := S_segment_Valid_0 fl) (fun i : Nat => (lastOf refs i, refs, (refs.length : Int), (i : Int), n, k, p, refs, keep, data)) refs.length rfl (fun i hi c => ?_) (fun c => ?_) (by omega)
      · have := h i hi
        simp (disch := omega) only [S_segment_Valid_0, dec_t, dec_f, wrap64, Int.toNat_natCast]
        rfl
      · simp (disch := omega) only [S_segment_Valid_0, dec_f]
    · rw [decide_eq_false (show ¬(nums n k p refs keep data ∧ asc refs n) from fun h => hb (h.2 m hm))]
      refine iter_seq (step := S_segment_Valid_0 fl) (fun i : Nat => (lastOf refs i, refs, (refs.length : Int), (i : Int), n, k, p, refs, keep, data)) m rfl (fun i him c => ?_) (fun c => ?_) (by omega)
      · have := hi i him
        simp (disch := omega) only [S_segment_Valid_0, dec_t, dec_f, wrap64, Int.toNat_natCast]
        rfl
      · simp (disch := omega) only [S_segment_Valid_0, dec_t, Int.toNat_natCast]
        by_cases hc : refs.getD m 0 ≤ lastOf refs m
        · rw [dec_t hc]
        · rw [dec_f hc, dec_t (by omega)]
  · rw [decide_eq_false (fun h => hn h.1)]
    unfold nums at hn
    split
    · rfl
    split
    · rfl
    split
    · rfl
    split
    · rfl
    split
    · rfl
    split
    · rfl
    split
    · rfl
    split
    · split
      · rfl
      · exact absurd ⟨by omega, by omega, by omega, by omega, by omega, by omega, by omega, by omega, by omega⟩ hn
    · rfl
theorem rsvalid {fl : Nat} (hfl : 9223372036854775808 ≤ fl) {n k p : Int} {refs : List Int} {keep : List Bool} {data : List Int} (h1 : refs.length ≤ 1000000000000000) (h2 : keep.length ≤ 1000000000000000) (h3 : data.length ≤ 1000000000000000) {K : Bool → Option Ans} :
    F_ref12_Valid fl n k p refs keep data K = K (valS n k p refs keep data) := by
  have e : F_ref12_Valid fl n k p refs keep data K = F_segment_Valid fl n k p refs keep data K := by kernel_rfl
  rw [e]
  exact svalid hfl h1 h2 h3

/-- What refers to other segments: the sizes of the differences. -/
def refB (n : Int) (refs : List Int) : List Int := refs.flatMap fun r => sz (n - r)
theorem refB_take {n : Int} {refs : List Int} {i : Nat} (h : i < refs.length) : refB n (refs.take (i + 1)) = refB n (refs.take i) ++ sz (n - refs.getD i 0) := by
  unfold refB
  rw [take_succ_getD h 0, List.flatMap_append]
  simp
theorem refB_len {n : Int} : ∀ (refs : List Int), (refB n refs).length ≤ 6 * refs.length
  | [] => by simp [refB]
  | r :: refs => by
    have := refB_len (n := n) refs
    have h := sz_len (n - r)
    unfold refB at this ⊢
    rw [List.flatMap_cons, List.length_append, List.length_cons]
    omega
/-- A header's bytes. -/
def hdr (n k p : Int) (refs : List Int) (keep : List Bool) (dl : Nat) : List Int :=
  sz n ++ ((if refs.length = 0 then [k] else (k + 16) :: (sz refs.length ++ refB n refs)) ++ (packed keep ++ (sz p ++ sz dl)))
/-- What Header returns. -/
def headerR (n k p : Int) (refs : List Int) (keep : List Bool) (data : List Int) : Int × List Int :=
  if valS n k p refs keep data = true then (0, hdr n k p refs keep data.length) else (2, [])
theorem valS_iff {n k p : Int} {refs : List Int} {keep : List Bool} {data : List Int} : valS n k p refs keep data = true ↔ nums n k p refs keep data ∧ asc refs n := by simp [valS]
theorem asc_get {n : Int} {refs : List Int} (h : asc refs n) {i : Nat} (hi : i < refs.length) : 0 ≤ refs.getD i 0 ∧ refs.getD i 0 < n := by
  refine ⟨?_, (h i hi).2⟩
  have : ∀ j, j ≤ i → -1 ≤ lastOf refs j := by
    intro j
    induction j with
    | zero => intro _; simp [lastOf]
    | succ j ih =>
      intro hj
      have a := ih (by omega)
      have b := (h j (by omega)).1
      simp only [lastOf]
      omega
  have a := this i (Nat.le_refl _)
  have b := (h i hi).1
  omega

theorem flag {fl : Nat} {b : Bool} {K : Int → Option Ans} : F_segment_flag fl b K = K (b.toNat : Int) := by
  unfold F_segment_flag
  cases b <;> rfl
theorem keep_loop {fl : Nat} (hfl : 9223372036854775808 ≤ fl) {n k p : Int} {refs : List Int} {keep : List Bool} {data out : List Int} {b} (hl : keep.length ≤ 1000000) :
    L_segment_Header_2 fl (keep, (keep.length : Int), 0, n, k, p, refs, keep, data, [], out) b = b (n, k, p, refs, keep, data, bits keep, out) := by
  unfold L_segment_Header_2
  refine iter_seq (step := S_segment_Header_2 fl) (fun i : Nat => (keep, (keep.length : Int), (i : Int), n, k, p, refs, keep, data, bits (keep.take i), out)) keep.length rfl (fun i hi c => ?_) (fun c => ?_) (by omega)
  · have e : bits (keep.take (i + 1)) = bits (keep.take i) ++ [((keep.getD i false).toNat : Int)] := map_take_succ hi false _
    simp (disch := first | omega | (simp only [bits_len, List.length_take, List.length_singleton]; omega)) only [S_segment_Header_2, dec_t, wrap64, Int.toNat_natCast, flag, e]
    rfl
  · simp (disch := omega) only [S_segment_Header_2, dec_f, List.take_length]
theorem refs_loop {fl : Nat} (hfl : 9223372036854775808 ≤ fl) {n k p : Int} {refs : List Int} {keep : List Bool} {data out : List Int} {b} (hn : n ≤ 10000) (ha : asc refs n) (hl : refs.length ≤ 20) (ho : out.length ≤ 100) :
    L_segment_Header_0 fl (refs, (refs.length : Int), 0, n, k, p, refs, keep, data, out) b = b (n, k, p, refs, keep, data, out ++ refB n refs) := by
  unfold L_segment_Header_0
  refine iter_seq (step := S_segment_Header_0 fl) (fun i : Nat => (refs, (refs.length : Int), (i : Int), n, k, p, refs, keep, data, out ++ refB n (refs.take i))) refs.length (by simp [refB]) (fun i hi c => ?_) (fun c => ?_) (by omega)
  · have a := asc_get ha hi
    have h6 := refB_len (n := n) (refs.take i)
    have hlen : (out ++ refB n (refs.take i)).length ≤ 1000000 := by rw [List.length_append]; simp at h6; omega
    simp (disch := omega) only [S_segment_Header_0, dec_t, wrap64, Int.toNat_natCast]
    rw [psz hfl (by omega) (by omega) hlen, refB_take hi, List.append_assoc]
    rfl
  · simp (disch := omega) only [S_segment_Header_0, dec_f, List.take_length]

theorem header {fl : Nat} (hfl : 9223372036854775808 ≤ fl) {n k p : Int} {refs : List Int} {keep : List Bool} {data : List Int} (h1 : refs.length ≤ 1000000000000000) (h2 : keep.length ≤ 1000000000000000) (h3 : data.length ≤ 1000000000000000) {K : Int × List Int → Option Ans} :
    F_segment_Header fl n k p refs keep data K = K (headerR n k p refs keep data) := by
  unfold F_segment_Header headerR
  rw [svalid hfl h1 h2 h3]
  cases hv : valS n k p refs keep data with
  | false => rfl
  | true =>
  rw [cond_f (b := !true) rfl, if_pos rfl]
  obtain ⟨⟨a1, a2, a3, a4, a5, a6, a7, a8, a9⟩, ha⟩ := valS_iff.1 hv
  have z1 := sz_len n
  have z2 := sz_len p
  have z3 := sz_len refs.length
  have z4 := packed_len keep
  have z5 := refB_len (n := n) refs
  rw [psz hfl (by omega) (by omega) (by simp), List.nil_append]
  dsimp only
  rw [cb]
  by_cases hr : (refs.length : Int) = 0
  · rw [if_pos hr, wrap8 (by omega) (by omega), dec_t (by simp; omega), keep_loop hfl (by omega)]
    try dsimp only
    rw [pack hfl (by omega)]
    try dsimp only
    rw [dec_t (by simp; omega), psz hfl (by omega) (by omega) (by simp; omega)]
    try dsimp only
    rw [psz hfl (by omega) (by omega) (by simp; omega)]
    have hr0 : refs.length = 0 := by omega
    unfold hdr
    rw [if_pos hr0]
    simp only [List.append_assoc]
  · rw [if_neg hr, wrap64 (by omega) (by omega), wrap8 (by omega) (by omega), dec_t (by simp; omega), psz hfl (by omega) (by omega) (by simp; omega)]
    try dsimp only
    rw [refs_loop hfl a2 ha a7 (by simp; omega)]
    try dsimp only
    rw [keep_loop hfl (by omega)]
    try dsimp only
    rw [pack hfl (by omega)]
    try dsimp only
    rw [dec_t (by simp; omega), psz hfl (by omega) (by omega) (by simp; omega)]
    try dsimp only
    rw [psz hfl (by omega) (by omega) (by simp; omega)]
    have hr0 : ¬ refs.length = 0 := by omega
    unfold hdr
    rw [if_neg hr0]
    simp only [List.append_assoc, List.cons_append, List.nil_append]

theorem rkeep_loop {fl : Nat} (hfl : 9223372036854775808 ≤ fl) {n k p : Int} {refs : List Int} {keep : List Bool} {data out : List Int} {b} (hl : keep.length ≤ 1000000) :
    L_ref12_Header_2 fl (keep, (keep.length : Int), 0, n, k, p, refs, keep, data, out, List.replicate ((keep.length + 7) / 8) 0) b = b (n, k, p, refs, keep, data, out, packed keep) := by
  unfold L_ref12_Header_2 packed
  refine iter_seq (step := S_ref12_Header_2 fl) (fun i : Nat => (keep, (keep.length : Int), (i : Int), n, k, p, refs, keep, data, out, pk keep i ((keep.length + 7) / 8))) keep.length (by simp only [pk_zero]; rfl) (fun i hi c => ?_) (fun c => ?_) (by omega)
  · have e := by8_add keep i
    have hs := pk_set (l := keep) (i := i) (n := (keep.length + 7) / 8) (by omega)
    simp (disch := first | omega | (simp only [pk_len]; omega)) only [S_ref12_Header_2, dec_t, dec_f, wrap64, Int.toNat_natCast, tdiv8, tmod8, pk_get]
    cases hb : keep.getD i false with
    | true =>
      rw [if_pos hb] at e
      rw [cond_true, e, hs]
      rfl
    | false =>
      rw [if_neg (by rw [hb]; simp)] at e
      rw [cond_false]
      have : pk keep (i + 1) ((keep.length + 7) / 8) = pk keep i ((keep.length + 7) / 8) := by
        rw [← hs, ← e]
        apply List.ext_getElem (by simp)
        intro j h1 h2
        rw [List.getElem_set]
        split
        · rename_i ej; subst ej; simp [pk]
        · rfl
      rw [this]
      rfl
  · simp (disch := omega) only [S_ref12_Header_2, dec_f]
theorem rrefs_loop {fl : Nat} (hfl : 9223372036854775808 ≤ fl) {n k p : Int} {refs : List Int} {keep : List Bool} {data out : List Int} {b} (hn : n ≤ 10000) (ha : asc refs n) (hl : refs.length ≤ 20) (ho : out.length ≤ 100) :
    L_ref12_Header_0 fl (refs, (refs.length : Int), 0, n, k, p, refs, keep, data, out) b = b (n, k, p, refs, keep, data, out ++ refB n refs) := by
  unfold L_ref12_Header_0
  refine iter_seq (step := S_ref12_Header_0 fl) (fun i : Nat => (refs, (refs.length : Int), (i : Int), n, k, p, refs, keep, data, out ++ refB n (refs.take i))) refs.length (by simp [refB]) (fun i hi c => ?_) (fun c => ?_) (by omega)
  · have a := asc_get ha hi
    have h6 := refB_len (n := n) (refs.take i)
    have h7 := sz_len (n - refs.getD i 0)
    have hlen : (out ++ refB n (refs.take i)).length ≤ 1000000 := by rw [List.length_append]; simp at h6; omega
    simp (disch := omega) only [S_ref12_Header_0, dec_t, wrap64, Int.toNat_natCast]
    rw [rsz hfl (by omega) (by omega), dec_t (by omega), refB_take hi, List.append_assoc]
    rfl
  · simp (disch := omega) only [S_ref12_Header_0, dec_f, List.take_length]
theorem rheader {fl : Nat} (hfl : 9223372036854775808 ≤ fl) {n k p : Int} {refs : List Int} {keep : List Bool} {data : List Int} (h1 : refs.length ≤ 1000000000000000) (h2 : keep.length ≤ 1000000000000000) (h3 : data.length ≤ 1000000000000000) {K : Int × List Int → Option Ans} :
    F_ref12_Header fl n k p refs keep data K = K (headerR n k p refs keep data) := by
  unfold F_ref12_Header headerR
  rw [rsvalid hfl h1 h2 h3]
  cases hv : valS n k p refs keep data with
  | false => rfl
  | true =>
  rw [cond_f (b := !true) rfl, if_pos rfl]
  obtain ⟨⟨a1, a2, a3, a4, a5, a6, a7, a8, a9⟩, ha⟩ := valS_iff.1 hv
  have z1 := sz_len n
  have z2 := sz_len p
  have z3 := sz_len refs.length
  have z4 := packed_len keep
  have z5 := refB_len (n := n) refs
  have z6 := sz_len data.length
  rw [rsz hfl (by omega) (by omega)]
  dsimp only
  rw [cb, up8 _ (by omega)]
  by_cases hr : (refs.length : Int) = 0
  · rw [if_pos hr, wrap8 (by omega) (by omega), dec_t (by simp; omega), dec_t (by omega), Int.toNat_natCast, rkeep_loop hfl (by omega)]
    try dsimp only
    rw [dec_t (by simp; omega), rsz hfl (by omega) (by omega)]
    try dsimp only
    rw [dec_t (by simp; omega), rsz hfl (by omega) (by omega)]
    try dsimp only
    rw [dec_t (by simp; omega)]
    have hr0 : refs.length = 0 := by omega
    unfold hdr
    rw [if_pos hr0]
    simp only [List.append_assoc]
  · rw [if_neg hr, wrap64 (by omega) (by omega), wrap8 (by omega) (by omega), dec_t (by simp; omega), rsz hfl (by omega) (by omega)]
    try dsimp only
    rw [dec_t (by simp; omega), rrefs_loop hfl a2 ha a7 (by simp; omega)]
    try dsimp only
    rw [up8 _ (by omega), dec_t (by omega), Int.toNat_natCast, rkeep_loop hfl (by omega)]
    try dsimp only
    rw [dec_t (by simp; omega), rsz hfl (by omega) (by omega)]
    try dsimp only
    rw [dec_t (by simp; omega), rsz hfl (by omega) (by omega)]
    try dsimp only
    rw [dec_t (by simp; omega)]
    have hr0 : ¬ refs.length = 0 := by omega
    unfold hdr
    rw [if_neg hr0]
    simp only [List.append_assoc, List.cons_append, List.nil_append]

theorem sameB {fl : Nat} (hfl : 9223372036854775808 ≤ fl) {l : List Int} (hl : l.length ≤ 1000000000000000) {K : Bool → Option Ans} : F_ref02_SameBytes fl l l K = K true := by
  unfold F_ref02_SameBytes L_ref02_SameBytes_0
  rw [cond_f (by simp)]
  refine iter_seq (step := S_ref02_SameBytes_0 fl) (fun i : Nat => (l, l, (l.length : Int), (i : Int))) l.length rfl (fun i hi c => ?_) (fun c => ?_) (by omega)
  · simp (disch := omega) only [S_ref02_SameBytes_0, dec_t, wrap64, Int.toNat_natCast]
    simp
  · simp (disch := omega) only [S_ref02_SameBytes_0, dec_f]

theorem awake {fl : Nat} (hfl : 9223372036854775808 ≤ fl) {K : Bool → Option Ans} : F_law12_Awake fl K = K true := by
  unfold F_law12_Awake
  rw [header hfl (by simp) (by simp) (by simp)]
  have e : headerR 3 1 1 [0, 2] [true, false, true] [] = (0, [3, 17, 2, 3, 1, 160, 1, 0]) := by decide +kernel
  rw [e]
  dsimp only
  rw [cond_t (by rfl), sameB hfl (by simp)]
end Go.Proofs.Ytajidgilfkineaa.Seg
