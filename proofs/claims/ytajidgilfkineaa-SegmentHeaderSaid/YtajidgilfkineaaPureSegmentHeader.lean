/- SegmentHeader, as plain Lean: which segments are valid, and a header's bytes. -/
import Derived.Test.YtajidgilfkineaaSeg3
import Derived.Test.YtajidgilfkineaaFlaw12SegmentHeader
import Derived.Test.YtajidgilfkineaaEvS
set_option linter.unusedVariables false
set_option linter.unusedSimpArgs false
namespace Go.Proofs.Ytajidgilfkineaa.PureSegmentHeader
open Go Ev Bm Seg
theorem both_ways {b : Bool} {x : Option Ans} : (bif b then x else x) = x := by cases b <;> rfl
theorem hdr_len (n k p : Int) (refs : List Int) (keep : List Bool) (dl : Nat) (h1 : refs.length ≤ 20) (h2 : keep.length ≤ 21) : (hdr n k p refs keep dl).length ≤ 1000 := by
  have z1 := sz_len n
  have z2 := sz_len p
  have z3 := sz_len refs.length
  have z4 := packed_len keep
  have z5 := refB_len (n := n) refs
  have z6 := sz_len dl
  unfold hdr
  split <;> simp <;> omega
theorem pure_fl {fl : Nat} (hfl : 9223372036854775808 ≤ fl) (n k p : Int) (refs : List Int) (keep : List Bool) (data : List Int) (n' k' p' : Int) (refs' : List Int) (keep' : List Bool) (data' : List Int)
    (h1 : refs.length ≤ 1000000000000000) (h2 : keep.length ≤ 1000000000000000) (h3 : data.length ≤ 1000000000000000) (K : Bool → Option Ans) :
    F_law12_SegmentHeader fl n k p refs keep data n' k' p' refs' keep' data' K = K true := by
  unfold F_law12_SegmentHeader
  rw [llarge hfl (by simp)]
  have hh : (headerR n k p refs keep data).2.length ≤ 1000000000000000 := by
    unfold headerR
    split
    · rename_i h
      obtain ⟨⟨a1, a2, a3, a4, a5, a6, a7, a8, a9⟩, ha⟩ := valS_iff.1 h
      have := hdr_len n k p refs keep data.length a7 (by omega)
      dsimp only
      omega
    · simp
  have main : ∀ x, x = K true → (bif large [(n, k, p, refs, keep, data), (n', k', p', refs', keep', data')] then F_law12_Awake fl (fun y => K y) else x) = K true := by
    intro x hx
    rw [awake hfl, hx]
    exact both_ways
  refine main _ ?_
  rw [header hfl h1 h2 h3]
  try dsimp only
  rw [rheader hfl h1 h2 h3]
  try dsimp only
  rw [svalid hfl h1 h2 h3, rsvalid hfl h1 h2 h3, cond_t (by simp), cond_t (by simp), sameB hfl hh, cond_true, ssame hfl h1 h2, rsame hfl h1 h2, cond_t (by simp), ssame hfl h1 h2, same_self, cond_true, awake hfl]
abbrev SEG : Ty := .pair (.int .i64) (.pair (.int .i64) (.pair (.int .i64) (.pair (.sl (.int .i64)) (.pair (.sl .bool) (.sl (.int .u8))))))
theorem seg_lens {n k p : Int} {refs : List Int} {keep : List Bool} {data : List Int} (h : given SEG (n, k, p, refs, keep, data)) : refs.length ≤ 1000000000000000 ∧ keep.length ≤ 1000000000000000 ∧ data.length ≤ 1000000000000000 := by
  obtain ⟨_, _, _, ⟨h1, _⟩, ⟨h2, _⟩, ⟨h3, _⟩⟩ := h
  have h1 : refs.length * 8 ≤ 140737488351232 := h1
  have h2 : keep.length * 1 ≤ 140737488351232 := h2
  have h3 : data.length * 1 ≤ 140737488351232 := h3
  omega
theorem pure (n k p : Int) (refs : List Int) (keep : List Bool) (data : List Int) (n' k' p' : Int) (refs' : List Int) (keep' : List Bool) (data' : List Int) (K : Bool → Option Ans) (h : given SEG (n, k, p, refs, keep, data)) (h' : given SEG (n', k', p', refs', keep', data')) :
    F_law12_SegmentHeader fuel n k p refs keep data n' k' p' refs' keep' data' K = K true := by
  obtain ⟨h1, h2, h3⟩ := seg_lens h
  exact pure_fl (by rw [fuel_eq]; omega) _ _ _ _ _ _ _ _ _ _ _ _ h1 h2 h3 K
end Go.Proofs.Ytajidgilfkineaa.PureSegmentHeader
