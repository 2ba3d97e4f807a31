/- GenericContext, as plain Lean: the context of a pixel. -/
import Derived.Test.YtajidgilfkineaaGen
import Derived.Test.YtajidgilfkineaaFlaw07GenericContext
import Derived.Test.YtajidgilfkineaaEvS
set_option linter.unusedVariables false
set_option linter.unusedSimpArgs false
namespace Go.Proofs.Ytajidgilfkineaa.PureGenericContext
open Go Ev Bm Gen
theorem both_ways {b : Bool} {x : Option Ans} : (bif b then x else x) = x := by cases b <;> rfl
theorem pure_fl {fl : Nat} (hfl : 9223372036854775808 ≤ fl) (t ax ay : Int) (ty : Bool) (kd w h : Int) (p : List Int) (x y : Int) (K : Bool → Option Ans) (h0 : ∀ v ∈ p, 0 ≤ v) : F_law07_GenericContext fl t ax ay ty kd w h p x y K = K true := by
  unfold F_law07_GenericContext F_law07_Large
  simp only [rvalid_ok hfl, gContext hfl h0, rContext hfl h0, beq_self_eq_true, cond_true, sane hfl, both_same, both_ways]
theorem pure (t ax ay : Int) (ty : Bool) (kd w h : Int) (p : List Int) (x y : Int) (K : Bool → Option Ans)
    (g : given (.pair (.pair (.int .i64) (.pair (.pair (.int .i64) (.int .i64)) (.pair .bool (.int .i64)))) (.pair (.pair (.int .i64) (.pair (.int .i64) (.sl (.int .u8)))) (.pair (.int .i64) (.int .i64)))) ((t, (ax, ay), ty, kd), (w, h, p), x, y)) :
    F_law07_GenericContext fuel t ax ay ty kd w h p x y K = K true :=
  pure_fl (by rw [fuel_eq]; omega) _ _ _ _ _ _ _ _ _ _ _ fun v hv => by
    obtain ⟨_, ⟨_, _, _, hg⟩, _⟩ := g
    have h : (Lit.int .u8 v).wf = true := hg v hv
    simp [Lit.wf, IntKind.min, IntKind.max, IntKind.signed, IntKind.bits] at h
    omega
end Go.Proofs.Ytajidgilfkineaa.PureGenericContext
