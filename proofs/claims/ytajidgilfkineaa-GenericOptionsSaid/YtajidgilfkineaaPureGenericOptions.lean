/- GenericOptions, as plain Lean: which options are valid, the usual ones, and how many contexts there are. -/
import Derived.Test.YtajidgilfkineaaGen
import Derived.Test.YtajidgilfkineaaFlaw07GenericOptions
import Derived.Test.YtajidgilfkineaaEvS
set_option linter.unusedVariables false
set_option linter.unusedSimpArgs false
namespace Go.Proofs.Ytajidgilfkineaa.PureGenericOptions
open Go Ev Bm Gen
theorem usual {fl : Nat} {t : Int} {K : Int × Int × Int × Bool × Int × Int → Option Ans} : F_ref07_Usual fl t K = F_generic_Usual fl t K := rfl
theorem pure_fl {fl : Nat} (hfl : 9223372036854775808 ≤ fl) (t ax ay : Int) (ty : Bool) (kd n : Int) (K : Bool → Option Ans) : F_law07_GenericOptions fl t ax ay ty kd n K = K true := by
  unfold F_law07_GenericOptions
  simp only [usual, gsize, rsize, gvalid, rvalid]
  have h : ∀ G : (Int × Int × Int × Bool × Int × Int) → Option Ans, ∃ r, F_generic_Usual fl n G = G r ∧ ∀ H, F_generic_Usual fl n H = H r := by
    intro G
    unfold F_generic_Usual
    simp only [cd]
    split
    · exact ⟨_, rfl, fun _ => rfl⟩
    · split
      · exact ⟨_, rfl, fun _ => rfl⟩
      · exact ⟨_, rfl, fun _ => rfl⟩
  obtain ⟨⟨r0, r1, r2, r3, r4, r5⟩, h1, h2⟩ := h fun _ => none
  simp only [h2, beq_self_eq_true, Bool.and_self, Bool.and_true, cond_true, sane hfl]
theorem pure (t ax ay : Int) (ty : Bool) (kd n : Int) (K : Bool → Option Ans) (h : given (.pair (.int .i64) (.pair (.pair (.int .i64) (.int .i64)) (.pair .bool (.int .i64)))) (t, (ax, ay), ty, kd)) (h' : (Lit.int .i64 n).wf = true) :
    F_law07_GenericOptions fuel t ax ay ty kd n K = K true := pure_fl (by rw [fuel_eq]; omega) ..
end Go.Proofs.Ytajidgilfkineaa.PureGenericOptions
