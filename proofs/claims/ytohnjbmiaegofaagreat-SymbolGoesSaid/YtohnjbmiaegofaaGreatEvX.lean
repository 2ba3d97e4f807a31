/- Cells with a run of constants among them. -/
import Derived.Test.YtohnjbmiaegofaaGreatEvU
set_option linter.unusedVariables false
namespace Go.Proofs.YtohnjbmiaegofaaGreat.Ev
open Go
def eqRun : List (IntKind × Int) → List SC → Option (List SC)
  | [], cs => some cs
  | (k, n) :: r, .int k' m :: cs => bif decide (k = k') && decide (n = m) then eqRun r cs else none
  | _ :: _, _ => none
def runOf (r : List (IntKind × Int)) : List SC := r.map fun p => .int p.1 p.2
def splitRun : Nat → List (IntKind × Int) → List SC → Option (List SC × List SC)
  | 0, r, cs => match eqRun r cs with
    | some l => some ([], l)
    | none => none
  | n + 1, r, c :: cs => match splitRun n r cs with
    | some (a, b) => some (c :: a, b)
    | none => none
  | _ + 1, _, [] => none
theorem eqRun_eq : ∀ {r : List (IntKind × Int)} {cs l : List SC}, eqRun r cs = some l → cs = runOf r ++ l
  | [], cs, l, h => by cases h; rfl
  | (k, n) :: r, cs, l, h => by
    cases cs with
    | nil => cases h
    | cons c cs =>
      cases c with
      | int k' m =>
        unfold eqRun at h
        cases hb : decide (k = k') && decide (n = m) with
        | false => rw [hb] at h; cases h
        | true =>
          rw [hb] at h
          simp only [Bool.and_eq_true, decide_eq_true_eq] at hb
          obtain ⟨rfl, rfl⟩ := hb
          have := eqRun_eq (r := r) (cs := cs) (l := l) h
          rw [this]
          rfl
      | _ => cases h
theorem splitRun_eq : ∀ {n : Nat} {r : List (IntKind × Int)} {cs a b : List SC}, splitRun n r cs = some (a, b) → cs = a ++ (runOf r ++ b)
  | 0, r, cs, a, b, h => by
    unfold splitRun at h
    split at h
    · rename_i l hl
      cases h
      exact eqRun_eq hl
    · cases h
  | n + 1, r, [], a, b, h => by cases h
  | n + 1, r, c :: cs, a, b, h => by
    unfold splitRun at h
    split at h
    · rename_i a' b' hl
      cases h
      rw [splitRun_eq hl]
      rfl
    · cases h
end Go.Proofs.YtohnjbmiaegofaaGreat.Ev
