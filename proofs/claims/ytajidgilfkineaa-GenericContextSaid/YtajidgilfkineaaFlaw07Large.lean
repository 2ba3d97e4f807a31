/- incunable/incunablelaw07.Large: its typed text, and that the machine does it. -/
import Derived.Test.YtajidgilfkineaaEvU
set_option linter.unusedVariables false
set_option linter.unusedSimpArgs false
set_option maxRecDepth 100000
namespace Go.Proofs.Ytajidgilfkineaa
open Go Ev
def kp29 (i : Nat) : Option (List Nat) := Ev.look i []
def Gg29 (f : Nat) : Option Ev.Spec := Ev.look f []
def G29 (fuel : Nat) : Nat → Option Ev.Spec := Gg29
def J29 (fuel : Nat) (i : Nat) : Option Ev.Blk := Ev.look i []
def F_law07_Large (fuel : Nat) (x0 : Int) (x1 : Int) (x2 : (List Int)) (k0 : (Bool) → Option Ans) : Option Ans :=
  k0 (Decidable.decide ((↑x2.length : Int) > (1200 : Int)))
abbrev YF29 : Type := (Int) → (Int) → ((List Int)) → ((Bool) → Option Ans) → Option Ans
theorem F29_eq (fuel : Nat) (x0 : Int) (x1 : Int) (x2 : (List Int)) (k : Ev.Cont) : evalFn tab (G29 fuel) (J29 fuel) kp29 fuel Try.f29 [.agg [.int .i64 x0, .int .i64 x1, .sl (.int .u8) x2]] [] k = F_law07_Large fuel x0 x1 x2 (fun r => match r with | r0 => k (.c (.bool r0), [])) := by
  kernel_rfl
theorem hG29 (fuel : Nat) : GOK Try.prog (G29 fuel) :=
  gok_nil
theorem fok29 (fuel : Nat) : FnOK Try.prog 29 (evalFn tab (G29 fuel) (J29 fuel) kp29 fuel Try.f29) :=
  fn_ok tab_ok (hG29 fuel) mixed Try.func29 (c := (Try.f29.body).getD .skip) rfl (fun q hq => by
    rw [(by kernel_rfl : obl (J29 fuel) ((Try.f29.body).getD .skip) = [])] at hq
    cases hq)
def mt29 : List Ev.SV → List Ev.Ob → Bool := fun args objs => match args, objs with
  | [.agg [.int .i64 _, .int .i64 _, .sl (.int .u8) _]], [] => true
  | _, _ => false
def spg29 (F : YF29) : Ev.Spec := fun args objs k => match args, objs with
  | [.agg [.int .i64 x0, .int .i64 x1, .sl (.int .u8) x2]], [] => bif true then F x0 x1 x2 (fun r => match r with | r0 => k (.c (.bool r0), [])) else none
  | _, _ => none
def spec29 (fuel : Nat) : Ev.Spec := spg29 (F_law07_Large fuel)
theorem ok29 (fuel : Nat) : FnOK Try.prog 29 (spec29 fuel) := by
  intro args objs kk r h
  unfold spec29 spg29 at h
  split at h
  · obtain ⟨hb, h⟩ := cond_some' h
    simp only [Bool.and_eq_true, Nat.beq_eq, decide_eq_true_eq] at hb
    clear hb
    exact fok29 fuel _ _ kk r ((F29_eq fuel _ _ _ kk).trans h)
  · cases h
end Go.Proofs.Ytajidgilfkineaa
