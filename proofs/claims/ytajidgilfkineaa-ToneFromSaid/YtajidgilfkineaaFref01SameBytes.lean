/- incunable/incunableref01.SameBytes: its typed text, and that the machine does it. -/
import Derived.Test.YtajidgilfkineaaEvU
set_option linter.unusedVariables false
set_option linter.unusedSimpArgs false
set_option maxRecDepth 100000
namespace Go.Proofs.Ytajidgilfkineaa
open Go Ev
def kp19 (i : Nat) : Option (List Nat) := Ev.look i []
def Gg19 (f : Nat) : Option Ev.Spec := Ev.look f []
def G19 (fuel : Nat) : Nat → Option Ev.Spec := Gg19
def J19 (fuel : Nat) (i : Nat) : Option Ev.Blk := Ev.look i []
def F_ref01_SameBytes (fuel : Nat) (x0 : (List Int)) (x1 : (List Int)) (k0 : (Bool) → Option Ans) : Option Ans :=
  k0 ((Go.strOfNums x0).toList == (Go.strOfNums x1).toList)
abbrev YF19 : Type := ((List Int)) → ((List Int)) → ((Bool) → Option Ans) → Option Ans
theorem F19_eq (fuel : Nat) (x0 : (List Int)) (x1 : (List Int)) (k : Ev.Cont) : evalFn tab (G19 fuel) (J19 fuel) kp19 fuel Try.f19 [.c (.sl (.int .u8) x0), .c (.sl (.int .u8) x1)] [] k = F_ref01_SameBytes fuel x0 x1 (fun r => match r with | r0 => k (.c (.bool r0), [])) := by
  kernel_rfl
theorem hG19 (fuel : Nat) : GOK Try.prog (G19 fuel) :=
  gok_nil
theorem fok19 (fuel : Nat) : FnOK Try.prog 19 (evalFn tab (G19 fuel) (J19 fuel) kp19 fuel Try.f19) :=
  fn_ok tab_ok (hG19 fuel) mixed Try.func19 (c := (Try.f19.body).getD .skip) rfl (fun q hq => by
    rw [(by kernel_rfl : obl (J19 fuel) ((Try.f19.body).getD .skip) = [])] at hq
    cases hq)
def mt19 : List Ev.SV → List Ev.Ob → Bool := fun args objs => match args, objs with
  | [.c (.sl (.int .u8) _), .c (.sl (.int .u8) _)], [] => true
  | _, _ => false
def spg19 (F : YF19) : Ev.Spec := fun args objs k => match args, objs with
  | [.c (.sl (.int .u8) x0), .c (.sl (.int .u8) x1)], [] => bif true then F x0 x1 (fun r => match r with | r0 => k (.c (.bool r0), [])) else none
  | _, _ => none
def spec19 (fuel : Nat) : Ev.Spec := spg19 (F_ref01_SameBytes fuel)
theorem ok19 (fuel : Nat) : FnOK Try.prog 19 (spec19 fuel) := by
  intro args objs kk r h
  unfold spec19 spg19 at h
  split at h
  · obtain ⟨hb, h⟩ := cond_some' h
    simp only [Bool.and_eq_true, Nat.beq_eq, decide_eq_true_eq] at hb
    clear hb
    exact fok19 fuel _ _ kk r ((F19_eq fuel _ _ kk).trans h)
  · cases h
end Go.Proofs.Ytajidgilfkineaa
