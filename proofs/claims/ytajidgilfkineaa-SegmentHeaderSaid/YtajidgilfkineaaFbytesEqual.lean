/- bytes.Equal: its typed text, and that the machine does it. -/
import Derived.Test.YtajidgilfkineaaEvU
set_option linter.unusedVariables false
set_option linter.unusedSimpArgs false
set_option maxRecDepth 100000
namespace Go.Proofs.Ytajidgilfkineaa
open Go Ev
def kp82 (i : Nat) : Option (List Nat) := Ev.look i []
def Gg82 (f : Nat) : Option Ev.Spec := Ev.look f []
def G82 (fuel : Nat) : Nat → Option Ev.Spec := Gg82
def J82 (fuel : Nat) (i : Nat) : Option Ev.Blk := Ev.look i []
def F_bytes_Equal (fuel : Nat) (x0 : (List Int)) (x1 : (List Int)) (k0 : (Bool) → Option Ans) : Option Ans :=
  k0 ((Go.strOfNums x0).toList == (Go.strOfNums x1).toList)
abbrev YF82 : Type := ((List Int)) → ((List Int)) → ((Bool) → Option Ans) → Option Ans
theorem F82_eq (fuel : Nat) (x0 : (List Int)) (x1 : (List Int)) (k : Ev.Cont) : evalFn tab (G82 fuel) (J82 fuel) kp82 fuel Try.f82 [.c (.sl (.int .u8) x0), .c (.sl (.int .u8) x1)] [] k = F_bytes_Equal fuel x0 x1 (fun r => match r with | r0 => k (.c (.bool r0), [])) := by
  kernel_rfl
theorem hG82 (fuel : Nat) : GOK Try.prog (G82 fuel) :=
  gok_nil
theorem fok82 (fuel : Nat) : FnOK Try.prog 82 (evalFn tab (G82 fuel) (J82 fuel) kp82 fuel Try.f82) :=
  fn_ok tab_ok (hG82 fuel) mixed Try.func82 (c := (Try.f82.body).getD .skip) rfl (fun q hq => by
    rw [(by kernel_rfl : obl (J82 fuel) ((Try.f82.body).getD .skip) = [])] at hq
    cases hq)
def mt82 : List Ev.SV → List Ev.Ob → Bool := fun args objs => match args, objs with
  | [.c (.sl (.int .u8) _), .c (.sl (.int .u8) _)], [] => true
  | _, _ => false
def spg82 (F : YF82) : Ev.Spec := fun args objs k => match args, objs with
  | [.c (.sl (.int .u8) x0), .c (.sl (.int .u8) x1)], [] => bif true then F x0 x1 (fun r => match r with | r0 => k (.c (.bool r0), [])) else none
  | _, _ => none
def spec82 (fuel : Nat) : Ev.Spec := spg82 (F_bytes_Equal fuel)
theorem ok82 (fuel : Nat) : FnOK Try.prog 82 (spec82 fuel) := by
  intro args objs kk r h
  unfold spec82 spg82 at h
  split at h
  · obtain ⟨hb, h⟩ := cond_some' h
    simp only [Bool.and_eq_true, Nat.beq_eq, decide_eq_true_eq] at hb
    clear hb
    exact fok82 fuel _ _ kk r ((F82_eq fuel _ _ kk).trans h)
  · cases h
end Go.Proofs.Ytajidgilfkineaa
