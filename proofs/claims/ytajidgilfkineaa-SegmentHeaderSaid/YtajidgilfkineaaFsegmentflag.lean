/- incunable/segment.flag: its typed text, and that the machine does it. -/
import Derived.Test.YtajidgilfkineaaEvU
set_option linter.unusedVariables false
set_option linter.unusedSimpArgs false
set_option maxRecDepth 100000
namespace Go.Proofs.Ytajidgilfkineaa
open Go Ev
def kp77 (i : Nat) : Option (List Nat) := Ev.look i []
def Gg77 (f : Nat) : Option Ev.Spec := Ev.look f []
def G77 (fuel : Nat) : Nat → Option Ev.Spec := Gg77
def J77 (fuel : Nat) (i : Nat) : Option Ev.Blk := Ev.look i []
def F_segment_flag (fuel : Nat) (x0 : Bool) (k0 : (Int) → Option Ans) : Option Ans :=
  bif x0 then
   k0 ((1 : Int))
  else
   k0 ((0 : Int))
abbrev YF77 : Type := (Bool) → ((Int) → Option Ans) → Option Ans
theorem F77_eq (fuel : Nat) (x0 : Bool) (k : Ev.Cont) : evalFn tab (G77 fuel) (J77 fuel) kp77 fuel Try.f77 [.c (.bool x0)] [] k = F_segment_flag fuel x0 (fun r => match r with | r0 => k (.c (.int .u8 r0), [])) := by
  kernel_rfl
theorem hG77 (fuel : Nat) : GOK Try.prog (G77 fuel) :=
  gok_nil
theorem fok77 (fuel : Nat) : FnOK Try.prog 77 (evalFn tab (G77 fuel) (J77 fuel) kp77 fuel Try.f77) :=
  fn_ok tab_ok (hG77 fuel) mixed Try.func77 (c := (Try.f77.body).getD .skip) rfl (fun q hq => by
    rw [(by kernel_rfl : obl (J77 fuel) ((Try.f77.body).getD .skip) = [])] at hq
    cases hq)
def mt77 : List Ev.SV → List Ev.Ob → Bool := fun args objs => match args, objs with
  | [.c (.bool _)], [] => true
  | _, _ => false
def spg77 (F : YF77) : Ev.Spec := fun args objs k => match args, objs with
  | [.c (.bool x0)], [] => bif true then F x0 (fun r => match r with | r0 => k (.c (.int .u8 r0), [])) else none
  | _, _ => none
def spec77 (fuel : Nat) : Ev.Spec := spg77 (F_segment_flag fuel)
theorem ok77 (fuel : Nat) : FnOK Try.prog 77 (spec77 fuel) := by
  intro args objs kk r h
  unfold spec77 spg77 at h
  split at h
  · obtain ⟨hb, h⟩ := cond_some' h
    simp only [Bool.and_eq_true, Nat.beq_eq, decide_eq_true_eq] at hb
    clear hb
    exact fok77 fuel _ _ kk r ((F77_eq fuel _ kk).trans h)
  · cases h
end Go.Proofs.Ytajidgilfkineaa
