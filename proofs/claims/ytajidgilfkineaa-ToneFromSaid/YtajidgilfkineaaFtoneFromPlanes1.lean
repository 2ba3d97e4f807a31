/- incunable/tone.FromPlanes$1: its typed text, and that the machine does it. -/
import Derived.Test.YtajidgilfkineaaEvU
set_option linter.unusedVariables false
set_option linter.unusedSimpArgs false
set_option maxRecDepth 100000
namespace Go.Proofs.Ytajidgilfkineaa
open Go Ev
def kp60 (i : Nat) : Option (List Nat) := Ev.look i []
def Gg60 (f : Nat) : Option Ev.Spec := Ev.look f []
def G60 (fuel : Nat) : Nat → Option Ev.Spec := Gg60
def J60 (fuel : Nat) (i : Nat) : Option Ev.Blk := Ev.look i []
def F_tone_FromPlanes_1 (fuel : Nat) (x0 : Int) (k0 : (Bool) → Option Ans) : Option Ans :=
  k0 (Decidable.decide (x0 > (1 : Int)))
abbrev YF60 : Type := (Int) → ((Bool) → Option Ans) → Option Ans
theorem F60_eq (fuel : Nat) (x0 : Int) (k : Ev.Cont) : evalFn tab (G60 fuel) (J60 fuel) kp60 fuel Try.f60 [.c (.int .u8 x0)] [] k = F_tone_FromPlanes_1 fuel x0 (fun r => match r with | r0 => k (.c (.bool r0), [])) := by
  kernel_rfl
theorem hG60 (fuel : Nat) : GOK Try.prog (G60 fuel) :=
  gok_nil
theorem fok60 (fuel : Nat) : FnOK Try.prog 60 (evalFn tab (G60 fuel) (J60 fuel) kp60 fuel Try.f60) :=
  fn_ok tab_ok (hG60 fuel) mixed Try.func60 (c := (Try.f60.body).getD .skip) rfl (fun q hq => by
    rw [(by kernel_rfl : obl (J60 fuel) ((Try.f60.body).getD .skip) = [])] at hq
    cases hq)
def mt60 : List Ev.SV → List Ev.Ob → Bool := fun args objs => match args, objs with
  | [.c (.int .u8 _)], [] => true
  | _, _ => false
def spg60 (F : YF60) : Ev.Spec := fun args objs k => match args, objs with
  | [.c (.int .u8 x0)], [] => bif true then F x0 (fun r => match r with | r0 => k (.c (.bool r0), [])) else none
  | _, _ => none
def spec60 (fuel : Nat) : Ev.Spec := spg60 (F_tone_FromPlanes_1 fuel)
theorem ok60 (fuel : Nat) : FnOK Try.prog 60 (spec60 fuel) := by
  intro args objs kk r h
  unfold spec60 spg60 at h
  split at h
  · obtain ⟨hb, h⟩ := cond_some' h
    simp only [Bool.and_eq_true, Nat.beq_eq, decide_eq_true_eq] at hb
    clear hb
    exact fok60 fuel _ _ kk r ((F60_eq fuel _ kk).trans h)
  · cases h
end Go.Proofs.Ytajidgilfkineaa
