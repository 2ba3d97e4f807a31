/- incunable/incunableref05.Sides: its typed text, and that the machine does it. -/
import Derived.Test.YtajidgilfkineaaEvU
set_option linter.unusedVariables false
set_option linter.unusedSimpArgs false
set_option maxRecDepth 100000
namespace Go.Proofs.Ytajidgilfkineaa
open Go Ev
def kp68 (i : Nat) : Option (List Nat) := Ev.look i []
def Gg68 (f : Nat) : Option Ev.Spec := Ev.look f []
def G68 (fuel : Nat) : Nat → Option Ev.Spec := Gg68
def J68 (fuel : Nat) (i : Nat) : Option Ev.Blk := Ev.look i []
def F_ref05_Sides (fuel : Nat) (x0 : Int) (x1 : Int) (k0 : (Bool) → Option Ans) : Option Ans :=
  bif Decidable.decide (x0 ≥ (0 : Int)) then
   bif Decidable.decide (x1 ≥ (0 : Int)) then
    bif Decidable.decide (x0 ≤ (200 : Int)) then
     bif Decidable.decide (x1 ≤ (200 : Int)) then
      k0 (Decidable.decide (Go.IntKind.i64.wrap (x0 * x1) ≤ (8192 : Int)))
     else
      k0 Bool.false
    else
     k0 Bool.false
   else
    k0 Bool.false
  else
   k0 Bool.false
abbrev YF68 : Type := (Int) → (Int) → ((Bool) → Option Ans) → Option Ans
theorem F68_eq (fuel : Nat) (x0 : Int) (x1 : Int) (k : Ev.Cont) : evalFn tab (G68 fuel) (J68 fuel) kp68 fuel Try.f68 [.c (.int .i64 x0), .c (.int .i64 x1)] [] k = F_ref05_Sides fuel x0 x1 (fun r => match r with | r0 => k (.c (.bool r0), [])) := by
  kernel_rfl
theorem hG68 (fuel : Nat) : GOK Try.prog (G68 fuel) :=
  gok_nil
theorem fok68 (fuel : Nat) : FnOK Try.prog 68 (evalFn tab (G68 fuel) (J68 fuel) kp68 fuel Try.f68) :=
  fn_ok tab_ok (hG68 fuel) mixed Try.func68 (c := (Try.f68.body).getD .skip) rfl (fun q hq => by
    rw [(by kernel_rfl : obl (J68 fuel) ((Try.f68.body).getD .skip) = [])] at hq
    cases hq)
def mt68 : List Ev.SV → List Ev.Ob → Bool := fun args objs => match args, objs with
  | [.c (.int .i64 _), .c (.int .i64 _)], [] => true
  | _, _ => false
def spg68 (F : YF68) : Ev.Spec := fun args objs k => match args, objs with
  | [.c (.int .i64 x0), .c (.int .i64 x1)], [] => bif true then F x0 x1 (fun r => match r with | r0 => k (.c (.bool r0), [])) else none
  | _, _ => none
def spec68 (fuel : Nat) : Ev.Spec := spg68 (F_ref05_Sides fuel)
theorem ok68 (fuel : Nat) : FnOK Try.prog 68 (spec68 fuel) := by
  intro args objs kk r h
  unfold spec68 spg68 at h
  split at h
  · obtain ⟨hb, h⟩ := cond_some' h
    simp only [Bool.and_eq_true, Nat.beq_eq, decide_eq_true_eq] at hb
    clear hb
    exact fok68 fuel _ _ kk r ((F68_eq fuel _ _ kk).trans h)
  · cases h
end Go.Proofs.Ytajidgilfkineaa
