/- incunable/incunableref07.template: its typed text, and that the machine does it. -/
import Derived.Test.YtajidgilfkineaaEvU
set_option linter.unusedVariables false
set_option linter.unusedSimpArgs false
set_option maxRecDepth 100000
namespace Go.Proofs.Ytajidgilfkineaa
open Go Ev
def kp111 (i : Nat) : Option (List Nat) := Ev.look i []
def Gg111 (f : Nat) : Option Ev.Spec := Ev.look f []
def G111 (fuel : Nat) : Nat → Option Ev.Spec := Gg111
def J111 (fuel : Nat) (i : Nat) : Option Ev.Blk := Ev.look i []
def F_ref07_template (fuel : Nat) (x0 : Int) (k0 : ((List (Int × Int))) → Option Ans) : Option Ans :=
  bif x0 == (0 : Int) then
   k0 ([((-1 : Int), (-2 : Int)), ((0 : Int), (-2 : Int)), ((1 : Int), (-2 : Int)), ((-2 : Int), (-1 : Int)), ((-1 : Int), (-1 : Int)), ((0 : Int), (-1 : Int)), ((1 : Int), (-1 : Int)), ((2 : Int), (-1 : Int)), ((-2 : Int), (0 : Int)), ((-1 : Int), (0 : Int))])
  else
   bif x0 == (1 : Int) then
    k0 ([((-1 : Int), (-2 : Int)), ((0 : Int), (-2 : Int)), ((-1 : Int), (-1 : Int)), ((0 : Int), (-1 : Int)), ((1 : Int), (-1 : Int)), ((-2 : Int), (0 : Int)), ((-1 : Int), (0 : Int))])
   else
    bif x0 == (2 : Int) then
     k0 ([((-2 : Int), (-1 : Int)), ((-1 : Int), (-1 : Int)), ((0 : Int), (-1 : Int)), ((1 : Int), (-1 : Int)), ((2 : Int), (-1 : Int)), ((-2 : Int), (0 : Int)), ((-1 : Int), (0 : Int))])
    else
     k0 ([((-1 : Int), (-1 : Int)), ((0 : Int), (-1 : Int)), ((1 : Int), (-1 : Int)), ((-1 : Int), (0 : Int))])
abbrev YF111 : Type := (Int) → (((List (Int × Int))) → Option Ans) → Option Ans
theorem F111_eq (fuel : Nat) (x0 : Int) (k : Ev.Cont) : evalFn tab (G111 fuel) (J111 fuel) kp111 fuel Try.f111 [.c (.int .i64 x0)] [] k = F_ref07_template fuel x0 (fun r => match r with | r0 => k (.c (.own 0), [.vec 131 (.pair (.int .i64) (.int .i64)) r0 true])) := by
  kernel_rfl
theorem hG111 (fuel : Nat) : GOK Try.prog (G111 fuel) :=
  gok_nil
theorem fok111 (fuel : Nat) : FnOK Try.prog 111 (evalFn tab (G111 fuel) (J111 fuel) kp111 fuel Try.f111) :=
  fn_ok tab_ok (hG111 fuel) mixed Try.func111 (c := (Try.f111.body).getD .skip) rfl (fun q hq => by
    rw [(by kernel_rfl : obl (J111 fuel) ((Try.f111.body).getD .skip) = [])] at hq
    cases hq)
def mt111 : List Ev.SV → List Ev.Ob → Bool := fun args objs => match args, objs with
  | [.c (.int .i64 _)], [] => true
  | _, _ => false
def spg111 (F : YF111) : Ev.Spec := fun args objs k => match args, objs with
  | [.c (.int .i64 x0)], [] => bif true then F x0 (fun r => match r with | r0 => k (.c (.own 0), [.vec 131 (.pair (.int .i64) (.int .i64)) r0 true])) else none
  | _, _ => none
def spec111 (fuel : Nat) : Ev.Spec := spg111 (F_ref07_template fuel)
theorem ok111 (fuel : Nat) : FnOK Try.prog 111 (spec111 fuel) := by
  intro args objs kk r h
  unfold spec111 spg111 at h
  split at h
  · obtain ⟨hb, h⟩ := cond_some' h
    simp only [Bool.and_eq_true, Nat.beq_eq, decide_eq_true_eq] at hb
    clear hb
    exact fok111 fuel _ _ kk r ((F111_eq fuel _ kk).trans h)
  · cases h
end Go.Proofs.Ytajidgilfkineaa
