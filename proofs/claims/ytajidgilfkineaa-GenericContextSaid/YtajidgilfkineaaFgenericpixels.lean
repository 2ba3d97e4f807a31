/- incunable/generic.pixels: its typed text, and that the machine does it. -/
import Derived.Test.YtajidgilfkineaaEvU
set_option linter.unusedVariables false
set_option linter.unusedSimpArgs false
set_option maxRecDepth 100000
namespace Go.Proofs.Ytajidgilfkineaa
open Go Ev
def kp108 (i : Nat) : Option (List Nat) := Ev.look i []
def Gg108 (f : Nat) : Option Ev.Spec := Ev.look f []
def G108 (fuel : Nat) : Nat → Option Ev.Spec := Gg108
def J108 (fuel : Nat) (i : Nat) : Option Ev.Blk := Ev.look i []
def F_generic_pixels (fuel : Nat) (x0 : Int) (k0 : ((List (Int × Int))) → Option Ans) : Option Ans :=
  bif x0 == (0 : Int) then
   k0 ([((-1 : Int), (-2 : Int)), ((0 : Int), (-2 : Int)), ((1 : Int), (-2 : Int)), ((-2 : Int), (-1 : Int)), ((-1 : Int), (-1 : Int)), ((0 : Int), (-1 : Int)), ((1 : Int), (-1 : Int)), ((2 : Int), (-1 : Int)), ((-2 : Int), (0 : Int)), ((-1 : Int), (0 : Int))])
  else
   bif x0 == (1 : Int) then
    k0 ([((-1 : Int), (-2 : Int)), ((0 : Int), (-2 : Int)), ((-1 : Int), (-1 : Int)), ((0 : Int), (-1 : Int)), ((1 : Int), (-1 : Int)), ((-2 : Int), (0 : Int)), ((-1 : Int), (0 : Int))])
   else
    bif x0 == (2 : Int) then
     k0 ([((-2 : Int), (-1 : Int)), ((-1 : Int), (-1 : Int)), ((0 : Int), (-1 : Int)), ((1 : Int), (-1 : Int)), ((2 : Int), (-1 : Int)), ((-2 : Int), (0 : Int)), ((-1 : Int), (0 : Int))])
    else
     k0 ([((-1 : Int), (-1 : Int)), ((0 : Int), (-1 : Int)), ((1 : Int), (-1 : Int)), ((-1 : Int), (0 : Int))])
abbrev YF108 : Type := (Int) → (((List (Int × Int))) → Option Ans) → Option Ans
theorem F108_eq (fuel : Nat) (x0 : Int) (k : Ev.Cont) : evalFn tab (G108 fuel) (J108 fuel) kp108 fuel Try.f108 [.c (.int .i64 x0)] [] k = F_generic_pixels fuel x0 (fun r => match r with | r0 => k (.c (.own 0), [.vec 47 (.pair (.int .i64) (.int .i64)) r0 true])) := by
  kernel_rfl
theorem hG108 (fuel : Nat) : GOK Try.prog (G108 fuel) :=
  gok_nil
theorem fok108 (fuel : Nat) : FnOK Try.prog 108 (evalFn tab (G108 fuel) (J108 fuel) kp108 fuel Try.f108) :=
  fn_ok tab_ok (hG108 fuel) mixed Try.func108 (c := (Try.f108.body).getD .skip) rfl (fun q hq => by
    rw [(by kernel_rfl : obl (J108 fuel) ((Try.f108.body).getD .skip) = [])] at hq
    cases hq)
def mt108 : List Ev.SV → List Ev.Ob → Bool := fun args objs => match args, objs with
  | [.c (.int .i64 _)], [] => true
  | _, _ => false
def spg108 (F : YF108) : Ev.Spec := fun args objs k => match args, objs with
  | [.c (.int .i64 x0)], [] => bif true then F x0 (fun r => match r with | r0 => k (.c (.own 0), [.vec 47 (.pair (.int .i64) (.int .i64)) r0 true])) else none
  | _, _ => none
def spec108 (fuel : Nat) : Ev.Spec := spg108 (F_generic_pixels fuel)
theorem ok108 (fuel : Nat) : FnOK Try.prog 108 (spec108 fuel) := by
  intro args objs kk r h
  unfold spec108 spg108 at h
  split at h
  · obtain ⟨hb, h⟩ := cond_some' h
    simp only [Bool.and_eq_true, Nat.beq_eq, decide_eq_true_eq] at hb
    clear hb
    exact fok108 fuel _ _ kk r ((F108_eq fuel _ kk).trans h)
  · cases h
end Go.Proofs.Ytajidgilfkineaa
