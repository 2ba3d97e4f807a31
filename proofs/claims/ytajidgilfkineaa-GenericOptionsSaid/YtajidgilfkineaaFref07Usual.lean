/- incunable/incunableref07.Usual: its typed text, and that the machine does it. -/
import Derived.Test.YtajidgilfkineaaEvU
set_option linter.unusedVariables false
set_option linter.unusedSimpArgs false
set_option maxRecDepth 100000
namespace Go.Proofs.Ytajidgilfkineaa
open Go Ev
def kp34 (i : Nat) : Option (List Nat) := Ev.look i []
def Gg34 (f : Nat) : Option Ev.Spec := Ev.look f []
def G34 (fuel : Nat) : Nat → Option Ev.Spec := Gg34
def J34 (fuel : Nat) (i : Nat) : Option Ev.Blk := Ev.look i []
def F_ref07_Usual (fuel : Nat) (x0 : Int) (k0 : (Int × Int × Int × Bool × Int × Int) → Option Ans) : Option Ans :=
  bif Decidable.decide (x0 < (0 : Int)) then
   k0 ((0 : Int), (0 : Int), (0 : Int), Bool.false, (0 : Int), (2 : Int))
  else
   bif Decidable.decide (x0 > (3 : Int)) then
    k0 ((0 : Int), (0 : Int), (0 : Int), Bool.false, (0 : Int), (2 : Int))
   else
    k0 (x0, Go.IntKind.i64.wrap ((3 : Int) - x0.tmod (2 : Int)), (-1 : Int), Bool.true, (0 : Int), (0 : Int))
abbrev YF34 : Type := (Int) → ((Int × Int × Int × Bool × Int × Int) → Option Ans) → Option Ans
theorem F34_eq (fuel : Nat) (x0 : Int) (k : Ev.Cont) : evalFn tab (G34 fuel) (J34 fuel) kp34 fuel Try.f34 [.c (.int .i64 x0)] [] k = F_ref07_Usual fuel x0 (fun r => match r with | (r0, r1, r2, r3, r4, r5) => k (.tup [(true, [.int .i64 r0, .int .i64 r1, .int .i64 r2, .bool r3, .int .i64 r4]), (false, [.int .i64 r5])], [])) := by
  kernel_rfl
theorem hG34 (fuel : Nat) : GOK Try.prog (G34 fuel) :=
  gok_nil
theorem fok34 (fuel : Nat) : FnOK Try.prog 34 (evalFn tab (G34 fuel) (J34 fuel) kp34 fuel Try.f34) :=
  fn_ok tab_ok (hG34 fuel) mixed Try.func34 (c := (Try.f34.body).getD .skip) rfl (fun q hq => by
    rw [(by kernel_rfl : obl (J34 fuel) ((Try.f34.body).getD .skip) = [])] at hq
    cases hq)
def mt34 : List Ev.SV → List Ev.Ob → Bool := fun args objs => match args, objs with
  | [.c (.int .i64 _)], [] => true
  | _, _ => false
def spg34 (F : YF34) : Ev.Spec := fun args objs k => match args, objs with
  | [.c (.int .i64 x0)], [] => bif true then F x0 (fun r => match r with | (r0, r1, r2, r3, r4, r5) => k (.tup [(true, [.int .i64 r0, .int .i64 r1, .int .i64 r2, .bool r3, .int .i64 r4]), (false, [.int .i64 r5])], [])) else none
  | _, _ => none
def spec34 (fuel : Nat) : Ev.Spec := spg34 (F_ref07_Usual fuel)
theorem ok34 (fuel : Nat) : FnOK Try.prog 34 (spec34 fuel) := by
  intro args objs kk r h
  unfold spec34 spg34 at h
  split at h
  · obtain ⟨hb, h⟩ := cond_some' h
    simp only [Bool.and_eq_true, Nat.beq_eq, decide_eq_true_eq] at hb
    clear hb
    exact fok34 fuel _ _ kk r ((F34_eq fuel _ kk).trans h)
  · cases h
end Go.Proofs.Ytajidgilfkineaa
