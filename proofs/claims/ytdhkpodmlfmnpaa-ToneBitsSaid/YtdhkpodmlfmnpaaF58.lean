/- incunable/tone.Planes$1: its typed text, and that the machine does it. -/
import Derived.Test.YtdhkpodmlfmnpaaEvU
set_option linter.unusedVariables false
set_option maxRecDepth 100000
namespace Go.Proofs.Ytdhkpodmlfmnpaa
open Go Ev
def kp58 (i : Nat) : Option (List Nat) := Ev.look i []
def G58 (fuel : Nat) (f : Nat) : Option Ev.Spec := Ev.look f []
def J58 (fuel : Nat) (i : Nat) : Option Ev.Blk := Ev.look i []
def F58 (fuel : Nat) (x0 : Int) (x1 : Int) (k0 : (Bool × Int) → Option Ans) : Option Ans :=
  bif Decidable.decide (x0 < (0 : Int)) then
   k0 (Bool.true, x1)
  else
   bif Decidable.decide (x1 < (0 : Int)) then
    none
   else
    k0 (Decidable.decide (x0 ≥ Ev.ishl Go.IntKind.i64 (1 : Int) x1), x1)
theorem F58_eq (fuel : Nat) (x0 : Int) (x1 : Int) (k : Ev.Cont) : evalFn tab (G58 fuel) (J58 fuel) kp58 fuel Try.f58 [.c (.int .i64 x0), .c (.ptr 0 0)] [.cells 3 [.int .i64 x1]] k = F58 fuel x0 x1 (fun r => match r with | (r0, r1) => k (.c (.bool r0), [.cells 3 [.int .i64 r1]])) := by
  kernel_rfl
theorem hG58 (fuel : Nat) : GOK Try.prog (G58 fuel) :=
  gok_nil
theorem fok58 (fuel : Nat) : FnOK Try.prog 58 (evalFn tab (G58 fuel) (J58 fuel) kp58 fuel Try.f58) :=
  fn_ok tab_ok (hG58 fuel) mixed Try.func58 (c := (Try.f58.body).getD .skip) rfl (fun q hq => by
    rw [(by kernel_rfl : obl (J58 fuel) ((Try.f58.body).getD .skip) = [])] at hq
    cases hq)
def spec58 (fuel : Nat) : Ev.Spec := fun args objs k => match args, objs with
  | [.c (.int .i64 x0), .c (.ptr q0 q1)], [.cells q2 [.int .i64 x1]] => bif Nat.beq q0 0 && Nat.beq q1 0 && Nat.beq q2 3 then F58 fuel x0 x1 (fun r => match r with | (r0, r1) => k (.c (.bool r0), [.cells 3 [.int .i64 r1]])) else none
  | _, _ => none
theorem ok58 (fuel : Nat) : FnOK Try.prog 58 (spec58 fuel) := by
  intro args objs kk r h
  unfold spec58 at h
  split at h
  · obtain ⟨hb, h⟩ := cond_some' h
    simp only [Bool.and_eq_true, Nat.beq_eq] at hb
    obtain ⟨⟨rfl, rfl⟩, rfl⟩ := hb
    exact fok58 fuel _ _ kk r ((F58_eq fuel _ _ kk).trans h)
  · cases h
end Go.Proofs.Ytdhkpodmlfmnpaa
