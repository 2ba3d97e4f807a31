/- incunable/tone.Planes$1: its typed text, and that the machine does it. -/
import Derived.Test.YtajidgilfkineaaEvU
set_option linter.unusedVariables false
set_option linter.unusedSimpArgs false
set_option maxRecDepth 100000
namespace Go.Proofs.Ytajidgilfkineaa
open Go Ev
def kp58_e21 (i : Nat) : Option (List Nat) := Ev.look i []
def Gg58_e21 (f : Nat) : Option Ev.Spec := Ev.look f []
def G58_e21 (fuel : Nat) : Nat → Option Ev.Spec := Gg58_e21
def J58_e21 (fuel : Nat) (i : Nat) : Option Ev.Blk := Ev.look i []
def F_tone_Planes_1_e21 (fuel : Nat) (x0 : Int) (x1 : Int) (k0 : (Bool × Int) → Option Ans) : Option Ans :=
  bif Decidable.decide (x0 < (0 : Int)) then
   k0 (Bool.true, x1)
  else
   bif Decidable.decide (x1 < (0 : Int)) then
    none
   else
    k0 (Decidable.decide (x0 ≥ Ev.ishl Go.IntKind.i64 (1 : Int) x1), x1)
abbrev YF58_e21 : Type := (Int) → (Int) → ((Bool × Int) → Option Ans) → Option Ans
theorem F58_e21_eq (fuel : Nat) (x0 : Int) (x1 : Int) (k : Ev.Cont) : evalFn tab (G58_e21 fuel) (J58_e21 fuel) kp58_e21 fuel Try.f58 [.c (.int .i64 x0), .c (.ptr 0 0)] [.cells 3 [.int .i64 x1]] k = F_tone_Planes_1_e21 fuel x0 x1 (fun r => match r with | (r0, r1) => k (.c (.bool r0), [.cells 3 [.int .i64 r1]])) := by
  kernel_rfl
theorem hG58_e21 (fuel : Nat) : GOK Try.prog (G58_e21 fuel) :=
  gok_nil
theorem fok58_e21 (fuel : Nat) : FnOK Try.prog 58 (evalFn tab (G58_e21 fuel) (J58_e21 fuel) kp58_e21 fuel Try.f58) :=
  fn_ok tab_ok (hG58_e21 fuel) mixed Try.func58 (c := (Try.f58.body).getD .skip) rfl (fun q hq => by
    rw [(by kernel_rfl : obl (J58_e21 fuel) ((Try.f58.body).getD .skip) = [])] at hq
    cases hq)
def mt58_e21 : List Ev.SV → List Ev.Ob → Bool := fun args objs => match args, objs with
  | [.c (.int .i64 _), .c (.ptr q0 q1)], [.cells q2 [.int .i64 _]] => Nat.beq q0 0 && Nat.beq q1 0 && Nat.beq q2 3
  | _, _ => false
def spg58_e21 (F : YF58_e21) : Ev.Spec := fun args objs k => match args, objs with
  | [.c (.int .i64 x0), .c (.ptr q0 q1)], [.cells q2 [.int .i64 x1]] => bif Nat.beq q0 0 && Nat.beq q1 0 && Nat.beq q2 3 then F x0 x1 (fun r => match r with | (r0, r1) => k (.c (.bool r0), [.cells 3 [.int .i64 r1]])) else none
  | _, _ => none
def spec58_e21 (fuel : Nat) : Ev.Spec := spg58_e21 (F_tone_Planes_1_e21 fuel)
theorem ok58_e21 (fuel : Nat) : FnOK Try.prog 58 (spec58_e21 fuel) := by
  intro args objs kk r h
  unfold spec58_e21 spg58_e21 at h
  split at h
  · obtain ⟨hb, h⟩ := cond_some' h
    simp only [Bool.and_eq_true, Nat.beq_eq, decide_eq_true_eq] at hb
    obtain ⟨⟨rfl, rfl⟩, rfl⟩ := hb
    exact fok58_e21 fuel _ _ kk r ((F58_e21_eq fuel _ _ kk).trans h)
  · cases h
end Go.Proofs.Ytajidgilfkineaa
