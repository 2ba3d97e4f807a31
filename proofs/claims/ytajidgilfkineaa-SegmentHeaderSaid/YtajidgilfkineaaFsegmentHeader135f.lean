/- incunable/segment.Header$1: its typed text, and that the machine does it. -/
import Derived.Test.YtajidgilfkineaaEvU
import Derived.Test.YtajidgilfkineaaFbitsSize
set_option linter.unusedVariables false
set_option linter.unusedSimpArgs false
set_option maxRecDepth 100000
namespace Go.Proofs.Ytajidgilfkineaa
open Go Ev
def kp75_35f (i : Nat) : Option (List Nat) := Ev.look i []
def Gg75_35f (f76 : YF76) (f : Nat) : Option Ev.Spec := Ev.look f [(76, spg76 f76)]
def G75_35f (fuel : Nat) : Nat → Option Ev.Spec := Gg75_35f (F_bits_Size fuel)
def J75_35f (fuel : Nat) (i : Nat) : Option Ev.Blk := Ev.look i []
def F_segment_Header_1_35f (fuel : Nat) (x0 : Int) (x1 : (List Int)) (k0 : ((List Int)) → Option Ans) : Option Ans :=
  (F_bits_Size fuel (x0)
    (fun (y2_0, y2_1) =>
      bif Decidable.decide ((x1.length + y2_1.length) * (1 : Nat) ≤ (140737488355328 : Nat) ∧ x1.length + y2_1.length ≤ (140737488355328 : Nat)) then
      k0 (x1 ++ y2_1)
      else none))
abbrev YF75_35f : Type := (Int) → ((List Int)) → (((List Int)) → Option Ans) → Option Ans
theorem F75_35f_eqg (fuel : Nat) (f76 : YF76) (x0 : Int) (x1 : (List Int)) (k : Ev.Cont) : evalFn tab (Gg75_35f f76) (J75_35f fuel) kp75_35f fuel Try.f75 [.c (.int .i64 x0), .c (.ptr 0 0)] [.cells 28 [.own 1], .vec 5 (.int .u8) x1 false] k = (fun  (k0 : ((List Int)) → Option Ans) =>
  (f76 (x0)
    (fun (y2_0, y2_1) =>
      bif Decidable.decide ((x1.length + y2_1.length) * (1 : Nat) ≤ (140737488355328 : Nat) ∧ x1.length + y2_1.length ≤ (140737488355328 : Nat)) then
      k0 (x1 ++ y2_1)
      else none))) (fun r => match r with | r0 => k (.tup [], [.cells 28 [.own 1], .vec 5 (.int .u8) r0 true])) := by
  kernel_rfl
theorem F75_35f_eq (fuel : Nat) (x0 : Int) (x1 : (List Int)) (k : Ev.Cont) : evalFn tab (G75_35f fuel) (J75_35f fuel) kp75_35f fuel Try.f75 [.c (.int .i64 x0), .c (.ptr 0 0)] [.cells 28 [.own 1], .vec 5 (.int .u8) x1 false] k = F_segment_Header_1_35f fuel x0 x1 (fun r => match r with | r0 => k (.tup [], [.cells 28 [.own 1], .vec 5 (.int .u8) r0 true])) :=
  F75_35f_eqg fuel (F_bits_Size fuel) x0 x1 k
theorem hG75_35f (fuel : Nat) : GOK Try.prog (G75_35f fuel) :=
  gok_cons ⟨ok76 fuel, enters_of Try.func76 (by kernel_rfl) rfl⟩ <|
  gok_nil
theorem fok75_35f (fuel : Nat) : FnOK Try.prog 75 (evalFn tab (G75_35f fuel) (J75_35f fuel) kp75_35f fuel Try.f75) :=
  fn_ok tab_ok (hG75_35f fuel) mixed Try.func75 (c := (Try.f75.body).getD .skip) rfl (fun q hq => by
    rw [(by kernel_rfl : obl (J75_35f fuel) ((Try.f75.body).getD .skip) = [])] at hq
    cases hq)
def mt75_35f : List Ev.SV → List Ev.Ob → Bool := fun args objs => match args, objs with
  | [.c (.int .i64 _), .c (.ptr q0 q1)], [.cells q2 [.own q3], .vec q4 (.int .u8) _ false] => Nat.beq q0 0 && Nat.beq q1 0 && Nat.beq q2 28 && Nat.beq q3 1 && Nat.beq q4 5
  | _, _ => false
def spg75_35f (F : YF75_35f) : Ev.Spec := fun args objs k => match args, objs with
  | [.c (.int .i64 x0), .c (.ptr q0 q1)], [.cells q2 [.own q3], .vec q4 (.int .u8) x1 false] => bif Nat.beq q0 0 && Nat.beq q1 0 && Nat.beq q2 28 && Nat.beq q3 1 && Nat.beq q4 5 then F x0 x1 (fun r => match r with | r0 => k (.tup [], [.cells 28 [.own 1], .vec 5 (.int .u8) r0 true])) else none
  | _, _ => none
def spec75_35f (fuel : Nat) : Ev.Spec := spg75_35f (F_segment_Header_1_35f fuel)
theorem ok75_35f (fuel : Nat) : FnOK Try.prog 75 (spec75_35f fuel) := by
  intro args objs kk r h
  unfold spec75_35f spg75_35f at h
  split at h
  · obtain ⟨hb, h⟩ := cond_some' h
    simp only [Bool.and_eq_true, Nat.beq_eq, decide_eq_true_eq] at hb
    obtain ⟨⟨⟨⟨rfl, rfl⟩, rfl⟩, rfl⟩, rfl⟩ := hb
    exact fok75_35f fuel _ _ kk r ((F75_35f_eq fuel _ _ kk).trans h)
  · cases h
end Go.Proofs.Ytajidgilfkineaa
