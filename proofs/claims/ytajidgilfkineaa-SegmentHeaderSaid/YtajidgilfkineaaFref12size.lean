/- incunable/incunableref12.size: its typed text, and that the machine does it. -/
import Derived.Test.YtajidgilfkineaaEvU
import Derived.Test.YtajidgilfkineaaFref01Size
set_option linter.unusedVariables false
set_option linter.unusedSimpArgs false
set_option maxRecDepth 100000
namespace Go.Proofs.Ytajidgilfkineaa
open Go Ev
def kp79 (i : Nat) : Option (List Nat) := Ev.look i []
def Gg79 (f112 : YF112) (f : Nat) : Option Ev.Spec := Ev.look f [(112, spg112 f112)]
def G79 (fuel : Nat) : Nat → Option Ev.Spec := Gg79 (F_ref01_Size fuel)
def J79 (fuel : Nat) (i : Nat) : Option Ev.Blk := Ev.look i []
def F_ref12_size (fuel : Nat) (x0 : Int) (k0 : ((List Int)) → Option Ans) : Option Ans :=
  (F_ref01_Size fuel (x0)
    (fun (y2_0, y2_1) =>
      k0 y2_1))
abbrev YF79 : Type := (Int) → (((List Int)) → Option Ans) → Option Ans
theorem F79_eqg (fuel : Nat) (f112 : YF112) (x0 : Int) (k : Ev.Cont) : evalFn tab (Gg79 f112) (J79 fuel) kp79 fuel Try.f79 [.c (.int .i64 x0)] [] k = (fun  (k0 : ((List Int)) → Option Ans) =>
  (f112 (x0)
    (fun (y2_0, y2_1) =>
      k0 y2_1))) (fun r => match r with | r0 => k (.c (.own 0), [.vec 5 (.int .u8) r0 true])) := by
  kernel_rfl
theorem F79_eq (fuel : Nat) (x0 : Int) (k : Ev.Cont) : evalFn tab (G79 fuel) (J79 fuel) kp79 fuel Try.f79 [.c (.int .i64 x0)] [] k = F_ref12_size fuel x0 (fun r => match r with | r0 => k (.c (.own 0), [.vec 5 (.int .u8) r0 true])) :=
  F79_eqg fuel (F_ref01_Size fuel) x0 k
theorem hG79 (fuel : Nat) : GOK Try.prog (G79 fuel) :=
  gok_cons ⟨ok112 fuel, enters_of Try.func112 (by kernel_rfl) rfl⟩ <|
  gok_nil
theorem fok79 (fuel : Nat) : FnOK Try.prog 79 (evalFn tab (G79 fuel) (J79 fuel) kp79 fuel Try.f79) :=
  fn_ok tab_ok (hG79 fuel) mixed Try.func79 (c := (Try.f79.body).getD .skip) rfl (fun q hq => by
    rw [(by kernel_rfl : obl (J79 fuel) ((Try.f79.body).getD .skip) = [])] at hq
    cases hq)
def mt79 : List Ev.SV → List Ev.Ob → Bool := fun args objs => match args, objs with
  | [.c (.int .i64 _)], [] => true
  | _, _ => false
def spg79 (F : YF79) : Ev.Spec := fun args objs k => match args, objs with
  | [.c (.int .i64 x0)], [] => bif true then F x0 (fun r => match r with | r0 => k (.c (.own 0), [.vec 5 (.int .u8) r0 true])) else none
  | _, _ => none
def spec79 (fuel : Nat) : Ev.Spec := spg79 (F_ref12_size fuel)
theorem ok79 (fuel : Nat) : FnOK Try.prog 79 (spec79 fuel) := by
  intro args objs kk r h
  unfold spec79 spg79 at h
  split at h
  · obtain ⟨hb, h⟩ := cond_some' h
    simp only [Bool.and_eq_true, Nat.beq_eq, decide_eq_true_eq] at hb
    clear hb
    exact fok79 fuel _ _ kk r ((F79_eq fuel _ kk).trans h)
  · cases h
end Go.Proofs.Ytajidgilfkineaa
