/- slices.ContainsFunc[[]byte,byte]: its typed text, and that the machine does it. -/
import Derived.Test.YtajidgilfkineaaEvU
import Derived.Test.YtajidgilfkineaaFslicesIndexFuncbytebyte510
set_option linter.unusedVariables false
set_option linter.unusedSimpArgs false
set_option maxRecDepth 100000
namespace Go.Proofs.Ytajidgilfkineaa
open Go Ev
def kp59_510 (i : Nat) : Option (List Nat) := Ev.look i []
def Gg59_510 (f102_510 : YF102_510) (f : Nat) : Option Ev.Spec := Ev.look f [(102, spg102_510 f102_510)]
def G59_510 (fuel : Nat) : Nat → Option Ev.Spec := Gg59_510 (F_slices_IndexFunc_byte_byte_510 fuel)
def J59_510 (fuel : Nat) (i : Nat) : Option Ev.Blk := Ev.look i []
def F_slices_ContainsFunc_byte_byte_510 (fuel : Nat) (x0 : (List Int)) (k0 : (Bool) → Option Ans) : Option Ans :=
  (F_slices_IndexFunc_byte_byte_510 fuel (x0)
    (fun y2 =>
      k0 (Decidable.decide (y2 ≥ (0 : Int)))))
abbrev YF59_510 : Type := ((List Int)) → ((Bool) → Option Ans) → Option Ans
theorem F59_510_eqg (fuel : Nat) (f102_510 : YF102_510) (x0 : (List Int)) (k : Ev.Cont) : evalFn tab (Gg59_510 f102_510) (J59_510 fuel) kp59_510 fuel Try.f59 [.c (.sl (.int .u8) x0), .c (.clo 60 [])] [] k = (fun  (k0 : (Bool) → Option Ans) =>
  (f102_510 (x0)
    (fun y2 =>
      k0 (Decidable.decide (y2 ≥ (0 : Int)))))) (fun r => match r with | r0 => k (.c (.bool r0), [])) := by
  kernel_rfl
theorem F59_510_eq (fuel : Nat) (x0 : (List Int)) (k : Ev.Cont) : evalFn tab (G59_510 fuel) (J59_510 fuel) kp59_510 fuel Try.f59 [.c (.sl (.int .u8) x0), .c (.clo 60 [])] [] k = F_slices_ContainsFunc_byte_byte_510 fuel x0 (fun r => match r with | r0 => k (.c (.bool r0), [])) :=
  F59_510_eqg fuel (F_slices_IndexFunc_byte_byte_510 fuel) x0 k
theorem hG59_510 (fuel : Nat) : GOK Try.prog (G59_510 fuel) :=
  gok_cons ⟨ok102_510 fuel, enters_of Try.func102 (by kernel_rfl) rfl⟩ <|
  gok_nil
theorem fok59_510 (fuel : Nat) : FnOK Try.prog 59 (evalFn tab (G59_510 fuel) (J59_510 fuel) kp59_510 fuel Try.f59) :=
  fn_ok tab_ok (hG59_510 fuel) mixed Try.func59 (c := (Try.f59.body).getD .skip) rfl (fun q hq => by
    rw [(by kernel_rfl : obl (J59_510 fuel) ((Try.f59.body).getD .skip) = [])] at hq
    cases hq)
def mt59_510 : List Ev.SV → List Ev.Ob → Bool := fun args objs => match args, objs with
  | [.c (.sl (.int .u8) _), .c (.clo q0 [])], [] => Nat.beq q0 60
  | _, _ => false
def spg59_510 (F : YF59_510) : Ev.Spec := fun args objs k => match args, objs with
  | [.c (.sl (.int .u8) x0), .c (.clo q0 [])], [] => bif Nat.beq q0 60 then F x0 (fun r => match r with | r0 => k (.c (.bool r0), [])) else none
  | _, _ => none
def spec59_510 (fuel : Nat) : Ev.Spec := spg59_510 (F_slices_ContainsFunc_byte_byte_510 fuel)
theorem ok59_510 (fuel : Nat) : FnOK Try.prog 59 (spec59_510 fuel) := by
  intro args objs kk r h
  unfold spec59_510 spg59_510 at h
  split at h
  · obtain ⟨hb, h⟩ := cond_some' h
    simp only [Bool.and_eq_true, Nat.beq_eq, decide_eq_true_eq] at hb
    obtain rfl := hb
    exact fok59_510 fuel _ _ kk r ((F59_510_eq fuel _ kk).trans h)
  · cases h
end Go.Proofs.Ytajidgilfkineaa
