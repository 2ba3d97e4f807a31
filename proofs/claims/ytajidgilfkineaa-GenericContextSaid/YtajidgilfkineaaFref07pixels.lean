/- incunable/incunableref07.pixels: its typed text, and that the machine does it. -/
import Derived.Test.YtajidgilfkineaaEvU
import Derived.Test.YtajidgilfkineaaFref07template
set_option linter.unusedVariables false
set_option linter.unusedSimpArgs false
set_option maxRecDepth 100000
namespace Go.Proofs.Ytajidgilfkineaa
open Go Ev
def kp74 (i : Nat) : Option (List Nat) := Ev.look i [(200001, [1])]
def Gg74 (f111 : YF111) (f : Nat) : Option Ev.Spec := Ev.look f [(111, spg111 f111)]
def G74 (fuel : Nat) : Nat → Option Ev.Spec := Gg74 (F_ref07_template fuel)
def J74 (fuel : Nat) (i : Nat) : Option Ev.Blk := Ev.look i []
def F_ref07_pixels (fuel : Nat) (x0 : Int) (x1 : Int) (x2 : Int) (x3 : Bool) (x4 : Int) (k0 : ((List (Int × Int))) → Option Ans) : Option Ans :=
  both ((F_ref07_template fuel (x0)
      (fun y4 =>
        bif Decidable.decide ((y4.length + [(x1, x2)].length) * (16 : Nat) ≤ (140737488355328 : Nat) ∧ y4.length + [(x1, x2)].length ≤ (140737488355328 : Nat)) then
        k0 (y4 ++ [(x1, x2)])
        else none)))
   (both ((F_ref07_template fuel (x0)
        (fun y6 =>
          bif Decidable.decide ((y6.length + [(x1, x2)].length) * (16 : Nat) ≤ (140737488355328 : Nat) ∧ y6.length + [(x1, x2)].length ≤ (140737488355328 : Nat)) then
          k0 (y6 ++ [(x1, x2)])
          else none)))
     ((F_ref07_template fuel (x0)
        (fun y6 =>
          bif Decidable.decide ((y6.length + [(x1, x2)].length) * (16 : Nat) ≤ (140737488355328 : Nat) ∧ y6.length + [(x1, x2)].length ≤ (140737488355328 : Nat)) then
          k0 (y6 ++ [(x1, x2)])
          else none))))
abbrev YF74 : Type := (Int) → (Int) → (Int) → (Bool) → (Int) → (((List (Int × Int))) → Option Ans) → Option Ans
theorem F74_eqg (fuel : Nat) (f111 : YF111) (x0 : Int) (x1 : Int) (x2 : Int) (x3 : Bool) (x4 : Int) (k : Ev.Cont) : evalFn tab (Gg74 f111) (J74 fuel) kp74 fuel Try.f74 [.agg [.int .i64 x0, .int .i64 x1, .int .i64 x2, .bool x3, .int .i64 x4]] [] k = (fun  (k0 : ((List (Int × Int))) → Option Ans) =>
  both ((f111 (x0)
      (fun y4 =>
        bif Decidable.decide ((y4.length + [(x1, x2)].length) * (16 : Nat) ≤ (140737488355328 : Nat) ∧ y4.length + [(x1, x2)].length ≤ (140737488355328 : Nat)) then
        k0 (y4 ++ [(x1, x2)])
        else none)))
   (both ((f111 (x0)
        (fun y6 =>
          bif Decidable.decide ((y6.length + [(x1, x2)].length) * (16 : Nat) ≤ (140737488355328 : Nat) ∧ y6.length + [(x1, x2)].length ≤ (140737488355328 : Nat)) then
          k0 (y6 ++ [(x1, x2)])
          else none)))
     ((f111 (x0)
        (fun y6 =>
          bif Decidable.decide ((y6.length + [(x1, x2)].length) * (16 : Nat) ≤ (140737488355328 : Nat) ∧ y6.length + [(x1, x2)].length ≤ (140737488355328 : Nat)) then
          k0 (y6 ++ [(x1, x2)])
          else none))))) (fun r => match r with | r0 => k (.c (.own 0), [.vec 131 (.pair (.int .i64) (.int .i64)) r0 true])) := by
  kernel_rfl
theorem F74_eq (fuel : Nat) (x0 : Int) (x1 : Int) (x2 : Int) (x3 : Bool) (x4 : Int) (k : Ev.Cont) : evalFn tab (G74 fuel) (J74 fuel) kp74 fuel Try.f74 [.agg [.int .i64 x0, .int .i64 x1, .int .i64 x2, .bool x3, .int .i64 x4]] [] k = F_ref07_pixels fuel x0 x1 x2 x3 x4 (fun r => match r with | r0 => k (.c (.own 0), [.vec 131 (.pair (.int .i64) (.int .i64)) r0 true])) :=
  F74_eqg fuel (F_ref07_template fuel) x0 x1 x2 x3 x4 k
theorem hG74 (fuel : Nat) : GOK Try.prog (G74 fuel) :=
  gok_cons ⟨ok111 fuel, enters_of Try.func111 (by kernel_rfl) rfl⟩ <|
  gok_nil
theorem fok74 (fuel : Nat) : FnOK Try.prog 74 (evalFn tab (G74 fuel) (J74 fuel) kp74 fuel Try.f74) :=
  fn_ok tab_ok (hG74 fuel) mixed Try.func74 (c := (Try.f74.body).getD .skip) rfl (fun q hq => by
    rw [(by kernel_rfl : obl (J74 fuel) ((Try.f74.body).getD .skip) = [])] at hq
    cases hq)
def mt74 : List Ev.SV → List Ev.Ob → Bool := fun args objs => match args, objs with
  | [.agg [.int .i64 _, .int .i64 _, .int .i64 _, .bool _, .int .i64 _]], [] => true
  | _, _ => false
def spg74 (F : YF74) : Ev.Spec := fun args objs k => match args, objs with
  | [.agg [.int .i64 x0, .int .i64 x1, .int .i64 x2, .bool x3, .int .i64 x4]], [] => bif true then F x0 x1 x2 x3 x4 (fun r => match r with | r0 => k (.c (.own 0), [.vec 131 (.pair (.int .i64) (.int .i64)) r0 true])) else none
  | _, _ => none
def spec74 (fuel : Nat) : Ev.Spec := spg74 (F_ref07_pixels fuel)
theorem ok74 (fuel : Nat) : FnOK Try.prog 74 (spec74 fuel) := by
  intro args objs kk r h
  unfold spec74 spg74 at h
  split at h
  · obtain ⟨hb, h⟩ := cond_some' h
    simp only [Bool.and_eq_true, Nat.beq_eq, decide_eq_true_eq] at hb
    clear hb
    exact fok74 fuel _ _ kk r ((F74_eq fuel _ _ _ _ _ kk).trans h)
  · cases h
end Go.Proofs.Ytajidgilfkineaa
