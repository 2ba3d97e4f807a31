/- incunable/generic.newPlane: its typed text, and that the machine does it. -/
import Derived.Test.YtajidgilfkineaaEvU
import Derived.Test.YtajidgilfkineaaFgenericpixels
set_option linter.unusedVariables false
set_option linter.unusedSimpArgs false
set_option maxRecDepth 100000
namespace Go.Proofs.Ytajidgilfkineaa
open Go Ev
def kp70 (i : Nat) : Option (List Nat) := Ev.look i [(200001, [3])]
def Gg70 (f108 : YF108) (f : Nat) : Option Ev.Spec := Ev.look f [(108, spg108 f108)]
def G70 (fuel : Nat) : Nat → Option Ev.Spec := Gg70 (F_generic_pixels fuel)
def J70 (fuel : Nat) (i : Nat) : Option Ev.Blk := Ev.look i []
def F_generic_newPlane (fuel : Nat) (x0 : Int) (x1 : Int) (x2 : Int) (x3 : Bool) (x4 : Int) (x5 : Int) (x6 : Int) (k0 : (Int × Int × (List Int) × (List (Int × Int))) → Option Ans) : Option Ans :=
  both (bif Decidable.decide ((0 : Int) ≤ Go.IntKind.i64.wrap (x5 * x6) ∧ Go.IntKind.i64.wrap (x5 * x6) = Go.IntKind.i64.wrap (x5 * x6) ∧ (↑(1 : Nat) : Int) * Go.IntKind.i64.wrap (x5 * x6) ≤ (281474976710656 : Int) ∧ Go.IntKind.i64.wrap (x5 * x6) ≤ (281474976710656 : Int)) then
    both ((F_generic_pixels fuel (x0)
         (fun y7 =>
           bif Decidable.decide ((y7.length + [(x1, x2)].length) * (16 : Nat) ≤ (140737488355328 : Nat) ∧ y7.length + [(x1, x2)].length ≤ (140737488355328 : Nat)) then
           k0 (x5, x6, List.replicate (Go.IntKind.i64.wrap (x5 * x6)).toNat (0 : Int), y7 ++ [(x1, x2)])
           else none)))
      ((F_generic_pixels fuel (x0)
         (fun y7 =>
           bif Decidable.decide ((y7.length + [(x1, x2)].length) * (16 : Nat) ≤ (140737488355328 : Nat) ∧ y7.length + [(x1, x2)].length ≤ (140737488355328 : Nat)) then
           k0 (x5, x6, List.replicate (Go.IntKind.i64.wrap (x5 * x6)).toNat (0 : Int), y7 ++ [(x1, x2)])
           else none)))
    else none)
   (both ((F_generic_pixels fuel (x0)
        (fun y6 =>
          both (bif Decidable.decide ((0 : Int) ≤ Go.IntKind.i64.wrap (x5 * x6) ∧ Go.IntKind.i64.wrap (x5 * x6) = Go.IntKind.i64.wrap (x5 * x6) ∧ (↑(1 : Nat) : Int) * Go.IntKind.i64.wrap (x5 * x6) ≤ (281474976710656 : Int) ∧ Go.IntKind.i64.wrap (x5 * x6) ≤ (281474976710656 : Int)) then
            bif Decidable.decide ((y6.length + [(x1, x2)].length) * (16 : Nat) ≤ (140737488355328 : Nat) ∧ y6.length + [(x1, x2)].length ≤ (140737488355328 : Nat)) then
             k0 (x5, x6, List.replicate (Go.IntKind.i64.wrap (x5 * x6)).toNat (0 : Int), y6 ++ [(x1, x2)])
             else none
            else none)
           (both (bif Decidable.decide ((0 : Int) ≤ Go.IntKind.i64.wrap (x5 * x6) ∧ Go.IntKind.i64.wrap (x5 * x6) = Go.IntKind.i64.wrap (x5 * x6) ∧ (↑(1 : Nat) : Int) * Go.IntKind.i64.wrap (x5 * x6) ≤ (281474976710656 : Int) ∧ Go.IntKind.i64.wrap (x5 * x6) ≤ (281474976710656 : Int)) then
              bif Decidable.decide ((y6.length + [(x1, x2)].length) * (16 : Nat) ≤ (140737488355328 : Nat) ∧ y6.length + [(x1, x2)].length ≤ (140737488355328 : Nat)) then
               k0 (x5, x6, List.replicate (Go.IntKind.i64.wrap (x5 * x6)).toNat (0 : Int), y6 ++ [(x1, x2)])
               else none
              else none)
             (bif Decidable.decide ((y6.length + [(x1, x2)].length) * (16 : Nat) ≤ (140737488355328 : Nat) ∧ y6.length + [(x1, x2)].length ≤ (140737488355328 : Nat)) then
              bif Decidable.decide ((0 : Int) ≤ Go.IntKind.i64.wrap (x5 * x6) ∧ Go.IntKind.i64.wrap (x5 * x6) = Go.IntKind.i64.wrap (x5 * x6) ∧ (↑(1 : Nat) : Int) * Go.IntKind.i64.wrap (x5 * x6) ≤ (281474976710656 : Int) ∧ Go.IntKind.i64.wrap (x5 * x6) ≤ (281474976710656 : Int)) then
               k0 (x5, x6, List.replicate (Go.IntKind.i64.wrap (x5 * x6)).toNat (0 : Int), y6 ++ [(x1, x2)])
               else none
              else none)))))
     (both (bif Decidable.decide ((0 : Int) ≤ Go.IntKind.i64.wrap (x5 * x6) ∧ Go.IntKind.i64.wrap (x5 * x6) = Go.IntKind.i64.wrap (x5 * x6) ∧ (↑(1 : Nat) : Int) * Go.IntKind.i64.wrap (x5 * x6) ≤ (281474976710656 : Int) ∧ Go.IntKind.i64.wrap (x5 * x6) ≤ (281474976710656 : Int)) then
        (F_generic_pixels fuel (x0)
           (fun y9 =>
             bif Decidable.decide ((y9.length + [(x1, x2)].length) * (16 : Nat) ≤ (140737488355328 : Nat) ∧ y9.length + [(x1, x2)].length ≤ (140737488355328 : Nat)) then
             k0 (x5, x6, List.replicate (Go.IntKind.i64.wrap (x5 * x6)).toNat (0 : Int), y9 ++ [(x1, x2)])
             else none))
        else none)
       ((F_generic_pixels fuel (x0)
          (fun y8 =>
            both (bif Decidable.decide ((0 : Int) ≤ Go.IntKind.i64.wrap (x5 * x6) ∧ Go.IntKind.i64.wrap (x5 * x6) = Go.IntKind.i64.wrap (x5 * x6) ∧ (↑(1 : Nat) : Int) * Go.IntKind.i64.wrap (x5 * x6) ≤ (281474976710656 : Int) ∧ Go.IntKind.i64.wrap (x5 * x6) ≤ (281474976710656 : Int)) then
              bif Decidable.decide ((y8.length + [(x1, x2)].length) * (16 : Nat) ≤ (140737488355328 : Nat) ∧ y8.length + [(x1, x2)].length ≤ (140737488355328 : Nat)) then
               k0 (x5, x6, List.replicate (Go.IntKind.i64.wrap (x5 * x6)).toNat (0 : Int), y8 ++ [(x1, x2)])
               else none
              else none)
             (bif Decidable.decide ((y8.length + [(x1, x2)].length) * (16 : Nat) ≤ (140737488355328 : Nat) ∧ y8.length + [(x1, x2)].length ≤ (140737488355328 : Nat)) then
              bif Decidable.decide ((0 : Int) ≤ Go.IntKind.i64.wrap (x5 * x6) ∧ Go.IntKind.i64.wrap (x5 * x6) = Go.IntKind.i64.wrap (x5 * x6) ∧ (↑(1 : Nat) : Int) * Go.IntKind.i64.wrap (x5 * x6) ≤ (281474976710656 : Int) ∧ Go.IntKind.i64.wrap (x5 * x6) ≤ (281474976710656 : Int)) then
               k0 (x5, x6, List.replicate (Go.IntKind.i64.wrap (x5 * x6)).toNat (0 : Int), y8 ++ [(x1, x2)])
               else none
              else none))))))
abbrev YF70 : Type := (Int) → (Int) → (Int) → (Bool) → (Int) → (Int) → (Int) → ((Int × Int × (List Int) × (List (Int × Int))) → Option Ans) → Option Ans
theorem F70_eqg (fuel : Nat) (f108 : YF108) (x0 : Int) (x1 : Int) (x2 : Int) (x3 : Bool) (x4 : Int) (x5 : Int) (x6 : Int) (k : Ev.Cont) : evalFn tab (Gg70 f108) (J70 fuel) kp70 fuel Try.f70 [.agg [.int .i64 x0, .int .i64 x1, .int .i64 x2, .bool x3, .int .i64 x4], .c (.int .i64 x5), .c (.int .i64 x6)] [] k = (fun  (k0 : (Int × Int × (List Int) × (List (Int × Int))) → Option Ans) =>
  both (bif Decidable.decide ((0 : Int) ≤ Go.IntKind.i64.wrap (x5 * x6) ∧ Go.IntKind.i64.wrap (x5 * x6) = Go.IntKind.i64.wrap (x5 * x6) ∧ (↑(1 : Nat) : Int) * Go.IntKind.i64.wrap (x5 * x6) ≤ (281474976710656 : Int) ∧ Go.IntKind.i64.wrap (x5 * x6) ≤ (281474976710656 : Int)) then
    both ((f108 (x0)
         (fun y7 =>
           bif Decidable.decide ((y7.length + [(x1, x2)].length) * (16 : Nat) ≤ (140737488355328 : Nat) ∧ y7.length + [(x1, x2)].length ≤ (140737488355328 : Nat)) then
           k0 (x5, x6, List.replicate (Go.IntKind.i64.wrap (x5 * x6)).toNat (0 : Int), y7 ++ [(x1, x2)])
           else none)))
      ((f108 (x0)
         (fun y7 =>
           bif Decidable.decide ((y7.length + [(x1, x2)].length) * (16 : Nat) ≤ (140737488355328 : Nat) ∧ y7.length + [(x1, x2)].length ≤ (140737488355328 : Nat)) then
           k0 (x5, x6, List.replicate (Go.IntKind.i64.wrap (x5 * x6)).toNat (0 : Int), y7 ++ [(x1, x2)])
           else none)))
    else none)
   (both ((f108 (x0)
        (fun y6 =>
          both (bif Decidable.decide ((0 : Int) ≤ Go.IntKind.i64.wrap (x5 * x6) ∧ Go.IntKind.i64.wrap (x5 * x6) = Go.IntKind.i64.wrap (x5 * x6) ∧ (↑(1 : Nat) : Int) * Go.IntKind.i64.wrap (x5 * x6) ≤ (281474976710656 : Int) ∧ Go.IntKind.i64.wrap (x5 * x6) ≤ (281474976710656 : Int)) then
            bif Decidable.decide ((y6.length + [(x1, x2)].length) * (16 : Nat) ≤ (140737488355328 : Nat) ∧ y6.length + [(x1, x2)].length ≤ (140737488355328 : Nat)) then
             k0 (x5, x6, List.replicate (Go.IntKind.i64.wrap (x5 * x6)).toNat (0 : Int), y6 ++ [(x1, x2)])
             else none
            else none)
           (both (bif Decidable.decide ((0 : Int) ≤ Go.IntKind.i64.wrap (x5 * x6) ∧ Go.IntKind.i64.wrap (x5 * x6) = Go.IntKind.i64.wrap (x5 * x6) ∧ (↑(1 : Nat) : Int) * Go.IntKind.i64.wrap (x5 * x6) ≤ (281474976710656 : Int) ∧ Go.IntKind.i64.wrap (x5 * x6) ≤ (281474976710656 : Int)) then
              bif Decidable.decide ((y6.length + [(x1, x2)].length) * (16 : Nat) ≤ (140737488355328 : Nat) ∧ y6.length + [(x1, x2)].length ≤ (140737488355328 : Nat)) then
               k0 (x5, x6, List.replicate (Go.IntKind.i64.wrap (x5 * x6)).toNat (0 : Int), y6 ++ [(x1, x2)])
               else none
              else none)
             (bif Decidable.decide ((y6.length + [(x1, x2)].length) * (16 : Nat) ≤ (140737488355328 : Nat) ∧ y6.length + [(x1, x2)].length ≤ (140737488355328 : Nat)) then
              bif Decidable.decide ((0 : Int) ≤ Go.IntKind.i64.wrap (x5 * x6) ∧ Go.IntKind.i64.wrap (x5 * x6) = Go.IntKind.i64.wrap (x5 * x6) ∧ (↑(1 : Nat) : Int) * Go.IntKind.i64.wrap (x5 * x6) ≤ (281474976710656 : Int) ∧ Go.IntKind.i64.wrap (x5 * x6) ≤ (281474976710656 : Int)) then
               k0 (x5, x6, List.replicate (Go.IntKind.i64.wrap (x5 * x6)).toNat (0 : Int), y6 ++ [(x1, x2)])
               else none
              else none)))))
     (both (bif Decidable.decide ((0 : Int) ≤ Go.IntKind.i64.wrap (x5 * x6) ∧ Go.IntKind.i64.wrap (x5 * x6) = Go.IntKind.i64.wrap (x5 * x6) ∧ (↑(1 : Nat) : Int) * Go.IntKind.i64.wrap (x5 * x6) ≤ (281474976710656 : Int) ∧ Go.IntKind.i64.wrap (x5 * x6) ≤ (281474976710656 : Int)) then
        (f108 (x0)
           (fun y9 =>
             bif Decidable.decide ((y9.length + [(x1, x2)].length) * (16 : Nat) ≤ (140737488355328 : Nat) ∧ y9.length + [(x1, x2)].length ≤ (140737488355328 : Nat)) then
             k0 (x5, x6, List.replicate (Go.IntKind.i64.wrap (x5 * x6)).toNat (0 : Int), y9 ++ [(x1, x2)])
             else none))
        else none)
       ((f108 (x0)
          (fun y8 =>
            both (bif Decidable.decide ((0 : Int) ≤ Go.IntKind.i64.wrap (x5 * x6) ∧ Go.IntKind.i64.wrap (x5 * x6) = Go.IntKind.i64.wrap (x5 * x6) ∧ (↑(1 : Nat) : Int) * Go.IntKind.i64.wrap (x5 * x6) ≤ (281474976710656 : Int) ∧ Go.IntKind.i64.wrap (x5 * x6) ≤ (281474976710656 : Int)) then
              bif Decidable.decide ((y8.length + [(x1, x2)].length) * (16 : Nat) ≤ (140737488355328 : Nat) ∧ y8.length + [(x1, x2)].length ≤ (140737488355328 : Nat)) then
               k0 (x5, x6, List.replicate (Go.IntKind.i64.wrap (x5 * x6)).toNat (0 : Int), y8 ++ [(x1, x2)])
               else none
              else none)
             (bif Decidable.decide ((y8.length + [(x1, x2)].length) * (16 : Nat) ≤ (140737488355328 : Nat) ∧ y8.length + [(x1, x2)].length ≤ (140737488355328 : Nat)) then
              bif Decidable.decide ((0 : Int) ≤ Go.IntKind.i64.wrap (x5 * x6) ∧ Go.IntKind.i64.wrap (x5 * x6) = Go.IntKind.i64.wrap (x5 * x6) ∧ (↑(1 : Nat) : Int) * Go.IntKind.i64.wrap (x5 * x6) ≤ (281474976710656 : Int) ∧ Go.IntKind.i64.wrap (x5 * x6) ≤ (281474976710656 : Int)) then
               k0 (x5, x6, List.replicate (Go.IntKind.i64.wrap (x5 * x6)).toNat (0 : Int), y8 ++ [(x1, x2)])
               else none
              else none))))))) (fun r => match r with | (r0, r1, r2, r3) => k (.c (.ptr 0 0), [.cells 93 [.int .i64 r0, .int .i64 r1, .own 1, .own 2], .vec 5 (.int .u8) r2 true, .vec 47 (.pair (.int .i64) (.int .i64)) r3 true])) := by
  kernel_rfl
theorem F70_eq (fuel : Nat) (x0 : Int) (x1 : Int) (x2 : Int) (x3 : Bool) (x4 : Int) (x5 : Int) (x6 : Int) (k : Ev.Cont) : evalFn tab (G70 fuel) (J70 fuel) kp70 fuel Try.f70 [.agg [.int .i64 x0, .int .i64 x1, .int .i64 x2, .bool x3, .int .i64 x4], .c (.int .i64 x5), .c (.int .i64 x6)] [] k = F_generic_newPlane fuel x0 x1 x2 x3 x4 x5 x6 (fun r => match r with | (r0, r1, r2, r3) => k (.c (.ptr 0 0), [.cells 93 [.int .i64 r0, .int .i64 r1, .own 1, .own 2], .vec 5 (.int .u8) r2 true, .vec 47 (.pair (.int .i64) (.int .i64)) r3 true])) :=
  F70_eqg fuel (F_generic_pixels fuel) x0 x1 x2 x3 x4 x5 x6 k
theorem hG70 (fuel : Nat) : GOK Try.prog (G70 fuel) :=
  gok_cons ⟨ok108 fuel, enters_of Try.func108 (by kernel_rfl) rfl⟩ <|
  gok_nil
theorem fok70 (fuel : Nat) : FnOK Try.prog 70 (evalFn tab (G70 fuel) (J70 fuel) kp70 fuel Try.f70) :=
  fn_ok tab_ok (hG70 fuel) mixed Try.func70 (c := (Try.f70.body).getD .skip) rfl (fun q hq => by
    rw [(by kernel_rfl : obl (J70 fuel) ((Try.f70.body).getD .skip) = [])] at hq
    cases hq)
def mt70 : List Ev.SV → List Ev.Ob → Bool := fun args objs => match args, objs with
  | [.agg [.int .i64 _, .int .i64 _, .int .i64 _, .bool _, .int .i64 _], .c (.int .i64 _), .c (.int .i64 _)], [] => true
  | _, _ => false
def spg70 (F : YF70) : Ev.Spec := fun args objs k => match args, objs with
  | [.agg [.int .i64 x0, .int .i64 x1, .int .i64 x2, .bool x3, .int .i64 x4], .c (.int .i64 x5), .c (.int .i64 x6)], [] => bif true then F x0 x1 x2 x3 x4 x5 x6 (fun r => match r with | (r0, r1, r2, r3) => k (.c (.ptr 0 0), [.cells 93 [.int .i64 r0, .int .i64 r1, .own 1, .own 2], .vec 5 (.int .u8) r2 true, .vec 47 (.pair (.int .i64) (.int .i64)) r3 true])) else none
  | _, _ => none
def spec70 (fuel : Nat) : Ev.Spec := spg70 (F_generic_newPlane fuel)
theorem ok70 (fuel : Nat) : FnOK Try.prog 70 (spec70 fuel) := by
  intro args objs kk r h
  unfold spec70 spg70 at h
  split at h
  · obtain ⟨hb, h⟩ := cond_some' h
    simp only [Bool.and_eq_true, Nat.beq_eq, decide_eq_true_eq] at hb
    clear hb
    exact fok70 fuel _ _ kk r ((F70_eq fuel _ _ _ _ _ _ _ kk).trans h)
  · cases h
end Go.Proofs.Ytajidgilfkineaa
