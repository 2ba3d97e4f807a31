/- incunable/incunablelaw07.GenericContext: its typed text, and that the machine does it. -/
import Derived.Test.YtajidgilfkineaaEvU
import Derived.Test.YtajidgilfkineaaFgenericContext
import Derived.Test.YtajidgilfkineaaFlaw07Large
import Derived.Test.YtajidgilfkineaaFlaw07Sane
import Derived.Test.YtajidgilfkineaaFref05Valid
import Derived.Test.YtajidgilfkineaaFref07Context
set_option linter.unusedVariables false
set_option linter.unusedSimpArgs false
set_option maxRecDepth 100000
namespace Go.Proofs.Ytajidgilfkineaa
open Go Ev
def kp7 (i : Nat) : Option (List Nat) := Ev.look i [(200001, [1])]
def Gg7 (f28 : YF28) (f29 : YF29) (f30 : YF30) (f31 : YF31) (f32 : YF32) (f : Nat) : Option Ev.Spec := Ev.look f [(28, spg28 f28), (29, spg29 f29), (30, spg30 f30), (31, spg31 f31), (32, spg32 f32)]
def G7 (fuel : Nat) : Nat → Option Ev.Spec := Gg7 (F_ref05_Valid fuel) (F_law07_Large fuel) (F_law07_Sane fuel) (F_generic_Context fuel) (F_ref07_Context fuel)
def J7 (fuel : Nat) (i : Nat) : Option Ev.Blk := Ev.look i []
def F_law07_GenericContext (fuel : Nat) (x0 : Int) (x1 : Int) (x2 : Int) (x3 : Bool) (x4 : Int) (x5 : Int) (x6 : Int) (x7 : (List Int)) (x8 : Int) (x9 : Int) (k0 : (Bool) → Option Ans) : Option Ans :=
  both ((F_ref05_Valid fuel (x5) (x6) (x7)
      (fun y4 =>
        bif y4 then
         (F_law07_Large fuel (x5) (x6) (x7)
           (fun y9 =>
             bif y9 then
              (F_law07_Sane fuel
                (fun y14 =>
                  k0 y14))
             else
              bif Decidable.decide ((↑x7.length : Int) > (20000 : Int)) then
               (F_law07_Sane fuel
                 (fun y15 =>
                   k0 y15))
              else
               (F_generic_Context fuel (x0) (x1) (x2) (x3) (x4) (x5) (x6) (x7) (x8) (x9)
                 (fun (y15_0, y15_1) =>
                   (F_ref07_Context fuel (x0) (x1) (x2) (x3) (x4) (x5) (x6) (x7) (x8) (x9)
                     (fun (y19_0, y19_1) =>
                       bif y15_0 == y19_0 then
                        bif y15_1 == y19_1 then
                         (F_law07_Sane fuel
                           (fun y25 =>
                             k0 y25))
                        else
                         k0 Bool.false
                       else
                        k0 Bool.false))))))
        else
         bif Decidable.decide ((↑x7.length : Int) > (20000 : Int)) then
          (F_law07_Sane fuel
            (fun y10 =>
              k0 y10))
         else
          (F_generic_Context fuel (x0) (x1) (x2) (x3) (x4) (x5) (x6) (x7) (x8) (x9)
            (fun (y10_0, y10_1) =>
              (F_ref07_Context fuel (x0) (x1) (x2) (x3) (x4) (x5) (x6) (x7) (x8) (x9)
                (fun (y14_0, y14_1) =>
                  bif y10_0 == y14_0 then
                   bif y10_1 == y14_1 then
                    (F_law07_Sane fuel
                      (fun y20 =>
                        k0 y20))
                   else
                    k0 Bool.false
                  else
                   k0 Bool.false)))))))
   ((F_ref05_Valid fuel (x5) (x6) (x7)
      (fun y4 =>
        bif y4 then
         (F_law07_Large fuel (x5) (x6) (x7)
           (fun y9 =>
             bif y9 then
              (F_law07_Sane fuel
                (fun y14 =>
                  k0 y14))
             else
              bif Decidable.decide ((↑x7.length : Int) > (20000 : Int)) then
               (F_law07_Sane fuel
                 (fun y15 =>
                   k0 y15))
              else
               (F_generic_Context fuel (x0) (x1) (x2) (x3) (x4) (x5) (x6) (x7) (x8) (x9)
                 (fun (y15_0, y15_1) =>
                   (F_ref07_Context fuel (x0) (x1) (x2) (x3) (x4) (x5) (x6) (x7) (x8) (x9)
                     (fun (y19_0, y19_1) =>
                       bif y15_0 == y19_0 then
                        bif y15_1 == y19_1 then
                         (F_law07_Sane fuel
                           (fun y25 =>
                             k0 y25))
                        else
                         k0 Bool.false
                       else
                        k0 Bool.false))))))
        else
         bif Decidable.decide ((↑x7.length : Int) > (20000 : Int)) then
          (F_law07_Sane fuel
            (fun y10 =>
              k0 y10))
         else
          (F_generic_Context fuel (x0) (x1) (x2) (x3) (x4) (x5) (x6) (x7) (x8) (x9)
            (fun (y10_0, y10_1) =>
              (F_ref07_Context fuel (x0) (x1) (x2) (x3) (x4) (x5) (x6) (x7) (x8) (x9)
                (fun (y14_0, y14_1) =>
                  bif y10_0 == y14_0 then
                   bif y10_1 == y14_1 then
                    (F_law07_Sane fuel
                      (fun y20 =>
                        k0 y20))
                   else
                    k0 Bool.false
                  else
                   k0 Bool.false)))))))
abbrev YF7 : Type := (Int) → (Int) → (Int) → (Bool) → (Int) → (Int) → (Int) → ((List Int)) → (Int) → (Int) → ((Bool) → Option Ans) → Option Ans
theorem F7_eqg (fuel : Nat) (f28 : YF28) (f29 : YF29) (f30 : YF30) (f31 : YF31) (f32 : YF32) (x0 : Int) (x1 : Int) (x2 : Int) (x3 : Bool) (x4 : Int) (x5 : Int) (x6 : Int) (x7 : (List Int)) (x8 : Int) (x9 : Int) (k : Ev.Cont) : evalFn tab (Gg7 f28 f29 f30 f31 f32) (J7 fuel) kp7 fuel Try.f7 [.agg [.int .i64 x0, .int .i64 x1, .int .i64 x2, .bool x3, .int .i64 x4, .int .i64 x5, .int .i64 x6, .sl (.int .u8) x7, .int .i64 x8, .int .i64 x9]] [] k = (fun  (k0 : (Bool) → Option Ans) =>
  both ((f28 (x5) (x6) (x7)
      (fun y4 =>
        bif y4 then
         (f29 (x5) (x6) (x7)
           (fun y9 =>
             bif y9 then
              (f30
                (fun y14 =>
                  k0 y14))
             else
              bif Decidable.decide ((↑x7.length : Int) > (20000 : Int)) then
               (f30
                 (fun y15 =>
                   k0 y15))
              else
               (f31 (x0) (x1) (x2) (x3) (x4) (x5) (x6) (x7) (x8) (x9)
                 (fun (y15_0, y15_1) =>
                   (f32 (x0) (x1) (x2) (x3) (x4) (x5) (x6) (x7) (x8) (x9)
                     (fun (y19_0, y19_1) =>
                       bif y15_0 == y19_0 then
                        bif y15_1 == y19_1 then
                         (f30
                           (fun y25 =>
                             k0 y25))
                        else
                         k0 Bool.false
                       else
                        k0 Bool.false))))))
        else
         bif Decidable.decide ((↑x7.length : Int) > (20000 : Int)) then
          (f30
            (fun y10 =>
              k0 y10))
         else
          (f31 (x0) (x1) (x2) (x3) (x4) (x5) (x6) (x7) (x8) (x9)
            (fun (y10_0, y10_1) =>
              (f32 (x0) (x1) (x2) (x3) (x4) (x5) (x6) (x7) (x8) (x9)
                (fun (y14_0, y14_1) =>
                  bif y10_0 == y14_0 then
                   bif y10_1 == y14_1 then
                    (f30
                      (fun y20 =>
                        k0 y20))
                   else
                    k0 Bool.false
                  else
                   k0 Bool.false)))))))
   ((f28 (x5) (x6) (x7)
      (fun y4 =>
        bif y4 then
         (f29 (x5) (x6) (x7)
           (fun y9 =>
             bif y9 then
              (f30
                (fun y14 =>
                  k0 y14))
             else
              bif Decidable.decide ((↑x7.length : Int) > (20000 : Int)) then
               (f30
                 (fun y15 =>
                   k0 y15))
              else
               (f31 (x0) (x1) (x2) (x3) (x4) (x5) (x6) (x7) (x8) (x9)
                 (fun (y15_0, y15_1) =>
                   (f32 (x0) (x1) (x2) (x3) (x4) (x5) (x6) (x7) (x8) (x9)
                     (fun (y19_0, y19_1) =>
                       bif y15_0 == y19_0 then
                        bif y15_1 == y19_1 then
                         (f30
                           (fun y25 =>
                             k0 y25))
                        else
                         k0 Bool.false
                       else
                        k0 Bool.false))))))
        else
         bif Decidable.decide ((↑x7.length : Int) > (20000 : Int)) then
          (f30
            (fun y10 =>
              k0 y10))
         else
          (f31 (x0) (x1) (x2) (x3) (x4) (x5) (x6) (x7) (x8) (x9)
            (fun (y10_0, y10_1) =>
              (f32 (x0) (x1) (x2) (x3) (x4) (x5) (x6) (x7) (x8) (x9)
                (fun (y14_0, y14_1) =>
                  bif y10_0 == y14_0 then
                   bif y10_1 == y14_1 then
                    (f30
                      (fun y20 =>
                        k0 y20))
                   else
                    k0 Bool.false
                  else
                   k0 Bool.false)))))))) (fun r => match r with | r0 => k (.c (.bool r0), [])) := by
  kernel_rfl
theorem F7_eq (fuel : Nat) (x0 : Int) (x1 : Int) (x2 : Int) (x3 : Bool) (x4 : Int) (x5 : Int) (x6 : Int) (x7 : (List Int)) (x8 : Int) (x9 : Int) (k : Ev.Cont) : evalFn tab (G7 fuel) (J7 fuel) kp7 fuel Try.f7 [.agg [.int .i64 x0, .int .i64 x1, .int .i64 x2, .bool x3, .int .i64 x4, .int .i64 x5, .int .i64 x6, .sl (.int .u8) x7, .int .i64 x8, .int .i64 x9]] [] k = F_law07_GenericContext fuel x0 x1 x2 x3 x4 x5 x6 x7 x8 x9 (fun r => match r with | r0 => k (.c (.bool r0), [])) :=
  F7_eqg fuel (F_ref05_Valid fuel) (F_law07_Large fuel) (F_law07_Sane fuel) (F_generic_Context fuel) (F_ref07_Context fuel) x0 x1 x2 x3 x4 x5 x6 x7 x8 x9 k
theorem hG7 (fuel : Nat) : GOK Try.prog (G7 fuel) :=
  gok_cons ⟨ok28 fuel, enters_of Try.func28 (by kernel_rfl) rfl⟩ <|
  gok_cons ⟨ok29 fuel, enters_of Try.func29 (by kernel_rfl) rfl⟩ <|
  gok_cons ⟨ok30 fuel, enters_of Try.func30 (by kernel_rfl) rfl⟩ <|
  gok_cons ⟨ok31 fuel, enters_of Try.func31 (by kernel_rfl) rfl⟩ <|
  gok_cons ⟨ok32 fuel, enters_of Try.func32 (by kernel_rfl) rfl⟩ <|
  gok_nil
theorem fok7 (fuel : Nat) : FnOK Try.prog 7 (evalFn tab (G7 fuel) (J7 fuel) kp7 fuel Try.f7) :=
  fn_ok tab_ok (hG7 fuel) mixed Try.func7 (c := (Try.f7.body).getD .skip) rfl (fun q hq => by
    rw [(by kernel_rfl : obl (J7 fuel) ((Try.f7.body).getD .skip) = [])] at hq
    cases hq)
def mt7 : List Ev.SV → List Ev.Ob → Bool := fun args objs => match args, objs with
  | [.agg [.int .i64 _, .int .i64 _, .int .i64 _, .bool _, .int .i64 _, .int .i64 _, .int .i64 _, .sl (.int .u8) _, .int .i64 _, .int .i64 _]], [] => true
  | _, _ => false
def spg7 (F : YF7) : Ev.Spec := fun args objs k => match args, objs with
  | [.agg [.int .i64 x0, .int .i64 x1, .int .i64 x2, .bool x3, .int .i64 x4, .int .i64 x5, .int .i64 x6, .sl (.int .u8) x7, .int .i64 x8, .int .i64 x9]], [] => bif true then F x0 x1 x2 x3 x4 x5 x6 x7 x8 x9 (fun r => match r with | r0 => k (.c (.bool r0), [])) else none
  | _, _ => none
def spec7 (fuel : Nat) : Ev.Spec := spg7 (F_law07_GenericContext fuel)
theorem ok7 (fuel : Nat) : FnOK Try.prog 7 (spec7 fuel) := by
  intro args objs kk r h
  unfold spec7 spg7 at h
  split at h
  · obtain ⟨hb, h⟩ := cond_some' h
    simp only [Bool.and_eq_true, Nat.beq_eq, decide_eq_true_eq] at hb
    clear hb
    exact fok7 fuel _ _ kk r ((F7_eq fuel _ _ _ _ _ _ _ _ _ _ kk).trans h)
  · cases h
end Go.Proofs.Ytajidgilfkineaa
