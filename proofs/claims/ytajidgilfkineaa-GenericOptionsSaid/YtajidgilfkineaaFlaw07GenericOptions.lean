/- incunable/incunablelaw07.GenericOptions: its typed text, and that the machine does it. -/
import Derived.Test.YtajidgilfkineaaEvU
import Derived.Test.YtajidgilfkineaaFgenericSize
import Derived.Test.YtajidgilfkineaaFgenericUsual
import Derived.Test.YtajidgilfkineaaFgenericValid
import Derived.Test.YtajidgilfkineaaFlaw07Sane
import Derived.Test.YtajidgilfkineaaFref07Size
import Derived.Test.YtajidgilfkineaaFref07Usual
import Derived.Test.YtajidgilfkineaaFref07Valid
set_option linter.unusedVariables false
set_option linter.unusedSimpArgs false
set_option maxRecDepth 100000
namespace Go.Proofs.Ytajidgilfkineaa
open Go Ev
def kp8 (i : Nat) : Option (List Nat) := Ev.look i [(200005, [2, 5, 7])]
def Gg8 (f30 : YF30) (f33 : YF33) (f34 : YF34) (f35 : YF35) (f36 : YF36) (f37 : YF37) (f38 : YF38) (f : Nat) : Option Ev.Spec := Ev.look f [(30, spg30 f30), (33, spg33 f33), (34, spg34 f34), (35, spg35 f35), (36, spg36 f36), (37, spg37 f37), (38, spg38 f38)]
def G8 (fuel : Nat) : Nat → Option Ev.Spec := Gg8 (F_law07_Sane fuel) (F_generic_Usual fuel) (F_ref07_Usual fuel) (F_generic_Size fuel) (F_ref07_Size fuel) (F_generic_Valid fuel) (F_ref07_Valid fuel)
def J8 (fuel : Nat) (i : Nat) : Option Ev.Blk := Ev.look i []
def F_law07_GenericOptions (fuel : Nat) (x0 : Int) (x1 : Int) (x2 : Int) (x3 : Bool) (x4 : Int) (x5 : Int) (k0 : (Bool) → Option Ans) : Option Ans :=
  (F_generic_Usual fuel (x5)
    (fun (y2_0, y2_1, y2_2, y2_3, y2_4, y2_5) =>
      (F_ref07_Usual fuel (x5)
        (fun (y6_0, y6_1, y6_2, y6_3, y6_4, y6_5) =>
          (F_generic_Size fuel (x0) (x1) (x2) (x3) (x4)
            (fun (y10_0, y10_1) =>
              (F_ref07_Size fuel (x0) (x1) (x2) (x3) (x4)
                (fun (y14_0, y14_1) =>
                  (F_generic_Valid fuel (x0) (x1) (x2) (x3) (x4)
                    (fun y18 =>
                      (F_ref07_Valid fuel (x0) (x1) (x2) (x3) (x4)
                        (fun y22 =>
                          bif y18 == y22 then
                           bif y2_0 == y6_0 && (y2_1 == y6_1 && (y2_2 == y6_2 && Bool.true) && (y2_3 == y6_3 && (y2_4 == y6_4 && Bool.true))) then
                            bif y2_5 == y6_5 then
                             bif y10_0 == y14_0 then
                              bif y10_1 == y14_1 then
                               (F_law07_Sane fuel
                                 (fun y31 =>
                                   k0 y31))
                              else
                               k0 Bool.false
                             else
                              k0 Bool.false
                            else
                             k0 Bool.false
                           else
                            k0 Bool.false
                          else
                           k0 Bool.false))))))))))))
abbrev YF8 : Type := (Int) → (Int) → (Int) → (Bool) → (Int) → (Int) → ((Bool) → Option Ans) → Option Ans
theorem F8_eqg (fuel : Nat) (f30 : YF30) (f33 : YF33) (f34 : YF34) (f35 : YF35) (f36 : YF36) (f37 : YF37) (f38 : YF38) (x0 : Int) (x1 : Int) (x2 : Int) (x3 : Bool) (x4 : Int) (x5 : Int) (k : Ev.Cont) : evalFn tab (Gg8 f30 f33 f34 f35 f36 f37 f38) (J8 fuel) kp8 fuel Try.f8 [.agg [.int .i64 x0, .int .i64 x1, .int .i64 x2, .bool x3, .int .i64 x4], .c (.int .i64 x5)] [] k = (fun  (k0 : (Bool) → Option Ans) =>
  (f33 (x5)
    (fun (y2_0, y2_1, y2_2, y2_3, y2_4, y2_5) =>
      (f34 (x5)
        (fun (y6_0, y6_1, y6_2, y6_3, y6_4, y6_5) =>
          (f35 (x0) (x1) (x2) (x3) (x4)
            (fun (y10_0, y10_1) =>
              (f36 (x0) (x1) (x2) (x3) (x4)
                (fun (y14_0, y14_1) =>
                  (f37 (x0) (x1) (x2) (x3) (x4)
                    (fun y18 =>
                      (f38 (x0) (x1) (x2) (x3) (x4)
                        (fun y22 =>
                          bif y18 == y22 then
                           bif y2_0 == y6_0 && (y2_1 == y6_1 && (y2_2 == y6_2 && Bool.true) && (y2_3 == y6_3 && (y2_4 == y6_4 && Bool.true))) then
                            bif y2_5 == y6_5 then
                             bif y10_0 == y14_0 then
                              bif y10_1 == y14_1 then
                               (f30
                                 (fun y31 =>
                                   k0 y31))
                              else
                               k0 Bool.false
                             else
                              k0 Bool.false
                            else
                             k0 Bool.false
                           else
                            k0 Bool.false
                          else
                           k0 Bool.false))))))))))))) (fun r => match r with | r0 => k (.c (.bool r0), [])) := by
  kernel_rfl
theorem F8_eq (fuel : Nat) (x0 : Int) (x1 : Int) (x2 : Int) (x3 : Bool) (x4 : Int) (x5 : Int) (k : Ev.Cont) : evalFn tab (G8 fuel) (J8 fuel) kp8 fuel Try.f8 [.agg [.int .i64 x0, .int .i64 x1, .int .i64 x2, .bool x3, .int .i64 x4], .c (.int .i64 x5)] [] k = F_law07_GenericOptions fuel x0 x1 x2 x3 x4 x5 (fun r => match r with | r0 => k (.c (.bool r0), [])) :=
  F8_eqg fuel (F_law07_Sane fuel) (F_generic_Usual fuel) (F_ref07_Usual fuel) (F_generic_Size fuel) (F_ref07_Size fuel) (F_generic_Valid fuel) (F_ref07_Valid fuel) x0 x1 x2 x3 x4 x5 k
theorem hG8 (fuel : Nat) : GOK Try.prog (G8 fuel) :=
  gok_cons ⟨ok30 fuel, enters_of Try.func30 (by kernel_rfl) rfl⟩ <|
  gok_cons ⟨ok33 fuel, enters_of Try.func33 (by kernel_rfl) rfl⟩ <|
  gok_cons ⟨ok34 fuel, enters_of Try.func34 (by kernel_rfl) rfl⟩ <|
  gok_cons ⟨ok35 fuel, enters_of Try.func35 (by kernel_rfl) rfl⟩ <|
  gok_cons ⟨ok36 fuel, enters_of Try.func36 (by kernel_rfl) rfl⟩ <|
  gok_cons ⟨ok37 fuel, enters_of Try.func37 (by kernel_rfl) rfl⟩ <|
  gok_cons ⟨ok38 fuel, enters_of Try.func38 (by kernel_rfl) rfl⟩ <|
  gok_nil
theorem fok8 (fuel : Nat) : FnOK Try.prog 8 (evalFn tab (G8 fuel) (J8 fuel) kp8 fuel Try.f8) :=
  fn_ok tab_ok (hG8 fuel) mixed Try.func8 (c := (Try.f8.body).getD .skip) rfl (fun q hq => by
    rw [(by kernel_rfl : obl (J8 fuel) ((Try.f8.body).getD .skip) = [])] at hq
    cases hq)
def mt8 : List Ev.SV → List Ev.Ob → Bool := fun args objs => match args, objs with
  | [.agg [.int .i64 _, .int .i64 _, .int .i64 _, .bool _, .int .i64 _], .c (.int .i64 _)], [] => true
  | _, _ => false
def spg8 (F : YF8) : Ev.Spec := fun args objs k => match args, objs with
  | [.agg [.int .i64 x0, .int .i64 x1, .int .i64 x2, .bool x3, .int .i64 x4], .c (.int .i64 x5)], [] => bif true then F x0 x1 x2 x3 x4 x5 (fun r => match r with | r0 => k (.c (.bool r0), [])) else none
  | _, _ => none
def spec8 (fuel : Nat) : Ev.Spec := spg8 (F_law07_GenericOptions fuel)
theorem ok8 (fuel : Nat) : FnOK Try.prog 8 (spec8 fuel) := by
  intro args objs kk r h
  unfold spec8 spg8 at h
  split at h
  · obtain ⟨hb, h⟩ := cond_some' h
    simp only [Bool.and_eq_true, Nat.beq_eq, decide_eq_true_eq] at hb
    clear hb
    exact fok8 fuel _ _ kk r ((F8_eq fuel _ _ _ _ _ _ kk).trans h)
  · cases h
end Go.Proofs.Ytajidgilfkineaa
