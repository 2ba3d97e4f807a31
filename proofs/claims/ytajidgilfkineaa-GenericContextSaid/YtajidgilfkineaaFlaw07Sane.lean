/- incunable/incunablelaw07.Sane: its typed text, and that the machine does it. -/
import Derived.Test.YtajidgilfkineaaEvU
import Derived.Test.YtajidgilfkineaaFgenericContext
import Derived.Test.YtajidgilfkineaaFgenericSize
set_option linter.unusedVariables false
set_option linter.unusedSimpArgs false
set_option maxRecDepth 100000
namespace Go.Proofs.Ytajidgilfkineaa
open Go Ev
def kp30 (i : Nat) : Option (List Nat) := Ev.look i []
def Gg30 (f31 : YF31) (f35 : YF35) (f : Nat) : Option Ev.Spec := Ev.look f [(31, spg31 f31), (35, spg35 f35)]
def G30 (fuel : Nat) : Nat → Option Ev.Spec := Gg30 (F_generic_Context fuel) (F_generic_Size fuel)
def J30 (fuel : Nat) (i : Nat) : Option Ev.Blk := Ev.look i []
def F_law07_Sane (fuel : Nat)  (k0 : (Bool) → Option Ans) : Option Ans :=
  (F_generic_Size fuel ((3 : Int)) ((2 : Int)) ((-1 : Int)) (Bool.false) ((0 : Int))
    (fun (y2_0, y2_1) =>
      (F_generic_Context fuel ((3 : Int)) ((-2 : Int)) ((0 : Int)) (Bool.false) ((0 : Int)) ((4 : Int)) ((1 : Int)) ([(1 : Int), (0 : Int), (1 : Int), (1 : Int)]) ((2 : Int)) ((0 : Int))
        (fun (y6_0, y6_1) =>
          bif y2_1 == (0 : Int) then
           bif y2_0 == (33 : Int) then
            bif y6_1 == (0 : Int) then
             k0 (y6_0 == (1 : Int))
            else
             k0 Bool.false
           else
            k0 Bool.false
          else
           k0 Bool.false))))
abbrev YF30 : Type := ((Bool) → Option Ans) → Option Ans
theorem F30_eqg (fuel : Nat) (f31 : YF31) (f35 : YF35)  (k : Ev.Cont) : evalFn tab (Gg30 f31 f35) (J30 fuel) kp30 fuel Try.f30 [] [] k = (fun  (k0 : (Bool) → Option Ans) =>
  (f35 ((3 : Int)) ((2 : Int)) ((-1 : Int)) (Bool.false) ((0 : Int))
    (fun (y2_0, y2_1) =>
      (f31 ((3 : Int)) ((-2 : Int)) ((0 : Int)) (Bool.false) ((0 : Int)) ((4 : Int)) ((1 : Int)) ([(1 : Int), (0 : Int), (1 : Int), (1 : Int)]) ((2 : Int)) ((0 : Int))
        (fun (y6_0, y6_1) =>
          bif y2_1 == (0 : Int) then
           bif y2_0 == (33 : Int) then
            bif y6_1 == (0 : Int) then
             k0 (y6_0 == (1 : Int))
            else
             k0 Bool.false
           else
            k0 Bool.false
          else
           k0 Bool.false))))) (fun r => match r with | r0 => k (.c (.bool r0), [])) := by
  kernel_rfl
theorem F30_eq (fuel : Nat)  (k : Ev.Cont) : evalFn tab (G30 fuel) (J30 fuel) kp30 fuel Try.f30 [] [] k = F_law07_Sane fuel  (fun r => match r with | r0 => k (.c (.bool r0), [])) :=
  F30_eqg fuel (F_generic_Context fuel) (F_generic_Size fuel)  k
theorem hG30 (fuel : Nat) : GOK Try.prog (G30 fuel) :=
  gok_cons ⟨ok31 fuel, enters_of Try.func31 (by kernel_rfl) rfl⟩ <|
  gok_cons ⟨ok35 fuel, enters_of Try.func35 (by kernel_rfl) rfl⟩ <|
  gok_nil
theorem fok30 (fuel : Nat) : FnOK Try.prog 30 (evalFn tab (G30 fuel) (J30 fuel) kp30 fuel Try.f30) :=
  fn_ok tab_ok (hG30 fuel) mixed Try.func30 (c := (Try.f30.body).getD .skip) rfl (fun q hq => by
    rw [(by kernel_rfl : obl (J30 fuel) ((Try.f30.body).getD .skip) = [])] at hq
    cases hq)
def mt30 : List Ev.SV → List Ev.Ob → Bool := fun args objs => match args, objs with
  | [], [] => true
  | _, _ => false
def spg30 (F : YF30) : Ev.Spec := fun args objs k => match args, objs with
  | [], [] => bif true then F  (fun r => match r with | r0 => k (.c (.bool r0), [])) else none
  | _, _ => none
def spec30 (fuel : Nat) : Ev.Spec := spg30 (F_law07_Sane fuel)
theorem ok30 (fuel : Nat) : FnOK Try.prog 30 (spec30 fuel) := by
  intro args objs kk r h
  unfold spec30 spg30 at h
  split at h
  · obtain ⟨hb, h⟩ := cond_some' h
    simp only [Bool.and_eq_true, Nat.beq_eq, decide_eq_true_eq] at hb
    clear hb
    exact fok30 fuel _ _ kk r ((F30_eq fuel kk).trans h)
  · cases h
end Go.Proofs.Ytajidgilfkineaa
