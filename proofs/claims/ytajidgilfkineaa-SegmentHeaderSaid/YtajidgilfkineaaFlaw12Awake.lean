/- incunable/incunablelaw12.Awake: its typed text, and that the machine does it. -/
import Derived.Test.YtajidgilfkineaaEvU
import Derived.Test.YtajidgilfkineaaFref02SameBytes
import Derived.Test.YtajidgilfkineaaFsegmentHeader
set_option linter.unusedVariables false
set_option linter.unusedSimpArgs false
set_option maxRecDepth 100000
namespace Go.Proofs.Ytajidgilfkineaa
open Go Ev
def kp40 (i : Nat) : Option (List Nat) := Ev.look i []
def Gg40 (f41 : YF41) (f45 : YF45) (f : Nat) : Option Ev.Spec := Ev.look f [(41, spg41 f41), (45, spg45 f45)]
def G40 (fuel : Nat) : Nat → Option Ev.Spec := Gg40 (F_segment_Header fuel) (F_ref02_SameBytes fuel)
def J40 (fuel : Nat) (i : Nat) : Option Ev.Blk := Ev.look i []
def F_law12_Awake (fuel : Nat)  (k0 : (Bool) → Option Ans) : Option Ans :=
  (F_segment_Header fuel ((3 : Int)) ((1 : Int)) ((1 : Int)) ([(0 : Int), (2 : Int)]) ([Bool.true, Bool.false, Bool.true]) ([])
    (fun (y2_0, y2_1) =>
      bif y2_0 == (0 : Int) then
       (F_ref02_SameBytes fuel (y2_1) ([(3 : Int), (17 : Int), (2 : Int), (3 : Int), (1 : Int), (160 : Int), (1 : Int), (0 : Int)])
         (fun y7 =>
           k0 y7))
      else
       k0 Bool.false))
abbrev YF40 : Type := ((Bool) → Option Ans) → Option Ans
theorem F40_eqg (fuel : Nat) (f41 : YF41) (f45 : YF45)  (k : Ev.Cont) : evalFn tab (Gg40 f41 f45) (J40 fuel) kp40 fuel Try.f40 [] [] k = (fun  (k0 : (Bool) → Option Ans) =>
  (f41 ((3 : Int)) ((1 : Int)) ((1 : Int)) ([(0 : Int), (2 : Int)]) ([Bool.true, Bool.false, Bool.true]) ([])
    (fun (y2_0, y2_1) =>
      bif y2_0 == (0 : Int) then
       (f45 (y2_1) ([(3 : Int), (17 : Int), (2 : Int), (3 : Int), (1 : Int), (160 : Int), (1 : Int), (0 : Int)])
         (fun y7 =>
           k0 y7))
      else
       k0 Bool.false))) (fun r => match r with | r0 => k (.c (.bool r0), [])) := by
  kernel_rfl
theorem F40_eq (fuel : Nat)  (k : Ev.Cont) : evalFn tab (G40 fuel) (J40 fuel) kp40 fuel Try.f40 [] [] k = F_law12_Awake fuel  (fun r => match r with | r0 => k (.c (.bool r0), [])) :=
  F40_eqg fuel (F_segment_Header fuel) (F_ref02_SameBytes fuel)  k
theorem hG40 (fuel : Nat) : GOK Try.prog (G40 fuel) :=
  gok_cons ⟨ok41 fuel, enters_of Try.func41 (by kernel_rfl) rfl⟩ <|
  gok_cons ⟨ok45 fuel, enters_of Try.func45 (by kernel_rfl) rfl⟩ <|
  gok_nil
theorem fok40 (fuel : Nat) : FnOK Try.prog 40 (evalFn tab (G40 fuel) (J40 fuel) kp40 fuel Try.f40) :=
  fn_ok tab_ok (hG40 fuel) mixed Try.func40 (c := (Try.f40.body).getD .skip) rfl (fun q hq => by
    rw [(by kernel_rfl : obl (J40 fuel) ((Try.f40.body).getD .skip) = [])] at hq
    cases hq)
def mt40 : List Ev.SV → List Ev.Ob → Bool := fun args objs => match args, objs with
  | [], [] => true
  | _, _ => false
def spg40 (F : YF40) : Ev.Spec := fun args objs k => match args, objs with
  | [], [] => bif true then F  (fun r => match r with | r0 => k (.c (.bool r0), [])) else none
  | _, _ => none
def spec40 (fuel : Nat) : Ev.Spec := spg40 (F_law12_Awake fuel)
theorem ok40 (fuel : Nat) : FnOK Try.prog 40 (spec40 fuel) := by
  intro args objs kk r h
  unfold spec40 spg40 at h
  split at h
  · obtain ⟨hb, h⟩ := cond_some' h
    simp only [Bool.and_eq_true, Nat.beq_eq, decide_eq_true_eq] at hb
    clear hb
    exact fok40 fuel _ _ kk r ((F40_eq fuel kk).trans h)
  · cases h
end Go.Proofs.Ytajidgilfkineaa
