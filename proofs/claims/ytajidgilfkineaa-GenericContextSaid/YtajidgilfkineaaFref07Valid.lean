/- incunable/incunableref07.Valid: its typed text, and that the machine does it. -/
import Derived.Test.YtajidgilfkineaaEvU
set_option linter.unusedVariables false
set_option linter.unusedSimpArgs false
set_option maxRecDepth 100000
namespace Go.Proofs.Ytajidgilfkineaa
open Go Ev
def kp38 (i : Nat) : Option (List Nat) := Ev.look i []
def Gg38 (f : Nat) : Option Ev.Spec := Ev.look f []
def G38 (fuel : Nat) : Nat → Option Ev.Spec := Gg38
def J38 (fuel : Nat) (i : Nat) : Option Ev.Blk := Ev.look i []
def F_ref07_Valid (fuel : Nat) (x0 : Int) (x1 : Int) (x2 : Int) (x3 : Bool) (x4 : Int) (k0 : (Bool) → Option Ans) : Option Ans :=
  bif Decidable.decide (x0 < (0 : Int)) then
   k0 Bool.false
  else
   bif Decidable.decide (x0 > (3 : Int)) then
    k0 Bool.false
   else
    bif Decidable.decide (x4 < (0 : Int)) then
     k0 Bool.false
    else
     bif Decidable.decide (x4 > (1 : Int)) then
      k0 Bool.false
     else
      bif Decidable.decide (x1 < (-8 : Int)) then
       k0 Bool.false
      else
       bif Decidable.decide (x1 > (8 : Int)) then
        k0 Bool.false
       else
        bif Decidable.decide (x2 < (-8 : Int)) then
         k0 Bool.false
        else
         bif Decidable.decide (x2 > (0 : Int)) then
          k0 Bool.false
         else
          bif Decidable.decide (x2 < (0 : Int)) then
           k0 Bool.true
          else
           k0 (Decidable.decide (x1 < (0 : Int)))
abbrev YF38 : Type := (Int) → (Int) → (Int) → (Bool) → (Int) → ((Bool) → Option Ans) → Option Ans
theorem F38_eq (fuel : Nat) (x0 : Int) (x1 : Int) (x2 : Int) (x3 : Bool) (x4 : Int) (k : Ev.Cont) : evalFn tab (G38 fuel) (J38 fuel) kp38 fuel Try.f38 [.agg [.int .i64 x0, .int .i64 x1, .int .i64 x2, .bool x3, .int .i64 x4]] [] k = F_ref07_Valid fuel x0 x1 x2 x3 x4 (fun r => match r with | r0 => k (.c (.bool r0), [])) := by
  kernel_rfl
theorem hG38 (fuel : Nat) : GOK Try.prog (G38 fuel) :=
  gok_nil
theorem fok38 (fuel : Nat) : FnOK Try.prog 38 (evalFn tab (G38 fuel) (J38 fuel) kp38 fuel Try.f38) :=
  fn_ok tab_ok (hG38 fuel) mixed Try.func38 (c := (Try.f38.body).getD .skip) rfl (fun q hq => by
    rw [(by kernel_rfl : obl (J38 fuel) ((Try.f38.body).getD .skip) = [])] at hq
    cases hq)
def mt38 : List Ev.SV → List Ev.Ob → Bool := fun args objs => match args, objs with
  | [.agg [.int .i64 _, .int .i64 _, .int .i64 _, .bool _, .int .i64 _]], [] => true
  | _, _ => false
def spg38 (F : YF38) : Ev.Spec := fun args objs k => match args, objs with
  | [.agg [.int .i64 x0, .int .i64 x1, .int .i64 x2, .bool x3, .int .i64 x4]], [] => bif true then F x0 x1 x2 x3 x4 (fun r => match r with | r0 => k (.c (.bool r0), [])) else none
  | _, _ => none
def spec38 (fuel : Nat) : Ev.Spec := spg38 (F_ref07_Valid fuel)
theorem ok38 (fuel : Nat) : FnOK Try.prog 38 (spec38 fuel) := by
  intro args objs kk r h
  unfold spec38 spg38 at h
  split at h
  · obtain ⟨hb, h⟩ := cond_some' h
    simp only [Bool.and_eq_true, Nat.beq_eq, decide_eq_true_eq] at hb
    clear hb
    exact fok38 fuel _ _ kk r ((F38_eq fuel _ _ _ _ _ kk).trans h)
  · cases h
end Go.Proofs.Ytajidgilfkineaa
