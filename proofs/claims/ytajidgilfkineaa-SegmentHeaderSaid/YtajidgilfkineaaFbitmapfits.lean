/- incunable/bitmap.fits: its typed text, and that the machine does it. -/
import Derived.Test.YtajidgilfkineaaEvU
set_option linter.unusedVariables false
set_option linter.unusedSimpArgs false
set_option maxRecDepth 100000
namespace Go.Proofs.Ytajidgilfkineaa
open Go Ev
def kp107 (i : Nat) : Option (List Nat) := Ev.look i []
def Gg107 (f : Nat) : Option Ev.Spec := Ev.look f []
def G107 (fuel : Nat) : Nat → Option Ev.Spec := Gg107
def J107 (fuel : Nat) (i : Nat) : Option Ev.Blk := Ev.look i []
def F_bitmap_fits (fuel : Nat) (x0 : Int) (x1 : Int) (k0 : (Bool) → Option Ans) : Option Ans :=
  bif Decidable.decide (x0 ≥ (0 : Int)) then
   bif Decidable.decide (x1 ≥ (0 : Int)) then
    bif Decidable.decide (x0 ≤ (200 : Int)) then
     bif Decidable.decide (x1 ≤ (200 : Int)) then
      k0 (Decidable.decide (Go.IntKind.i64.wrap (x0 * x1) ≤ (8192 : Int)))
     else
      k0 Bool.false
    else
     k0 Bool.false
   else
    k0 Bool.false
  else
   k0 Bool.false
abbrev YF107 : Type := (Int) → (Int) → ((Bool) → Option Ans) → Option Ans
theorem F107_eq (fuel : Nat) (x0 : Int) (x1 : Int) (k : Ev.Cont) : evalFn tab (G107 fuel) (J107 fuel) kp107 fuel Try.f107 [.c (.int .i64 x0), .c (.int .i64 x1)] [] k = F_bitmap_fits fuel x0 x1 (fun r => match r with | r0 => k (.c (.bool r0), [])) := by
  kernel_rfl
theorem hG107 (fuel : Nat) : GOK Try.prog (G107 fuel) :=
  gok_nil
theorem fok107 (fuel : Nat) : FnOK Try.prog 107 (evalFn tab (G107 fuel) (J107 fuel) kp107 fuel Try.f107) :=
  fn_ok tab_ok (hG107 fuel) mixed Try.func107 (c := (Try.f107.body).getD .skip) rfl (fun q hq => by
    rw [(by kernel_rfl : obl (J107 fuel) ((Try.f107.body).getD .skip) = [])] at hq
    cases hq)
def mt107 : List Ev.SV → List Ev.Ob → Bool := fun args objs => match args, objs with
  | [.c (.int .i64 _), .c (.int .i64 _)], [] => true
  | _, _ => false
def spg107 (F : YF107) : Ev.Spec := fun args objs k => match args, objs with
  | [.c (.int .i64 x0), .c (.int .i64 x1)], [] => bif true then F x0 x1 (fun r => match r with | r0 => k (.c (.bool r0), [])) else none
  | _, _ => none
def spec107 (fuel : Nat) : Ev.Spec := spg107 (F_bitmap_fits fuel)
theorem ok107 (fuel : Nat) : FnOK Try.prog 107 (spec107 fuel) := by
  intro args objs kk r h
  unfold spec107 spg107 at h
  split at h
  · obtain ⟨hb, h⟩ := cond_some' h
    simp only [Bool.and_eq_true, Nat.beq_eq, decide_eq_true_eq] at hb
    clear hb
    exact fok107 fuel _ _ kk r ((F107_eq fuel _ _ kk).trans h)
  · cases h
end Go.Proofs.Ytajidgilfkineaa
