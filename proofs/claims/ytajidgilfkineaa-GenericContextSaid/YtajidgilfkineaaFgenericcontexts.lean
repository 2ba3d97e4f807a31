/- incunable/generic.contexts: its typed text, and that the machine does it. -/
import Derived.Test.YtajidgilfkineaaEvU
import Derived.Test.YtajidgilfkineaaFgenericpixels
set_option linter.unusedVariables false
set_option linter.unusedSimpArgs false
set_option maxRecDepth 100000
namespace Go.Proofs.Ytajidgilfkineaa
open Go Ev
def kp73 (i : Nat) : Option (List Nat) := Ev.look i []
def Gg73 (f108 : YF108) (f : Nat) : Option Ev.Spec := Ev.look f [(108, spg108 f108)]
def G73 (fuel : Nat) : Nat → Option Ev.Spec := Gg73 (F_generic_pixels fuel)
def J73 (fuel : Nat) (i : Nat) : Option Ev.Blk := Ev.look i []
def F_generic_contexts (fuel : Nat) (x0 : Int) (x1 : Int) (x2 : Int) (x3 : Bool) (x4 : Int) (k0 : (Int) → Option Ans) : Option Ans :=
  (F_generic_pixels fuel (x0)
    (fun y2 =>
      k0 (Ev.ishl Go.IntKind.i64 (2 : Int) (↑y2.length : Int))))
abbrev YF73 : Type := (Int) → (Int) → (Int) → (Bool) → (Int) → ((Int) → Option Ans) → Option Ans
theorem F73_eqg (fuel : Nat) (f108 : YF108) (x0 : Int) (x1 : Int) (x2 : Int) (x3 : Bool) (x4 : Int) (k : Ev.Cont) : evalFn tab (Gg73 f108) (J73 fuel) kp73 fuel Try.f73 [.agg [.int .i64 x0, .int .i64 x1, .int .i64 x2, .bool x3, .int .i64 x4]] [] k = (fun  (k0 : (Int) → Option Ans) =>
  (f108 (x0)
    (fun y2 =>
      k0 (Ev.ishl Go.IntKind.i64 (2 : Int) (↑y2.length : Int))))) (fun r => match r with | r0 => k (.c (.int .i64 r0), [])) := by
  kernel_rfl
theorem F73_eq (fuel : Nat) (x0 : Int) (x1 : Int) (x2 : Int) (x3 : Bool) (x4 : Int) (k : Ev.Cont) : evalFn tab (G73 fuel) (J73 fuel) kp73 fuel Try.f73 [.agg [.int .i64 x0, .int .i64 x1, .int .i64 x2, .bool x3, .int .i64 x4]] [] k = F_generic_contexts fuel x0 x1 x2 x3 x4 (fun r => match r with | r0 => k (.c (.int .i64 r0), [])) :=
  F73_eqg fuel (F_generic_pixels fuel) x0 x1 x2 x3 x4 k
theorem hG73 (fuel : Nat) : GOK Try.prog (G73 fuel) :=
  gok_cons ⟨ok108 fuel, enters_of Try.func108 (by kernel_rfl) rfl⟩ <|
  gok_nil
theorem fok73 (fuel : Nat) : FnOK Try.prog 73 (evalFn tab (G73 fuel) (J73 fuel) kp73 fuel Try.f73) :=
  fn_ok tab_ok (hG73 fuel) mixed Try.func73 (c := (Try.f73.body).getD .skip) rfl (fun q hq => by
    rw [(by kernel_rfl : obl (J73 fuel) ((Try.f73.body).getD .skip) = [])] at hq
    cases hq)
def mt73 : List Ev.SV → List Ev.Ob → Bool := fun args objs => match args, objs with
  | [.agg [.int .i64 _, .int .i64 _, .int .i64 _, .bool _, .int .i64 _]], [] => true
  | _, _ => false
def spg73 (F : YF73) : Ev.Spec := fun args objs k => match args, objs with
  | [.agg [.int .i64 x0, .int .i64 x1, .int .i64 x2, .bool x3, .int .i64 x4]], [] => bif true then F x0 x1 x2 x3 x4 (fun r => match r with | r0 => k (.c (.int .i64 r0), [])) else none
  | _, _ => none
def spec73 (fuel : Nat) : Ev.Spec := spg73 (F_generic_contexts fuel)
theorem ok73 (fuel : Nat) : FnOK Try.prog 73 (spec73 fuel) := by
  intro args objs kk r h
  unfold spec73 spg73 at h
  split at h
  · obtain ⟨hb, h⟩ := cond_some' h
    simp only [Bool.and_eq_true, Nat.beq_eq, decide_eq_true_eq] at hb
    clear hb
    exact fok73 fuel _ _ kk r ((F73_eq fuel _ _ _ _ _ kk).trans h)
  · cases h
end Go.Proofs.Ytajidgilfkineaa
