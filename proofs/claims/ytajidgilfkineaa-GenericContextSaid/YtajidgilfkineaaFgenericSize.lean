/- incunable/generic.Size: its typed text, and that the machine does it. -/
import Derived.Test.YtajidgilfkineaaEvU
import Derived.Test.YtajidgilfkineaaFgenericValid
import Derived.Test.YtajidgilfkineaaFgenericcontexts
set_option linter.unusedVariables false
set_option linter.unusedSimpArgs false
set_option maxRecDepth 100000
namespace Go.Proofs.Ytajidgilfkineaa
open Go Ev
def kp35 (i : Nat) : Option (List Nat) := Ev.look i []
def Gg35 (f37 : YF37) (f73 : YF73) (f : Nat) : Option Ev.Spec := Ev.look f [(37, spg37 f37), (73, spg73 f73)]
def G35 (fuel : Nat) : Nat → Option Ev.Spec := Gg35 (F_generic_Valid fuel) (F_generic_contexts fuel)
def J35 (fuel : Nat) (i : Nat) : Option Ev.Blk := Ev.look i []
def F_generic_Size (fuel : Nat) (x0 : Int) (x1 : Int) (x2 : Int) (x3 : Bool) (x4 : Int) (k0 : (Int × Int) → Option Ans) : Option Ans :=
  (F_generic_Valid fuel (x0) (x1) (x2) (x3) (x4)
    (fun y2 =>
      bif !y2 then
       k0 ((0 : Int), (2 : Int))
      else
       (F_generic_contexts fuel (x0) (x1) (x2) (x3) (x4)
         (fun y7 =>
           k0 (Go.IntKind.i64.wrap (y7 + (1 : Int)), (0 : Int))))))
abbrev YF35 : Type := (Int) → (Int) → (Int) → (Bool) → (Int) → ((Int × Int) → Option Ans) → Option Ans
theorem F35_eqg (fuel : Nat) (f37 : YF37) (f73 : YF73) (x0 : Int) (x1 : Int) (x2 : Int) (x3 : Bool) (x4 : Int) (k : Ev.Cont) : evalFn tab (Gg35 f37 f73) (J35 fuel) kp35 fuel Try.f35 [.agg [.int .i64 x0, .int .i64 x1, .int .i64 x2, .bool x3, .int .i64 x4]] [] k = (fun  (k0 : (Int × Int) → Option Ans) =>
  (f37 (x0) (x1) (x2) (x3) (x4)
    (fun y2 =>
      bif !y2 then
       k0 ((0 : Int), (2 : Int))
      else
       (f73 (x0) (x1) (x2) (x3) (x4)
         (fun y7 =>
           k0 (Go.IntKind.i64.wrap (y7 + (1 : Int)), (0 : Int))))))) (fun r => match r with | (r0, r1) => k (.tup [(false, [.int .i64 r0]), (false, [.int .i64 r1])], [])) := by
  kernel_rfl
theorem F35_eq (fuel : Nat) (x0 : Int) (x1 : Int) (x2 : Int) (x3 : Bool) (x4 : Int) (k : Ev.Cont) : evalFn tab (G35 fuel) (J35 fuel) kp35 fuel Try.f35 [.agg [.int .i64 x0, .int .i64 x1, .int .i64 x2, .bool x3, .int .i64 x4]] [] k = F_generic_Size fuel x0 x1 x2 x3 x4 (fun r => match r with | (r0, r1) => k (.tup [(false, [.int .i64 r0]), (false, [.int .i64 r1])], [])) :=
  F35_eqg fuel (F_generic_Valid fuel) (F_generic_contexts fuel) x0 x1 x2 x3 x4 k
theorem hG35 (fuel : Nat) : GOK Try.prog (G35 fuel) :=
  gok_cons ⟨ok37 fuel, enters_of Try.func37 (by kernel_rfl) rfl⟩ <|
  gok_cons ⟨ok73 fuel, enters_of Try.func73 (by kernel_rfl) rfl⟩ <|
  gok_nil
theorem fok35 (fuel : Nat) : FnOK Try.prog 35 (evalFn tab (G35 fuel) (J35 fuel) kp35 fuel Try.f35) :=
  fn_ok tab_ok (hG35 fuel) mixed Try.func35 (c := (Try.f35.body).getD .skip) rfl (fun q hq => by
    rw [(by kernel_rfl : obl (J35 fuel) ((Try.f35.body).getD .skip) = [])] at hq
    cases hq)
def mt35 : List Ev.SV → List Ev.Ob → Bool := fun args objs => match args, objs with
  | [.agg [.int .i64 _, .int .i64 _, .int .i64 _, .bool _, .int .i64 _]], [] => true
  | _, _ => false
def spg35 (F : YF35) : Ev.Spec := fun args objs k => match args, objs with
  | [.agg [.int .i64 x0, .int .i64 x1, .int .i64 x2, .bool x3, .int .i64 x4]], [] => bif true then F x0 x1 x2 x3 x4 (fun r => match r with | (r0, r1) => k (.tup [(false, [.int .i64 r0]), (false, [.int .i64 r1])], [])) else none
  | _, _ => none
def spec35 (fuel : Nat) : Ev.Spec := spg35 (F_generic_Size fuel)
theorem ok35 (fuel : Nat) : FnOK Try.prog 35 (spec35 fuel) := by
  intro args objs kk r h
  unfold spec35 spg35 at h
  split at h
  · obtain ⟨hb, h⟩ := cond_some' h
    simp only [Bool.and_eq_true, Nat.beq_eq, decide_eq_true_eq] at hb
    clear hb
    exact fok35 fuel _ _ kk r ((F35_eq fuel _ _ _ _ _ kk).trans h)
  · cases h
end Go.Proofs.Ytajidgilfkineaa
