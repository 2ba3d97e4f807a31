/- incunable/incunableref07.Size: its typed text, and that the machine does it. -/
import Derived.Test.YtajidgilfkineaaEvU
import Derived.Test.YtajidgilfkineaaFref07Valid
import Derived.Test.YtajidgilfkineaaFref07pixels
set_option linter.unusedVariables false
set_option linter.unusedSimpArgs false
set_option maxRecDepth 100000
namespace Go.Proofs.Ytajidgilfkineaa
open Go Ev
def kp36 (i : Nat) : Option (List Nat) := Ev.look i []
def Gg36 (f38 : YF38) (f74 : YF74) (f : Nat) : Option Ev.Spec := Ev.look f [(38, spg38 f38), (74, spg74 f74)]
def G36 (fuel : Nat) : Nat → Option Ev.Spec := Gg36 (F_ref07_Valid fuel) (F_ref07_pixels fuel)
def J36 (fuel : Nat) (i : Nat) : Option Ev.Blk := Ev.look i []
def F_ref07_Size (fuel : Nat) (x0 : Int) (x1 : Int) (x2 : Int) (x3 : Bool) (x4 : Int) (k0 : (Int × Int) → Option Ans) : Option Ans :=
  (F_ref07_Valid fuel (x0) (x1) (x2) (x3) (x4)
    (fun y2 =>
      bif !y2 then
       k0 ((0 : Int), (2 : Int))
      else
       (F_ref07_pixels fuel (x0) (x1) (x2) (x3) (x4)
         (fun y7 =>
           k0 (Go.IntKind.i64.wrap (Ev.ishl Go.IntKind.i64 (1 : Int) (↑y7.length : Int) + (1 : Int)), (0 : Int))))))
abbrev YF36 : Type := (Int) → (Int) → (Int) → (Bool) → (Int) → ((Int × Int) → Option Ans) → Option Ans
theorem F36_eqg (fuel : Nat) (f38 : YF38) (f74 : YF74) (x0 : Int) (x1 : Int) (x2 : Int) (x3 : Bool) (x4 : Int) (k : Ev.Cont) : evalFn tab (Gg36 f38 f74) (J36 fuel) kp36 fuel Try.f36 [.agg [.int .i64 x0, .int .i64 x1, .int .i64 x2, .bool x3, .int .i64 x4]] [] k = (fun  (k0 : (Int × Int) → Option Ans) =>
  (f38 (x0) (x1) (x2) (x3) (x4)
    (fun y2 =>
      bif !y2 then
       k0 ((0 : Int), (2 : Int))
      else
       (f74 (x0) (x1) (x2) (x3) (x4)
         (fun y7 =>
           k0 (Go.IntKind.i64.wrap (Ev.ishl Go.IntKind.i64 (1 : Int) (↑y7.length : Int) + (1 : Int)), (0 : Int))))))) (fun r => match r with | (r0, r1) => k (.tup [(false, [.int .i64 r0]), (false, [.int .i64 r1])], [])) := by
  kernel_rfl
theorem F36_eq (fuel : Nat) (x0 : Int) (x1 : Int) (x2 : Int) (x3 : Bool) (x4 : Int) (k : Ev.Cont) : evalFn tab (G36 fuel) (J36 fuel) kp36 fuel Try.f36 [.agg [.int .i64 x0, .int .i64 x1, .int .i64 x2, .bool x3, .int .i64 x4]] [] k = F_ref07_Size fuel x0 x1 x2 x3 x4 (fun r => match r with | (r0, r1) => k (.tup [(false, [.int .i64 r0]), (false, [.int .i64 r1])], [])) :=
  F36_eqg fuel (F_ref07_Valid fuel) (F_ref07_pixels fuel) x0 x1 x2 x3 x4 k
theorem hG36 (fuel : Nat) : GOK Try.prog (G36 fuel) :=
  gok_cons ⟨ok38 fuel, enters_of Try.func38 (by kernel_rfl) rfl⟩ <|
  gok_cons ⟨ok74 fuel, enters_of Try.func74 (by kernel_rfl) rfl⟩ <|
  gok_nil
theorem fok36 (fuel : Nat) : FnOK Try.prog 36 (evalFn tab (G36 fuel) (J36 fuel) kp36 fuel Try.f36) :=
  fn_ok tab_ok (hG36 fuel) mixed Try.func36 (c := (Try.f36.body).getD .skip) rfl (fun q hq => by
    rw [(by kernel_rfl : obl (J36 fuel) ((Try.f36.body).getD .skip) = [])] at hq
    cases hq)
def mt36 : List Ev.SV → List Ev.Ob → Bool := fun args objs => match args, objs with
  | [.agg [.int .i64 _, .int .i64 _, .int .i64 _, .bool _, .int .i64 _]], [] => true
  | _, _ => false
def spg36 (F : YF36) : Ev.Spec := fun args objs k => match args, objs with
  | [.agg [.int .i64 x0, .int .i64 x1, .int .i64 x2, .bool x3, .int .i64 x4]], [] => bif true then F x0 x1 x2 x3 x4 (fun r => match r with | (r0, r1) => k (.tup [(false, [.int .i64 r0]), (false, [.int .i64 r1])], [])) else none
  | _, _ => none
def spec36 (fuel : Nat) : Ev.Spec := spg36 (F_ref07_Size fuel)
theorem ok36 (fuel : Nat) : FnOK Try.prog 36 (spec36 fuel) := by
  intro args objs kk r h
  unfold spec36 spg36 at h
  split at h
  · obtain ⟨hb, h⟩ := cond_some' h
    simp only [Bool.and_eq_true, Nat.beq_eq, decide_eq_true_eq] at hb
    clear hb
    exact fok36 fuel _ _ kk r ((F36_eq fuel _ _ _ _ _ kk).trans h)
  · cases h
end Go.Proofs.Ytajidgilfkineaa
