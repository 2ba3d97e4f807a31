/- slices.ContainsFunc[[]int,int]: its typed text, and that the machine does it. -/
import Derived.Test.YtajidgilfkineaaEvU
import Derived.Test.YtajidgilfkineaaFslicesIndexFuncintint69c
set_option linter.unusedVariables false
set_option linter.unusedSimpArgs false
set_option maxRecDepth 100000
namespace Go.Proofs.Ytajidgilfkineaa
open Go Ev
def kp57_69c (i : Nat) : Option (List Nat) := Ev.look i []
def Gg57_69c (f101_69c : YF101_69c) (f : Nat) : Option Ev.Spec := Ev.look f [(101, spg101_69c f101_69c)]
def G57_69c (fuel : Nat) : Nat → Option Ev.Spec := Gg57_69c (F_slices_IndexFunc_int_int_69c fuel)
def J57_69c (fuel : Nat) (i : Nat) : Option Ev.Blk := Ev.look i []
def F_slices_ContainsFunc_int_int_69c (fuel : Nat) (x0 : (List Int)) (x1 : Int) (k0 : (Bool × Int) → Option Ans) : Option Ans :=
  (F_slices_IndexFunc_int_int_69c fuel (x0) (x1)
    (fun (y2_0, y2_1) =>
      k0 (Decidable.decide (y2_0 ≥ (0 : Int)), y2_1)))
abbrev YF57_69c : Type := ((List Int)) → (Int) → ((Bool × Int) → Option Ans) → Option Ans
theorem F57_69c_eqg (fuel : Nat) (f101_69c : YF101_69c) (x0 : (List Int)) (x1 : Int) (k : Ev.Cont) : evalFn tab (Gg57_69c f101_69c) (J57_69c fuel) kp57_69c fuel Try.f57 [.c (.sl (.int .i64) x0), .c (.clo 58 [0])] [.cells 3 [.int .i64 x1]] k = (fun  (k0 : (Bool × Int) → Option Ans) =>
  (f101_69c (x0) (x1)
    (fun (y2_0, y2_1) =>
      k0 (Decidable.decide (y2_0 ≥ (0 : Int)), y2_1)))) (fun r => match r with | (r0, r1) => k (.c (.bool r0), [.cells 3 [.int .i64 r1]])) := by
  kernel_rfl
theorem F57_69c_eq (fuel : Nat) (x0 : (List Int)) (x1 : Int) (k : Ev.Cont) : evalFn tab (G57_69c fuel) (J57_69c fuel) kp57_69c fuel Try.f57 [.c (.sl (.int .i64) x0), .c (.clo 58 [0])] [.cells 3 [.int .i64 x1]] k = F_slices_ContainsFunc_int_int_69c fuel x0 x1 (fun r => match r with | (r0, r1) => k (.c (.bool r0), [.cells 3 [.int .i64 r1]])) :=
  F57_69c_eqg fuel (F_slices_IndexFunc_int_int_69c fuel) x0 x1 k
theorem hG57_69c (fuel : Nat) : GOK Try.prog (G57_69c fuel) :=
  gok_cons ⟨ok101_69c fuel, enters_of Try.func101 (by kernel_rfl) rfl⟩ <|
  gok_nil
theorem fok57_69c (fuel : Nat) : FnOK Try.prog 57 (evalFn tab (G57_69c fuel) (J57_69c fuel) kp57_69c fuel Try.f57) :=
  fn_ok tab_ok (hG57_69c fuel) mixed Try.func57 (c := (Try.f57.body).getD .skip) rfl (fun q hq => by
    rw [(by kernel_rfl : obl (J57_69c fuel) ((Try.f57.body).getD .skip) = [])] at hq
    cases hq)
def mt57_69c : List Ev.SV → List Ev.Ob → Bool := fun args objs => match args, objs with
  | [.c (.sl (.int .i64) _), .c (.clo q0 [q1])], [.cells q2 [.int .i64 _]] => Nat.beq q0 58 && Nat.beq q1 0 && Nat.beq q2 3
  | _, _ => false
def spg57_69c (F : YF57_69c) : Ev.Spec := fun args objs k => match args, objs with
  | [.c (.sl (.int .i64) x0), .c (.clo q0 [q1])], [.cells q2 [.int .i64 x1]] => bif Nat.beq q0 58 && Nat.beq q1 0 && Nat.beq q2 3 then F x0 x1 (fun r => match r with | (r0, r1) => k (.c (.bool r0), [.cells 3 [.int .i64 r1]])) else none
  | _, _ => none
def spec57_69c (fuel : Nat) : Ev.Spec := spg57_69c (F_slices_ContainsFunc_int_int_69c fuel)
theorem ok57_69c (fuel : Nat) : FnOK Try.prog 57 (spec57_69c fuel) := by
  intro args objs kk r h
  unfold spec57_69c spg57_69c at h
  split at h
  · obtain ⟨hb, h⟩ := cond_some' h
    simp only [Bool.and_eq_true, Nat.beq_eq, decide_eq_true_eq] at hb
    obtain ⟨⟨rfl, rfl⟩, rfl⟩ := hb
    exact fok57_69c fuel _ _ kk r ((F57_69c_eq fuel _ _ kk).trans h)
  · cases h
end Go.Proofs.Ytajidgilfkineaa
