/- slices.ContainsFunc[[]int,int]: its typed text, and that the machine does it. -/
import Derived.Test.YtdhkpodmlfmnpaaEvU
import Derived.Test.YtdhkpodmlfmnpaaF101
set_option linter.unusedVariables false
set_option linter.unusedSimpArgs false
set_option maxRecDepth 100000
namespace Go.Proofs.Ytdhkpodmlfmnpaa
open Go Ev
def kp57 (i : Nat) : Option (List Nat) := Ev.look i []
def G57 (fuel : Nat) (f : Nat) : Option Ev.Spec := Ev.look f [(101, spec101 fuel)]
def J57 (fuel : Nat) (i : Nat) : Option Ev.Blk := Ev.look i []
def F57 (fuel : Nat) (x0 : (List Int)) (x1 : Int) (k0 : (Bool × Int) → Option Ans) : Option Ans :=
  (F101 fuel (x0) (x1)
    (fun (y2_0, y2_1) =>
      k0 (Decidable.decide (y2_0 ≥ (0 : Int)), y2_1)))
theorem F57_eq (fuel : Nat) (x0 : (List Int)) (x1 : Int) (k : Ev.Cont) : evalFn tab (G57 fuel) (J57 fuel) kp57 fuel Try.f57 [.c (.sl (.int .i64) x0), .c (.clo 58 [0])] [.cells 3 [.int .i64 x1]] k = F57 fuel x0 x1 (fun r => match r with | (r0, r1) => k (.c (.bool r0), [.cells 3 [.int .i64 r1]])) := by
  kernel_rfl
theorem hG57 (fuel : Nat) : GOK Try.prog (G57 fuel) :=
  gok_cons ⟨ok101 fuel, enters_of Try.func101 (by kernel_rfl) rfl⟩ <|
  gok_nil
theorem fok57 (fuel : Nat) : FnOK Try.prog 57 (evalFn tab (G57 fuel) (J57 fuel) kp57 fuel Try.f57) :=
  fn_ok tab_ok (hG57 fuel) mixed Try.func57 (c := (Try.f57.body).getD .skip) rfl (fun q hq => by
    rw [(by kernel_rfl : obl (J57 fuel) ((Try.f57.body).getD .skip) = [])] at hq
    cases hq)
def spec57 (fuel : Nat) : Ev.Spec := fun args objs k => match args, objs with
  | [.c (.sl (.int .i64) x0), .c (.clo q0 [q1])], [.cells q2 [.int .i64 x1]] => bif Nat.beq q0 58 && Nat.beq q1 0 && Nat.beq q2 3 then F57 fuel x0 x1 (fun r => match r with | (r0, r1) => k (.c (.bool r0), [.cells 3 [.int .i64 r1]])) else none
  | _, _ => none
theorem ok57 (fuel : Nat) : FnOK Try.prog 57 (spec57 fuel) := by
  intro args objs kk r h
  unfold spec57 at h
  split at h
  · obtain ⟨hb, h⟩ := cond_some' h
    simp only [Bool.and_eq_true, Nat.beq_eq] at hb
    obtain ⟨⟨rfl, rfl⟩, rfl⟩ := hb
    exact fok57 fuel _ _ kk r ((F57_eq fuel _ _ kk).trans h)
  · cases h
end Go.Proofs.Ytdhkpodmlfmnpaa
