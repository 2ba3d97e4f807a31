/- (*incunable/generic.plane).at: its typed text, and that the machine does it. -/
import Derived.Test.YtajidgilfkineaaEvU
set_option linter.unusedVariables false
set_option linter.unusedSimpArgs false
set_option maxRecDepth 100000
namespace Go.Proofs.Ytajidgilfkineaa
open Go Ev
def kp109_a34 (i : Nat) : Option (List Nat) := Ev.look i []
def Gg109_a34 (f : Nat) : Option Ev.Spec := Ev.look f []
def G109_a34 (fuel : Nat) : Nat → Option Ev.Spec := Gg109_a34
def J109_a34 (fuel : Nat) (i : Nat) : Option Ev.Blk := Ev.look i []
def F_generic_plane_at_a34 (fuel : Nat) (x0 : Int) (x1 : Int) (x2 : Int) (x3 : Int) (x4 : (List Int)) (x5 : (List (Int × Int))) (k0 : (Int × Int × Int × (List Int) × (List (Int × Int))) → Option Ans) : Option Ans :=
  bif Decidable.decide (x0 < (0 : Int)) then
   k0 ((0 : Int), x2, x3, x4, x5)
  else
   bif Decidable.decide (x1 < (0 : Int)) then
    k0 ((0 : Int), x2, x3, x4, x5)
   else
    bif Decidable.decide (x0 ≥ x2) then
     k0 ((0 : Int), x2, x3, x4, x5)
    else
     bif Decidable.decide (x1 ≥ x3) then
      k0 ((0 : Int), x2, x3, x4, x5)
     else
      both (bif Decidable.decide ((0 : Int) ≤ Go.IntKind.i64.wrap (Go.IntKind.i64.wrap (x1 * x2) + x0) ∧ Go.IntKind.i64.wrap (Go.IntKind.i64.wrap (x1 * x2) + x0) < (↑x4.length : Int)) then
        k0 (x4.getD (Go.IntKind.i64.wrap (Go.IntKind.i64.wrap (x1 * x2) + x0)).toNat (0 : Int), x2, x3, x4, x5)
        else none)
       (bif Decidable.decide ((0 : Int) ≤ Go.IntKind.i64.wrap (Go.IntKind.i64.wrap (x1 * x2) + x0) ∧ Go.IntKind.i64.wrap (Go.IntKind.i64.wrap (x1 * x2) + x0) < (↑x4.length : Int)) then
        k0 (x4.getD (Go.IntKind.i64.wrap (Go.IntKind.i64.wrap (x1 * x2) + x0)).toNat (0 : Int), x2, x3, x4, x5)
        else none)
abbrev YF109_a34 : Type := (Int) → (Int) → (Int) → (Int) → ((List Int)) → ((List (Int × Int))) → ((Int × Int × Int × (List Int) × (List (Int × Int))) → Option Ans) → Option Ans
theorem F109_a34_eq (fuel : Nat) (x0 : Int) (x1 : Int) (x2 : Int) (x3 : Int) (x4 : (List Int)) (x5 : (List (Int × Int))) (k : Ev.Cont) : evalFn tab (G109_a34 fuel) (J109_a34 fuel) kp109_a34 fuel Try.f109 [.c (.ptr 0 0), .c (.int .i64 x0), .c (.int .i64 x1)] [.cells 93 [.int .i64 x2, .int .i64 x3, .sl (.int .u8) x4, .own 1], .vec 47 (.pair (.int .i64) (.int .i64)) x5 false] k = F_generic_plane_at_a34 fuel x0 x1 x2 x3 x4 x5 (fun r => match r with | (r0, r1, r2, r3, r4) => k (.c (.int .u8 r0), [.cells 93 [.int .i64 r1, .int .i64 r2, .sl (.int .u8) r3, .own 1], .vec 47 (.pair (.int .i64) (.int .i64)) r4 false])) := by
  kernel_rfl
theorem hG109_a34 (fuel : Nat) : GOK Try.prog (G109_a34 fuel) :=
  gok_nil
theorem fok109_a34 (fuel : Nat) : FnOK Try.prog 109 (evalFn tab (G109_a34 fuel) (J109_a34 fuel) kp109_a34 fuel Try.f109) :=
  fn_ok tab_ok (hG109_a34 fuel) mixed Try.func109 (c := (Try.f109.body).getD .skip) rfl (fun q hq => by
    rw [(by kernel_rfl : obl (J109_a34 fuel) ((Try.f109.body).getD .skip) = [])] at hq
    cases hq)
def mt109_a34 : List Ev.SV → List Ev.Ob → Bool := fun args objs => match args, objs with
  | [.c (.ptr q0 q1), .c (.int .i64 _), .c (.int .i64 _)], [.cells q2 [.int .i64 _, .int .i64 _, .sl (.int .u8) _, .own q3], .vec q4 (.pair (.int .i64) (.int .i64)) _ false] => Nat.beq q0 0 && Nat.beq q1 0 && Nat.beq q2 93 && Nat.beq q3 1 && Nat.beq q4 47
  | _, _ => false
def spg109_a34 (F : YF109_a34) : Ev.Spec := fun args objs k => match args, objs with
  | [.c (.ptr q0 q1), .c (.int .i64 x0), .c (.int .i64 x1)], [.cells q2 [.int .i64 x2, .int .i64 x3, .sl (.int .u8) x4, .own q3], .vec q4 (.pair (.int .i64) (.int .i64)) x5 false] => bif Nat.beq q0 0 && Nat.beq q1 0 && Nat.beq q2 93 && Nat.beq q3 1 && Nat.beq q4 47 then F x0 x1 x2 x3 x4 x5 (fun r => match r with | (r0, r1, r2, r3, r4) => k (.c (.int .u8 r0), [.cells 93 [.int .i64 r1, .int .i64 r2, .sl (.int .u8) r3, .own 1], .vec 47 (.pair (.int .i64) (.int .i64)) r4 false])) else none
  | _, _ => none
def spec109_a34 (fuel : Nat) : Ev.Spec := spg109_a34 (F_generic_plane_at_a34 fuel)
theorem ok109_a34 (fuel : Nat) : FnOK Try.prog 109 (spec109_a34 fuel) := by
  intro args objs kk r h
  unfold spec109_a34 spg109_a34 at h
  split at h
  · obtain ⟨hb, h⟩ := cond_some' h
    simp only [Bool.and_eq_true, Nat.beq_eq, decide_eq_true_eq] at hb
    obtain ⟨⟨⟨⟨rfl, rfl⟩, rfl⟩, rfl⟩, rfl⟩ := hb
    exact fok109_a34 fuel _ _ kk r ((F109_a34_eq fuel _ _ _ _ _ _ kk).trans h)
  · cases h
end Go.Proofs.Ytajidgilfkineaa
