/- What the functions that SymbolOrders reaches do: their typed texts, each with the proof that the machine does it. No condition. -/
import Derived.Test.YtmjeeaemmbkioaaGreatEvX
import Derived.Test.YtmjeeaemmbkioaaGreatFsSymbolOrders1
set_option linter.unusedVariables false
set_option linter.unusedSimpArgs false
set_option linter.unusedSectionVars false
set_option linter.unusedVariables false
set_option linter.unusedSimpArgs false
set_option maxRecDepth 100000
set_option maxHeartbeats 2000000
namespace Go.Proofs.YtmjeeaemmbkioaaGreat
open Go Ev
def kp163_a20 (i : Nat) : Option (List Nat) := Ev.look i [(200001, [0])]
noncomputable def Gg163_a20 (f : Nat) : Option Ev.Spec := Ev.look f []
noncomputable def G163_a20 (fuel : Nat) : Nat → Option Ev.Spec := Gg163_a20
noncomputable def J163_a20 (fuel : Nat) (i : Nat) : Option Ev.Blk := Ev.look i []
noncomputable def F_coder_interval_same_a20 (fuel : Nat) (x0 : Int) (x1 : Int) (x2 : Int) (x3 : Bool) (x4 : (List Int)) (x5 : (List Int)) (k0 : (Bool × Int × Int × Int × Bool × (List Int) × (List Int)) → Option Ans) : Option Ans :=
  k0 (Ev.ishr Go.IntKind.u64 x1 (24 : Int) == Ev.ishr Go.IntKind.u64 x2 (24 : Int), x0, x1, x2, x3, x4, x5)
abbrev YF163_a20 : Type := (Int) → (Int) → (Int) → (Bool) → ((List Int)) → ((List Int)) → ((Bool × Int × Int × Int × Bool × (List Int) × (List Int)) → Option Ans) → Option Ans
theorem F163_a20_eq (fuel : Nat) (x0 : Int) (x1 : Int) (x2 : Int) (x3 : Bool) (x4 : (List Int)) (x5 : (List Int)) (k : Ev.Cont) : evalFn tab (G163_a20 fuel) (J163_a20 fuel) kp163_a20 fuel Tryz.f163 [.c (.ptr 0 0)] [.cells 164 (.int .i64 x0 :: .own 1 :: .int .i64 2048 :: .int .i64 1792 :: .int .i64 1568 :: .int .i64 1372 :: .int .i64 1201 :: .int .i64 1051 :: .int .i64 920 :: .int .i64 805 :: .int .i64 705 :: .int .i64 617 :: .int .i64 540 :: .int .i64 473 :: .int .i64 414 :: .int .i64 363 :: .int .i64 318 :: .int .i64 279 :: .int .i64 245 :: .int .i64 215 :: .int .i64 189 :: .int .i64 166 :: .int .i64 146 :: .int .i64 128 :: .int .i64 112 :: .int .i64 98 :: .int .i64 86 :: .int .i64 76 :: .int .i64 67 :: .int .i64 59 :: .int .i64 52 :: .int .i64 46 :: .int .i64 41 :: .int .i64 36 :: .int .u64 x1 :: .int .u64 x2 :: .own 2 :: .bool x3 :: []), .vec 3 (.int .i64) x4 false, .vec 5 (.int .u8) x5 false] k = F_coder_interval_same_a20 fuel x0 x1 x2 x3 x4 x5 (fun r => match r with | (r0, r1, r2, r3, r4, r5, r6) => k (.c (.bool r0), [.cells 164 (.int .i64 r1 :: .own 1 :: .int .i64 2048 :: .int .i64 1792 :: .int .i64 1568 :: .int .i64 1372 :: .int .i64 1201 :: .int .i64 1051 :: .int .i64 920 :: .int .i64 805 :: .int .i64 705 :: .int .i64 617 :: .int .i64 540 :: .int .i64 473 :: .int .i64 414 :: .int .i64 363 :: .int .i64 318 :: .int .i64 279 :: .int .i64 245 :: .int .i64 215 :: .int .i64 189 :: .int .i64 166 :: .int .i64 146 :: .int .i64 128 :: .int .i64 112 :: .int .i64 98 :: .int .i64 86 :: .int .i64 76 :: .int .i64 67 :: .int .i64 59 :: .int .i64 52 :: .int .i64 46 :: .int .i64 41 :: .int .i64 36 :: .int .u64 r2 :: .int .u64 r3 :: .own 2 :: .bool r4 :: []), .vec 3 (.int .i64) r5 false, .vec 5 (.int .u8) r6 false])) := by
  kernel_rfl
theorem hG163_a20 (fuel : Nat) : GOK Tryz.prog (G163_a20 fuel) :=
  gok_nil
theorem fok163_a20 (fuel : Nat) : FnOK Tryz.prog 163 (evalFn tab (G163_a20 fuel) (J163_a20 fuel) kp163_a20 fuel Tryz.f163) :=
  fn_ok tab_ok (hG163_a20 fuel) mixed Tryz.func163 (c := (Tryz.f163.body).getD .skip) rfl (fun q hq => by
    rw [(by kernel_rfl : obl (J163_a20 fuel) ((Tryz.f163.body).getD .skip) = [])] at hq
    cases hq)
noncomputable def mt163_a20 : List Ev.SV → List Ev.Ob → Bool := fun args objs => match args, objs with
  | [.c (.ptr q0 q1)], [.cells q2 cs0, .vec q3 (.int .i64) _ false, .vec q4 (.int .u8) _ false] => (match splitRun 2 [(.i64, 2048), (.i64, 1792), (.i64, 1568), (.i64, 1372), (.i64, 1201), (.i64, 1051), (.i64, 920), (.i64, 805), (.i64, 705), (.i64, 617), (.i64, 540), (.i64, 473), (.i64, 414), (.i64, 363), (.i64, 318), (.i64, 279), (.i64, 245), (.i64, 215), (.i64, 189), (.i64, 166), (.i64, 146), (.i64, 128), (.i64, 112), (.i64, 98), (.i64, 86), (.i64, 76), (.i64, 67), (.i64, 59), (.i64, 52), (.i64, 46), (.i64, 41), (.i64, 36)] cs0 with | some ([.int .i64 _, .own q5], [.int .u64 _, .int .u64 _, .own q6, .bool _]) => Nat.beq q0 0 && Nat.beq q1 0 && Nat.beq q2 164 && Nat.beq q3 3 && Nat.beq q4 5 && Nat.beq q5 1 && Nat.beq q6 2 | _ => false)
  | _, _ => false
noncomputable def spg163_a20 (F : YF163_a20) : Ev.Spec := fun args objs k => match args, objs with
  | [.c (.ptr q0 q1)], [.cells q2 cs0, .vec q3 (.int .i64) x4 false, .vec q4 (.int .u8) x5 false] => (match splitRun 2 [(.i64, 2048), (.i64, 1792), (.i64, 1568), (.i64, 1372), (.i64, 1201), (.i64, 1051), (.i64, 920), (.i64, 805), (.i64, 705), (.i64, 617), (.i64, 540), (.i64, 473), (.i64, 414), (.i64, 363), (.i64, 318), (.i64, 279), (.i64, 245), (.i64, 215), (.i64, 189), (.i64, 166), (.i64, 146), (.i64, 128), (.i64, 112), (.i64, 98), (.i64, 86), (.i64, 76), (.i64, 67), (.i64, 59), (.i64, 52), (.i64, 46), (.i64, 41), (.i64, 36)] cs0 with | some ([.int .i64 x0, .own q5], [.int .u64 x1, .int .u64 x2, .own q6, .bool x3]) => bif Nat.beq q0 0 && Nat.beq q1 0 && Nat.beq q2 164 && Nat.beq q3 3 && Nat.beq q4 5 && Nat.beq q5 1 && Nat.beq q6 2 then F x0 x1 x2 x3 x4 x5 (fun r => match r with | (r0, r1, r2, r3, r4, r5, r6) => k (.c (.bool r0), [.cells 164 (.int .i64 r1 :: .own 1 :: .int .i64 2048 :: .int .i64 1792 :: .int .i64 1568 :: .int .i64 1372 :: .int .i64 1201 :: .int .i64 1051 :: .int .i64 920 :: .int .i64 805 :: .int .i64 705 :: .int .i64 617 :: .int .i64 540 :: .int .i64 473 :: .int .i64 414 :: .int .i64 363 :: .int .i64 318 :: .int .i64 279 :: .int .i64 245 :: .int .i64 215 :: .int .i64 189 :: .int .i64 166 :: .int .i64 146 :: .int .i64 128 :: .int .i64 112 :: .int .i64 98 :: .int .i64 86 :: .int .i64 76 :: .int .i64 67 :: .int .i64 59 :: .int .i64 52 :: .int .i64 46 :: .int .i64 41 :: .int .i64 36 :: .int .u64 r2 :: .int .u64 r3 :: .own 2 :: .bool r4 :: []), .vec 3 (.int .i64) r5 false, .vec 5 (.int .u8) r6 false])) else none | _ => none)
  | _, _ => none
noncomputable def spec163_a20 (fuel : Nat) : Ev.Spec := spg163_a20 (F_coder_interval_same_a20 fuel)
theorem ok163_a20 (fuel : Nat) : FnOK Tryz.prog 163 (spec163_a20 fuel) := by
  intro args objs kk r h
  unfold spec163_a20 spg163_a20 at h
  split at h
  · skip
    split at h
    rotate_left 1
    · cases h
    rename_i hsp
    have esp := splitRun_eq hsp
    subst esp
    obtain ⟨hb, h⟩ := cond_some' h
    simp only [Bool.and_eq_true, Nat.beq_eq, decide_eq_true_eq] at hb
    obtain ⟨⟨⟨⟨⟨⟨rfl, rfl⟩, rfl⟩, rfl⟩, rfl⟩, rfl⟩, rfl⟩ := hb
    exact fok163_a20 fuel _ _ kk r ((F163_a20_eq fuel _ _ _ _ _ _ kk).trans h)
  · cases h
end Go.Proofs.YtmjeeaemmbkioaaGreat

set_option linter.unusedVariables false
set_option linter.unusedSimpArgs false
set_option maxRecDepth 100000
set_option maxHeartbeats 2000000
namespace Go.Proofs.YtmjeeaemmbkioaaGreat
open Go Ev
def kp188 (i : Nat) : Option (List Nat) := Ev.look i []
noncomputable def Gg188 (f : Nat) : Option Ev.Spec := Ev.look f []
noncomputable def G188 (fuel : Nat) : Nat → Option Ev.Spec := Gg188
noncomputable def J188 (fuel : Nat) (i : Nat) : Option Ev.Blk := Ev.look i []
noncomputable def F_coder_next (fuel : Nat) (x0 : Int) (x1 : Int) (x2 : Int) (k0 : (Int) → Option Ans) : Option Ans :=
  bif x0 == (1 : Int) then
   bif Decidable.decide ((0 : Int) ≤ x2 ∧ x2 < (↑(2 : Nat) : Int)) then
   bif Decidable.decide (x2 = (↑(0 : Nat) : Int)) then
     bif Go.IntKind.i64.wrap (x1.tdiv (256 : Int)) == (255 : Int) then
      bif Decidable.decide ((0 : Int) ≤ x2 ∧ x2 < (↑(2 : Nat) : Int)) then
      bif Decidable.decide (x2 = (↑(0 : Nat) : Int)) then
        bif Decidable.decide ((0 : Int) ≤ x2 ∧ x2 < (↑(2 : Nat) : Int)) then
        bif Decidable.decide (x2 = (↑(0 : Nat) : Int)) then
          k0 (Go.IntKind.i64.wrap (Go.IntKind.i64.wrap ((256 : Int) * Go.IntKind.i64.wrap (Go.IntKind.i64.wrap ((Go.IntKind.i64.wrap (x1.tdiv (256 : Int))).tdiv (2 : Int)) + (1 : Int))) + Go.IntKind.i64.wrap ((x1.tmod (256 : Int)).tdiv (2 : Int))))
         else
          bif Decidable.decide (x2 = (↑(1 : Nat) : Int)) then
          k0 (Go.IntKind.i64.wrap (Go.IntKind.i64.wrap ((256 : Int) * Go.IntKind.i64.wrap ((Go.IntKind.i64.wrap (x1.tdiv (256 : Int))).tdiv (2 : Int))) + Go.IntKind.i64.wrap (Go.IntKind.i64.wrap ((Go.IntKind.i64.wrap (x1.tdiv (256 : Int))).tdiv (2 : Int)) + (1 : Int))))
          else none
        else none
       else
        bif Decidable.decide (x2 = (↑(1 : Nat) : Int)) then
        bif Decidable.decide ((0 : Int) ≤ x2 ∧ x2 < (↑(2 : Nat) : Int)) then
         bif Decidable.decide (x2 = (↑(0 : Nat) : Int)) then
           k0 (Go.IntKind.i64.wrap (Go.IntKind.i64.wrap ((256 : Int) * Go.IntKind.i64.wrap (Go.IntKind.i64.wrap ((x1.tmod (256 : Int)).tdiv (2 : Int)) + (1 : Int))) + Go.IntKind.i64.wrap ((x1.tmod (256 : Int)).tdiv (2 : Int))))
          else
           bif Decidable.decide (x2 = (↑(1 : Nat) : Int)) then
           k0 (Go.IntKind.i64.wrap (Go.IntKind.i64.wrap ((256 : Int) * Go.IntKind.i64.wrap ((Go.IntKind.i64.wrap (x1.tdiv (256 : Int))).tdiv (2 : Int))) + Go.IntKind.i64.wrap (Go.IntKind.i64.wrap ((x1.tmod (256 : Int)).tdiv (2 : Int)) + (1 : Int))))
           else none
         else none
        else none
      else none
     else
      bif Decidable.decide ((0 : Int) ≤ x2 ∧ x2 < (↑(2 : Nat) : Int)) then
      bif Decidable.decide (x2 = (↑(0 : Nat) : Int)) then
        bif Decidable.decide ((0 : Int) ≤ x2 ∧ x2 < (↑(2 : Nat) : Int)) then
        bif Decidable.decide (x2 = (↑(0 : Nat) : Int)) then
          k0 (Go.IntKind.i64.wrap (Go.IntKind.i64.wrap ((256 : Int) * Go.IntKind.i64.wrap (Go.IntKind.i64.wrap (x1.tdiv (256 : Int)) + (1 : Int))) + x1.tmod (256 : Int)))
         else
          bif Decidable.decide (x2 = (↑(1 : Nat) : Int)) then
          k0 (Go.IntKind.i64.wrap (Go.IntKind.i64.wrap ((256 : Int) * Go.IntKind.i64.wrap (x1.tdiv (256 : Int))) + Go.IntKind.i64.wrap (Go.IntKind.i64.wrap (x1.tdiv (256 : Int)) + (1 : Int))))
          else none
        else none
       else
        bif Decidable.decide (x2 = (↑(1 : Nat) : Int)) then
        bif Decidable.decide ((0 : Int) ≤ x2 ∧ x2 < (↑(2 : Nat) : Int)) then
         bif Decidable.decide (x2 = (↑(0 : Nat) : Int)) then
           k0 (Go.IntKind.i64.wrap (Go.IntKind.i64.wrap ((256 : Int) * Go.IntKind.i64.wrap (x1.tmod (256 : Int) + (1 : Int))) + x1.tmod (256 : Int)))
          else
           bif Decidable.decide (x2 = (↑(1 : Nat) : Int)) then
           k0 (Go.IntKind.i64.wrap (Go.IntKind.i64.wrap ((256 : Int) * Go.IntKind.i64.wrap (x1.tdiv (256 : Int))) + Go.IntKind.i64.wrap (x1.tmod (256 : Int) + (1 : Int))))
           else none
         else none
        else none
      else none
    else
     bif Decidable.decide (x2 = (↑(1 : Nat) : Int)) then
     bif x1.tmod (256 : Int) == (255 : Int) then
       bif Decidable.decide ((0 : Int) ≤ x2 ∧ x2 < (↑(2 : Nat) : Int)) then
       bif Decidable.decide (x2 = (↑(0 : Nat) : Int)) then
         bif Decidable.decide ((0 : Int) ≤ x2 ∧ x2 < (↑(2 : Nat) : Int)) then
         bif Decidable.decide (x2 = (↑(0 : Nat) : Int)) then
           k0 (Go.IntKind.i64.wrap (Go.IntKind.i64.wrap ((256 : Int) * Go.IntKind.i64.wrap (Go.IntKind.i64.wrap ((Go.IntKind.i64.wrap (x1.tdiv (256 : Int))).tdiv (2 : Int)) + (1 : Int))) + Go.IntKind.i64.wrap ((x1.tmod (256 : Int)).tdiv (2 : Int))))
          else
           bif Decidable.decide (x2 = (↑(1 : Nat) : Int)) then
           k0 (Go.IntKind.i64.wrap (Go.IntKind.i64.wrap ((256 : Int) * Go.IntKind.i64.wrap ((Go.IntKind.i64.wrap (x1.tdiv (256 : Int))).tdiv (2 : Int))) + Go.IntKind.i64.wrap (Go.IntKind.i64.wrap ((Go.IntKind.i64.wrap (x1.tdiv (256 : Int))).tdiv (2 : Int)) + (1 : Int))))
           else none
         else none
        else
         bif Decidable.decide (x2 = (↑(1 : Nat) : Int)) then
         bif Decidable.decide ((0 : Int) ≤ x2 ∧ x2 < (↑(2 : Nat) : Int)) then
          bif Decidable.decide (x2 = (↑(0 : Nat) : Int)) then
            k0 (Go.IntKind.i64.wrap (Go.IntKind.i64.wrap ((256 : Int) * Go.IntKind.i64.wrap (Go.IntKind.i64.wrap ((x1.tmod (256 : Int)).tdiv (2 : Int)) + (1 : Int))) + Go.IntKind.i64.wrap ((x1.tmod (256 : Int)).tdiv (2 : Int))))
           else
            bif Decidable.decide (x2 = (↑(1 : Nat) : Int)) then
            k0 (Go.IntKind.i64.wrap (Go.IntKind.i64.wrap ((256 : Int) * Go.IntKind.i64.wrap ((Go.IntKind.i64.wrap (x1.tdiv (256 : Int))).tdiv (2 : Int))) + Go.IntKind.i64.wrap (Go.IntKind.i64.wrap ((x1.tmod (256 : Int)).tdiv (2 : Int)) + (1 : Int))))
            else none
          else none
         else none
       else none
      else
       bif Decidable.decide ((0 : Int) ≤ x2 ∧ x2 < (↑(2 : Nat) : Int)) then
       bif Decidable.decide (x2 = (↑(0 : Nat) : Int)) then
         bif Decidable.decide ((0 : Int) ≤ x2 ∧ x2 < (↑(2 : Nat) : Int)) then
         bif Decidable.decide (x2 = (↑(0 : Nat) : Int)) then
           k0 (Go.IntKind.i64.wrap (Go.IntKind.i64.wrap ((256 : Int) * Go.IntKind.i64.wrap (Go.IntKind.i64.wrap (x1.tdiv (256 : Int)) + (1 : Int))) + x1.tmod (256 : Int)))
          else
           bif Decidable.decide (x2 = (↑(1 : Nat) : Int)) then
           k0 (Go.IntKind.i64.wrap (Go.IntKind.i64.wrap ((256 : Int) * Go.IntKind.i64.wrap (x1.tdiv (256 : Int))) + Go.IntKind.i64.wrap (Go.IntKind.i64.wrap (x1.tdiv (256 : Int)) + (1 : Int))))
           else none
         else none
        else
         bif Decidable.decide (x2 = (↑(1 : Nat) : Int)) then
         bif Decidable.decide ((0 : Int) ≤ x2 ∧ x2 < (↑(2 : Nat) : Int)) then
          bif Decidable.decide (x2 = (↑(0 : Nat) : Int)) then
            k0 (Go.IntKind.i64.wrap (Go.IntKind.i64.wrap ((256 : Int) * Go.IntKind.i64.wrap (x1.tmod (256 : Int) + (1 : Int))) + x1.tmod (256 : Int)))
           else
            bif Decidable.decide (x2 = (↑(1 : Nat) : Int)) then
            k0 (Go.IntKind.i64.wrap (Go.IntKind.i64.wrap ((256 : Int) * Go.IntKind.i64.wrap (x1.tdiv (256 : Int))) + Go.IntKind.i64.wrap (x1.tmod (256 : Int) + (1 : Int))))
            else none
          else none
         else none
       else none
     else none
   else none
  else
   bif x2 == Go.IntKind.i64.wrap (x1.tdiv (32 : Int)) then
    k0 (Go.IntKind.i64.wrap (Go.IntKind.i64.wrap ((32 : Int) * Go.IntKind.i64.wrap (x1.tdiv (32 : Int))) + bif Decidable.decide ((31 : Int) < Go.IntKind.i64.wrap (x1.tmod (32 : Int) + (1 : Int))) then (31 : Int) else Go.IntKind.i64.wrap (x1.tmod (32 : Int) + (1 : Int))))
   else
    bif x1.tmod (32 : Int) == (0 : Int) then
     k0 (Go.IntKind.i64.wrap (Go.IntKind.i64.wrap ((32 : Int) * x2) + x1.tmod (32 : Int)))
    else
     k0 (Go.IntKind.i64.wrap (Go.IntKind.i64.wrap ((32 : Int) * Go.IntKind.i64.wrap (x1.tdiv (32 : Int))) + Go.IntKind.i64.wrap (x1.tmod (32 : Int) - Go.IntKind.i64.wrap ((1 : Int) + Go.IntKind.i64.wrap ((x1.tmod (32 : Int)).tdiv (4 : Int))))))
abbrev YF188 : Type := (Int) → (Int) → (Int) → ((Int) → Option Ans) → Option Ans
theorem F188_eq (fuel : Nat) (x0 : Int) (x1 : Int) (x2 : Int) (k : Ev.Cont) : evalFn tab (G188 fuel) (J188 fuel) kp188 fuel Tryz.f188 [.c (.int .i64 x0), .c (.int .i64 x1), .c (.int .i64 x2)] [] k = F_coder_next fuel x0 x1 x2 (fun r => match r with | r0 => k (.c (.int .i64 r0), [])) := by
  kernel_rfl
theorem hG188 (fuel : Nat) : GOK Tryz.prog (G188 fuel) :=
  gok_nil
theorem fok188 (fuel : Nat) : FnOK Tryz.prog 188 (evalFn tab (G188 fuel) (J188 fuel) kp188 fuel Tryz.f188) :=
  fn_ok tab_ok (hG188 fuel) mixed Tryz.func188 (c := (Tryz.f188.body).getD .skip) rfl (fun q hq => by
    rw [(by kernel_rfl : obl (J188 fuel) ((Tryz.f188.body).getD .skip) = [])] at hq
    cases hq)
noncomputable def mt188 : List Ev.SV → List Ev.Ob → Bool := fun args objs => match args, objs with
  | [.c (.int .i64 _), .c (.int .i64 _), .c (.int .i64 _)], [] => true
  | _, _ => false
noncomputable def spg188 (F : YF188) : Ev.Spec := fun args objs k => match args, objs with
  | [.c (.int .i64 x0), .c (.int .i64 x1), .c (.int .i64 x2)], [] => bif true then F x0 x1 x2 (fun r => match r with | r0 => k (.c (.int .i64 r0), [])) else none
  | _, _ => none
noncomputable def spec188 (fuel : Nat) : Ev.Spec := spg188 (F_coder_next fuel)
theorem ok188 (fuel : Nat) : FnOK Tryz.prog 188 (spec188 fuel) := by
  intro args objs kk r h
  unfold spec188 spg188 at h
  split at h
  · skip
    obtain ⟨hb, h⟩ := cond_some' h
    simp only [Bool.and_eq_true, Nat.beq_eq, decide_eq_true_eq] at hb
    clear hb
    exact fok188 fuel _ _ kk r ((F188_eq fuel _ _ _ kk).trans h)
  · cases h
end Go.Proofs.YtmjeeaemmbkioaaGreat

set_option linter.unusedVariables false
set_option linter.unusedSimpArgs false
set_option maxRecDepth 100000
set_option maxHeartbeats 2000000
namespace Go.Proofs.YtmjeeaemmbkioaaGreat
open Go Ev
def kp161_546 (i : Nat) : Option (List Nat) := Ev.look i [(200003, [0])]
noncomputable def Gg161_546 (f188 : YF188) (f : Nat) : Option Ev.Spec := Ev.look f [(188, spg188 f188)]
noncomputable def G161_546 (fuel : Nat) : Nat → Option Ev.Spec := Gg161_546 (F_coder_next fuel)
noncomputable def J161_546 (fuel : Nat) (i : Nat) : Option Ev.Blk := Ev.look i []
noncomputable def F_coder_interval_take_546 (fuel : Nat) (x0 : Int) (x1 : Int) (x2 : Int) (x3 : Int) (x4 : Int) (x5 : Int) (x6 : Bool) (x7 : (List Int)) (x8 : (List Int)) (k0 : (Int × Int × Int × Bool × (List Int) × (List Int)) → Option Ans) : Option Ans :=
  bif x1 == (1 : Int) then
   bif Decidable.decide ((0 : Int) ≤ x0 ∧ x0 < (↑x7.length : Int)) then
   (F_coder_next fuel (x3) (x7.getD x0.toNat (0 : Int)) (x1)
      (fun y4 =>
        bif Decidable.decide ((0 : Int) ≤ x0 ∧ x0 < (↑x7.length : Int)) then
        k0 (x3, x4, x2, x6, x7.set x0.toNat y4, x8)
        else none))
   else none
  else
   bif Decidable.decide ((0 : Int) ≤ x0 ∧ x0 < (↑x7.length : Int)) then
   (F_coder_next fuel (x3) (x7.getD x0.toNat (0 : Int)) (x1)
      (fun y4 =>
        bif Decidable.decide ((0 : Int) ≤ x0 ∧ x0 < (↑x7.length : Int)) then
        k0 (x3, Go.IntKind.u64.wrap (x2 + (1 : Int)), x5, x6, x7.set x0.toNat y4, x8)
        else none))
   else none
abbrev YF161_546 : Type := (Int) → (Int) → (Int) → (Int) → (Int) → (Int) → (Bool) → ((List Int)) → ((List Int)) → ((Int × Int × Int × Bool × (List Int) × (List Int)) → Option Ans) → Option Ans
theorem F161_546_eqg (fuel : Nat) (f188 : YF188) (x0 : Int) (x1 : Int) (x2 : Int) (x3 : Int) (x4 : Int) (x5 : Int) (x6 : Bool) (x7 : (List Int)) (x8 : (List Int)) (k : Ev.Cont) : evalFn tab (Gg161_546 f188) (J161_546 fuel) kp161_546 fuel Tryz.f161 [.c (.ptr 0 0), .c (.int .i64 x0), .c (.int .i64 x1), .c (.int .u64 x2)] [.cells 164 (.int .i64 x3 :: .own 1 :: .int .i64 2048 :: .int .i64 1792 :: .int .i64 1568 :: .int .i64 1372 :: .int .i64 1201 :: .int .i64 1051 :: .int .i64 920 :: .int .i64 805 :: .int .i64 705 :: .int .i64 617 :: .int .i64 540 :: .int .i64 473 :: .int .i64 414 :: .int .i64 363 :: .int .i64 318 :: .int .i64 279 :: .int .i64 245 :: .int .i64 215 :: .int .i64 189 :: .int .i64 166 :: .int .i64 146 :: .int .i64 128 :: .int .i64 112 :: .int .i64 98 :: .int .i64 86 :: .int .i64 76 :: .int .i64 67 :: .int .i64 59 :: .int .i64 52 :: .int .i64 46 :: .int .i64 41 :: .int .i64 36 :: .int .u64 x4 :: .int .u64 x5 :: .own 2 :: .bool x6 :: []), .vec 3 (.int .i64) x7 false, .vec 5 (.int .u8) x8 false] k = (fun  (k0 : (Int × Int × Int × Bool × (List Int) × (List Int)) → Option Ans) =>
  bif x1 == (1 : Int) then
   bif Decidable.decide ((0 : Int) ≤ x0 ∧ x0 < (↑x7.length : Int)) then
   (f188 (x3) (x7.getD x0.toNat (0 : Int)) (x1)
      (fun y4 =>
        bif Decidable.decide ((0 : Int) ≤ x0 ∧ x0 < (↑x7.length : Int)) then
        k0 (x3, x4, x2, x6, x7.set x0.toNat y4, x8)
        else none))
   else none
  else
   bif Decidable.decide ((0 : Int) ≤ x0 ∧ x0 < (↑x7.length : Int)) then
   (f188 (x3) (x7.getD x0.toNat (0 : Int)) (x1)
      (fun y4 =>
        bif Decidable.decide ((0 : Int) ≤ x0 ∧ x0 < (↑x7.length : Int)) then
        k0 (x3, Go.IntKind.u64.wrap (x2 + (1 : Int)), x5, x6, x7.set x0.toNat y4, x8)
        else none))
   else none) (fun r => match r with | (r0, r1, r2, r3, r4, r5) => k (.tup [], [.cells 164 (.int .i64 r0 :: .own 1 :: .int .i64 2048 :: .int .i64 1792 :: .int .i64 1568 :: .int .i64 1372 :: .int .i64 1201 :: .int .i64 1051 :: .int .i64 920 :: .int .i64 805 :: .int .i64 705 :: .int .i64 617 :: .int .i64 540 :: .int .i64 473 :: .int .i64 414 :: .int .i64 363 :: .int .i64 318 :: .int .i64 279 :: .int .i64 245 :: .int .i64 215 :: .int .i64 189 :: .int .i64 166 :: .int .i64 146 :: .int .i64 128 :: .int .i64 112 :: .int .i64 98 :: .int .i64 86 :: .int .i64 76 :: .int .i64 67 :: .int .i64 59 :: .int .i64 52 :: .int .i64 46 :: .int .i64 41 :: .int .i64 36 :: .int .u64 r1 :: .int .u64 r2 :: .own 2 :: .bool r3 :: []), .vec 3 (.int .i64) r4 false, .vec 5 (.int .u8) r5 false])) := by
  kernel_rfl
theorem F161_546_eq (fuel : Nat) (x0 : Int) (x1 : Int) (x2 : Int) (x3 : Int) (x4 : Int) (x5 : Int) (x6 : Bool) (x7 : (List Int)) (x8 : (List Int)) (k : Ev.Cont) : evalFn tab (G161_546 fuel) (J161_546 fuel) kp161_546 fuel Tryz.f161 [.c (.ptr 0 0), .c (.int .i64 x0), .c (.int .i64 x1), .c (.int .u64 x2)] [.cells 164 (.int .i64 x3 :: .own 1 :: .int .i64 2048 :: .int .i64 1792 :: .int .i64 1568 :: .int .i64 1372 :: .int .i64 1201 :: .int .i64 1051 :: .int .i64 920 :: .int .i64 805 :: .int .i64 705 :: .int .i64 617 :: .int .i64 540 :: .int .i64 473 :: .int .i64 414 :: .int .i64 363 :: .int .i64 318 :: .int .i64 279 :: .int .i64 245 :: .int .i64 215 :: .int .i64 189 :: .int .i64 166 :: .int .i64 146 :: .int .i64 128 :: .int .i64 112 :: .int .i64 98 :: .int .i64 86 :: .int .i64 76 :: .int .i64 67 :: .int .i64 59 :: .int .i64 52 :: .int .i64 46 :: .int .i64 41 :: .int .i64 36 :: .int .u64 x4 :: .int .u64 x5 :: .own 2 :: .bool x6 :: []), .vec 3 (.int .i64) x7 false, .vec 5 (.int .u8) x8 false] k = F_coder_interval_take_546 fuel x0 x1 x2 x3 x4 x5 x6 x7 x8 (fun r => match r with | (r0, r1, r2, r3, r4, r5) => k (.tup [], [.cells 164 (.int .i64 r0 :: .own 1 :: .int .i64 2048 :: .int .i64 1792 :: .int .i64 1568 :: .int .i64 1372 :: .int .i64 1201 :: .int .i64 1051 :: .int .i64 920 :: .int .i64 805 :: .int .i64 705 :: .int .i64 617 :: .int .i64 540 :: .int .i64 473 :: .int .i64 414 :: .int .i64 363 :: .int .i64 318 :: .int .i64 279 :: .int .i64 245 :: .int .i64 215 :: .int .i64 189 :: .int .i64 166 :: .int .i64 146 :: .int .i64 128 :: .int .i64 112 :: .int .i64 98 :: .int .i64 86 :: .int .i64 76 :: .int .i64 67 :: .int .i64 59 :: .int .i64 52 :: .int .i64 46 :: .int .i64 41 :: .int .i64 36 :: .int .u64 r1 :: .int .u64 r2 :: .own 2 :: .bool r3 :: []), .vec 3 (.int .i64) r4 false, .vec 5 (.int .u8) r5 false])) :=
  F161_546_eqg fuel (F_coder_next fuel) x0 x1 x2 x3 x4 x5 x6 x7 x8 k
theorem hG161_546 (fuel : Nat) : GOK Tryz.prog (G161_546 fuel) :=
  gok_cons ⟨ok188 fuel, enters_of Tryz.func188 (by kernel_rfl) rfl⟩ <|
  gok_nil
theorem fok161_546 (fuel : Nat) : FnOK Tryz.prog 161 (evalFn tab (G161_546 fuel) (J161_546 fuel) kp161_546 fuel Tryz.f161) :=
  fn_ok tab_ok (hG161_546 fuel) mixed Tryz.func161 (c := (Tryz.f161.body).getD .skip) rfl (fun q hq => by
    rw [(by kernel_rfl : obl (J161_546 fuel) ((Tryz.f161.body).getD .skip) = [])] at hq
    cases hq)
noncomputable def mt161_546 : List Ev.SV → List Ev.Ob → Bool := fun args objs => match args, objs with
  | [.c (.ptr q0 q1), .c (.int .i64 _), .c (.int .i64 _), .c (.int .u64 _)], [.cells q2 cs0, .vec q3 (.int .i64) _ false, .vec q4 (.int .u8) _ false] => (match splitRun 2 [(.i64, 2048), (.i64, 1792), (.i64, 1568), (.i64, 1372), (.i64, 1201), (.i64, 1051), (.i64, 920), (.i64, 805), (.i64, 705), (.i64, 617), (.i64, 540), (.i64, 473), (.i64, 414), (.i64, 363), (.i64, 318), (.i64, 279), (.i64, 245), (.i64, 215), (.i64, 189), (.i64, 166), (.i64, 146), (.i64, 128), (.i64, 112), (.i64, 98), (.i64, 86), (.i64, 76), (.i64, 67), (.i64, 59), (.i64, 52), (.i64, 46), (.i64, 41), (.i64, 36)] cs0 with | some ([.int .i64 _, .own q5], [.int .u64 _, .int .u64 _, .own q6, .bool _]) => Nat.beq q0 0 && Nat.beq q1 0 && Nat.beq q2 164 && Nat.beq q3 3 && Nat.beq q4 5 && Nat.beq q5 1 && Nat.beq q6 2 | _ => false)
  | _, _ => false
noncomputable def spg161_546 (F : YF161_546) : Ev.Spec := fun args objs k => match args, objs with
  | [.c (.ptr q0 q1), .c (.int .i64 x0), .c (.int .i64 x1), .c (.int .u64 x2)], [.cells q2 cs0, .vec q3 (.int .i64) x7 false, .vec q4 (.int .u8) x8 false] => (match splitRun 2 [(.i64, 2048), (.i64, 1792), (.i64, 1568), (.i64, 1372), (.i64, 1201), (.i64, 1051), (.i64, 920), (.i64, 805), (.i64, 705), (.i64, 617), (.i64, 540), (.i64, 473), (.i64, 414), (.i64, 363), (.i64, 318), (.i64, 279), (.i64, 245), (.i64, 215), (.i64, 189), (.i64, 166), (.i64, 146), (.i64, 128), (.i64, 112), (.i64, 98), (.i64, 86), (.i64, 76), (.i64, 67), (.i64, 59), (.i64, 52), (.i64, 46), (.i64, 41), (.i64, 36)] cs0 with | some ([.int .i64 x3, .own q5], [.int .u64 x4, .int .u64 x5, .own q6, .bool x6]) => bif Nat.beq q0 0 && Nat.beq q1 0 && Nat.beq q2 164 && Nat.beq q3 3 && Nat.beq q4 5 && Nat.beq q5 1 && Nat.beq q6 2 then F x0 x1 x2 x3 x4 x5 x6 x7 x8 (fun r => match r with | (r0, r1, r2, r3, r4, r5) => k (.tup [], [.cells 164 (.int .i64 r0 :: .own 1 :: .int .i64 2048 :: .int .i64 1792 :: .int .i64 1568 :: .int .i64 1372 :: .int .i64 1201 :: .int .i64 1051 :: .int .i64 920 :: .int .i64 805 :: .int .i64 705 :: .int .i64 617 :: .int .i64 540 :: .int .i64 473 :: .int .i64 414 :: .int .i64 363 :: .int .i64 318 :: .int .i64 279 :: .int .i64 245 :: .int .i64 215 :: .int .i64 189 :: .int .i64 166 :: .int .i64 146 :: .int .i64 128 :: .int .i64 112 :: .int .i64 98 :: .int .i64 86 :: .int .i64 76 :: .int .i64 67 :: .int .i64 59 :: .int .i64 52 :: .int .i64 46 :: .int .i64 41 :: .int .i64 36 :: .int .u64 r1 :: .int .u64 r2 :: .own 2 :: .bool r3 :: []), .vec 3 (.int .i64) r4 false, .vec 5 (.int .u8) r5 false])) else none | _ => none)
  | _, _ => none
noncomputable def spec161_546 (fuel : Nat) : Ev.Spec := spg161_546 (F_coder_interval_take_546 fuel)
theorem ok161_546 (fuel : Nat) : FnOK Tryz.prog 161 (spec161_546 fuel) := by
  intro args objs kk r h
  unfold spec161_546 spg161_546 at h
  split at h
  · skip
    split at h
    rotate_left 1
    · cases h
    rename_i hsp
    have esp := splitRun_eq hsp
    subst esp
    obtain ⟨hb, h⟩ := cond_some' h
    simp only [Bool.and_eq_true, Nat.beq_eq, decide_eq_true_eq] at hb
    obtain ⟨⟨⟨⟨⟨⟨rfl, rfl⟩, rfl⟩, rfl⟩, rfl⟩, rfl⟩, rfl⟩ := hb
    exact fok161_546 fuel _ _ kk r ((F161_546_eq fuel _ _ _ _ _ _ _ _ _ kk).trans h)
  · cases h
end Go.Proofs.YtmjeeaemmbkioaaGreat

set_option linter.unusedVariables false
set_option linter.unusedSimpArgs false
set_option maxRecDepth 100000
set_option maxHeartbeats 2000000
namespace Go.Proofs.YtmjeeaemmbkioaaGreat
open Go Ev
def kp130_cf0 (i : Nat) : Option (List Nat) := Ev.look i [(6, [0, 1000002]), (100001, []), (400001, [6]), (600000, [])]
noncomputable def Gg130_cf0 (f117_a20 : YF117_a20) (f161_546 : YF161_546) (f162_402 : YF162_402) (f163_a20 : YF163_a20) (f164_a20 : YF164_a20) (f : Nat) : Option Ev.Spec := Ev.look f [(117, spg117_a20 f117_a20), (161, spg161_546 f161_546), (162, spg162_402 f162_402), (163, spg163_a20 f163_a20), (164, spg164_a20 f164_a20)]
noncomputable def G130_cf0 (fuel : Nat) : Nat → Option Ev.Spec := Gg130_cf0 (F_coder_Encoder_none_a20 fuel) (F_coder_interval_take_546 fuel) (F_coder_interval_mid_402 fuel) (F_coder_interval_same_a20 fuel) (F_coder_interval_lose_a20 fuel)
noncomputable def S_coder_Encoder_Put_cf0_1 (fuel : Nat) (v : Int × Int × Int × Bool × (List Int) × (List Int)) (c : (Int × Int × Int × Bool × (List Int) × (List Int)) → Option Ans) (B : (Int × Int × Int × Bool × (List Int) × (List Int) → Option Ans)) : Option Ans := match v, B with
  | (x0, x1, x2, x3, x4, x5), b =>
   (F_coder_interval_same_a20 fuel (x0) (x1) (x2) (x3) (x4) (x5)
       (fun (y2_0, y2_1, y2_2, y2_3, y2_4, y2_5, y2_6) =>
         bif y2_0 then
          both ((F_coder_interval_lose_a20 fuel (y2_1) (y2_2) (y2_3) (y2_4) (y2_5) (y2_6)
              (fun (y9_0, y9_1, y9_2, y9_3, y9_4, y9_5, y9_6) =>
                bif Decidable.decide ((y9_6.length + [y9_0].length) * (1 : Nat) ≤ (140737488355328 : Nat) ∧ y9_6.length + [y9_0].length ≤ (140737488355328 : Nat)) then
                c (y9_1, y9_2, y9_3, y9_4, y9_5, y9_6 ++ [y9_0])
                else none)))
           ((F_coder_interval_lose_a20 fuel (y2_1) (y2_2) (y2_3) (y2_4) (y2_5) (y2_6)
              (fun (y9_0, y9_1, y9_2, y9_3, y9_4, y9_5, y9_6) =>
                both (bif Decidable.decide ((y9_6.length + [y9_0].length) * (1 : Nat) ≤ (140737488355328 : Nat) ∧ y9_6.length + [y9_0].length ≤ (140737488355328 : Nat)) then
                  c (y9_1, y9_2, y9_3, y9_4, y9_5, y9_6 ++ [y9_0])
                  else none)
                 (bif Decidable.decide ((y9_6.length + [y9_0].length) * (1 : Nat) ≤ (140737488355328 : Nat) ∧ y9_6.length + [y9_0].length ≤ (140737488355328 : Nat)) then
                  c (y9_1, y9_2, y9_3, y9_4, y9_5, y9_6 ++ [y9_0])
                  else none))))
         else
          b (y2_1, y2_2, y2_3, y2_4, y2_5, y2_6)))
noncomputable def L_coder_Encoder_Put_cf0_1 (fuel : Nat) (v : Int × Int × Int × Bool × (List Int) × (List Int)) (b : (Int × Int × Int × Bool × (List Int) × (List Int) → Option Ans)) : Option Ans := iter (S_coder_Encoder_Put_cf0_1 fuel) fuel v b
noncomputable def J130_cf0_1 (fuel : Nat) (i : Nat) : Option Ev.Blk := Ev.look i []
noncomputable def T130_cf0_1 (v : Int × Int × Int × Bool × (List Int) × (List Int)) : Ev.St := match v with | (x0, x1, x2, x3, x4, x5) => ⟨[(0, .c (.ptr 0 0))], [(0, .cells 164 (.int .i64 x0 :: .own 1 :: .int .i64 2048 :: .int .i64 1792 :: .int .i64 1568 :: .int .i64 1372 :: .int .i64 1201 :: .int .i64 1051 :: .int .i64 920 :: .int .i64 805 :: .int .i64 705 :: .int .i64 617 :: .int .i64 540 :: .int .i64 473 :: .int .i64 414 :: .int .i64 363 :: .int .i64 318 :: .int .i64 279 :: .int .i64 245 :: .int .i64 215 :: .int .i64 189 :: .int .i64 166 :: .int .i64 146 :: .int .i64 128 :: .int .i64 112 :: .int .i64 98 :: .int .i64 86 :: .int .i64 76 :: .int .i64 67 :: .int .i64 59 :: .int .i64 52 :: .int .i64 46 :: .int .i64 41 :: .int .i64 36 :: .int .u64 x1 :: .int .u64 x2 :: .own 2 :: .bool x3 :: [])), (1, .vec 3 (.int .i64) x4 false), (2, .vec 5 (.int .u8) x5 true)], 3, 3⟩
noncomputable def E130_cf0_1 (K : Ev.Ex → Ev.St → Option Ans) : (Int × Int × Int × Bool × (List Int) × (List Int) → Option Ans) := (fun v => match v with | (x0, x1, x2, x3, x4, x5) => K .normal ⟨[], [(0, .cells 164 (.int .i64 x0 :: .own 1 :: .int .i64 2048 :: .int .i64 1792 :: .int .i64 1568 :: .int .i64 1372 :: .int .i64 1201 :: .int .i64 1051 :: .int .i64 920 :: .int .i64 805 :: .int .i64 705 :: .int .i64 617 :: .int .i64 540 :: .int .i64 473 :: .int .i64 414 :: .int .i64 363 :: .int .i64 318 :: .int .i64 279 :: .int .i64 245 :: .int .i64 215 :: .int .i64 189 :: .int .i64 166 :: .int .i64 146 :: .int .i64 128 :: .int .i64 112 :: .int .i64 98 :: .int .i64 86 :: .int .i64 76 :: .int .i64 67 :: .int .i64 59 :: .int .i64 52 :: .int .i64 46 :: .int .i64 41 :: .int .i64 36 :: .int .u64 x1 :: .int .u64 x2 :: .own 2 :: .bool x3 :: [])), (1, .vec 3 (.int .i64) x4 false), (2, .vec 5 (.int .u8) x5 true)], 3, 3⟩)
theorem S130_cf0_1_okg (fuel : Nat) (f117_a20 : YF117_a20) (f161_546 : YF161_546) (f162_402 : YF162_402) (f163_a20 : YF163_a20) (f164_a20 : YF164_a20) (R : Ev.St → Option Ans) (K : Ev.Ex → Ev.St → Option Ans) (x0 : Int) (x1 : Int) (x2 : Int) (x3 : Bool) (x4 : (List Int)) (x5 : (List Int)) : evalCode tab (Gg130_cf0 f117_a20 f161_546 f162_402 f163_a20 f164_a20) (J130_cf0_1 fuel) kp130_cf0 fuel (bodyOf 1 Tryz.f130) (T130_cf0_1 (x0, x1, x2, x3, x4, x5)) (lc kp130_cf0 6 1 R K) = (fun (c : (Int × Int × Int × Bool × (List Int) × (List Int)) → Option Ans) (B : (Int × Int × Int × Bool × (List Int) × (List Int) → Option Ans)) => match B with
  | b =>
   (f163_a20 (x0) (x1) (x2) (x3) (x4) (x5)
       (fun (y2_0, y2_1, y2_2, y2_3, y2_4, y2_5, y2_6) =>
         bif y2_0 then
          both ((f164_a20 (y2_1) (y2_2) (y2_3) (y2_4) (y2_5) (y2_6)
              (fun (y9_0, y9_1, y9_2, y9_3, y9_4, y9_5, y9_6) =>
                bif Decidable.decide ((y9_6.length + [y9_0].length) * (1 : Nat) ≤ (140737488355328 : Nat) ∧ y9_6.length + [y9_0].length ≤ (140737488355328 : Nat)) then
                c (y9_1, y9_2, y9_3, y9_4, y9_5, y9_6 ++ [y9_0])
                else none)))
           ((f164_a20 (y2_1) (y2_2) (y2_3) (y2_4) (y2_5) (y2_6)
              (fun (y9_0, y9_1, y9_2, y9_3, y9_4, y9_5, y9_6) =>
                both (bif Decidable.decide ((y9_6.length + [y9_0].length) * (1 : Nat) ≤ (140737488355328 : Nat) ∧ y9_6.length + [y9_0].length ≤ (140737488355328 : Nat)) then
                  c (y9_1, y9_2, y9_3, y9_4, y9_5, y9_6 ++ [y9_0])
                  else none)
                 (bif Decidable.decide ((y9_6.length + [y9_0].length) * (1 : Nat) ≤ (140737488355328 : Nat) ∧ y9_6.length + [y9_0].length ≤ (140737488355328 : Nat)) then
                  c (y9_1, y9_2, y9_3, y9_4, y9_5, y9_6 ++ [y9_0])
                  else none))))
         else
          b (y2_1, y2_2, y2_3, y2_4, y2_5, y2_6)))) (fun v => R (T130_cf0_1 v)) (E130_cf0_1 K) := by
  kernel_rfl
theorem S130_cf0_1_ok (fuel : Nat) (R : Ev.St → Option Ans) (K : Ev.Ex → Ev.St → Option Ans) (x0 : Int) (x1 : Int) (x2 : Int) (x3 : Bool) (x4 : (List Int)) (x5 : (List Int)) : evalCode tab (G130_cf0 fuel) (J130_cf0_1 fuel) kp130_cf0 fuel (bodyOf 1 Tryz.f130) (T130_cf0_1 (x0, x1, x2, x3, x4, x5)) (lc kp130_cf0 6 1 R K) = S_coder_Encoder_Put_cf0_1 fuel (x0, x1, x2, x3, x4, x5) (fun v => R (T130_cf0_1 v)) (E130_cf0_1 K) :=
  S130_cf0_1_okg fuel (F_coder_Encoder_none_a20 fuel) (F_coder_interval_take_546 fuel) (F_coder_interval_mid_402 fuel) (F_coder_interval_same_a20 fuel) (F_coder_interval_lose_a20 fuel) R K x0 x1 x2 x3 x4 x5
noncomputable def B130_cf0_1 (fuel : Nat) : Ev.Blk := fun st K => match canonO (kp130_cf0 6) st with
  | some s => (match s with
    | ⟨[(q0, .c (.ptr q1 q2))], [(q3, .cells q4 cs0), (q5, .vec q6 (.int .i64) x4 false), (q7, .vec q8 (.int .u8) x5 true)], q9, q10⟩ => (match splitRun 2 [(.i64, 2048), (.i64, 1792), (.i64, 1568), (.i64, 1372), (.i64, 1201), (.i64, 1051), (.i64, 920), (.i64, 805), (.i64, 705), (.i64, 617), (.i64, 540), (.i64, 473), (.i64, 414), (.i64, 363), (.i64, 318), (.i64, 279), (.i64, 245), (.i64, 215), (.i64, 189), (.i64, 166), (.i64, 146), (.i64, 128), (.i64, 112), (.i64, 98), (.i64, 86), (.i64, 76), (.i64, 67), (.i64, 59), (.i64, 52), (.i64, 46), (.i64, 41), (.i64, 36)] cs0 with | some ([.int .i64 x0, .own q11], [.int .u64 x1, .int .u64 x2, .own q12, .bool x3]) => bif Nat.beq q0 0 && Nat.beq q1 0 && Nat.beq q2 0 && Nat.beq q3 0 && Nat.beq q4 164 && Nat.beq q5 1 && Nat.beq q6 3 && Nat.beq q7 2 && Nat.beq q8 5 && Nat.beq q9 3 && Nat.beq q10 3 && Nat.beq q11 1 && Nat.beq q12 2 then iter (S_coder_Encoder_Put_cf0_1 fuel) fuel (x0, x1, x2, x3, x4, x5) (E130_cf0_1 K) else none | _ => none)
    | _ => none)
  | none => none
theorem B130_cf0_1_ok (fuel : Nat) (st : Ev.St) (K : Ev.Ex → Ev.St → Option Ans) (r : Ans) (h : B130_cf0_1 fuel st K = some r) : evalCode tab (G130_cf0 fuel) (J130_cf0_1 fuel) kp130_cf0 fuel (.block 1 (.loop (bodyOf 1 Tryz.f130))) st K = some r := by
  unfold B130_cf0_1 at h
  split at h
  · rename_i s hs
    split at h
    · skip
      split at h
      rotate_left 1
      · cases h
      rename_i hsp
      have esp := splitRun_eq hsp
      subst esp
      obtain ⟨hb, h⟩ := cond_some' h
      simp only [Bool.and_eq_true, Nat.beq_eq, decide_eq_true_eq] at hb
      obtain ⟨⟨⟨⟨⟨⟨⟨⟨⟨⟨⟨⟨rfl, rfl⟩, rfl⟩, rfl⟩, rfl⟩, rfl⟩, rfl⟩, rfl⟩, rfl⟩, rfl⟩, rfl⟩, rfl⟩, rfl⟩ := hb
      exact blk_loop (S := T130_cf0_1) (ks := E130_cf0_1) (step := S_coder_Encoder_Put_cf0_1 fuel) (v := (_, _, _, _, _, _)) (by kernel_rfl) (by kernel_rfl) (fun R K v => by obtain ⟨x0, x1, x2, x3, x4, x5⟩ := v; exact S130_cf0_1_ok fuel R K x0 x1 x2 x3 x4 x5) hs h
    · cases h
  · cases h
noncomputable def J130_cf0 (fuel : Nat) (i : Nat) : Option Ev.Blk := Ev.look i [(100001, B130_cf0_1 fuel)]
noncomputable def F_coder_Encoder_Put_cf0 (fuel : Nat) (x0 : Int) (x1 : Int) (x2 : Int) (x3 : Int) (x4 : Int) (x5 : Bool) (x6 : (List Int)) (x7 : (List Int)) (k0 : (Int × Int × Int × Int × Bool × (List Int) × (List Int)) → Option Ans) (k1 : (Int × Int × Int × Int × Bool × (List Int) × (List Int)) → Option Ans) : Option Ans :=
  (F_coder_Encoder_none_a20 fuel (x2) (x3) (x4) (x5) (x6) (x7)
    (fun (y2_0, y2_1, y2_2, y2_3, y2_4, y2_5, y2_6) =>
      bif y2_0 then
       k0 ((7 : Int), y2_1, y2_2, y2_3, y2_4, y2_5, y2_6)
      else
       bif Decidable.decide (x0 < (0 : Int)) then
        k0 ((2 : Int), y2_1, y2_2, y2_3, y2_4, y2_5, y2_6)
       else
        bif Decidable.decide (x0 ≥ (↑y2_5.length : Int)) then
         k0 ((2 : Int), y2_1, y2_2, y2_3, y2_4, y2_5, y2_6)
        else
         bif x1 != (0 : Int) then
          bif x1 != (1 : Int) then
           k0 ((2 : Int), y2_1, y2_2, y2_3, y2_4, y2_5, y2_6)
          else
           (F_coder_interval_mid_402 fuel (x0) (y2_1) (y2_2) (y2_3) (y2_4) (y2_5) (y2_6)
             (fun (y11_0, y11_1, y11_2, y11_3, y11_4, y11_5, y11_6) =>
               (F_coder_interval_take_546 fuel (x0) (x1) (y11_0) (y11_1) (y11_2) (y11_3) (y11_4) (y11_5) (y11_6)
                 (fun (y15_0, y15_1, y15_2, y15_3, y15_4, y15_5) =>
                   (L_coder_Encoder_Put_cf0_1 fuel (y15_0, y15_1, y15_2, y15_3, y15_4, y15_5)
                     (fun (b1_0, b1_1, b1_2, b1_3, b1_4, b1_5) =>
                       k1 ((0 : Int), b1_0, b1_1, b1_2, b1_3, b1_4, b1_5)))))))
         else
          (F_coder_interval_mid_402 fuel (x0) (y2_1) (y2_2) (y2_3) (y2_4) (y2_5) (y2_6)
            (fun (y10_0, y10_1, y10_2, y10_3, y10_4, y10_5, y10_6) =>
              (F_coder_interval_take_546 fuel (x0) (x1) (y10_0) (y10_1) (y10_2) (y10_3) (y10_4) (y10_5) (y10_6)
                (fun (y14_0, y14_1, y14_2, y14_3, y14_4, y14_5) =>
                  (L_coder_Encoder_Put_cf0_1 fuel (y14_0, y14_1, y14_2, y14_3, y14_4, y14_5)
                    (fun (b1_0, b1_1, b1_2, b1_3, b1_4, b1_5) =>
                      k1 ((0 : Int), b1_0, b1_1, b1_2, b1_3, b1_4, b1_5)))))))))
abbrev YF130_cf0 : Type := (Int) → (Int) → (Int) → (Int) → (Int) → (Bool) → ((List Int)) → ((List Int)) → ((Int × Int × Int × Int × Bool × (List Int) × (List Int)) → Option Ans) → ((Int × Int × Int × Int × Bool × (List Int) × (List Int)) → Option Ans) → Option Ans
theorem F130_cf0_eqg (fuel : Nat) (f117_a20 : YF117_a20) (f161_546 : YF161_546) (f162_402 : YF162_402) (f163_a20 : YF163_a20) (f164_a20 : YF164_a20) (x0 : Int) (x1 : Int) (x2 : Int) (x3 : Int) (x4 : Int) (x5 : Bool) (x6 : (List Int)) (x7 : (List Int)) (k : Ev.Cont) : evalFn tab (Gg130_cf0 f117_a20 f161_546 f162_402 f163_a20 f164_a20) (J130_cf0 fuel) kp130_cf0 fuel Tryz.f130 [.c (.ptr 0 0), .c (.int .i64 x0), .c (.int .i64 x1)] [.cells 164 (.int .i64 x2 :: .own 1 :: .int .i64 2048 :: .int .i64 1792 :: .int .i64 1568 :: .int .i64 1372 :: .int .i64 1201 :: .int .i64 1051 :: .int .i64 920 :: .int .i64 805 :: .int .i64 705 :: .int .i64 617 :: .int .i64 540 :: .int .i64 473 :: .int .i64 414 :: .int .i64 363 :: .int .i64 318 :: .int .i64 279 :: .int .i64 245 :: .int .i64 215 :: .int .i64 189 :: .int .i64 166 :: .int .i64 146 :: .int .i64 128 :: .int .i64 112 :: .int .i64 98 :: .int .i64 86 :: .int .i64 76 :: .int .i64 67 :: .int .i64 59 :: .int .i64 52 :: .int .i64 46 :: .int .i64 41 :: .int .i64 36 :: .int .u64 x3 :: .int .u64 x4 :: .own 2 :: .bool x5 :: []), .vec 3 (.int .i64) x6 false, .vec 5 (.int .u8) x7 false] k = (fun  (k0 : (Int × Int × Int × Int × Bool × (List Int) × (List Int)) → Option Ans) (k1 : (Int × Int × Int × Int × Bool × (List Int) × (List Int)) → Option Ans) =>
  (f117_a20 (x2) (x3) (x4) (x5) (x6) (x7)
    (fun (y2_0, y2_1, y2_2, y2_3, y2_4, y2_5, y2_6) =>
      bif y2_0 then
       k0 ((7 : Int), y2_1, y2_2, y2_3, y2_4, y2_5, y2_6)
      else
       bif Decidable.decide (x0 < (0 : Int)) then
        k0 ((2 : Int), y2_1, y2_2, y2_3, y2_4, y2_5, y2_6)
       else
        bif Decidable.decide (x0 ≥ (↑y2_5.length : Int)) then
         k0 ((2 : Int), y2_1, y2_2, y2_3, y2_4, y2_5, y2_6)
        else
         bif x1 != (0 : Int) then
          bif x1 != (1 : Int) then
           k0 ((2 : Int), y2_1, y2_2, y2_3, y2_4, y2_5, y2_6)
          else
           (f162_402 (x0) (y2_1) (y2_2) (y2_3) (y2_4) (y2_5) (y2_6)
             (fun (y11_0, y11_1, y11_2, y11_3, y11_4, y11_5, y11_6) =>
               (f161_546 (x0) (x1) (y11_0) (y11_1) (y11_2) (y11_3) (y11_4) (y11_5) (y11_6)
                 (fun (y15_0, y15_1, y15_2, y15_3, y15_4, y15_5) =>
                   (L_coder_Encoder_Put_cf0_1 fuel (y15_0, y15_1, y15_2, y15_3, y15_4, y15_5)
                     (fun (b1_0, b1_1, b1_2, b1_3, b1_4, b1_5) =>
                       k1 ((0 : Int), b1_0, b1_1, b1_2, b1_3, b1_4, b1_5)))))))
         else
          (f162_402 (x0) (y2_1) (y2_2) (y2_3) (y2_4) (y2_5) (y2_6)
            (fun (y10_0, y10_1, y10_2, y10_3, y10_4, y10_5, y10_6) =>
              (f161_546 (x0) (x1) (y10_0) (y10_1) (y10_2) (y10_3) (y10_4) (y10_5) (y10_6)
                (fun (y14_0, y14_1, y14_2, y14_3, y14_4, y14_5) =>
                  (L_coder_Encoder_Put_cf0_1 fuel (y14_0, y14_1, y14_2, y14_3, y14_4, y14_5)
                    (fun (b1_0, b1_1, b1_2, b1_3, b1_4, b1_5) =>
                      k1 ((0 : Int), b1_0, b1_1, b1_2, b1_3, b1_4, b1_5)))))))))) (fun r => match r with | (r0, r1, r2, r3, r4, r5, r6) => k (.c (.int .i64 r0), [.cells 164 (.int .i64 r1 :: .own 1 :: .int .i64 2048 :: .int .i64 1792 :: .int .i64 1568 :: .int .i64 1372 :: .int .i64 1201 :: .int .i64 1051 :: .int .i64 920 :: .int .i64 805 :: .int .i64 705 :: .int .i64 617 :: .int .i64 540 :: .int .i64 473 :: .int .i64 414 :: .int .i64 363 :: .int .i64 318 :: .int .i64 279 :: .int .i64 245 :: .int .i64 215 :: .int .i64 189 :: .int .i64 166 :: .int .i64 146 :: .int .i64 128 :: .int .i64 112 :: .int .i64 98 :: .int .i64 86 :: .int .i64 76 :: .int .i64 67 :: .int .i64 59 :: .int .i64 52 :: .int .i64 46 :: .int .i64 41 :: .int .i64 36 :: .int .u64 r2 :: .int .u64 r3 :: .own 2 :: .bool r4 :: []), .vec 3 (.int .i64) r5 false, .vec 5 (.int .u8) r6 false])) (fun r => match r with | (r0, r1, r2, r3, r4, r5, r6) => k (.c (.int .i64 r0), [.cells 164 (.int .i64 r1 :: .own 1 :: .int .i64 2048 :: .int .i64 1792 :: .int .i64 1568 :: .int .i64 1372 :: .int .i64 1201 :: .int .i64 1051 :: .int .i64 920 :: .int .i64 805 :: .int .i64 705 :: .int .i64 617 :: .int .i64 540 :: .int .i64 473 :: .int .i64 414 :: .int .i64 363 :: .int .i64 318 :: .int .i64 279 :: .int .i64 245 :: .int .i64 215 :: .int .i64 189 :: .int .i64 166 :: .int .i64 146 :: .int .i64 128 :: .int .i64 112 :: .int .i64 98 :: .int .i64 86 :: .int .i64 76 :: .int .i64 67 :: .int .i64 59 :: .int .i64 52 :: .int .i64 46 :: .int .i64 41 :: .int .i64 36 :: .int .u64 r2 :: .int .u64 r3 :: .own 2 :: .bool r4 :: []), .vec 3 (.int .i64) r5 false, .vec 5 (.int .u8) r6 true])) := by
  kernel_rfl
theorem F130_cf0_eq (fuel : Nat) (x0 : Int) (x1 : Int) (x2 : Int) (x3 : Int) (x4 : Int) (x5 : Bool) (x6 : (List Int)) (x7 : (List Int)) (k : Ev.Cont) : evalFn tab (G130_cf0 fuel) (J130_cf0 fuel) kp130_cf0 fuel Tryz.f130 [.c (.ptr 0 0), .c (.int .i64 x0), .c (.int .i64 x1)] [.cells 164 (.int .i64 x2 :: .own 1 :: .int .i64 2048 :: .int .i64 1792 :: .int .i64 1568 :: .int .i64 1372 :: .int .i64 1201 :: .int .i64 1051 :: .int .i64 920 :: .int .i64 805 :: .int .i64 705 :: .int .i64 617 :: .int .i64 540 :: .int .i64 473 :: .int .i64 414 :: .int .i64 363 :: .int .i64 318 :: .int .i64 279 :: .int .i64 245 :: .int .i64 215 :: .int .i64 189 :: .int .i64 166 :: .int .i64 146 :: .int .i64 128 :: .int .i64 112 :: .int .i64 98 :: .int .i64 86 :: .int .i64 76 :: .int .i64 67 :: .int .i64 59 :: .int .i64 52 :: .int .i64 46 :: .int .i64 41 :: .int .i64 36 :: .int .u64 x3 :: .int .u64 x4 :: .own 2 :: .bool x5 :: []), .vec 3 (.int .i64) x6 false, .vec 5 (.int .u8) x7 false] k = F_coder_Encoder_Put_cf0 fuel x0 x1 x2 x3 x4 x5 x6 x7 (fun r => match r with | (r0, r1, r2, r3, r4, r5, r6) => k (.c (.int .i64 r0), [.cells 164 (.int .i64 r1 :: .own 1 :: .int .i64 2048 :: .int .i64 1792 :: .int .i64 1568 :: .int .i64 1372 :: .int .i64 1201 :: .int .i64 1051 :: .int .i64 920 :: .int .i64 805 :: .int .i64 705 :: .int .i64 617 :: .int .i64 540 :: .int .i64 473 :: .int .i64 414 :: .int .i64 363 :: .int .i64 318 :: .int .i64 279 :: .int .i64 245 :: .int .i64 215 :: .int .i64 189 :: .int .i64 166 :: .int .i64 146 :: .int .i64 128 :: .int .i64 112 :: .int .i64 98 :: .int .i64 86 :: .int .i64 76 :: .int .i64 67 :: .int .i64 59 :: .int .i64 52 :: .int .i64 46 :: .int .i64 41 :: .int .i64 36 :: .int .u64 r2 :: .int .u64 r3 :: .own 2 :: .bool r4 :: []), .vec 3 (.int .i64) r5 false, .vec 5 (.int .u8) r6 false])) (fun r => match r with | (r0, r1, r2, r3, r4, r5, r6) => k (.c (.int .i64 r0), [.cells 164 (.int .i64 r1 :: .own 1 :: .int .i64 2048 :: .int .i64 1792 :: .int .i64 1568 :: .int .i64 1372 :: .int .i64 1201 :: .int .i64 1051 :: .int .i64 920 :: .int .i64 805 :: .int .i64 705 :: .int .i64 617 :: .int .i64 540 :: .int .i64 473 :: .int .i64 414 :: .int .i64 363 :: .int .i64 318 :: .int .i64 279 :: .int .i64 245 :: .int .i64 215 :: .int .i64 189 :: .int .i64 166 :: .int .i64 146 :: .int .i64 128 :: .int .i64 112 :: .int .i64 98 :: .int .i64 86 :: .int .i64 76 :: .int .i64 67 :: .int .i64 59 :: .int .i64 52 :: .int .i64 46 :: .int .i64 41 :: .int .i64 36 :: .int .u64 r2 :: .int .u64 r3 :: .own 2 :: .bool r4 :: []), .vec 3 (.int .i64) r5 false, .vec 5 (.int .u8) r6 true])) :=
  F130_cf0_eqg fuel (F_coder_Encoder_none_a20 fuel) (F_coder_interval_take_546 fuel) (F_coder_interval_mid_402 fuel) (F_coder_interval_same_a20 fuel) (F_coder_interval_lose_a20 fuel) x0 x1 x2 x3 x4 x5 x6 x7 k
theorem hG130_cf0 (fuel : Nat) : GOK Tryz.prog (G130_cf0 fuel) :=
  gok_cons ⟨ok117_a20 fuel, enters_of Tryz.func117 (by kernel_rfl) rfl⟩ <|
  gok_cons ⟨ok161_546 fuel, enters_of Tryz.func161 (by kernel_rfl) rfl⟩ <|
  gok_cons ⟨ok162_402 fuel, enters_of Tryz.func162 (by kernel_rfl) rfl⟩ <|
  gok_cons ⟨ok163_a20 fuel, enters_of Tryz.func163 (by kernel_rfl) rfl⟩ <|
  gok_cons ⟨ok164_a20 fuel, enters_of Tryz.func164 (by kernel_rfl) rfl⟩ <|
  gok_nil
theorem B130_cf0_1_blk (fuel : Nat) : BlkOK Tryz.prog Tryz.f130.ntmps (.block 1 (.loop (bodyOf 1 Tryz.f130))) (B130_cf0_1 fuel) :=
  blk_of (blk_of_code tab_ok (hG130_cf0 fuel) mixed (J := J130_cf0_1 fuel) (kp := kp130_cf0) (fuel := fuel) (by kernel_rfl) (fun q hq => by
    rw [(by kernel_rfl : obl (J130_cf0_1 fuel) (.block 1 (.loop (bodyOf 1 Tryz.f130))) = [])] at hq
    cases hq)) (B130_cf0_1_ok fuel)
theorem fok130_cf0 (fuel : Nat) : FnOK Tryz.prog 130 (evalFn tab (G130_cf0 fuel) (J130_cf0 fuel) kp130_cf0 fuel Tryz.f130) :=
  fn_ok tab_ok (hG130_cf0 fuel) mixed Tryz.func130 (c := (Tryz.f130.body).getD .skip) rfl (fun q hq => by
    rw [(by kernel_rfl : obl (J130_cf0 fuel) ((Tryz.f130.body).getD .skip) = [(.block 1 (.loop (bodyOf 1 Tryz.f130)), B130_cf0_1 fuel)])] at hq
    simp only [List.mem_cons, List.not_mem_nil, or_false] at hq
    subst hq
    · exact B130_cf0_1_blk fuel)
noncomputable def mt130_cf0 : List Ev.SV → List Ev.Ob → Bool := fun args objs => match args, objs with
  | [.c (.ptr q0 q1), .c (.int .i64 _), .c (.int .i64 _)], [.cells q2 cs0, .vec q3 (.int .i64) _ false, .vec q4 (.int .u8) _ false] => (match splitRun 2 [(.i64, 2048), (.i64, 1792), (.i64, 1568), (.i64, 1372), (.i64, 1201), (.i64, 1051), (.i64, 920), (.i64, 805), (.i64, 705), (.i64, 617), (.i64, 540), (.i64, 473), (.i64, 414), (.i64, 363), (.i64, 318), (.i64, 279), (.i64, 245), (.i64, 215), (.i64, 189), (.i64, 166), (.i64, 146), (.i64, 128), (.i64, 112), (.i64, 98), (.i64, 86), (.i64, 76), (.i64, 67), (.i64, 59), (.i64, 52), (.i64, 46), (.i64, 41), (.i64, 36)] cs0 with | some ([.int .i64 _, .own q5], [.int .u64 _, .int .u64 _, .own q6, .bool _]) => Nat.beq q0 0 && Nat.beq q1 0 && Nat.beq q2 164 && Nat.beq q3 3 && Nat.beq q4 5 && Nat.beq q5 1 && Nat.beq q6 2 | _ => false)
  | _, _ => false
noncomputable def spg130_cf0 (F : YF130_cf0) : Ev.Spec := fun args objs k => match args, objs with
  | [.c (.ptr q0 q1), .c (.int .i64 x0), .c (.int .i64 x1)], [.cells q2 cs0, .vec q3 (.int .i64) x6 false, .vec q4 (.int .u8) x7 false] => (match splitRun 2 [(.i64, 2048), (.i64, 1792), (.i64, 1568), (.i64, 1372), (.i64, 1201), (.i64, 1051), (.i64, 920), (.i64, 805), (.i64, 705), (.i64, 617), (.i64, 540), (.i64, 473), (.i64, 414), (.i64, 363), (.i64, 318), (.i64, 279), (.i64, 245), (.i64, 215), (.i64, 189), (.i64, 166), (.i64, 146), (.i64, 128), (.i64, 112), (.i64, 98), (.i64, 86), (.i64, 76), (.i64, 67), (.i64, 59), (.i64, 52), (.i64, 46), (.i64, 41), (.i64, 36)] cs0 with | some ([.int .i64 x2, .own q5], [.int .u64 x3, .int .u64 x4, .own q6, .bool x5]) => bif Nat.beq q0 0 && Nat.beq q1 0 && Nat.beq q2 164 && Nat.beq q3 3 && Nat.beq q4 5 && Nat.beq q5 1 && Nat.beq q6 2 then F x0 x1 x2 x3 x4 x5 x6 x7 (fun r => match r with | (r0, r1, r2, r3, r4, r5, r6) => k (.c (.int .i64 r0), [.cells 164 (.int .i64 r1 :: .own 1 :: .int .i64 2048 :: .int .i64 1792 :: .int .i64 1568 :: .int .i64 1372 :: .int .i64 1201 :: .int .i64 1051 :: .int .i64 920 :: .int .i64 805 :: .int .i64 705 :: .int .i64 617 :: .int .i64 540 :: .int .i64 473 :: .int .i64 414 :: .int .i64 363 :: .int .i64 318 :: .int .i64 279 :: .int .i64 245 :: .int .i64 215 :: .int .i64 189 :: .int .i64 166 :: .int .i64 146 :: .int .i64 128 :: .int .i64 112 :: .int .i64 98 :: .int .i64 86 :: .int .i64 76 :: .int .i64 67 :: .int .i64 59 :: .int .i64 52 :: .int .i64 46 :: .int .i64 41 :: .int .i64 36 :: .int .u64 r2 :: .int .u64 r3 :: .own 2 :: .bool r4 :: []), .vec 3 (.int .i64) r5 false, .vec 5 (.int .u8) r6 false])) (fun r => match r with | (r0, r1, r2, r3, r4, r5, r6) => k (.c (.int .i64 r0), [.cells 164 (.int .i64 r1 :: .own 1 :: .int .i64 2048 :: .int .i64 1792 :: .int .i64 1568 :: .int .i64 1372 :: .int .i64 1201 :: .int .i64 1051 :: .int .i64 920 :: .int .i64 805 :: .int .i64 705 :: .int .i64 617 :: .int .i64 540 :: .int .i64 473 :: .int .i64 414 :: .int .i64 363 :: .int .i64 318 :: .int .i64 279 :: .int .i64 245 :: .int .i64 215 :: .int .i64 189 :: .int .i64 166 :: .int .i64 146 :: .int .i64 128 :: .int .i64 112 :: .int .i64 98 :: .int .i64 86 :: .int .i64 76 :: .int .i64 67 :: .int .i64 59 :: .int .i64 52 :: .int .i64 46 :: .int .i64 41 :: .int .i64 36 :: .int .u64 r2 :: .int .u64 r3 :: .own 2 :: .bool r4 :: []), .vec 3 (.int .i64) r5 false, .vec 5 (.int .u8) r6 true])) else none | _ => none)
  | _, _ => none
noncomputable def spec130_cf0 (fuel : Nat) : Ev.Spec := spg130_cf0 (F_coder_Encoder_Put_cf0 fuel)
theorem ok130_cf0 (fuel : Nat) : FnOK Tryz.prog 130 (spec130_cf0 fuel) := by
  intro args objs kk r h
  unfold spec130_cf0 spg130_cf0 at h
  split at h
  · skip
    split at h
    rotate_left 1
    · cases h
    rename_i hsp
    have esp := splitRun_eq hsp
    subst esp
    obtain ⟨hb, h⟩ := cond_some' h
    simp only [Bool.and_eq_true, Nat.beq_eq, decide_eq_true_eq] at hb
    obtain ⟨⟨⟨⟨⟨⟨rfl, rfl⟩, rfl⟩, rfl⟩, rfl⟩, rfl⟩, rfl⟩ := hb
    exact fok130_cf0 fuel _ _ kk r ((F130_cf0_eq fuel _ _ _ _ _ _ _ _ kk).trans h)
  · cases h
end Go.Proofs.YtmjeeaemmbkioaaGreat

set_option linter.unusedVariables false
set_option linter.unusedSimpArgs false
set_option maxRecDepth 100000
set_option maxHeartbeats 2000000
namespace Go.Proofs.YtmjeeaemmbkioaaGreat
open Go Ev
def kp135_2d4 (i : Nat) : Option (List Nat) := Ev.look i [(2, [0, 8, 9, 10, 1000002]), (100000, []), (400000, [4, 1000002])]
noncomputable def Gg135_2d4 (f130_cf0 : YF130_cf0) (f : Nat) : Option Ev.Spec := Ev.look f [(130, spg130_cf0 f130_cf0)]
noncomputable def G135_2d4 (fuel : Nat) : Nat → Option Ev.Spec := Gg135_2d4 (F_coder_Encoder_Put_cf0 fuel)
noncomputable def S_number_put_2d4_0 (fuel : Nat) (v : (List (Int × Int)) × Int × Int × Int × Int × Int × Bool × (List Int) × (List Int)) (c : ((List (Int × Int)) × Int × Int × Int × Int × Int × Bool × (List Int) × (List Int)) → Option Ans) (B : (Int × Int × Int × Int × Bool × (List Int) × (List Int) → Option Ans) × (Int × Int × Int × Bool × (List Int) × (List Int) → Option Ans)) : Option Ans := match v, B with
  | (x0, x1, x2, x3, x4, x5, x6, x7, x8), (ret, b) =>
   bif Decidable.decide (x2 < x1) then
      bif Decidable.decide ((0 : Int) ≤ x2 ∧ x2 < (↑x0.length : Int)) then
      (F_coder_Encoder_Put_cf0 fuel ((x0.getD x2.toNat ((0 : Int), (0 : Int))).fst) ((x0.getD x2.toNat ((0 : Int), (0 : Int))).snd) (x3) (x4) (x5) (x6) (x7) (x8)
         (fun (y4_0, y4_1, y4_2, y4_3, y4_4, y4_5, y4_6) =>
           bif y4_0 != (0 : Int) then
            ret (y4_0, y4_1, y4_2, y4_3, y4_4, y4_5, y4_6)
           else
            c (x0, x1, Go.IntKind.i64.wrap (x2 + (1 : Int)), y4_1, y4_2, y4_3, y4_4, y4_5, y4_6))
         (fun (y4_0, y4_1, y4_2, y4_3, y4_4, y4_5, y4_6) =>
           bif y4_0 != (0 : Int) then
            ret (y4_0, y4_1, y4_2, y4_3, y4_4, y4_5, y4_6)
           else
            c (x0, x1, Go.IntKind.i64.wrap (x2 + (1 : Int)), y4_1, y4_2, y4_3, y4_4, y4_5, y4_6)))
      else none
     else
      b (x3, x4, x5, x6, x7, x8)
noncomputable def L_number_put_2d4_0 (fuel : Nat) (v : (List (Int × Int)) × Int × Int × Int × Int × Int × Bool × (List Int) × (List Int)) (ret : (Int × Int × Int × Int × Bool × (List Int) × (List Int) → Option Ans)) (b : (Int × Int × Int × Bool × (List Int) × (List Int) → Option Ans)) : Option Ans := iter (S_number_put_2d4_0 fuel) fuel v (ret, b)
noncomputable def J135_2d4_0 (fuel : Nat) (i : Nat) : Option Ev.Blk := Ev.look i []
noncomputable def T135_2d4_0 (v : (List (Int × Int)) × Int × Int × Int × Int × Int × Bool × (List Int) × (List Int)) : Ev.St := match v with | (x0, x1, x2, x3, x4, x5, x6, x7, x8) => ⟨[(0, .c (.ptr 0 0)), (8, .c (.sl (.pair (.int .i64) (.int .i64)) x0)), (9, .c (.int .i64 x1)), (10, .c (.int .i64 x2))], [(0, .cells 164 (.int .i64 x3 :: .own 1 :: .int .i64 2048 :: .int .i64 1792 :: .int .i64 1568 :: .int .i64 1372 :: .int .i64 1201 :: .int .i64 1051 :: .int .i64 920 :: .int .i64 805 :: .int .i64 705 :: .int .i64 617 :: .int .i64 540 :: .int .i64 473 :: .int .i64 414 :: .int .i64 363 :: .int .i64 318 :: .int .i64 279 :: .int .i64 245 :: .int .i64 215 :: .int .i64 189 :: .int .i64 166 :: .int .i64 146 :: .int .i64 128 :: .int .i64 112 :: .int .i64 98 :: .int .i64 86 :: .int .i64 76 :: .int .i64 67 :: .int .i64 59 :: .int .i64 52 :: .int .i64 46 :: .int .i64 41 :: .int .i64 36 :: .int .u64 x4 :: .int .u64 x5 :: .own 2 :: .bool x6 :: [])), (1, .vec 3 (.int .i64) x7 false), (2, .vec 5 (.int .u8) x8 true)], 3, 3⟩
noncomputable def E135_2d4_0 (K : Ev.Ex → Ev.St → Option Ans) : (Int × Int × Int × Int × Bool × (List Int) × (List Int) → Option Ans) × (Int × Int × Int × Bool × (List Int) × (List Int) → Option Ans) := ((fun v => match v with | (x0, x1, x2, x3, x4, x5, x6) => K .ret ⟨[(4, .c (.int .i64 x0))], [(0, .cells 164 (.int .i64 x1 :: .own 1 :: .int .i64 2048 :: .int .i64 1792 :: .int .i64 1568 :: .int .i64 1372 :: .int .i64 1201 :: .int .i64 1051 :: .int .i64 920 :: .int .i64 805 :: .int .i64 705 :: .int .i64 617 :: .int .i64 540 :: .int .i64 473 :: .int .i64 414 :: .int .i64 363 :: .int .i64 318 :: .int .i64 279 :: .int .i64 245 :: .int .i64 215 :: .int .i64 189 :: .int .i64 166 :: .int .i64 146 :: .int .i64 128 :: .int .i64 112 :: .int .i64 98 :: .int .i64 86 :: .int .i64 76 :: .int .i64 67 :: .int .i64 59 :: .int .i64 52 :: .int .i64 46 :: .int .i64 41 :: .int .i64 36 :: .int .u64 x2 :: .int .u64 x3 :: .own 2 :: .bool x4 :: [])), (1, .vec 3 (.int .i64) x5 false), (2, .vec 5 (.int .u8) x6 true)], 3, 3⟩), (fun v => match v with | (x0, x1, x2, x3, x4, x5) => K .normal ⟨[], [(0, .cells 164 (.int .i64 x0 :: .own 1 :: .int .i64 2048 :: .int .i64 1792 :: .int .i64 1568 :: .int .i64 1372 :: .int .i64 1201 :: .int .i64 1051 :: .int .i64 920 :: .int .i64 805 :: .int .i64 705 :: .int .i64 617 :: .int .i64 540 :: .int .i64 473 :: .int .i64 414 :: .int .i64 363 :: .int .i64 318 :: .int .i64 279 :: .int .i64 245 :: .int .i64 215 :: .int .i64 189 :: .int .i64 166 :: .int .i64 146 :: .int .i64 128 :: .int .i64 112 :: .int .i64 98 :: .int .i64 86 :: .int .i64 76 :: .int .i64 67 :: .int .i64 59 :: .int .i64 52 :: .int .i64 46 :: .int .i64 41 :: .int .i64 36 :: .int .u64 x1 :: .int .u64 x2 :: .own 2 :: .bool x3 :: [])), (1, .vec 3 (.int .i64) x4 false), (2, .vec 5 (.int .u8) x5 true)], 3, 3⟩))
theorem S135_2d4_0_okg (fuel : Nat) (f130_cf0 : YF130_cf0) (R : Ev.St → Option Ans) (K : Ev.Ex → Ev.St → Option Ans) (x0 : (List (Int × Int))) (x1 : Int) (x2 : Int) (x3 : Int) (x4 : Int) (x5 : Int) (x6 : Bool) (x7 : (List Int)) (x8 : (List Int)) : evalCode tab (Gg135_2d4 f130_cf0) (J135_2d4_0 fuel) kp135_2d4 fuel (bodyOf 0 Tryz.f135) (T135_2d4_0 (x0, x1, x2, x3, x4, x5, x6, x7, x8)) (lc kp135_2d4 2 0 R K) = (fun (c : ((List (Int × Int)) × Int × Int × Int × Int × Int × Bool × (List Int) × (List Int)) → Option Ans) (B : (Int × Int × Int × Int × Bool × (List Int) × (List Int) → Option Ans) × (Int × Int × Int × Bool × (List Int) × (List Int) → Option Ans)) => match B with
  | (ret, b) =>
   bif Decidable.decide (x2 < x1) then
      bif Decidable.decide ((0 : Int) ≤ x2 ∧ x2 < (↑x0.length : Int)) then
      (f130_cf0 ((x0.getD x2.toNat ((0 : Int), (0 : Int))).fst) ((x0.getD x2.toNat ((0 : Int), (0 : Int))).snd) (x3) (x4) (x5) (x6) (x7) (x8)
         (fun (y4_0, y4_1, y4_2, y4_3, y4_4, y4_5, y4_6) =>
           bif y4_0 != (0 : Int) then
            ret (y4_0, y4_1, y4_2, y4_3, y4_4, y4_5, y4_6)
           else
            c (x0, x1, Go.IntKind.i64.wrap (x2 + (1 : Int)), y4_1, y4_2, y4_3, y4_4, y4_5, y4_6))
         (fun (y4_0, y4_1, y4_2, y4_3, y4_4, y4_5, y4_6) =>
           bif y4_0 != (0 : Int) then
            ret (y4_0, y4_1, y4_2, y4_3, y4_4, y4_5, y4_6)
           else
            c (x0, x1, Go.IntKind.i64.wrap (x2 + (1 : Int)), y4_1, y4_2, y4_3, y4_4, y4_5, y4_6)))
      else none
     else
      b (x3, x4, x5, x6, x7, x8)) (fun v => R (T135_2d4_0 v)) (E135_2d4_0 K) := by
  kernel_rfl
theorem S135_2d4_0_ok (fuel : Nat) (R : Ev.St → Option Ans) (K : Ev.Ex → Ev.St → Option Ans) (x0 : (List (Int × Int))) (x1 : Int) (x2 : Int) (x3 : Int) (x4 : Int) (x5 : Int) (x6 : Bool) (x7 : (List Int)) (x8 : (List Int)) : evalCode tab (G135_2d4 fuel) (J135_2d4_0 fuel) kp135_2d4 fuel (bodyOf 0 Tryz.f135) (T135_2d4_0 (x0, x1, x2, x3, x4, x5, x6, x7, x8)) (lc kp135_2d4 2 0 R K) = S_number_put_2d4_0 fuel (x0, x1, x2, x3, x4, x5, x6, x7, x8) (fun v => R (T135_2d4_0 v)) (E135_2d4_0 K) :=
  S135_2d4_0_okg fuel (F_coder_Encoder_Put_cf0 fuel) R K x0 x1 x2 x3 x4 x5 x6 x7 x8
noncomputable def B135_2d4_0 (fuel : Nat) : Ev.Blk := fun st K => match canonO (kp135_2d4 2) st with
  | some s => (match s with
    | ⟨[(q0, .c (.ptr q1 q2)), (q3, .c (.sl (.pair (.int .i64) (.int .i64)) x0)), (q4, .c (.int .i64 x1)), (q5, .c (.int .i64 x2))], [(q6, .cells q7 cs0), (q8, .vec q9 (.int .i64) x7 false), (q10, .vec q11 (.int .u8) x8 true)], q12, q13⟩ => (match splitRun 2 [(.i64, 2048), (.i64, 1792), (.i64, 1568), (.i64, 1372), (.i64, 1201), (.i64, 1051), (.i64, 920), (.i64, 805), (.i64, 705), (.i64, 617), (.i64, 540), (.i64, 473), (.i64, 414), (.i64, 363), (.i64, 318), (.i64, 279), (.i64, 245), (.i64, 215), (.i64, 189), (.i64, 166), (.i64, 146), (.i64, 128), (.i64, 112), (.i64, 98), (.i64, 86), (.i64, 76), (.i64, 67), (.i64, 59), (.i64, 52), (.i64, 46), (.i64, 41), (.i64, 36)] cs0 with | some ([.int .i64 x3, .own q14], [.int .u64 x4, .int .u64 x5, .own q15, .bool x6]) => bif Nat.beq q0 0 && Nat.beq q1 0 && Nat.beq q2 0 && Nat.beq q3 8 && Nat.beq q4 9 && Nat.beq q5 10 && Nat.beq q6 0 && Nat.beq q7 164 && Nat.beq q8 1 && Nat.beq q9 3 && Nat.beq q10 2 && Nat.beq q11 5 && Nat.beq q12 3 && Nat.beq q13 3 && Nat.beq q14 1 && Nat.beq q15 2 then iter (S_number_put_2d4_0 fuel) fuel (x0, x1, x2, x3, x4, x5, x6, x7, x8) (E135_2d4_0 K) else none | _ => none)
    | _ => none)
  | none => none
theorem B135_2d4_0_ok (fuel : Nat) (st : Ev.St) (K : Ev.Ex → Ev.St → Option Ans) (r : Ans) (h : B135_2d4_0 fuel st K = some r) : evalCode tab (G135_2d4 fuel) (J135_2d4_0 fuel) kp135_2d4 fuel (.block 0 (.loop (bodyOf 0 Tryz.f135))) st K = some r := by
  unfold B135_2d4_0 at h
  split at h
  · rename_i s hs
    split at h
    · skip
      split at h
      rotate_left 1
      · cases h
      rename_i hsp
      have esp := splitRun_eq hsp
      subst esp
      obtain ⟨hb, h⟩ := cond_some' h
      simp only [Bool.and_eq_true, Nat.beq_eq, decide_eq_true_eq] at hb
      obtain ⟨⟨⟨⟨⟨⟨⟨⟨⟨⟨⟨⟨⟨⟨⟨rfl, rfl⟩, rfl⟩, rfl⟩, rfl⟩, rfl⟩, rfl⟩, rfl⟩, rfl⟩, rfl⟩, rfl⟩, rfl⟩, rfl⟩, rfl⟩, rfl⟩, rfl⟩ := hb
      exact blk_loop (S := T135_2d4_0) (ks := E135_2d4_0) (step := S_number_put_2d4_0 fuel) (v := (_, _, _, _, _, _, _, _, _)) (by kernel_rfl) (by kernel_rfl) (fun R K v => by obtain ⟨x0, x1, x2, x3, x4, x5, x6, x7, x8⟩ := v; exact S135_2d4_0_ok fuel R K x0 x1 x2 x3 x4 x5 x6 x7 x8) hs h
    · cases h
  · cases h
noncomputable def J135_2d4 (fuel : Nat) (i : Nat) : Option Ev.Blk := Ev.look i [(100000, B135_2d4_0 fuel)]
noncomputable def F_number_put_2d4 (fuel : Nat) (x0 : (List (Int × Int))) (x1 : Int) (x2 : Int) (x3 : Int) (x4 : Bool) (x5 : (List Int)) (x6 : (List Int)) (k0 : (Int × Int × Int × Int × Bool × (List Int) × (List Int)) → Option Ans) : Option Ans :=
  (L_number_put_2d4_0 fuel (x0, (↑x0.length : Int), (0 : Int), x1, x2, x3, x4, x5, x6)
    (fun (ret0_0, ret0_1, ret0_2, ret0_3, ret0_4, ret0_5, ret0_6) =>
      k0 (ret0_0, ret0_1, ret0_2, ret0_3, ret0_4, ret0_5, ret0_6))
    (fun (b0_0, b0_1, b0_2, b0_3, b0_4, b0_5) =>
      k0 ((0 : Int), b0_0, b0_1, b0_2, b0_3, b0_4, b0_5)))
abbrev YF135_2d4 : Type := ((List (Int × Int))) → (Int) → (Int) → (Int) → (Bool) → ((List Int)) → ((List Int)) → ((Int × Int × Int × Int × Bool × (List Int) × (List Int)) → Option Ans) → Option Ans
theorem F135_2d4_eqg (fuel : Nat) (f130_cf0 : YF130_cf0) (x0 : (List (Int × Int))) (x1 : Int) (x2 : Int) (x3 : Int) (x4 : Bool) (x5 : (List Int)) (x6 : (List Int)) (k : Ev.Cont) : evalFn tab (Gg135_2d4 f130_cf0) (J135_2d4 fuel) kp135_2d4 fuel Tryz.f135 [.c (.ptr 0 0), .c (.sl (.pair (.int .i64) (.int .i64)) x0)] [.cells 164 (.int .i64 x1 :: .own 1 :: .int .i64 2048 :: .int .i64 1792 :: .int .i64 1568 :: .int .i64 1372 :: .int .i64 1201 :: .int .i64 1051 :: .int .i64 920 :: .int .i64 805 :: .int .i64 705 :: .int .i64 617 :: .int .i64 540 :: .int .i64 473 :: .int .i64 414 :: .int .i64 363 :: .int .i64 318 :: .int .i64 279 :: .int .i64 245 :: .int .i64 215 :: .int .i64 189 :: .int .i64 166 :: .int .i64 146 :: .int .i64 128 :: .int .i64 112 :: .int .i64 98 :: .int .i64 86 :: .int .i64 76 :: .int .i64 67 :: .int .i64 59 :: .int .i64 52 :: .int .i64 46 :: .int .i64 41 :: .int .i64 36 :: .int .u64 x2 :: .int .u64 x3 :: .own 2 :: .bool x4 :: []), .vec 3 (.int .i64) x5 false, .vec 5 (.int .u8) x6 false] k = (fun  (k0 : (Int × Int × Int × Int × Bool × (List Int) × (List Int)) → Option Ans) =>
  (L_number_put_2d4_0 fuel (x0, (↑x0.length : Int), (0 : Int), x1, x2, x3, x4, x5, x6)
    (fun (ret0_0, ret0_1, ret0_2, ret0_3, ret0_4, ret0_5, ret0_6) =>
      k0 (ret0_0, ret0_1, ret0_2, ret0_3, ret0_4, ret0_5, ret0_6))
    (fun (b0_0, b0_1, b0_2, b0_3, b0_4, b0_5) =>
      k0 ((0 : Int), b0_0, b0_1, b0_2, b0_3, b0_4, b0_5)))) (fun r => match r with | (r0, r1, r2, r3, r4, r5, r6) => k (.c (.int .i64 r0), [.cells 164 (.int .i64 r1 :: .own 1 :: .int .i64 2048 :: .int .i64 1792 :: .int .i64 1568 :: .int .i64 1372 :: .int .i64 1201 :: .int .i64 1051 :: .int .i64 920 :: .int .i64 805 :: .int .i64 705 :: .int .i64 617 :: .int .i64 540 :: .int .i64 473 :: .int .i64 414 :: .int .i64 363 :: .int .i64 318 :: .int .i64 279 :: .int .i64 245 :: .int .i64 215 :: .int .i64 189 :: .int .i64 166 :: .int .i64 146 :: .int .i64 128 :: .int .i64 112 :: .int .i64 98 :: .int .i64 86 :: .int .i64 76 :: .int .i64 67 :: .int .i64 59 :: .int .i64 52 :: .int .i64 46 :: .int .i64 41 :: .int .i64 36 :: .int .u64 r2 :: .int .u64 r3 :: .own 2 :: .bool r4 :: []), .vec 3 (.int .i64) r5 false, .vec 5 (.int .u8) r6 true])) := by
  kernel_rfl
theorem F135_2d4_eq (fuel : Nat) (x0 : (List (Int × Int))) (x1 : Int) (x2 : Int) (x3 : Int) (x4 : Bool) (x5 : (List Int)) (x6 : (List Int)) (k : Ev.Cont) : evalFn tab (G135_2d4 fuel) (J135_2d4 fuel) kp135_2d4 fuel Tryz.f135 [.c (.ptr 0 0), .c (.sl (.pair (.int .i64) (.int .i64)) x0)] [.cells 164 (.int .i64 x1 :: .own 1 :: .int .i64 2048 :: .int .i64 1792 :: .int .i64 1568 :: .int .i64 1372 :: .int .i64 1201 :: .int .i64 1051 :: .int .i64 920 :: .int .i64 805 :: .int .i64 705 :: .int .i64 617 :: .int .i64 540 :: .int .i64 473 :: .int .i64 414 :: .int .i64 363 :: .int .i64 318 :: .int .i64 279 :: .int .i64 245 :: .int .i64 215 :: .int .i64 189 :: .int .i64 166 :: .int .i64 146 :: .int .i64 128 :: .int .i64 112 :: .int .i64 98 :: .int .i64 86 :: .int .i64 76 :: .int .i64 67 :: .int .i64 59 :: .int .i64 52 :: .int .i64 46 :: .int .i64 41 :: .int .i64 36 :: .int .u64 x2 :: .int .u64 x3 :: .own 2 :: .bool x4 :: []), .vec 3 (.int .i64) x5 false, .vec 5 (.int .u8) x6 false] k = F_number_put_2d4 fuel x0 x1 x2 x3 x4 x5 x6 (fun r => match r with | (r0, r1, r2, r3, r4, r5, r6) => k (.c (.int .i64 r0), [.cells 164 (.int .i64 r1 :: .own 1 :: .int .i64 2048 :: .int .i64 1792 :: .int .i64 1568 :: .int .i64 1372 :: .int .i64 1201 :: .int .i64 1051 :: .int .i64 920 :: .int .i64 805 :: .int .i64 705 :: .int .i64 617 :: .int .i64 540 :: .int .i64 473 :: .int .i64 414 :: .int .i64 363 :: .int .i64 318 :: .int .i64 279 :: .int .i64 245 :: .int .i64 215 :: .int .i64 189 :: .int .i64 166 :: .int .i64 146 :: .int .i64 128 :: .int .i64 112 :: .int .i64 98 :: .int .i64 86 :: .int .i64 76 :: .int .i64 67 :: .int .i64 59 :: .int .i64 52 :: .int .i64 46 :: .int .i64 41 :: .int .i64 36 :: .int .u64 r2 :: .int .u64 r3 :: .own 2 :: .bool r4 :: []), .vec 3 (.int .i64) r5 false, .vec 5 (.int .u8) r6 true])) :=
  F135_2d4_eqg fuel (F_coder_Encoder_Put_cf0 fuel) x0 x1 x2 x3 x4 x5 x6 k
theorem hG135_2d4 (fuel : Nat) : GOK Tryz.prog (G135_2d4 fuel) :=
  gok_cons ⟨ok130_cf0 fuel, enters_of Tryz.func130 (by kernel_rfl) rfl⟩ <|
  gok_nil
theorem B135_2d4_0_blk (fuel : Nat) : BlkOK Tryz.prog Tryz.f135.ntmps (.block 0 (.loop (bodyOf 0 Tryz.f135))) (B135_2d4_0 fuel) :=
  blk_of (blk_of_code tab_ok (hG135_2d4 fuel) mixed (J := J135_2d4_0 fuel) (kp := kp135_2d4) (fuel := fuel) (by kernel_rfl) (fun q hq => by
    rw [(by kernel_rfl : obl (J135_2d4_0 fuel) (.block 0 (.loop (bodyOf 0 Tryz.f135))) = [])] at hq
    cases hq)) (B135_2d4_0_ok fuel)
theorem fok135_2d4 (fuel : Nat) : FnOK Tryz.prog 135 (evalFn tab (G135_2d4 fuel) (J135_2d4 fuel) kp135_2d4 fuel Tryz.f135) :=
  fn_ok tab_ok (hG135_2d4 fuel) mixed Tryz.func135 (c := (Tryz.f135.body).getD .skip) rfl (fun q hq => by
    rw [(by kernel_rfl : obl (J135_2d4 fuel) ((Tryz.f135.body).getD .skip) = [(.block 0 (.loop (bodyOf 0 Tryz.f135)), B135_2d4_0 fuel)])] at hq
    simp only [List.mem_cons, List.not_mem_nil, or_false] at hq
    subst hq
    · exact B135_2d4_0_blk fuel)
noncomputable def mt135_2d4 : List Ev.SV → List Ev.Ob → Bool := fun args objs => match args, objs with
  | [.c (.ptr q0 q1), .c (.sl (.pair (.int .i64) (.int .i64)) _)], [.cells q2 cs0, .vec q3 (.int .i64) _ false, .vec q4 (.int .u8) _ false] => (match splitRun 2 [(.i64, 2048), (.i64, 1792), (.i64, 1568), (.i64, 1372), (.i64, 1201), (.i64, 1051), (.i64, 920), (.i64, 805), (.i64, 705), (.i64, 617), (.i64, 540), (.i64, 473), (.i64, 414), (.i64, 363), (.i64, 318), (.i64, 279), (.i64, 245), (.i64, 215), (.i64, 189), (.i64, 166), (.i64, 146), (.i64, 128), (.i64, 112), (.i64, 98), (.i64, 86), (.i64, 76), (.i64, 67), (.i64, 59), (.i64, 52), (.i64, 46), (.i64, 41), (.i64, 36)] cs0 with | some ([.int .i64 _, .own q5], [.int .u64 _, .int .u64 _, .own q6, .bool _]) => Nat.beq q0 0 && Nat.beq q1 0 && Nat.beq q2 164 && Nat.beq q3 3 && Nat.beq q4 5 && Nat.beq q5 1 && Nat.beq q6 2 | _ => false)
  | _, _ => false
noncomputable def spg135_2d4 (F : YF135_2d4) : Ev.Spec := fun args objs k => match args, objs with
  | [.c (.ptr q0 q1), .c (.sl (.pair (.int .i64) (.int .i64)) x0)], [.cells q2 cs0, .vec q3 (.int .i64) x5 false, .vec q4 (.int .u8) x6 false] => (match splitRun 2 [(.i64, 2048), (.i64, 1792), (.i64, 1568), (.i64, 1372), (.i64, 1201), (.i64, 1051), (.i64, 920), (.i64, 805), (.i64, 705), (.i64, 617), (.i64, 540), (.i64, 473), (.i64, 414), (.i64, 363), (.i64, 318), (.i64, 279), (.i64, 245), (.i64, 215), (.i64, 189), (.i64, 166), (.i64, 146), (.i64, 128), (.i64, 112), (.i64, 98), (.i64, 86), (.i64, 76), (.i64, 67), (.i64, 59), (.i64, 52), (.i64, 46), (.i64, 41), (.i64, 36)] cs0 with | some ([.int .i64 x1, .own q5], [.int .u64 x2, .int .u64 x3, .own q6, .bool x4]) => bif Nat.beq q0 0 && Nat.beq q1 0 && Nat.beq q2 164 && Nat.beq q3 3 && Nat.beq q4 5 && Nat.beq q5 1 && Nat.beq q6 2 then F x0 x1 x2 x3 x4 x5 x6 (fun r => match r with | (r0, r1, r2, r3, r4, r5, r6) => k (.c (.int .i64 r0), [.cells 164 (.int .i64 r1 :: .own 1 :: .int .i64 2048 :: .int .i64 1792 :: .int .i64 1568 :: .int .i64 1372 :: .int .i64 1201 :: .int .i64 1051 :: .int .i64 920 :: .int .i64 805 :: .int .i64 705 :: .int .i64 617 :: .int .i64 540 :: .int .i64 473 :: .int .i64 414 :: .int .i64 363 :: .int .i64 318 :: .int .i64 279 :: .int .i64 245 :: .int .i64 215 :: .int .i64 189 :: .int .i64 166 :: .int .i64 146 :: .int .i64 128 :: .int .i64 112 :: .int .i64 98 :: .int .i64 86 :: .int .i64 76 :: .int .i64 67 :: .int .i64 59 :: .int .i64 52 :: .int .i64 46 :: .int .i64 41 :: .int .i64 36 :: .int .u64 r2 :: .int .u64 r3 :: .own 2 :: .bool r4 :: []), .vec 3 (.int .i64) r5 false, .vec 5 (.int .u8) r6 true])) else none | _ => none)
  | _, _ => none
noncomputable def spec135_2d4 (fuel : Nat) : Ev.Spec := spg135_2d4 (F_number_put_2d4 fuel)
theorem ok135_2d4 (fuel : Nat) : FnOK Tryz.prog 135 (spec135_2d4 fuel) := by
  intro args objs kk r h
  unfold spec135_2d4 spg135_2d4 at h
  split at h
  · skip
    split at h
    rotate_left 1
    · cases h
    rename_i hsp
    have esp := splitRun_eq hsp
    subst esp
    obtain ⟨hb, h⟩ := cond_some' h
    simp only [Bool.and_eq_true, Nat.beq_eq, decide_eq_true_eq] at hb
    obtain ⟨⟨⟨⟨⟨⟨rfl, rfl⟩, rfl⟩, rfl⟩, rfl⟩, rfl⟩, rfl⟩ := hb
    exact fok135_2d4 fuel _ _ kk r ((F135_2d4_eq fuel _ _ _ _ _ _ _ kk).trans h)
  · cases h
end Go.Proofs.YtmjeeaemmbkioaaGreat

set_option linter.unusedVariables false
set_option linter.unusedSimpArgs false
set_option maxRecDepth 100000
set_option maxHeartbeats 2000000
namespace Go.Proofs.YtmjeeaemmbkioaaGreat
open Go Ev
def kp87_856 (i : Nat) : Option (List Nat) := Ev.look i [(600000, [])]
noncomputable def Gg87_856 (f71_a20 : YF71_a20) (f130_cf0 : YF130_cf0) (f133 : YF133) (f134 : YF134) (f135_2d4 : YF135_2d4) (f136 : YF136) (f : Nat) : Option Ev.Spec := Ev.look f [(71, spg71_a20 f71_a20), (130, spg130_cf0 f130_cf0), (133, spg133 f133), (134, spg134 f134), (135, spg135_2d4 f135_2d4), (136, spg136 f136)]
noncomputable def G87_856 (fuel : Nat) : Nat → Option Ev.Spec := Gg87_856 (F_coder_Encoder_Model_a20 fuel) (F_coder_Encoder_Put_cf0 fuel) (F_number_Valid fuel) (F_number_fits fuel) (F_number_put_2d4 fuel) (F_number_events fuel)
noncomputable def J87_856 (fuel : Nat) (i : Nat) : Option Ev.Blk := Ev.look i []
noncomputable def F_number_Put_856 (fuel : Nat) (x0 : Int) (x1 : Bool) (x2 : Int) (x3 : Int) (x4 : Int) (x5 : Int) (x6 : Bool) (x7 : (List Int)) (x8 : (List Int)) (k0 : (Int × Int × Int × Int × Bool × (List Int) × (List Int)) → Option Ans) : Option Ans :=
  (F_coder_Encoder_Put_cf0 fuel ((-1 : Int)) ((0 : Int)) (x3) (x4) (x5) (x6) (x7) (x8)
    (fun (y2_0, y2_1, y2_2, y2_3, y2_4, y2_5, y2_6) =>
      bif y2_0 == (7 : Int) then
       k0 ((7 : Int), y2_1, y2_2, y2_3, y2_4, y2_5, y2_6)
      else
       (F_number_Valid fuel (x1) (x2)
         (fun y7 =>
           bif !y7 then
            k0 ((2 : Int), y2_1, y2_2, y2_3, y2_4, y2_5, y2_6)
           else
            (F_coder_Encoder_Model_a20 fuel (y2_1) (y2_2) (y2_3) (y2_4) (y2_5) (y2_6)
              (fun (y12_0, y12_1, y12_2, y12_3, y12_4, y12_5, y12_6, y12_7) =>
                (F_number_fits fuel (y12_0) (y12_7) (x0) ((48 : Int))
                  (fun y16 =>
                    bif y16 != (0 : Int) then
                     k0 (y16, y12_1, y12_2, y12_3, y12_4, y12_5, y12_6)
                    else
                     (F_number_events fuel (x0) (x1) (x2)
                       (fun y21 =>
                         (F_number_put_2d4 fuel (y21) (y12_1) (y12_2) (y12_3) (y12_4) (y12_5) (y12_6)
                           (fun (y25_0, y25_1, y25_2, y25_3, y25_4, y25_5, y25_6) =>
                             k0 (y25_0, y25_1, y25_2, y25_3, y25_4, y25_5, y25_6))))))))))))
    (fun (y2_0, y2_1, y2_2, y2_3, y2_4, y2_5, y2_6) =>
      bif y2_0 == (7 : Int) then
       k0 ((7 : Int), y2_1, y2_2, y2_3, y2_4, y2_5, y2_6)
      else
       (F_number_Valid fuel (x1) (x2)
         (fun y7 =>
           bif !y7 then
            k0 ((2 : Int), y2_1, y2_2, y2_3, y2_4, y2_5, y2_6)
           else
            (F_coder_Encoder_Model_a20 fuel (y2_1) (y2_2) (y2_3) (y2_4) (y2_5) (y2_6)
              (fun (y12_0, y12_1, y12_2, y12_3, y12_4, y12_5, y12_6, y12_7) =>
                (F_number_fits fuel (y12_0) (y12_7) (x0) ((48 : Int))
                  (fun y16 =>
                    bif y16 != (0 : Int) then
                     k0 (y16, y12_1, y12_2, y12_3, y12_4, y12_5, y12_6)
                    else
                     (F_number_events fuel (x0) (x1) (x2)
                       (fun y21 =>
                         (F_number_put_2d4 fuel (y21) (y12_1) (y12_2) (y12_3) (y12_4) (y12_5) (y12_6)
                           (fun (y25_0, y25_1, y25_2, y25_3, y25_4, y25_5, y25_6) =>
                             k0 (y25_0, y25_1, y25_2, y25_3, y25_4, y25_5, y25_6)))))))))))))
abbrev YF87_856 : Type := (Int) → (Bool) → (Int) → (Int) → (Int) → (Int) → (Bool) → ((List Int)) → ((List Int)) → ((Int × Int × Int × Int × Bool × (List Int) × (List Int)) → Option Ans) → Option Ans
theorem F87_856_eqg (fuel : Nat) (f71_a20 : YF71_a20) (f130_cf0 : YF130_cf0) (f133 : YF133) (f134 : YF134) (f135_2d4 : YF135_2d4) (f136 : YF136) (x0 : Int) (x1 : Bool) (x2 : Int) (x3 : Int) (x4 : Int) (x5 : Int) (x6 : Bool) (x7 : (List Int)) (x8 : (List Int)) (k : Ev.Cont) : evalFn tab (Gg87_856 f71_a20 f130_cf0 f133 f134 f135_2d4 f136) (J87_856 fuel) kp87_856 fuel Tryz.f87 [.c (.ptr 0 0), .c (.int .i64 x0), .agg [.bool x1, .int .i64 x2]] [.cells 164 (.int .i64 x3 :: .own 1 :: .int .i64 2048 :: .int .i64 1792 :: .int .i64 1568 :: .int .i64 1372 :: .int .i64 1201 :: .int .i64 1051 :: .int .i64 920 :: .int .i64 805 :: .int .i64 705 :: .int .i64 617 :: .int .i64 540 :: .int .i64 473 :: .int .i64 414 :: .int .i64 363 :: .int .i64 318 :: .int .i64 279 :: .int .i64 245 :: .int .i64 215 :: .int .i64 189 :: .int .i64 166 :: .int .i64 146 :: .int .i64 128 :: .int .i64 112 :: .int .i64 98 :: .int .i64 86 :: .int .i64 76 :: .int .i64 67 :: .int .i64 59 :: .int .i64 52 :: .int .i64 46 :: .int .i64 41 :: .int .i64 36 :: .int .u64 x4 :: .int .u64 x5 :: .own 2 :: .bool x6 :: []), .vec 3 (.int .i64) x7 false, .vec 5 (.int .u8) x8 false] (wkC [1000002] k) = (fun  (k0 : (Int × Int × Int × Int × Bool × (List Int) × (List Int)) → Option Ans) =>
  (f130_cf0 ((-1 : Int)) ((0 : Int)) (x3) (x4) (x5) (x6) (x7) (x8)
    (fun (y2_0, y2_1, y2_2, y2_3, y2_4, y2_5, y2_6) =>
      bif y2_0 == (7 : Int) then
       k0 ((7 : Int), y2_1, y2_2, y2_3, y2_4, y2_5, y2_6)
      else
       (f133 (x1) (x2)
         (fun y7 =>
           bif !y7 then
            k0 ((2 : Int), y2_1, y2_2, y2_3, y2_4, y2_5, y2_6)
           else
            (f71_a20 (y2_1) (y2_2) (y2_3) (y2_4) (y2_5) (y2_6)
              (fun (y12_0, y12_1, y12_2, y12_3, y12_4, y12_5, y12_6, y12_7) =>
                (f134 (y12_0) (y12_7) (x0) ((48 : Int))
                  (fun y16 =>
                    bif y16 != (0 : Int) then
                     k0 (y16, y12_1, y12_2, y12_3, y12_4, y12_5, y12_6)
                    else
                     (f136 (x0) (x1) (x2)
                       (fun y21 =>
                         (f135_2d4 (y21) (y12_1) (y12_2) (y12_3) (y12_4) (y12_5) (y12_6)
                           (fun (y25_0, y25_1, y25_2, y25_3, y25_4, y25_5, y25_6) =>
                             k0 (y25_0, y25_1, y25_2, y25_3, y25_4, y25_5, y25_6))))))))))))
    (fun (y2_0, y2_1, y2_2, y2_3, y2_4, y2_5, y2_6) =>
      bif y2_0 == (7 : Int) then
       k0 ((7 : Int), y2_1, y2_2, y2_3, y2_4, y2_5, y2_6)
      else
       (f133 (x1) (x2)
         (fun y7 =>
           bif !y7 then
            k0 ((2 : Int), y2_1, y2_2, y2_3, y2_4, y2_5, y2_6)
           else
            (f71_a20 (y2_1) (y2_2) (y2_3) (y2_4) (y2_5) (y2_6)
              (fun (y12_0, y12_1, y12_2, y12_3, y12_4, y12_5, y12_6, y12_7) =>
                (f134 (y12_0) (y12_7) (x0) ((48 : Int))
                  (fun y16 =>
                    bif y16 != (0 : Int) then
                     k0 (y16, y12_1, y12_2, y12_3, y12_4, y12_5, y12_6)
                    else
                     (f136 (x0) (x1) (x2)
                       (fun y21 =>
                         (f135_2d4 (y21) (y12_1) (y12_2) (y12_3) (y12_4) (y12_5) (y12_6)
                           (fun (y25_0, y25_1, y25_2, y25_3, y25_4, y25_5, y25_6) =>
                             k0 (y25_0, y25_1, y25_2, y25_3, y25_4, y25_5, y25_6)))))))))))))) (fun r => match r with | (r0, r1, r2, r3, r4, r5, r6) => k (.c (.int .i64 r0), [.cells 164 (.int .i64 r1 :: .own 1 :: .int .i64 2048 :: .int .i64 1792 :: .int .i64 1568 :: .int .i64 1372 :: .int .i64 1201 :: .int .i64 1051 :: .int .i64 920 :: .int .i64 805 :: .int .i64 705 :: .int .i64 617 :: .int .i64 540 :: .int .i64 473 :: .int .i64 414 :: .int .i64 363 :: .int .i64 318 :: .int .i64 279 :: .int .i64 245 :: .int .i64 215 :: .int .i64 189 :: .int .i64 166 :: .int .i64 146 :: .int .i64 128 :: .int .i64 112 :: .int .i64 98 :: .int .i64 86 :: .int .i64 76 :: .int .i64 67 :: .int .i64 59 :: .int .i64 52 :: .int .i64 46 :: .int .i64 41 :: .int .i64 36 :: .int .u64 r2 :: .int .u64 r3 :: .own 2 :: .bool r4 :: []), .vec 3 (.int .i64) r5 false, .vec 5 (.int .u8) r6 true])) := by
  kernel_rfl
theorem F87_856_eq (fuel : Nat) (x0 : Int) (x1 : Bool) (x2 : Int) (x3 : Int) (x4 : Int) (x5 : Int) (x6 : Bool) (x7 : (List Int)) (x8 : (List Int)) (k : Ev.Cont) : evalFn tab (G87_856 fuel) (J87_856 fuel) kp87_856 fuel Tryz.f87 [.c (.ptr 0 0), .c (.int .i64 x0), .agg [.bool x1, .int .i64 x2]] [.cells 164 (.int .i64 x3 :: .own 1 :: .int .i64 2048 :: .int .i64 1792 :: .int .i64 1568 :: .int .i64 1372 :: .int .i64 1201 :: .int .i64 1051 :: .int .i64 920 :: .int .i64 805 :: .int .i64 705 :: .int .i64 617 :: .int .i64 540 :: .int .i64 473 :: .int .i64 414 :: .int .i64 363 :: .int .i64 318 :: .int .i64 279 :: .int .i64 245 :: .int .i64 215 :: .int .i64 189 :: .int .i64 166 :: .int .i64 146 :: .int .i64 128 :: .int .i64 112 :: .int .i64 98 :: .int .i64 86 :: .int .i64 76 :: .int .i64 67 :: .int .i64 59 :: .int .i64 52 :: .int .i64 46 :: .int .i64 41 :: .int .i64 36 :: .int .u64 x4 :: .int .u64 x5 :: .own 2 :: .bool x6 :: []), .vec 3 (.int .i64) x7 false, .vec 5 (.int .u8) x8 false] (wkC [1000002] k) = F_number_Put_856 fuel x0 x1 x2 x3 x4 x5 x6 x7 x8 (fun r => match r with | (r0, r1, r2, r3, r4, r5, r6) => k (.c (.int .i64 r0), [.cells 164 (.int .i64 r1 :: .own 1 :: .int .i64 2048 :: .int .i64 1792 :: .int .i64 1568 :: .int .i64 1372 :: .int .i64 1201 :: .int .i64 1051 :: .int .i64 920 :: .int .i64 805 :: .int .i64 705 :: .int .i64 617 :: .int .i64 540 :: .int .i64 473 :: .int .i64 414 :: .int .i64 363 :: .int .i64 318 :: .int .i64 279 :: .int .i64 245 :: .int .i64 215 :: .int .i64 189 :: .int .i64 166 :: .int .i64 146 :: .int .i64 128 :: .int .i64 112 :: .int .i64 98 :: .int .i64 86 :: .int .i64 76 :: .int .i64 67 :: .int .i64 59 :: .int .i64 52 :: .int .i64 46 :: .int .i64 41 :: .int .i64 36 :: .int .u64 r2 :: .int .u64 r3 :: .own 2 :: .bool r4 :: []), .vec 3 (.int .i64) r5 false, .vec 5 (.int .u8) r6 true])) :=
  F87_856_eqg fuel (F_coder_Encoder_Model_a20 fuel) (F_coder_Encoder_Put_cf0 fuel) (F_number_Valid fuel) (F_number_fits fuel) (F_number_put_2d4 fuel) (F_number_events fuel) x0 x1 x2 x3 x4 x5 x6 x7 x8 k
theorem hG87_856 (fuel : Nat) : GOK Tryz.prog (G87_856 fuel) :=
  gok_cons ⟨ok71_a20 fuel, enters_of Tryz.func71 (by kernel_rfl) rfl⟩ <|
  gok_cons ⟨ok130_cf0 fuel, enters_of Tryz.func130 (by kernel_rfl) rfl⟩ <|
  gok_cons ⟨ok133 fuel, enters_of Tryz.func133 (by kernel_rfl) rfl⟩ <|
  gok_cons ⟨ok134 fuel, enters_of Tryz.func134 (by kernel_rfl) rfl⟩ <|
  gok_cons ⟨ok135_2d4 fuel, enters_of Tryz.func135 (by kernel_rfl) rfl⟩ <|
  gok_cons ⟨ok136 fuel, enters_of Tryz.func136 (by kernel_rfl) rfl⟩ <|
  gok_nil
theorem fok87_856 (fuel : Nat) : FnOK Tryz.prog 87 (evalFn tab (G87_856 fuel) (J87_856 fuel) kp87_856 fuel Tryz.f87) :=
  fn_ok tab_ok (hG87_856 fuel) mixed Tryz.func87 (c := (Tryz.f87.body).getD .skip) rfl (fun q hq => by
    rw [(by kernel_rfl : obl (J87_856 fuel) ((Tryz.f87.body).getD .skip) = [])] at hq
    cases hq)
noncomputable def mt87_856 : List Ev.SV → List Ev.Ob → Bool := fun args objs => match args, objs with
  | [.c (.ptr q0 q1), .c (.int .i64 _), .agg [.bool _, .int .i64 _]], [.cells q2 cs0, .vec q3 (.int .i64) _ false, .vec q4 (.int .u8) _ false] => (match splitRun 2 [(.i64, 2048), (.i64, 1792), (.i64, 1568), (.i64, 1372), (.i64, 1201), (.i64, 1051), (.i64, 920), (.i64, 805), (.i64, 705), (.i64, 617), (.i64, 540), (.i64, 473), (.i64, 414), (.i64, 363), (.i64, 318), (.i64, 279), (.i64, 245), (.i64, 215), (.i64, 189), (.i64, 166), (.i64, 146), (.i64, 128), (.i64, 112), (.i64, 98), (.i64, 86), (.i64, 76), (.i64, 67), (.i64, 59), (.i64, 52), (.i64, 46), (.i64, 41), (.i64, 36)] cs0 with | some ([.int .i64 _, .own q5], [.int .u64 _, .int .u64 _, .own q6, .bool _]) => Nat.beq q0 0 && Nat.beq q1 0 && Nat.beq q2 164 && Nat.beq q3 3 && Nat.beq q4 5 && Nat.beq q5 1 && Nat.beq q6 2 | _ => false)
  | _, _ => false
noncomputable def spg87_856 (F : YF87_856) : Ev.Spec := fun args objs k => match args, objs with
  | [.c (.ptr q0 q1), .c (.int .i64 x0), .agg [.bool x1, .int .i64 x2]], [.cells q2 cs0, .vec q3 (.int .i64) x7 false, .vec q4 (.int .u8) x8 false] => (match splitRun 2 [(.i64, 2048), (.i64, 1792), (.i64, 1568), (.i64, 1372), (.i64, 1201), (.i64, 1051), (.i64, 920), (.i64, 805), (.i64, 705), (.i64, 617), (.i64, 540), (.i64, 473), (.i64, 414), (.i64, 363), (.i64, 318), (.i64, 279), (.i64, 245), (.i64, 215), (.i64, 189), (.i64, 166), (.i64, 146), (.i64, 128), (.i64, 112), (.i64, 98), (.i64, 86), (.i64, 76), (.i64, 67), (.i64, 59), (.i64, 52), (.i64, 46), (.i64, 41), (.i64, 36)] cs0 with | some ([.int .i64 x3, .own q5], [.int .u64 x4, .int .u64 x5, .own q6, .bool x6]) => bif Nat.beq q0 0 && Nat.beq q1 0 && Nat.beq q2 164 && Nat.beq q3 3 && Nat.beq q4 5 && Nat.beq q5 1 && Nat.beq q6 2 then F x0 x1 x2 x3 x4 x5 x6 x7 x8 (fun r => match r with | (r0, r1, r2, r3, r4, r5, r6) => k (.c (.int .i64 r0), [.cells 164 (.int .i64 r1 :: .own 1 :: .int .i64 2048 :: .int .i64 1792 :: .int .i64 1568 :: .int .i64 1372 :: .int .i64 1201 :: .int .i64 1051 :: .int .i64 920 :: .int .i64 805 :: .int .i64 705 :: .int .i64 617 :: .int .i64 540 :: .int .i64 473 :: .int .i64 414 :: .int .i64 363 :: .int .i64 318 :: .int .i64 279 :: .int .i64 245 :: .int .i64 215 :: .int .i64 189 :: .int .i64 166 :: .int .i64 146 :: .int .i64 128 :: .int .i64 112 :: .int .i64 98 :: .int .i64 86 :: .int .i64 76 :: .int .i64 67 :: .int .i64 59 :: .int .i64 52 :: .int .i64 46 :: .int .i64 41 :: .int .i64 36 :: .int .u64 r2 :: .int .u64 r3 :: .own 2 :: .bool r4 :: []), .vec 3 (.int .i64) r5 false, .vec 5 (.int .u8) r6 true])) else none | _ => none)
  | _, _ => none
noncomputable def spec87_856 (fuel : Nat) : Ev.Spec := spg87_856 (F_number_Put_856 fuel)
theorem ok87_856 (fuel : Nat) : FnOK Tryz.prog 87 (spec87_856 fuel) := by
  intro args objs kk r h
  unfold spec87_856 spg87_856 at h
  split at h
  · skip
    split at h
    rotate_left 1
    · cases h
    rename_i hsp
    have esp := splitRun_eq hsp
    subst esp
    obtain ⟨hb, h⟩ := cond_some' h
    simp only [Bool.and_eq_true, Nat.beq_eq, decide_eq_true_eq] at hb
    obtain ⟨⟨⟨⟨⟨⟨rfl, rfl⟩, rfl⟩, rfl⟩, rfl⟩, rfl⟩, rfl⟩ := hb
    exact (fok87_856 fuel).wk [1000002] _ _ kk r ((F87_856_eq fuel _ _ _ _ _ _ _ _ _ kk).trans h)
  · cases h
end Go.Proofs.YtmjeeaemmbkioaaGreat

set_option linter.unusedVariables false
set_option linter.unusedSimpArgs false
set_option maxRecDepth 100000
set_option maxHeartbeats 2000000
namespace Go.Proofs.YtmjeeaemmbkioaaGreat
open Go Ev
def kp112 (i : Nat) : Option (List Nat) := Ev.look i [(7, [3, 24, 25, 26]), (100000, []), (400000, [2])]
noncomputable def Gg112 (f : Nat) : Option Ev.Spec := Ev.look f []
noncomputable def G112 (fuel : Nat) : Nat → Option Ev.Spec := Gg112
noncomputable def S_coder_Valid_0 (fuel : Nat) (v : Int × (List Int) × Int × Int) (c : (Int × (List Int) × Int × Int) → Option Ans) (B : (Bool → Option Ans) × (Unit → Option Ans)) : Option Ans := match v, B with
  | (x0, x1, x2, x3), (ret, b) =>
   bif Decidable.decide (x3 < x2) then
      bif Decidable.decide ((0 : Int) ≤ x3 ∧ x3 < (↑x1.length : Int)) then
      bif Decidable.decide (x1.getD x3.toNat (0 : Int) < (0 : Int)) then
        ret Bool.false
       else
        bif Decidable.decide (x1.getD x3.toNat (0 : Int) ≥ x0) then
         ret Bool.false
        else
         c (x0, x1, x2, Go.IntKind.i64.wrap (x3 + (1 : Int)))
      else none
     else
      b ()
noncomputable def L_coder_Valid_0 (fuel : Nat) (v : Int × (List Int) × Int × Int) (ret : (Bool → Option Ans)) (b : (Unit → Option Ans)) : Option Ans := iter (S_coder_Valid_0 fuel) fuel v (ret, b)
noncomputable def J112_0 (fuel : Nat) (i : Nat) : Option Ev.Blk := Ev.look i []
noncomputable def T112_0 (v : Int × (List Int) × Int × Int) : Ev.St := match v with | (x0, x1, x2, x3) => ⟨[(3, .c (.int .i64 x0)), (24, .c (.sl (.int .i64) x1)), (25, .c (.int .i64 x2)), (26, .c (.int .i64 x3))], [], 0, 0⟩
noncomputable def E112_0 (K : Ev.Ex → Ev.St → Option Ans) : (Bool → Option Ans) × (Unit → Option Ans) := ((fun v => match v with | x0 => K .ret ⟨[(2, .c (.bool x0))], [], 0, 0⟩), (fun v => match v with | () => K .normal ⟨[], [], 0, 0⟩))
theorem S112_0_ok (fuel : Nat) (R : Ev.St → Option Ans) (K : Ev.Ex → Ev.St → Option Ans) (x0 : Int) (x1 : (List Int)) (x2 : Int) (x3 : Int) : evalCode tab (G112 fuel) (J112_0 fuel) kp112 fuel (bodyOf 0 Tryz.f112) (T112_0 (x0, x1, x2, x3)) (lc kp112 7 0 R K) = S_coder_Valid_0 fuel (x0, x1, x2, x3) (fun v => R (T112_0 v)) (E112_0 K) := by
  kernel_rfl
noncomputable def B112_0 (fuel : Nat) : Ev.Blk := fun st K => match canonO (kp112 7) st with
  | some s => (match s with
    | ⟨[(q0, .c (.int .i64 x0)), (q1, .c (.sl (.int .i64) x1)), (q2, .c (.int .i64 x2)), (q3, .c (.int .i64 x3))], [], q4, q5⟩ => bif Nat.beq q0 3 && Nat.beq q1 24 && Nat.beq q2 25 && Nat.beq q3 26 && Nat.beq q4 0 && Nat.beq q5 0 then iter (S_coder_Valid_0 fuel) fuel (x0, x1, x2, x3) (E112_0 K) else none
    | _ => none)
  | none => none
theorem B112_0_ok (fuel : Nat) (st : Ev.St) (K : Ev.Ex → Ev.St → Option Ans) (r : Ans) (h : B112_0 fuel st K = some r) : evalCode tab (G112 fuel) (J112_0 fuel) kp112 fuel (.block 0 (.loop (bodyOf 0 Tryz.f112))) st K = some r := by
  unfold B112_0 at h
  split at h
  · rename_i s hs
    split at h
    · skip
      obtain ⟨hb, h⟩ := cond_some' h
      simp only [Bool.and_eq_true, Nat.beq_eq, decide_eq_true_eq] at hb
      obtain ⟨⟨⟨⟨⟨rfl, rfl⟩, rfl⟩, rfl⟩, rfl⟩, rfl⟩ := hb
      exact blk_loop (S := T112_0) (ks := E112_0) (step := S_coder_Valid_0 fuel) (v := (_, _, _, _)) (by kernel_rfl) (by kernel_rfl) (fun R K v => by obtain ⟨x0, x1, x2, x3⟩ := v; exact S112_0_ok fuel R K x0 x1 x2 x3) hs h
    · cases h
  · cases h
noncomputable def J112 (fuel : Nat) (i : Nat) : Option Ev.Blk := Ev.look i [(100000, B112_0 fuel)]
noncomputable def F_coder_Valid (fuel : Nat) (x0 : Int) (x1 : (List Int)) (k0 : (Bool) → Option Ans) : Option Ans :=
  bif x0 != (0 : Int) then
   bif x0 != (1 : Int) then
    k0 Bool.false
   else
    bif Decidable.decide ((↑x1.length : Int) > (8192 : Int)) then
     k0 Bool.false
    else
     bif x0 == (1 : Int) then
      (L_coder_Valid_0 fuel ((65536 : Int), x1, (↑x1.length : Int), (0 : Int))
        (fun ret0_0 =>
          k0 ret0_0)
        (fun () =>
          k0 Bool.true))
     else
      (L_coder_Valid_0 fuel ((64 : Int), x1, (↑x1.length : Int), (0 : Int))
        (fun ret0_0 =>
          k0 ret0_0)
        (fun () =>
          k0 Bool.true))
  else
   bif Decidable.decide ((↑x1.length : Int) > (8192 : Int)) then
    k0 Bool.false
   else
    bif x0 == (1 : Int) then
     (L_coder_Valid_0 fuel ((65536 : Int), x1, (↑x1.length : Int), (0 : Int))
       (fun ret0_0 =>
         k0 ret0_0)
       (fun () =>
         k0 Bool.true))
    else
     (L_coder_Valid_0 fuel ((64 : Int), x1, (↑x1.length : Int), (0 : Int))
       (fun ret0_0 =>
         k0 ret0_0)
       (fun () =>
         k0 Bool.true))
abbrev YF112 : Type := (Int) → ((List Int)) → ((Bool) → Option Ans) → Option Ans
theorem F112_eq (fuel : Nat) (x0 : Int) (x1 : (List Int)) (k : Ev.Cont) : evalFn tab (G112 fuel) (J112 fuel) kp112 fuel Tryz.f112 [.agg [.int .i64 x0, .sl (.int .i64) x1]] [] k = F_coder_Valid fuel x0 x1 (fun r => match r with | r0 => k (.c (.bool r0), [])) := by
  kernel_rfl
theorem hG112 (fuel : Nat) : GOK Tryz.prog (G112 fuel) :=
  gok_nil
theorem B112_0_blk (fuel : Nat) : BlkOK Tryz.prog Tryz.f112.ntmps (.block 0 (.loop (bodyOf 0 Tryz.f112))) (B112_0 fuel) :=
  blk_of (blk_of_code tab_ok (hG112 fuel) mixed (J := J112_0 fuel) (kp := kp112) (fuel := fuel) (by kernel_rfl) (fun q hq => by
    rw [(by kernel_rfl : obl (J112_0 fuel) (.block 0 (.loop (bodyOf 0 Tryz.f112))) = [])] at hq
    cases hq)) (B112_0_ok fuel)
theorem fok112 (fuel : Nat) : FnOK Tryz.prog 112 (evalFn tab (G112 fuel) (J112 fuel) kp112 fuel Tryz.f112) :=
  fn_ok tab_ok (hG112 fuel) mixed Tryz.func112 (c := (Tryz.f112.body).getD .skip) rfl (fun q hq => by
    rw [(by kernel_rfl : obl (J112 fuel) ((Tryz.f112.body).getD .skip) = [(.block 0 (.loop (bodyOf 0 Tryz.f112)), B112_0 fuel)])] at hq
    simp only [List.mem_cons, List.not_mem_nil, or_false] at hq
    subst hq
    · exact B112_0_blk fuel)
noncomputable def mt112 : List Ev.SV → List Ev.Ob → Bool := fun args objs => match args, objs with
  | [.agg [.int .i64 _, .sl (.int .i64) _]], [] => true
  | _, _ => false
noncomputable def spg112 (F : YF112) : Ev.Spec := fun args objs k => match args, objs with
  | [.agg [.int .i64 x0, .sl (.int .i64) x1]], [] => bif true then F x0 x1 (fun r => match r with | r0 => k (.c (.bool r0), [])) else none
  | _, _ => none
noncomputable def spec112 (fuel : Nat) : Ev.Spec := spg112 (F_coder_Valid fuel)
theorem ok112 (fuel : Nat) : FnOK Tryz.prog 112 (spec112 fuel) := by
  intro args objs kk r h
  unfold spec112 spg112 at h
  split at h
  · skip
    obtain ⟨hb, h⟩ := cond_some' h
    simp only [Bool.and_eq_true, Nat.beq_eq, decide_eq_true_eq] at hb
    clear hb
    exact fok112 fuel _ _ kk r ((F112_eq fuel _ _ kk).trans h)
  · cases h
end Go.Proofs.YtmjeeaemmbkioaaGreat

set_option linter.unusedVariables false
set_option linter.unusedSimpArgs false
set_option maxRecDepth 100000
set_option maxHeartbeats 2000000
namespace Go.Proofs.YtmjeeaemmbkioaaGreat
open Go Ev
def kp152 (i : Nat) : Option (List Nat) := Ev.look i [(4, [0, 1, 2, 4]), (100000, [0, 1]), (400000, [0])]
noncomputable def Gg152 (f : Nat) : Option Ev.Spec := Ev.look f []
noncomputable def G152 (fuel : Nat) : Nat → Option Ev.Spec := Gg152
noncomputable def J152 (fuel : Nat) (i : Nat) : Option Ev.Blk := Ev.look i []
noncomputable def F_coder_chances (fuel : Nat)  (k0 : (Unit) → Option Ans) : Option Ans :=
  k0 ()
abbrev YF152 : Type := ((Unit) → Option Ans) → Option Ans
theorem F152_eq (fuel : Nat)  (k : Ev.Cont) : evalFn tab (G152 fuel) (J152 fuel) kp152 100 Tryz.f152 [] [] k = F_coder_chances fuel  (fun r => match r with | () => k (.agg (.int .i64 2048 :: .int .i64 1792 :: .int .i64 1568 :: .int .i64 1372 :: .int .i64 1201 :: .int .i64 1051 :: .int .i64 920 :: .int .i64 805 :: .int .i64 705 :: .int .i64 617 :: .int .i64 540 :: .int .i64 473 :: .int .i64 414 :: .int .i64 363 :: .int .i64 318 :: .int .i64 279 :: .int .i64 245 :: .int .i64 215 :: .int .i64 189 :: .int .i64 166 :: .int .i64 146 :: .int .i64 128 :: .int .i64 112 :: .int .i64 98 :: .int .i64 86 :: .int .i64 76 :: .int .i64 67 :: .int .i64 59 :: .int .i64 52 :: .int .i64 46 :: .int .i64 41 :: .int .i64 36 :: []), [])) := by
  kernel_rfl
theorem hG152 (fuel : Nat) : GOK Tryz.prog (G152 fuel) :=
  gok_nil
theorem fok152 (fuel : Nat) : FnOK Tryz.prog 152 (evalFn tab (G152 fuel) (J152 fuel) kp152 100 Tryz.f152) :=
  fn_ok tab_ok (hG152 fuel) mixed Tryz.func152 (c := (Tryz.f152.body).getD .skip) rfl (fun q hq => by
    rw [(by kernel_rfl : obl (J152 fuel) ((Tryz.f152.body).getD .skip) = [])] at hq
    cases hq)
noncomputable def mt152 : List Ev.SV → List Ev.Ob → Bool := fun args objs => match args, objs with
  | [], [] => true
  | _, _ => false
noncomputable def spg152 (F : YF152) : Ev.Spec := fun args objs k => match args, objs with
  | [], [] => bif true then F  (fun r => match r with | () => k (.agg (.int .i64 2048 :: .int .i64 1792 :: .int .i64 1568 :: .int .i64 1372 :: .int .i64 1201 :: .int .i64 1051 :: .int .i64 920 :: .int .i64 805 :: .int .i64 705 :: .int .i64 617 :: .int .i64 540 :: .int .i64 473 :: .int .i64 414 :: .int .i64 363 :: .int .i64 318 :: .int .i64 279 :: .int .i64 245 :: .int .i64 215 :: .int .i64 189 :: .int .i64 166 :: .int .i64 146 :: .int .i64 128 :: .int .i64 112 :: .int .i64 98 :: .int .i64 86 :: .int .i64 76 :: .int .i64 67 :: .int .i64 59 :: .int .i64 52 :: .int .i64 46 :: .int .i64 41 :: .int .i64 36 :: []), [])) else none
  | _, _ => none
noncomputable def spec152 (fuel : Nat) : Ev.Spec := spg152 (F_coder_chances fuel)
theorem ok152 (fuel : Nat) : FnOK Tryz.prog 152 (spec152 fuel) := by
  intro args objs kk r h
  unfold spec152 spg152 at h
  split at h
  · skip
    obtain ⟨hb, h⟩ := cond_some' h
    simp only [Bool.and_eq_true, Nat.beq_eq, decide_eq_true_eq] at hb
    clear hb
    exact fok152 fuel _ _ kk r ((F152_eq fuel kk).trans h)
  · cases h
end Go.Proofs.YtmjeeaemmbkioaaGreat

set_option linter.unusedVariables false
set_option linter.unusedSimpArgs false
set_option maxRecDepth 100000
set_option maxHeartbeats 2000000
namespace Go.Proofs.YtmjeeaemmbkioaaGreat
open Go Ev
def kp114 (i : Nat) : Option (List Nat) := Ev.look i []
noncomputable def Gg114 (f119 : YF119) (f152 : YF152) (f : Nat) : Option Ev.Spec := Ev.look f [(119, spg119 f119), (152, spg152 f152)]
noncomputable def G114 (fuel : Nat) : Nat → Option Ev.Spec := Gg114 (F_coder_clone fuel) (F_coder_chances fuel)
noncomputable def J114 (fuel : Nat) (i : Nat) : Option Ev.Blk := Ev.look i []
noncomputable def F_coder_begin (fuel : Nat) (x0 : Int) (x1 : (List Int)) (k0 : (Int × Int × Int × (List Int)) → Option Ans) : Option Ans :=
  (F_coder_clone fuel (x0) (x1)
    (fun (y2_0, y2_1) =>
      (F_coder_chances fuel
        (fun y6 =>
          k0 (y2_0, (0 : Int), (4294967295 : Int), y2_1)))))
abbrev YF114 : Type := (Int) → ((List Int)) → ((Int × Int × Int × (List Int)) → Option Ans) → Option Ans
theorem F114_eqg (fuel : Nat) (f119 : YF119) (f152 : YF152) (x0 : Int) (x1 : (List Int)) (k : Ev.Cont) : evalFn tab (Gg114 f119 f152) (J114 fuel) kp114 fuel Tryz.f114 [.agg [.int .i64 x0, .sl (.int .i64) x1]] [] k = (fun  (k0 : (Int × Int × Int × (List Int)) → Option Ans) =>
  (f119 (x0) (x1)
    (fun (y2_0, y2_1) =>
      (f152
        (fun y6 =>
          k0 (y2_0, (0 : Int), (4294967295 : Int), y2_1)))))) (fun r => match r with | (r0, r1, r2, r3) => k (.agg (.int .i64 r0 :: .own 0 :: .int .i64 2048 :: .int .i64 1792 :: .int .i64 1568 :: .int .i64 1372 :: .int .i64 1201 :: .int .i64 1051 :: .int .i64 920 :: .int .i64 805 :: .int .i64 705 :: .int .i64 617 :: .int .i64 540 :: .int .i64 473 :: .int .i64 414 :: .int .i64 363 :: .int .i64 318 :: .int .i64 279 :: .int .i64 245 :: .int .i64 215 :: .int .i64 189 :: .int .i64 166 :: .int .i64 146 :: .int .i64 128 :: .int .i64 112 :: .int .i64 98 :: .int .i64 86 :: .int .i64 76 :: .int .i64 67 :: .int .i64 59 :: .int .i64 52 :: .int .i64 46 :: .int .i64 41 :: .int .i64 36 :: .int .u64 r1 :: .int .u64 r2 :: []), [.vec 3 (.int .i64) r3 true])) := by
  kernel_rfl
theorem F114_eq (fuel : Nat) (x0 : Int) (x1 : (List Int)) (k : Ev.Cont) : evalFn tab (G114 fuel) (J114 fuel) kp114 fuel Tryz.f114 [.agg [.int .i64 x0, .sl (.int .i64) x1]] [] k = F_coder_begin fuel x0 x1 (fun r => match r with | (r0, r1, r2, r3) => k (.agg (.int .i64 r0 :: .own 0 :: .int .i64 2048 :: .int .i64 1792 :: .int .i64 1568 :: .int .i64 1372 :: .int .i64 1201 :: .int .i64 1051 :: .int .i64 920 :: .int .i64 805 :: .int .i64 705 :: .int .i64 617 :: .int .i64 540 :: .int .i64 473 :: .int .i64 414 :: .int .i64 363 :: .int .i64 318 :: .int .i64 279 :: .int .i64 245 :: .int .i64 215 :: .int .i64 189 :: .int .i64 166 :: .int .i64 146 :: .int .i64 128 :: .int .i64 112 :: .int .i64 98 :: .int .i64 86 :: .int .i64 76 :: .int .i64 67 :: .int .i64 59 :: .int .i64 52 :: .int .i64 46 :: .int .i64 41 :: .int .i64 36 :: .int .u64 r1 :: .int .u64 r2 :: []), [.vec 3 (.int .i64) r3 true])) :=
  F114_eqg fuel (F_coder_clone fuel) (F_coder_chances fuel) x0 x1 k
theorem hG114 (fuel : Nat) : GOK Tryz.prog (G114 fuel) :=
  gok_cons ⟨ok119 fuel, enters_of Tryz.func119 (by kernel_rfl) rfl⟩ <|
  gok_cons ⟨ok152 fuel, enters_of Tryz.func152 (by kernel_rfl) rfl⟩ <|
  gok_nil
theorem fok114 (fuel : Nat) : FnOK Tryz.prog 114 (evalFn tab (G114 fuel) (J114 fuel) kp114 fuel Tryz.f114) :=
  fn_ok tab_ok (hG114 fuel) mixed Tryz.func114 (c := (Tryz.f114.body).getD .skip) rfl (fun q hq => by
    rw [(by kernel_rfl : obl (J114 fuel) ((Tryz.f114.body).getD .skip) = [])] at hq
    cases hq)
noncomputable def mt114 : List Ev.SV → List Ev.Ob → Bool := fun args objs => match args, objs with
  | [.agg [.int .i64 _, .sl (.int .i64) _]], [] => true
  | _, _ => false
noncomputable def spg114 (F : YF114) : Ev.Spec := fun args objs k => match args, objs with
  | [.agg [.int .i64 x0, .sl (.int .i64) x1]], [] => bif true then F x0 x1 (fun r => match r with | (r0, r1, r2, r3) => k (.agg (.int .i64 r0 :: .own 0 :: .int .i64 2048 :: .int .i64 1792 :: .int .i64 1568 :: .int .i64 1372 :: .int .i64 1201 :: .int .i64 1051 :: .int .i64 920 :: .int .i64 805 :: .int .i64 705 :: .int .i64 617 :: .int .i64 540 :: .int .i64 473 :: .int .i64 414 :: .int .i64 363 :: .int .i64 318 :: .int .i64 279 :: .int .i64 245 :: .int .i64 215 :: .int .i64 189 :: .int .i64 166 :: .int .i64 146 :: .int .i64 128 :: .int .i64 112 :: .int .i64 98 :: .int .i64 86 :: .int .i64 76 :: .int .i64 67 :: .int .i64 59 :: .int .i64 52 :: .int .i64 46 :: .int .i64 41 :: .int .i64 36 :: .int .u64 r1 :: .int .u64 r2 :: []), [.vec 3 (.int .i64) r3 true])) else none
  | _, _ => none
noncomputable def spec114 (fuel : Nat) : Ev.Spec := spg114 (F_coder_begin fuel)
theorem ok114 (fuel : Nat) : FnOK Tryz.prog 114 (spec114 fuel) := by
  intro args objs kk r h
  unfold spec114 spg114 at h
  split at h
  · skip
    obtain ⟨hb, h⟩ := cond_some' h
    simp only [Bool.and_eq_true, Nat.beq_eq, decide_eq_true_eq] at hb
    clear hb
    exact fok114 fuel _ _ kk r ((F114_eq fuel _ _ kk).trans h)
  · cases h
end Go.Proofs.YtmjeeaemmbkioaaGreat

set_option linter.unusedVariables false
set_option linter.unusedSimpArgs false
set_option maxRecDepth 100000
set_option maxHeartbeats 2000000
namespace Go.Proofs.YtmjeeaemmbkioaaGreat
open Go Ev
def kp120_40a (i : Nat) : Option (List Nat) := Ev.look i [(200001, [0]), (200002, [0])]
noncomputable def Gg120_40a (f : Nat) : Option Ev.Spec := Ev.look f []
noncomputable def G120_40a (fuel : Nat) : Nat → Option Ev.Spec := Gg120_40a
noncomputable def J120_40a (fuel : Nat) (i : Nat) : Option Ev.Blk := Ev.look i []
noncomputable def F_coder_Decoder_shift_40a (fuel : Nat) (x0 : Int) (x1 : Int) (x2 : Int) (x3 : Int) (x4 : Int) (x5 : Int) (x6 : Bool) (x7 : Bool) (x8 : (List Int)) (x9 : (List Int)) (k0 : (Int × Int × Int × Int × Int × Int × Bool × Bool × (List Int) × (List Int)) → Option Ans) : Option Ans :=
  bif Decidable.decide (x3 < (↑x9.length : Int)) then
   bif Decidable.decide ((0 : Int) ≤ x3 ∧ x3 < (↑x9.length : Int)) then
   k0 (x0, x1, x2, Go.IntKind.i64.wrap (x3 + (1 : Int)), Ev.ior Go.IntKind.u64 (Ev.iand Go.IntKind.u64 (Ev.ishl Go.IntKind.u64 x4 (8 : Int)) (4294967295 : Int)) (Go.IntKind.u64.wrap (x9.getD x3.toNat (0 : Int))), x5, x6, x7, x8, x9)
   else none
  else
   k0 (x0, x1, x2, Go.IntKind.i64.wrap (x3 + (1 : Int)), Ev.ior Go.IntKind.u64 (Ev.iand Go.IntKind.u64 (Ev.ishl Go.IntKind.u64 x4 (8 : Int)) (4294967295 : Int)) (Go.IntKind.u64.wrap (0 : Int)), Go.IntKind.i64.wrap (x5 + (1 : Int)), x6, x7, x8, x9)
abbrev YF120_40a : Type := (Int) → (Int) → (Int) → (Int) → (Int) → (Int) → (Bool) → (Bool) → ((List Int)) → ((List Int)) → ((Int × Int × Int × Int × Int × Int × Bool × Bool × (List Int) × (List Int)) → Option Ans) → Option Ans
theorem F120_40a_eq (fuel : Nat) (x0 : Int) (x1 : Int) (x2 : Int) (x3 : Int) (x4 : Int) (x5 : Int) (x6 : Bool) (x7 : Bool) (x8 : (List Int)) (x9 : (List Int)) (k : Ev.Cont) : evalFn tab (G120_40a fuel) (J120_40a fuel) kp120_40a fuel Tryz.f120 [.c (.ptr 0 0)] [.cells 168 (.int .i64 x0 :: .own 1 :: .int .i64 2048 :: .int .i64 1792 :: .int .i64 1568 :: .int .i64 1372 :: .int .i64 1201 :: .int .i64 1051 :: .int .i64 920 :: .int .i64 805 :: .int .i64 705 :: .int .i64 617 :: .int .i64 540 :: .int .i64 473 :: .int .i64 414 :: .int .i64 363 :: .int .i64 318 :: .int .i64 279 :: .int .i64 245 :: .int .i64 215 :: .int .i64 189 :: .int .i64 166 :: .int .i64 146 :: .int .i64 128 :: .int .i64 112 :: .int .i64 98 :: .int .i64 86 :: .int .i64 76 :: .int .i64 67 :: .int .i64 59 :: .int .i64 52 :: .int .i64 46 :: .int .i64 41 :: .int .i64 36 :: .int .u64 x1 :: .int .u64 x2 :: .own 2 :: .int .i64 x3 :: .int .u64 x4 :: .int .i64 x5 :: .bool x6 :: .bool x7 :: []), .vec 3 (.int .i64) x8 false, .vec 5 (.int .u8) x9 false] k = F_coder_Decoder_shift_40a fuel x0 x1 x2 x3 x4 x5 x6 x7 x8 x9 (fun r => match r with | (r0, r1, r2, r3, r4, r5, r6, r7, r8, r9) => k (.tup [], [.cells 168 (.int .i64 r0 :: .own 1 :: .int .i64 2048 :: .int .i64 1792 :: .int .i64 1568 :: .int .i64 1372 :: .int .i64 1201 :: .int .i64 1051 :: .int .i64 920 :: .int .i64 805 :: .int .i64 705 :: .int .i64 617 :: .int .i64 540 :: .int .i64 473 :: .int .i64 414 :: .int .i64 363 :: .int .i64 318 :: .int .i64 279 :: .int .i64 245 :: .int .i64 215 :: .int .i64 189 :: .int .i64 166 :: .int .i64 146 :: .int .i64 128 :: .int .i64 112 :: .int .i64 98 :: .int .i64 86 :: .int .i64 76 :: .int .i64 67 :: .int .i64 59 :: .int .i64 52 :: .int .i64 46 :: .int .i64 41 :: .int .i64 36 :: .int .u64 r1 :: .int .u64 r2 :: .own 2 :: .int .i64 r3 :: .int .u64 r4 :: .int .i64 r5 :: .bool r6 :: .bool r7 :: []), .vec 3 (.int .i64) r8 false, .vec 5 (.int .u8) r9 false])) := by
  kernel_rfl
theorem hG120_40a (fuel : Nat) : GOK Tryz.prog (G120_40a fuel) :=
  gok_nil
theorem fok120_40a (fuel : Nat) : FnOK Tryz.prog 120 (evalFn tab (G120_40a fuel) (J120_40a fuel) kp120_40a fuel Tryz.f120) :=
  fn_ok tab_ok (hG120_40a fuel) mixed Tryz.func120 (c := (Tryz.f120.body).getD .skip) rfl (fun q hq => by
    rw [(by kernel_rfl : obl (J120_40a fuel) ((Tryz.f120.body).getD .skip) = [])] at hq
    cases hq)
noncomputable def mt120_40a : List Ev.SV → List Ev.Ob → Bool := fun args objs => match args, objs with
  | [.c (.ptr q0 q1)], [.cells q2 cs0, .vec q3 (.int .i64) _ false, .vec q4 (.int .u8) _ false] => (match splitRun 2 [(.i64, 2048), (.i64, 1792), (.i64, 1568), (.i64, 1372), (.i64, 1201), (.i64, 1051), (.i64, 920), (.i64, 805), (.i64, 705), (.i64, 617), (.i64, 540), (.i64, 473), (.i64, 414), (.i64, 363), (.i64, 318), (.i64, 279), (.i64, 245), (.i64, 215), (.i64, 189), (.i64, 166), (.i64, 146), (.i64, 128), (.i64, 112), (.i64, 98), (.i64, 86), (.i64, 76), (.i64, 67), (.i64, 59), (.i64, 52), (.i64, 46), (.i64, 41), (.i64, 36)] cs0 with | some ([.int .i64 _, .own q5], [.int .u64 _, .int .u64 _, .own q6, .int .i64 _, .int .u64 _, .int .i64 _, .bool _, .bool _]) => Nat.beq q0 0 && Nat.beq q1 0 && Nat.beq q2 168 && Nat.beq q3 3 && Nat.beq q4 5 && Nat.beq q5 1 && Nat.beq q6 2 | _ => false)
  | _, _ => false
noncomputable def spg120_40a (F : YF120_40a) : Ev.Spec := fun args objs k => match args, objs with
  | [.c (.ptr q0 q1)], [.cells q2 cs0, .vec q3 (.int .i64) x8 false, .vec q4 (.int .u8) x9 false] => (match splitRun 2 [(.i64, 2048), (.i64, 1792), (.i64, 1568), (.i64, 1372), (.i64, 1201), (.i64, 1051), (.i64, 920), (.i64, 805), (.i64, 705), (.i64, 617), (.i64, 540), (.i64, 473), (.i64, 414), (.i64, 363), (.i64, 318), (.i64, 279), (.i64, 245), (.i64, 215), (.i64, 189), (.i64, 166), (.i64, 146), (.i64, 128), (.i64, 112), (.i64, 98), (.i64, 86), (.i64, 76), (.i64, 67), (.i64, 59), (.i64, 52), (.i64, 46), (.i64, 41), (.i64, 36)] cs0 with | some ([.int .i64 x0, .own q5], [.int .u64 x1, .int .u64 x2, .own q6, .int .i64 x3, .int .u64 x4, .int .i64 x5, .bool x6, .bool x7]) => bif Nat.beq q0 0 && Nat.beq q1 0 && Nat.beq q2 168 && Nat.beq q3 3 && Nat.beq q4 5 && Nat.beq q5 1 && Nat.beq q6 2 then F x0 x1 x2 x3 x4 x5 x6 x7 x8 x9 (fun r => match r with | (r0, r1, r2, r3, r4, r5, r6, r7, r8, r9) => k (.tup [], [.cells 168 (.int .i64 r0 :: .own 1 :: .int .i64 2048 :: .int .i64 1792 :: .int .i64 1568 :: .int .i64 1372 :: .int .i64 1201 :: .int .i64 1051 :: .int .i64 920 :: .int .i64 805 :: .int .i64 705 :: .int .i64 617 :: .int .i64 540 :: .int .i64 473 :: .int .i64 414 :: .int .i64 363 :: .int .i64 318 :: .int .i64 279 :: .int .i64 245 :: .int .i64 215 :: .int .i64 189 :: .int .i64 166 :: .int .i64 146 :: .int .i64 128 :: .int .i64 112 :: .int .i64 98 :: .int .i64 86 :: .int .i64 76 :: .int .i64 67 :: .int .i64 59 :: .int .i64 52 :: .int .i64 46 :: .int .i64 41 :: .int .i64 36 :: .int .u64 r1 :: .int .u64 r2 :: .own 2 :: .int .i64 r3 :: .int .u64 r4 :: .int .i64 r5 :: .bool r6 :: .bool r7 :: []), .vec 3 (.int .i64) r8 false, .vec 5 (.int .u8) r9 false])) else none | _ => none)
  | _, _ => none
noncomputable def spec120_40a (fuel : Nat) : Ev.Spec := spg120_40a (F_coder_Decoder_shift_40a fuel)
theorem ok120_40a (fuel : Nat) : FnOK Tryz.prog 120 (spec120_40a fuel) := by
  intro args objs kk r h
  unfold spec120_40a spg120_40a at h
  split at h
  · skip
    split at h
    rotate_left 1
    · cases h
    rename_i hsp
    have esp := splitRun_eq hsp
    subst esp
    obtain ⟨hb, h⟩ := cond_some' h
    simp only [Bool.and_eq_true, Nat.beq_eq, decide_eq_true_eq] at hb
    obtain ⟨⟨⟨⟨⟨⟨rfl, rfl⟩, rfl⟩, rfl⟩, rfl⟩, rfl⟩, rfl⟩ := hb
    exact fok120_40a fuel _ _ kk r ((F120_40a_eq fuel _ _ _ _ _ _ _ _ _ _ kk).trans h)
  · cases h
end Go.Proofs.YtmjeeaemmbkioaaGreat

set_option linter.unusedVariables false
set_option linter.unusedSimpArgs false
set_option maxRecDepth 100000
set_option maxHeartbeats 2000000
namespace Go.Proofs.YtmjeeaemmbkioaaGreat
open Go Ev
def kp129_3d3 (i : Nat) : Option (List Nat) := Ev.look i [(11, [0, 1, 3, 10, 11, 12]), (100000, [0, 11]), (400000, [8])]
noncomputable def Gg129_3d3 (f71_975 : YF71_975) (f130_9ef : YF130_9ef) (f134 : YF134) (f135_e63 : YF135_e63) (f : Nat) : Option Ev.Spec := Ev.look f [(71, spg71_975 f71_975), (130, spg130_9ef f130_9ef), (134, spg134 f134), (135, spg135_e63 f135_e63)]
noncomputable def G129_3d3 (fuel : Nat) : Nat → Option Ev.Spec := Gg129_3d3 (F_coder_Encoder_Model_975 fuel) (F_coder_Encoder_Put_9ef fuel) (F_number_fits fuel) (F_number_put_e63 fuel)
noncomputable def S_number_PutId_3d3_0 (fuel : Nat) (v : Int × Int × Int × Int × (List (Int × Int))) (c : (Int × Int × Int × Int × (List (Int × Int))) → Option Ans) (B : ((List (Int × Int)) → Option Ans)) : Option Ans := match v, B with
  | (x0, x1, x2, x3, x4), b =>
   bif Decidable.decide (x3 ≥ (0 : Int)) then
      bif Decidable.decide (x3 < (0 : Int)) then
       none
      else
       bif Decidable.decide ((x4.length + [(Go.IntKind.i64.wrap (Go.IntKind.i64.wrap (x0 + x2) - (1 : Int)), Ev.iand Go.IntKind.i64 (Ev.ishr Go.IntKind.i64 x1 x3) (1 : Int))].length) * (16 : Nat) ≤ (140737488355328 : Nat) ∧ x4.length + [(Go.IntKind.i64.wrap (Go.IntKind.i64.wrap (x0 + x2) - (1 : Int)), Ev.iand Go.IntKind.i64 (Ev.ishr Go.IntKind.i64 x1 x3) (1 : Int))].length ≤ (140737488355328 : Nat)) then
       c (x0, x1, Go.IntKind.i64.wrap (Go.IntKind.i64.wrap ((2 : Int) * x2) + Ev.iand Go.IntKind.i64 (Ev.ishr Go.IntKind.i64 x1 x3) (1 : Int)), Go.IntKind.i64.wrap (x3 - (1 : Int)), x4 ++ [(Go.IntKind.i64.wrap (Go.IntKind.i64.wrap (x0 + x2) - (1 : Int)), Ev.iand Go.IntKind.i64 (Ev.ishr Go.IntKind.i64 x1 x3) (1 : Int))])
       else none
     else
      b x4
noncomputable def L_number_PutId_3d3_0 (fuel : Nat) (v : Int × Int × Int × Int × (List (Int × Int))) (b : ((List (Int × Int)) → Option Ans)) : Option Ans := iter (S_number_PutId_3d3_0 fuel) fuel v b
noncomputable def J129_3d3_0 (fuel : Nat) (i : Nat) : Option Ev.Blk := Ev.look i []
noncomputable def T129_3d3_0 (v : Int × Int × Int × Int × (List (Int × Int))) : Ev.St := match v with | (x0, x1, x2, x3, x4) => ⟨[(0, .c (.nilptr)), (1, .c (.int .i64 x0)), (3, .c (.int .i64 x1)), (10, .c (.int .i64 x2)), (11, .c (.own 0)), (12, .c (.int .i64 x3))], [(0, .vec 205 (.pair (.int .i64) (.int .i64)) x4 true)], 1, 0⟩
noncomputable def E129_3d3_0 (K : Ev.Ex → Ev.St → Option Ans) : ((List (Int × Int)) → Option Ans) := (fun v => match v with | x0 => K .normal ⟨[(0, .c (.nilptr)), (11, .c (.own 0))], [(0, .vec 205 (.pair (.int .i64) (.int .i64)) x0 true)], 1, 0⟩)
theorem S129_3d3_0_okg (fuel : Nat) (f71_975 : YF71_975) (f130_9ef : YF130_9ef) (f134 : YF134) (f135_e63 : YF135_e63) (R : Ev.St → Option Ans) (K : Ev.Ex → Ev.St → Option Ans) (x0 : Int) (x1 : Int) (x2 : Int) (x3 : Int) (x4 : (List (Int × Int))) : evalCode tab (Gg129_3d3 f71_975 f130_9ef f134 f135_e63) (J129_3d3_0 fuel) kp129_3d3 fuel (bodyOf 0 Tryz.f129) (T129_3d3_0 (x0, x1, x2, x3, x4)) (lc kp129_3d3 11 0 R K) = (fun (c : (Int × Int × Int × Int × (List (Int × Int))) → Option Ans) (B : ((List (Int × Int)) → Option Ans)) => match B with
  | b =>
   bif Decidable.decide (x3 ≥ (0 : Int)) then
      bif Decidable.decide (x3 < (0 : Int)) then
       none
      else
       bif Decidable.decide ((x4.length + [(Go.IntKind.i64.wrap (Go.IntKind.i64.wrap (x0 + x2) - (1 : Int)), Ev.iand Go.IntKind.i64 (Ev.ishr Go.IntKind.i64 x1 x3) (1 : Int))].length) * (16 : Nat) ≤ (140737488355328 : Nat) ∧ x4.length + [(Go.IntKind.i64.wrap (Go.IntKind.i64.wrap (x0 + x2) - (1 : Int)), Ev.iand Go.IntKind.i64 (Ev.ishr Go.IntKind.i64 x1 x3) (1 : Int))].length ≤ (140737488355328 : Nat)) then
       c (x0, x1, Go.IntKind.i64.wrap (Go.IntKind.i64.wrap ((2 : Int) * x2) + Ev.iand Go.IntKind.i64 (Ev.ishr Go.IntKind.i64 x1 x3) (1 : Int)), Go.IntKind.i64.wrap (x3 - (1 : Int)), x4 ++ [(Go.IntKind.i64.wrap (Go.IntKind.i64.wrap (x0 + x2) - (1 : Int)), Ev.iand Go.IntKind.i64 (Ev.ishr Go.IntKind.i64 x1 x3) (1 : Int))])
       else none
     else
      b x4) (fun v => R (T129_3d3_0 v)) (E129_3d3_0 K) := by
  kernel_rfl
theorem S129_3d3_0_ok (fuel : Nat) (R : Ev.St → Option Ans) (K : Ev.Ex → Ev.St → Option Ans) (x0 : Int) (x1 : Int) (x2 : Int) (x3 : Int) (x4 : (List (Int × Int))) : evalCode tab (G129_3d3 fuel) (J129_3d3_0 fuel) kp129_3d3 fuel (bodyOf 0 Tryz.f129) (T129_3d3_0 (x0, x1, x2, x3, x4)) (lc kp129_3d3 11 0 R K) = S_number_PutId_3d3_0 fuel (x0, x1, x2, x3, x4) (fun v => R (T129_3d3_0 v)) (E129_3d3_0 K) :=
  S129_3d3_0_okg fuel (F_coder_Encoder_Model_975 fuel) (F_coder_Encoder_Put_9ef fuel) (F_number_fits fuel) (F_number_put_e63 fuel) R K x0 x1 x2 x3 x4
noncomputable def B129_3d3_0 (fuel : Nat) : Ev.Blk := fun st K => match canonO (kp129_3d3 11) st with
  | some s => (match s with
    | ⟨[(q0, .c (.nilptr)), (q1, .c (.int .i64 x0)), (q2, .c (.int .i64 x1)), (q3, .c (.int .i64 x2)), (q4, .c (.own q5)), (q6, .c (.int .i64 x3))], [(q7, .vec q8 (.pair (.int .i64) (.int .i64)) x4 true)], q9, q10⟩ => bif Nat.beq q0 0 && Nat.beq q1 1 && Nat.beq q2 3 && Nat.beq q3 10 && Nat.beq q4 11 && Nat.beq q5 0 && Nat.beq q6 12 && Nat.beq q7 0 && Nat.beq q8 205 && Nat.beq q9 1 && Nat.beq q10 0 then iter (S_number_PutId_3d3_0 fuel) fuel (x0, x1, x2, x3, x4) (E129_3d3_0 K) else none
    | _ => none)
  | none => none
theorem B129_3d3_0_ok (fuel : Nat) (st : Ev.St) (K : Ev.Ex → Ev.St → Option Ans) (r : Ans) (h : B129_3d3_0 fuel st K = some r) : evalCode tab (G129_3d3 fuel) (J129_3d3_0 fuel) kp129_3d3 fuel (.block 0 (.loop (bodyOf 0 Tryz.f129))) st K = some r := by
  unfold B129_3d3_0 at h
  split at h
  · rename_i s hs
    split at h
    · skip
      obtain ⟨hb, h⟩ := cond_some' h
      simp only [Bool.and_eq_true, Nat.beq_eq, decide_eq_true_eq] at hb
      obtain ⟨⟨⟨⟨⟨⟨⟨⟨⟨⟨rfl, rfl⟩, rfl⟩, rfl⟩, rfl⟩, rfl⟩, rfl⟩, rfl⟩, rfl⟩, rfl⟩, rfl⟩ := hb
      exact blk_loop (S := T129_3d3_0) (ks := E129_3d3_0) (step := S_number_PutId_3d3_0 fuel) (v := (_, _, _, _, _)) (by kernel_rfl) (by kernel_rfl) (fun R K v => by obtain ⟨x0, x1, x2, x3, x4⟩ := v; exact S129_3d3_0_ok fuel R K x0 x1 x2 x3 x4) hs h
    · cases h
  · cases h
noncomputable def J129_3d3 (fuel : Nat) (i : Nat) : Option Ev.Blk := Ev.look i [(100000, B129_3d3_0 fuel)]
noncomputable def F_number_PutId_3d3 (fuel : Nat) (x0 : Int) (x1 : Int) (x2 : Int) (k0 : (Int) → Option Ans) : Option Ans :=
  (F_coder_Encoder_Put_9ef fuel ((-1 : Int)) ((0 : Int))
    (fun y2 =>
      bif y2 == (7 : Int) then
       k0 ((7 : Int))
      else
       bif Decidable.decide (x1 < (0 : Int)) then
        k0 ((2 : Int))
       else
        bif Decidable.decide (x1 > (10 : Int)) then
         k0 ((2 : Int))
        else
         bif Decidable.decide (x2 < (0 : Int)) then
          k0 ((2 : Int))
         else
          bif Decidable.decide (x1 < (0 : Int)) then
           none
          else
           bif Decidable.decide (x2 ≥ Ev.ishl Go.IntKind.i64 (1 : Int) x1) then
            k0 ((2 : Int))
           else
            bif Decidable.decide (x1 < (0 : Int)) then
             none
            else
             (F_coder_Encoder_Model_975 fuel
               (fun (y13_0, y13_1) =>
                 (F_number_fits fuel (y13_0) (y13_1) (x0) (Go.IntKind.i64.wrap (Ev.ishl Go.IntKind.i64 (1 : Int) x1 - (1 : Int)))
                   (fun y17 =>
                     bif y17 != (0 : Int) then
                      k0 y17
                     else
                      (L_number_PutId_3d3_0 fuel (x0, x2, (1 : Int), Go.IntKind.i64.wrap (x1 - (1 : Int)), [])
                        (fun b0_0 =>
                          (F_number_put_e63 fuel (b0_0)
                            (fun y26 =>
                              k0 y26))))))))))
abbrev YF129_3d3 : Type := (Int) → (Int) → (Int) → ((Int) → Option Ans) → Option Ans
theorem F129_3d3_eqg (fuel : Nat) (f71_975 : YF71_975) (f130_9ef : YF130_9ef) (f134 : YF134) (f135_e63 : YF135_e63) (x0 : Int) (x1 : Int) (x2 : Int) (k : Ev.Cont) : evalFn tab (Gg129_3d3 f71_975 f130_9ef f134 f135_e63) (J129_3d3 fuel) kp129_3d3 fuel Tryz.f129 [.c (.nilptr), .c (.int .i64 x0), .c (.int .i64 x1), .c (.int .i64 x2)] [] k = (fun  (k0 : (Int) → Option Ans) =>
  (f130_9ef ((-1 : Int)) ((0 : Int))
    (fun y2 =>
      bif y2 == (7 : Int) then
       k0 ((7 : Int))
      else
       bif Decidable.decide (x1 < (0 : Int)) then
        k0 ((2 : Int))
       else
        bif Decidable.decide (x1 > (10 : Int)) then
         k0 ((2 : Int))
        else
         bif Decidable.decide (x2 < (0 : Int)) then
          k0 ((2 : Int))
         else
          bif Decidable.decide (x1 < (0 : Int)) then
           none
          else
           bif Decidable.decide (x2 ≥ Ev.ishl Go.IntKind.i64 (1 : Int) x1) then
            k0 ((2 : Int))
           else
            bif Decidable.decide (x1 < (0 : Int)) then
             none
            else
             (f71_975
               (fun (y13_0, y13_1) =>
                 (f134 (y13_0) (y13_1) (x0) (Go.IntKind.i64.wrap (Ev.ishl Go.IntKind.i64 (1 : Int) x1 - (1 : Int)))
                   (fun y17 =>
                     bif y17 != (0 : Int) then
                      k0 y17
                     else
                      (L_number_PutId_3d3_0 fuel (x0, x2, (1 : Int), Go.IntKind.i64.wrap (x1 - (1 : Int)), [])
                        (fun b0_0 =>
                          (f135_e63 (b0_0)
                            (fun y26 =>
                              k0 y26))))))))))) (fun r => match r with | r0 => k (.c (.int .i64 r0), [])) := by
  kernel_rfl
theorem F129_3d3_eq (fuel : Nat) (x0 : Int) (x1 : Int) (x2 : Int) (k : Ev.Cont) : evalFn tab (G129_3d3 fuel) (J129_3d3 fuel) kp129_3d3 fuel Tryz.f129 [.c (.nilptr), .c (.int .i64 x0), .c (.int .i64 x1), .c (.int .i64 x2)] [] k = F_number_PutId_3d3 fuel x0 x1 x2 (fun r => match r with | r0 => k (.c (.int .i64 r0), [])) :=
  F129_3d3_eqg fuel (F_coder_Encoder_Model_975 fuel) (F_coder_Encoder_Put_9ef fuel) (F_number_fits fuel) (F_number_put_e63 fuel) x0 x1 x2 k
theorem hG129_3d3 (fuel : Nat) : GOK Tryz.prog (G129_3d3 fuel) :=
  gok_cons ⟨ok71_975 fuel, enters_of Tryz.func71 (by kernel_rfl) rfl⟩ <|
  gok_cons ⟨ok130_9ef fuel, enters_of Tryz.func130 (by kernel_rfl) rfl⟩ <|
  gok_cons ⟨ok134 fuel, enters_of Tryz.func134 (by kernel_rfl) rfl⟩ <|
  gok_cons ⟨ok135_e63 fuel, enters_of Tryz.func135 (by kernel_rfl) rfl⟩ <|
  gok_nil
theorem B129_3d3_0_blk (fuel : Nat) : BlkOK Tryz.prog Tryz.f129.ntmps (.block 0 (.loop (bodyOf 0 Tryz.f129))) (B129_3d3_0 fuel) :=
  blk_of (blk_of_code tab_ok (hG129_3d3 fuel) mixed (J := J129_3d3_0 fuel) (kp := kp129_3d3) (fuel := fuel) (by kernel_rfl) (fun q hq => by
    rw [(by kernel_rfl : obl (J129_3d3_0 fuel) (.block 0 (.loop (bodyOf 0 Tryz.f129))) = [])] at hq
    cases hq)) (B129_3d3_0_ok fuel)
theorem fok129_3d3 (fuel : Nat) : FnOK Tryz.prog 129 (evalFn tab (G129_3d3 fuel) (J129_3d3 fuel) kp129_3d3 fuel Tryz.f129) :=
  fn_ok tab_ok (hG129_3d3 fuel) mixed Tryz.func129 (c := (Tryz.f129.body).getD .skip) rfl (fun q hq => by
    rw [(by kernel_rfl : obl (J129_3d3 fuel) ((Tryz.f129.body).getD .skip) = [(.block 0 (.loop (bodyOf 0 Tryz.f129)), B129_3d3_0 fuel)])] at hq
    simp only [List.mem_cons, List.not_mem_nil, or_false] at hq
    subst hq
    · exact B129_3d3_0_blk fuel)
noncomputable def mt129_3d3 : List Ev.SV → List Ev.Ob → Bool := fun args objs => match args, objs with
  | [.c (.nilptr), .c (.int .i64 _), .c (.int .i64 _), .c (.int .i64 _)], [] => true
  | _, _ => false
noncomputable def spg129_3d3 (F : YF129_3d3) : Ev.Spec := fun args objs k => match args, objs with
  | [.c (.nilptr), .c (.int .i64 x0), .c (.int .i64 x1), .c (.int .i64 x2)], [] => bif true then F x0 x1 x2 (fun r => match r with | r0 => k (.c (.int .i64 r0), [])) else none
  | _, _ => none
noncomputable def spec129_3d3 (fuel : Nat) : Ev.Spec := spg129_3d3 (F_number_PutId_3d3 fuel)
theorem ok129_3d3 (fuel : Nat) : FnOK Tryz.prog 129 (spec129_3d3 fuel) := by
  intro args objs kk r h
  unfold spec129_3d3 spg129_3d3 at h
  split at h
  · skip
    obtain ⟨hb, h⟩ := cond_some' h
    simp only [Bool.and_eq_true, Nat.beq_eq, decide_eq_true_eq] at hb
    clear hb
    exact fok129_3d3 fuel _ _ kk r ((F129_3d3_eq fuel _ _ _ kk).trans h)
  · cases h
end Go.Proofs.YtmjeeaemmbkioaaGreat

set_option linter.unusedVariables false
set_option linter.unusedSimpArgs false
set_option maxRecDepth 100000
set_option maxHeartbeats 2000000
namespace Go.Proofs.YtmjeeaemmbkioaaGreat
open Go Ev
def kp129_b82 (i : Nat) : Option (List Nat) := Ev.look i [(11, [0, 1, 3, 10, 11, 12, 1000002]), (100000, [0, 11]), (400000, [8]), (600000, [])]
noncomputable def Gg129_b82 (f71_a20 : YF71_a20) (f130_cf0 : YF130_cf0) (f134 : YF134) (f135_2d4 : YF135_2d4) (f : Nat) : Option Ev.Spec := Ev.look f [(71, spg71_a20 f71_a20), (130, spg130_cf0 f130_cf0), (134, spg134 f134), (135, spg135_2d4 f135_2d4)]
noncomputable def G129_b82 (fuel : Nat) : Nat → Option Ev.Spec := Gg129_b82 (F_coder_Encoder_Model_a20 fuel) (F_coder_Encoder_Put_cf0 fuel) (F_number_fits fuel) (F_number_put_2d4 fuel)
noncomputable def S_number_PutId_b82_0 (fuel : Nat) (v : Int × Int × Int × Int × Int × Int × Int × Bool × (List Int) × (List Int) × (List (Int × Int))) (c : (Int × Int × Int × Int × Int × Int × Int × Bool × (List Int) × (List Int) × (List (Int × Int))) → Option Ans) (B : (Int × Int × Int × Bool × (List Int) × (List Int) × (List (Int × Int)) → Option Ans)) : Option Ans := match v, B with
  | (x0, x1, x2, x3, x4, x5, x6, x7, x8, x9, x10), b =>
   bif Decidable.decide (x3 ≥ (0 : Int)) then
      bif Decidable.decide (x3 < (0 : Int)) then
       none
      else
       bif Decidable.decide ((x10.length + [(Go.IntKind.i64.wrap (Go.IntKind.i64.wrap (x0 + x2) - (1 : Int)), Ev.iand Go.IntKind.i64 (Ev.ishr Go.IntKind.i64 x1 x3) (1 : Int))].length) * (16 : Nat) ≤ (140737488355328 : Nat) ∧ x10.length + [(Go.IntKind.i64.wrap (Go.IntKind.i64.wrap (x0 + x2) - (1 : Int)), Ev.iand Go.IntKind.i64 (Ev.ishr Go.IntKind.i64 x1 x3) (1 : Int))].length ≤ (140737488355328 : Nat)) then
       c (x0, x1, Go.IntKind.i64.wrap (Go.IntKind.i64.wrap ((2 : Int) * x2) + Ev.iand Go.IntKind.i64 (Ev.ishr Go.IntKind.i64 x1 x3) (1 : Int)), Go.IntKind.i64.wrap (x3 - (1 : Int)), x4, x5, x6, x7, x8, x9, x10 ++ [(Go.IntKind.i64.wrap (Go.IntKind.i64.wrap (x0 + x2) - (1 : Int)), Ev.iand Go.IntKind.i64 (Ev.ishr Go.IntKind.i64 x1 x3) (1 : Int))])
       else none
     else
      b (x4, x5, x6, x7, x8, x9, x10)
noncomputable def L_number_PutId_b82_0 (fuel : Nat) (v : Int × Int × Int × Int × Int × Int × Int × Bool × (List Int) × (List Int) × (List (Int × Int))) (b : (Int × Int × Int × Bool × (List Int) × (List Int) × (List (Int × Int)) → Option Ans)) : Option Ans := iter (S_number_PutId_b82_0 fuel) fuel v b
noncomputable def J129_b82_0 (fuel : Nat) (i : Nat) : Option Ev.Blk := Ev.look i []
noncomputable def T129_b82_0 (v : Int × Int × Int × Int × Int × Int × Int × Bool × (List Int) × (List Int) × (List (Int × Int))) : Ev.St := match v with | (x0, x1, x2, x3, x4, x5, x6, x7, x8, x9, x10) => ⟨[(0, .c (.ptr 0 0)), (1, .c (.int .i64 x0)), (3, .c (.int .i64 x1)), (10, .c (.int .i64 x2)), (11, .c (.own 3)), (12, .c (.int .i64 x3))], [(0, .cells 164 (.int .i64 x4 :: .own 1 :: .int .i64 2048 :: .int .i64 1792 :: .int .i64 1568 :: .int .i64 1372 :: .int .i64 1201 :: .int .i64 1051 :: .int .i64 920 :: .int .i64 805 :: .int .i64 705 :: .int .i64 617 :: .int .i64 540 :: .int .i64 473 :: .int .i64 414 :: .int .i64 363 :: .int .i64 318 :: .int .i64 279 :: .int .i64 245 :: .int .i64 215 :: .int .i64 189 :: .int .i64 166 :: .int .i64 146 :: .int .i64 128 :: .int .i64 112 :: .int .i64 98 :: .int .i64 86 :: .int .i64 76 :: .int .i64 67 :: .int .i64 59 :: .int .i64 52 :: .int .i64 46 :: .int .i64 41 :: .int .i64 36 :: .int .u64 x5 :: .int .u64 x6 :: .own 2 :: .bool x7 :: [])), (1, .vec 3 (.int .i64) x8 false), (2, .vec 5 (.int .u8) x9 true), (3, .vec 205 (.pair (.int .i64) (.int .i64)) x10 true)], 4, 3⟩
noncomputable def E129_b82_0 (K : Ev.Ex → Ev.St → Option Ans) : (Int × Int × Int × Bool × (List Int) × (List Int) × (List (Int × Int)) → Option Ans) := (fun v => match v with | (x0, x1, x2, x3, x4, x5, x6) => K .normal ⟨[(0, .c (.ptr 0 0)), (11, .c (.own 3))], [(0, .cells 164 (.int .i64 x0 :: .own 1 :: .int .i64 2048 :: .int .i64 1792 :: .int .i64 1568 :: .int .i64 1372 :: .int .i64 1201 :: .int .i64 1051 :: .int .i64 920 :: .int .i64 805 :: .int .i64 705 :: .int .i64 617 :: .int .i64 540 :: .int .i64 473 :: .int .i64 414 :: .int .i64 363 :: .int .i64 318 :: .int .i64 279 :: .int .i64 245 :: .int .i64 215 :: .int .i64 189 :: .int .i64 166 :: .int .i64 146 :: .int .i64 128 :: .int .i64 112 :: .int .i64 98 :: .int .i64 86 :: .int .i64 76 :: .int .i64 67 :: .int .i64 59 :: .int .i64 52 :: .int .i64 46 :: .int .i64 41 :: .int .i64 36 :: .int .u64 x1 :: .int .u64 x2 :: .own 2 :: .bool x3 :: [])), (1, .vec 3 (.int .i64) x4 false), (2, .vec 5 (.int .u8) x5 true), (3, .vec 205 (.pair (.int .i64) (.int .i64)) x6 true)], 4, 3⟩)
theorem S129_b82_0_okg (fuel : Nat) (f71_a20 : YF71_a20) (f130_cf0 : YF130_cf0) (f134 : YF134) (f135_2d4 : YF135_2d4) (R : Ev.St → Option Ans) (K : Ev.Ex → Ev.St → Option Ans) (x0 : Int) (x1 : Int) (x2 : Int) (x3 : Int) (x4 : Int) (x5 : Int) (x6 : Int) (x7 : Bool) (x8 : (List Int)) (x9 : (List Int)) (x10 : (List (Int × Int))) : evalCode tab (Gg129_b82 f71_a20 f130_cf0 f134 f135_2d4) (J129_b82_0 fuel) kp129_b82 fuel (bodyOf 0 Tryz.f129) (T129_b82_0 (x0, x1, x2, x3, x4, x5, x6, x7, x8, x9, x10)) (lc kp129_b82 11 0 R K) = (fun (c : (Int × Int × Int × Int × Int × Int × Int × Bool × (List Int) × (List Int) × (List (Int × Int))) → Option Ans) (B : (Int × Int × Int × Bool × (List Int) × (List Int) × (List (Int × Int)) → Option Ans)) => match B with
  | b =>
   bif Decidable.decide (x3 ≥ (0 : Int)) then
      bif Decidable.decide (x3 < (0 : Int)) then
       none
      else
       bif Decidable.decide ((x10.length + [(Go.IntKind.i64.wrap (Go.IntKind.i64.wrap (x0 + x2) - (1 : Int)), Ev.iand Go.IntKind.i64 (Ev.ishr Go.IntKind.i64 x1 x3) (1 : Int))].length) * (16 : Nat) ≤ (140737488355328 : Nat) ∧ x10.length + [(Go.IntKind.i64.wrap (Go.IntKind.i64.wrap (x0 + x2) - (1 : Int)), Ev.iand Go.IntKind.i64 (Ev.ishr Go.IntKind.i64 x1 x3) (1 : Int))].length ≤ (140737488355328 : Nat)) then
       c (x0, x1, Go.IntKind.i64.wrap (Go.IntKind.i64.wrap ((2 : Int) * x2) + Ev.iand Go.IntKind.i64 (Ev.ishr Go.IntKind.i64 x1 x3) (1 : Int)), Go.IntKind.i64.wrap (x3 - (1 : Int)), x4, x5, x6, x7, x8, x9, x10 ++ [(Go.IntKind.i64.wrap (Go.IntKind.i64.wrap (x0 + x2) - (1 : Int)), Ev.iand Go.IntKind.i64 (Ev.ishr Go.IntKind.i64 x1 x3) (1 : Int))])
       else none
     else
      b (x4, x5, x6, x7, x8, x9, x10)) (fun v => R (T129_b82_0 v)) (E129_b82_0 K) := by
  kernel_rfl
theorem S129_b82_0_ok (fuel : Nat) (R : Ev.St → Option Ans) (K : Ev.Ex → Ev.St → Option Ans) (x0 : Int) (x1 : Int) (x2 : Int) (x3 : Int) (x4 : Int) (x5 : Int) (x6 : Int) (x7 : Bool) (x8 : (List Int)) (x9 : (List Int)) (x10 : (List (Int × Int))) : evalCode tab (G129_b82 fuel) (J129_b82_0 fuel) kp129_b82 fuel (bodyOf 0 Tryz.f129) (T129_b82_0 (x0, x1, x2, x3, x4, x5, x6, x7, x8, x9, x10)) (lc kp129_b82 11 0 R K) = S_number_PutId_b82_0 fuel (x0, x1, x2, x3, x4, x5, x6, x7, x8, x9, x10) (fun v => R (T129_b82_0 v)) (E129_b82_0 K) :=
  S129_b82_0_okg fuel (F_coder_Encoder_Model_a20 fuel) (F_coder_Encoder_Put_cf0 fuel) (F_number_fits fuel) (F_number_put_2d4 fuel) R K x0 x1 x2 x3 x4 x5 x6 x7 x8 x9 x10
noncomputable def B129_b82_0 (fuel : Nat) : Ev.Blk := fun st K => match canonO (kp129_b82 11) st with
  | some s => (match s with
    | ⟨[(q0, .c (.ptr q1 q2)), (q3, .c (.int .i64 x0)), (q4, .c (.int .i64 x1)), (q5, .c (.int .i64 x2)), (q6, .c (.own q7)), (q8, .c (.int .i64 x3))], [(q9, .cells q10 cs0), (q11, .vec q12 (.int .i64) x8 false), (q13, .vec q14 (.int .u8) x9 true), (q15, .vec q16 (.pair (.int .i64) (.int .i64)) x10 true)], q17, q18⟩ => (match splitRun 2 [(.i64, 2048), (.i64, 1792), (.i64, 1568), (.i64, 1372), (.i64, 1201), (.i64, 1051), (.i64, 920), (.i64, 805), (.i64, 705), (.i64, 617), (.i64, 540), (.i64, 473), (.i64, 414), (.i64, 363), (.i64, 318), (.i64, 279), (.i64, 245), (.i64, 215), (.i64, 189), (.i64, 166), (.i64, 146), (.i64, 128), (.i64, 112), (.i64, 98), (.i64, 86), (.i64, 76), (.i64, 67), (.i64, 59), (.i64, 52), (.i64, 46), (.i64, 41), (.i64, 36)] cs0 with | some ([.int .i64 x4, .own q19], [.int .u64 x5, .int .u64 x6, .own q20, .bool x7]) => bif Nat.beq q0 0 && Nat.beq q1 0 && Nat.beq q2 0 && Nat.beq q3 1 && Nat.beq q4 3 && Nat.beq q5 10 && Nat.beq q6 11 && Nat.beq q7 3 && Nat.beq q8 12 && Nat.beq q9 0 && Nat.beq q10 164 && Nat.beq q11 1 && Nat.beq q12 3 && Nat.beq q13 2 && Nat.beq q14 5 && Nat.beq q15 3 && Nat.beq q16 205 && Nat.beq q17 4 && Nat.beq q18 3 && Nat.beq q19 1 && Nat.beq q20 2 then iter (S_number_PutId_b82_0 fuel) fuel (x0, x1, x2, x3, x4, x5, x6, x7, x8, x9, x10) (E129_b82_0 K) else none | _ => none)
    | _ => none)
  | none => none
theorem B129_b82_0_ok (fuel : Nat) (st : Ev.St) (K : Ev.Ex → Ev.St → Option Ans) (r : Ans) (h : B129_b82_0 fuel st K = some r) : evalCode tab (G129_b82 fuel) (J129_b82_0 fuel) kp129_b82 fuel (.block 0 (.loop (bodyOf 0 Tryz.f129))) st K = some r := by
  unfold B129_b82_0 at h
  split at h
  · rename_i s hs
    split at h
    · skip
      split at h
      rotate_left 1
      · cases h
      rename_i hsp
      have esp := splitRun_eq hsp
      subst esp
      obtain ⟨hb, h⟩ := cond_some' h
      simp only [Bool.and_eq_true, Nat.beq_eq, decide_eq_true_eq] at hb
      obtain ⟨⟨⟨⟨⟨⟨⟨⟨⟨⟨⟨⟨⟨⟨⟨⟨⟨⟨⟨⟨rfl, rfl⟩, rfl⟩, rfl⟩, rfl⟩, rfl⟩, rfl⟩, rfl⟩, rfl⟩, rfl⟩, rfl⟩, rfl⟩, rfl⟩, rfl⟩, rfl⟩, rfl⟩, rfl⟩, rfl⟩, rfl⟩, rfl⟩, rfl⟩ := hb
      exact blk_loop (S := T129_b82_0) (ks := E129_b82_0) (step := S_number_PutId_b82_0 fuel) (v := (_, _, _, _, _, _, _, _, _, _, _)) (by kernel_rfl) (by kernel_rfl) (fun R K v => by obtain ⟨x0, x1, x2, x3, x4, x5, x6, x7, x8, x9, x10⟩ := v; exact S129_b82_0_ok fuel R K x0 x1 x2 x3 x4 x5 x6 x7 x8 x9 x10) hs h
    · cases h
  · cases h
noncomputable def J129_b82 (fuel : Nat) (i : Nat) : Option Ev.Blk := Ev.look i [(100000, B129_b82_0 fuel)]
noncomputable def F_number_PutId_b82 (fuel : Nat) (x0 : Int) (x1 : Int) (x2 : Int) (x3 : Int) (x4 : Int) (x5 : Int) (x6 : Bool) (x7 : (List Int)) (x8 : (List Int)) (k0 : (Int × Int × Int × Int × Bool × (List Int) × (List Int)) → Option Ans) : Option Ans :=
  (F_coder_Encoder_Put_cf0 fuel ((-1 : Int)) ((0 : Int)) (x3) (x4) (x5) (x6) (x7) (x8)
    (fun (y2_0, y2_1, y2_2, y2_3, y2_4, y2_5, y2_6) =>
      bif y2_0 == (7 : Int) then
       k0 ((7 : Int), y2_1, y2_2, y2_3, y2_4, y2_5, y2_6)
      else
       bif Decidable.decide (x1 < (0 : Int)) then
        k0 ((2 : Int), y2_1, y2_2, y2_3, y2_4, y2_5, y2_6)
       else
        bif Decidable.decide (x1 > (10 : Int)) then
         k0 ((2 : Int), y2_1, y2_2, y2_3, y2_4, y2_5, y2_6)
        else
         bif Decidable.decide (x2 < (0 : Int)) then
          k0 ((2 : Int), y2_1, y2_2, y2_3, y2_4, y2_5, y2_6)
         else
          bif Decidable.decide (x1 < (0 : Int)) then
           none
          else
           bif Decidable.decide (x2 ≥ Ev.ishl Go.IntKind.i64 (1 : Int) x1) then
            k0 ((2 : Int), y2_1, y2_2, y2_3, y2_4, y2_5, y2_6)
           else
            bif Decidable.decide (x1 < (0 : Int)) then
             none
            else
             (F_coder_Encoder_Model_a20 fuel (y2_1) (y2_2) (y2_3) (y2_4) (y2_5) (y2_6)
               (fun (y13_0, y13_1, y13_2, y13_3, y13_4, y13_5, y13_6, y13_7) =>
                 (F_number_fits fuel (y13_0) (y13_7) (x0) (Go.IntKind.i64.wrap (Ev.ishl Go.IntKind.i64 (1 : Int) x1 - (1 : Int)))
                   (fun y17 =>
                     bif y17 != (0 : Int) then
                      k0 (y17, y13_1, y13_2, y13_3, y13_4, y13_5, y13_6)
                     else
                      (L_number_PutId_b82_0 fuel (x0, x2, (1 : Int), Go.IntKind.i64.wrap (x1 - (1 : Int)), y13_1, y13_2, y13_3, y13_4, y13_5, y13_6, [])
                        (fun (b0_0, b0_1, b0_2, b0_3, b0_4, b0_5, b0_6) =>
                          (F_number_put_2d4 fuel (b0_6) (b0_0) (b0_1) (b0_2) (b0_3) (b0_4) (b0_5)
                            (fun (y26_0, y26_1, y26_2, y26_3, y26_4, y26_5, y26_6) =>
                              k0 (y26_0, y26_1, y26_2, y26_3, y26_4, y26_5, y26_6))))))))))
    (fun (y2_0, y2_1, y2_2, y2_3, y2_4, y2_5, y2_6) =>
      bif y2_0 == (7 : Int) then
       k0 ((7 : Int), y2_1, y2_2, y2_3, y2_4, y2_5, y2_6)
      else
       bif Decidable.decide (x1 < (0 : Int)) then
        k0 ((2 : Int), y2_1, y2_2, y2_3, y2_4, y2_5, y2_6)
       else
        bif Decidable.decide (x1 > (10 : Int)) then
         k0 ((2 : Int), y2_1, y2_2, y2_3, y2_4, y2_5, y2_6)
        else
         bif Decidable.decide (x2 < (0 : Int)) then
          k0 ((2 : Int), y2_1, y2_2, y2_3, y2_4, y2_5, y2_6)
         else
          bif Decidable.decide (x1 < (0 : Int)) then
           none
          else
           bif Decidable.decide (x2 ≥ Ev.ishl Go.IntKind.i64 (1 : Int) x1) then
            k0 ((2 : Int), y2_1, y2_2, y2_3, y2_4, y2_5, y2_6)
           else
            bif Decidable.decide (x1 < (0 : Int)) then
             none
            else
             (F_coder_Encoder_Model_a20 fuel (y2_1) (y2_2) (y2_3) (y2_4) (y2_5) (y2_6)
               (fun (y13_0, y13_1, y13_2, y13_3, y13_4, y13_5, y13_6, y13_7) =>
                 (F_number_fits fuel (y13_0) (y13_7) (x0) (Go.IntKind.i64.wrap (Ev.ishl Go.IntKind.i64 (1 : Int) x1 - (1 : Int)))
                   (fun y17 =>
                     bif y17 != (0 : Int) then
                      k0 (y17, y13_1, y13_2, y13_3, y13_4, y13_5, y13_6)
                     else
                      (L_number_PutId_b82_0 fuel (x0, x2, (1 : Int), Go.IntKind.i64.wrap (x1 - (1 : Int)), y13_1, y13_2, y13_3, y13_4, y13_5, y13_6, [])
                        (fun (b0_0, b0_1, b0_2, b0_3, b0_4, b0_5, b0_6) =>
                          (F_number_put_2d4 fuel (b0_6) (b0_0) (b0_1) (b0_2) (b0_3) (b0_4) (b0_5)
                            (fun (y26_0, y26_1, y26_2, y26_3, y26_4, y26_5, y26_6) =>
                              k0 (y26_0, y26_1, y26_2, y26_3, y26_4, y26_5, y26_6)))))))))))
abbrev YF129_b82 : Type := (Int) → (Int) → (Int) → (Int) → (Int) → (Int) → (Bool) → ((List Int)) → ((List Int)) → ((Int × Int × Int × Int × Bool × (List Int) × (List Int)) → Option Ans) → Option Ans
theorem F129_b82_eqg (fuel : Nat) (f71_a20 : YF71_a20) (f130_cf0 : YF130_cf0) (f134 : YF134) (f135_2d4 : YF135_2d4) (x0 : Int) (x1 : Int) (x2 : Int) (x3 : Int) (x4 : Int) (x5 : Int) (x6 : Bool) (x7 : (List Int)) (x8 : (List Int)) (k : Ev.Cont) : evalFn tab (Gg129_b82 f71_a20 f130_cf0 f134 f135_2d4) (J129_b82 fuel) kp129_b82 fuel Tryz.f129 [.c (.ptr 0 0), .c (.int .i64 x0), .c (.int .i64 x1), .c (.int .i64 x2)] [.cells 164 (.int .i64 x3 :: .own 1 :: .int .i64 2048 :: .int .i64 1792 :: .int .i64 1568 :: .int .i64 1372 :: .int .i64 1201 :: .int .i64 1051 :: .int .i64 920 :: .int .i64 805 :: .int .i64 705 :: .int .i64 617 :: .int .i64 540 :: .int .i64 473 :: .int .i64 414 :: .int .i64 363 :: .int .i64 318 :: .int .i64 279 :: .int .i64 245 :: .int .i64 215 :: .int .i64 189 :: .int .i64 166 :: .int .i64 146 :: .int .i64 128 :: .int .i64 112 :: .int .i64 98 :: .int .i64 86 :: .int .i64 76 :: .int .i64 67 :: .int .i64 59 :: .int .i64 52 :: .int .i64 46 :: .int .i64 41 :: .int .i64 36 :: .int .u64 x4 :: .int .u64 x5 :: .own 2 :: .bool x6 :: []), .vec 3 (.int .i64) x7 false, .vec 5 (.int .u8) x8 false] (wkC [1000002] k) = (fun  (k0 : (Int × Int × Int × Int × Bool × (List Int) × (List Int)) → Option Ans) =>
  (f130_cf0 ((-1 : Int)) ((0 : Int)) (x3) (x4) (x5) (x6) (x7) (x8)
    (fun (y2_0, y2_1, y2_2, y2_3, y2_4, y2_5, y2_6) =>
      bif y2_0 == (7 : Int) then
       k0 ((7 : Int), y2_1, y2_2, y2_3, y2_4, y2_5, y2_6)
      else
       bif Decidable.decide (x1 < (0 : Int)) then
        k0 ((2 : Int), y2_1, y2_2, y2_3, y2_4, y2_5, y2_6)
       else
        bif Decidable.decide (x1 > (10 : Int)) then
         k0 ((2 : Int), y2_1, y2_2, y2_3, y2_4, y2_5, y2_6)
        else
         bif Decidable.decide (x2 < (0 : Int)) then
          k0 ((2 : Int), y2_1, y2_2, y2_3, y2_4, y2_5, y2_6)
         else
          bif Decidable.decide (x1 < (0 : Int)) then
           none
          else
           bif Decidable.decide (x2 ≥ Ev.ishl Go.IntKind.i64 (1 : Int) x1) then
            k0 ((2 : Int), y2_1, y2_2, y2_3, y2_4, y2_5, y2_6)
           else
            bif Decidable.decide (x1 < (0 : Int)) then
             none
            else
             (f71_a20 (y2_1) (y2_2) (y2_3) (y2_4) (y2_5) (y2_6)
               (fun (y13_0, y13_1, y13_2, y13_3, y13_4, y13_5, y13_6, y13_7) =>
                 (f134 (y13_0) (y13_7) (x0) (Go.IntKind.i64.wrap (Ev.ishl Go.IntKind.i64 (1 : Int) x1 - (1 : Int)))
                   (fun y17 =>
                     bif y17 != (0 : Int) then
                      k0 (y17, y13_1, y13_2, y13_3, y13_4, y13_5, y13_6)
                     else
                      (L_number_PutId_b82_0 fuel (x0, x2, (1 : Int), Go.IntKind.i64.wrap (x1 - (1 : Int)), y13_1, y13_2, y13_3, y13_4, y13_5, y13_6, [])
                        (fun (b0_0, b0_1, b0_2, b0_3, b0_4, b0_5, b0_6) =>
                          (f135_2d4 (b0_6) (b0_0) (b0_1) (b0_2) (b0_3) (b0_4) (b0_5)
                            (fun (y26_0, y26_1, y26_2, y26_3, y26_4, y26_5, y26_6) =>
                              k0 (y26_0, y26_1, y26_2, y26_3, y26_4, y26_5, y26_6))))))))))
    (fun (y2_0, y2_1, y2_2, y2_3, y2_4, y2_5, y2_6) =>
      bif y2_0 == (7 : Int) then
       k0 ((7 : Int), y2_1, y2_2, y2_3, y2_4, y2_5, y2_6)
      else
       bif Decidable.decide (x1 < (0 : Int)) then
        k0 ((2 : Int), y2_1, y2_2, y2_3, y2_4, y2_5, y2_6)
       else
        bif Decidable.decide (x1 > (10 : Int)) then
         k0 ((2 : Int), y2_1, y2_2, y2_3, y2_4, y2_5, y2_6)
        else
         bif Decidable.decide (x2 < (0 : Int)) then
          k0 ((2 : Int), y2_1, y2_2, y2_3, y2_4, y2_5, y2_6)
         else
          bif Decidable.decide (x1 < (0 : Int)) then
           none
          else
           bif Decidable.decide (x2 ≥ Ev.ishl Go.IntKind.i64 (1 : Int) x1) then
            k0 ((2 : Int), y2_1, y2_2, y2_3, y2_4, y2_5, y2_6)
           else
            bif Decidable.decide (x1 < (0 : Int)) then
             none
            else
             (f71_a20 (y2_1) (y2_2) (y2_3) (y2_4) (y2_5) (y2_6)
               (fun (y13_0, y13_1, y13_2, y13_3, y13_4, y13_5, y13_6, y13_7) =>
                 (f134 (y13_0) (y13_7) (x0) (Go.IntKind.i64.wrap (Ev.ishl Go.IntKind.i64 (1 : Int) x1 - (1 : Int)))
                   (fun y17 =>
                     bif y17 != (0 : Int) then
                      k0 (y17, y13_1, y13_2, y13_3, y13_4, y13_5, y13_6)
                     else
                      (L_number_PutId_b82_0 fuel (x0, x2, (1 : Int), Go.IntKind.i64.wrap (x1 - (1 : Int)), y13_1, y13_2, y13_3, y13_4, y13_5, y13_6, [])
                        (fun (b0_0, b0_1, b0_2, b0_3, b0_4, b0_5, b0_6) =>
                          (f135_2d4 (b0_6) (b0_0) (b0_1) (b0_2) (b0_3) (b0_4) (b0_5)
                            (fun (y26_0, y26_1, y26_2, y26_3, y26_4, y26_5, y26_6) =>
                              k0 (y26_0, y26_1, y26_2, y26_3, y26_4, y26_5, y26_6)))))))))))) (fun r => match r with | (r0, r1, r2, r3, r4, r5, r6) => k (.c (.int .i64 r0), [.cells 164 (.int .i64 r1 :: .own 1 :: .int .i64 2048 :: .int .i64 1792 :: .int .i64 1568 :: .int .i64 1372 :: .int .i64 1201 :: .int .i64 1051 :: .int .i64 920 :: .int .i64 805 :: .int .i64 705 :: .int .i64 617 :: .int .i64 540 :: .int .i64 473 :: .int .i64 414 :: .int .i64 363 :: .int .i64 318 :: .int .i64 279 :: .int .i64 245 :: .int .i64 215 :: .int .i64 189 :: .int .i64 166 :: .int .i64 146 :: .int .i64 128 :: .int .i64 112 :: .int .i64 98 :: .int .i64 86 :: .int .i64 76 :: .int .i64 67 :: .int .i64 59 :: .int .i64 52 :: .int .i64 46 :: .int .i64 41 :: .int .i64 36 :: .int .u64 r2 :: .int .u64 r3 :: .own 2 :: .bool r4 :: []), .vec 3 (.int .i64) r5 false, .vec 5 (.int .u8) r6 true])) := by
  kernel_rfl
theorem F129_b82_eq (fuel : Nat) (x0 : Int) (x1 : Int) (x2 : Int) (x3 : Int) (x4 : Int) (x5 : Int) (x6 : Bool) (x7 : (List Int)) (x8 : (List Int)) (k : Ev.Cont) : evalFn tab (G129_b82 fuel) (J129_b82 fuel) kp129_b82 fuel Tryz.f129 [.c (.ptr 0 0), .c (.int .i64 x0), .c (.int .i64 x1), .c (.int .i64 x2)] [.cells 164 (.int .i64 x3 :: .own 1 :: .int .i64 2048 :: .int .i64 1792 :: .int .i64 1568 :: .int .i64 1372 :: .int .i64 1201 :: .int .i64 1051 :: .int .i64 920 :: .int .i64 805 :: .int .i64 705 :: .int .i64 617 :: .int .i64 540 :: .int .i64 473 :: .int .i64 414 :: .int .i64 363 :: .int .i64 318 :: .int .i64 279 :: .int .i64 245 :: .int .i64 215 :: .int .i64 189 :: .int .i64 166 :: .int .i64 146 :: .int .i64 128 :: .int .i64 112 :: .int .i64 98 :: .int .i64 86 :: .int .i64 76 :: .int .i64 67 :: .int .i64 59 :: .int .i64 52 :: .int .i64 46 :: .int .i64 41 :: .int .i64 36 :: .int .u64 x4 :: .int .u64 x5 :: .own 2 :: .bool x6 :: []), .vec 3 (.int .i64) x7 false, .vec 5 (.int .u8) x8 false] (wkC [1000002] k) = F_number_PutId_b82 fuel x0 x1 x2 x3 x4 x5 x6 x7 x8 (fun r => match r with | (r0, r1, r2, r3, r4, r5, r6) => k (.c (.int .i64 r0), [.cells 164 (.int .i64 r1 :: .own 1 :: .int .i64 2048 :: .int .i64 1792 :: .int .i64 1568 :: .int .i64 1372 :: .int .i64 1201 :: .int .i64 1051 :: .int .i64 920 :: .int .i64 805 :: .int .i64 705 :: .int .i64 617 :: .int .i64 540 :: .int .i64 473 :: .int .i64 414 :: .int .i64 363 :: .int .i64 318 :: .int .i64 279 :: .int .i64 245 :: .int .i64 215 :: .int .i64 189 :: .int .i64 166 :: .int .i64 146 :: .int .i64 128 :: .int .i64 112 :: .int .i64 98 :: .int .i64 86 :: .int .i64 76 :: .int .i64 67 :: .int .i64 59 :: .int .i64 52 :: .int .i64 46 :: .int .i64 41 :: .int .i64 36 :: .int .u64 r2 :: .int .u64 r3 :: .own 2 :: .bool r4 :: []), .vec 3 (.int .i64) r5 false, .vec 5 (.int .u8) r6 true])) :=
  F129_b82_eqg fuel (F_coder_Encoder_Model_a20 fuel) (F_coder_Encoder_Put_cf0 fuel) (F_number_fits fuel) (F_number_put_2d4 fuel) x0 x1 x2 x3 x4 x5 x6 x7 x8 k
theorem hG129_b82 (fuel : Nat) : GOK Tryz.prog (G129_b82 fuel) :=
  gok_cons ⟨ok71_a20 fuel, enters_of Tryz.func71 (by kernel_rfl) rfl⟩ <|
  gok_cons ⟨ok130_cf0 fuel, enters_of Tryz.func130 (by kernel_rfl) rfl⟩ <|
  gok_cons ⟨ok134 fuel, enters_of Tryz.func134 (by kernel_rfl) rfl⟩ <|
  gok_cons ⟨ok135_2d4 fuel, enters_of Tryz.func135 (by kernel_rfl) rfl⟩ <|
  gok_nil
theorem B129_b82_0_blk (fuel : Nat) : BlkOK Tryz.prog Tryz.f129.ntmps (.block 0 (.loop (bodyOf 0 Tryz.f129))) (B129_b82_0 fuel) :=
  blk_of (blk_of_code tab_ok (hG129_b82 fuel) mixed (J := J129_b82_0 fuel) (kp := kp129_b82) (fuel := fuel) (by kernel_rfl) (fun q hq => by
    rw [(by kernel_rfl : obl (J129_b82_0 fuel) (.block 0 (.loop (bodyOf 0 Tryz.f129))) = [])] at hq
    cases hq)) (B129_b82_0_ok fuel)
theorem fok129_b82 (fuel : Nat) : FnOK Tryz.prog 129 (evalFn tab (G129_b82 fuel) (J129_b82 fuel) kp129_b82 fuel Tryz.f129) :=
  fn_ok tab_ok (hG129_b82 fuel) mixed Tryz.func129 (c := (Tryz.f129.body).getD .skip) rfl (fun q hq => by
    rw [(by kernel_rfl : obl (J129_b82 fuel) ((Tryz.f129.body).getD .skip) = [(.block 0 (.loop (bodyOf 0 Tryz.f129)), B129_b82_0 fuel)])] at hq
    simp only [List.mem_cons, List.not_mem_nil, or_false] at hq
    subst hq
    · exact B129_b82_0_blk fuel)
noncomputable def mt129_b82 : List Ev.SV → List Ev.Ob → Bool := fun args objs => match args, objs with
  | [.c (.ptr q0 q1), .c (.int .i64 _), .c (.int .i64 _), .c (.int .i64 _)], [.cells q2 cs0, .vec q3 (.int .i64) _ false, .vec q4 (.int .u8) _ false] => (match splitRun 2 [(.i64, 2048), (.i64, 1792), (.i64, 1568), (.i64, 1372), (.i64, 1201), (.i64, 1051), (.i64, 920), (.i64, 805), (.i64, 705), (.i64, 617), (.i64, 540), (.i64, 473), (.i64, 414), (.i64, 363), (.i64, 318), (.i64, 279), (.i64, 245), (.i64, 215), (.i64, 189), (.i64, 166), (.i64, 146), (.i64, 128), (.i64, 112), (.i64, 98), (.i64, 86), (.i64, 76), (.i64, 67), (.i64, 59), (.i64, 52), (.i64, 46), (.i64, 41), (.i64, 36)] cs0 with | some ([.int .i64 _, .own q5], [.int .u64 _, .int .u64 _, .own q6, .bool _]) => Nat.beq q0 0 && Nat.beq q1 0 && Nat.beq q2 164 && Nat.beq q3 3 && Nat.beq q4 5 && Nat.beq q5 1 && Nat.beq q6 2 | _ => false)
  | _, _ => false
noncomputable def spg129_b82 (F : YF129_b82) : Ev.Spec := fun args objs k => match args, objs with
  | [.c (.ptr q0 q1), .c (.int .i64 x0), .c (.int .i64 x1), .c (.int .i64 x2)], [.cells q2 cs0, .vec q3 (.int .i64) x7 false, .vec q4 (.int .u8) x8 false] => (match splitRun 2 [(.i64, 2048), (.i64, 1792), (.i64, 1568), (.i64, 1372), (.i64, 1201), (.i64, 1051), (.i64, 920), (.i64, 805), (.i64, 705), (.i64, 617), (.i64, 540), (.i64, 473), (.i64, 414), (.i64, 363), (.i64, 318), (.i64, 279), (.i64, 245), (.i64, 215), (.i64, 189), (.i64, 166), (.i64, 146), (.i64, 128), (.i64, 112), (.i64, 98), (.i64, 86), (.i64, 76), (.i64, 67), (.i64, 59), (.i64, 52), (.i64, 46), (.i64, 41), (.i64, 36)] cs0 with | some ([.int .i64 x3, .own q5], [.int .u64 x4, .int .u64 x5, .own q6, .bool x6]) => bif Nat.beq q0 0 && Nat.beq q1 0 && Nat.beq q2 164 && Nat.beq q3 3 && Nat.beq q4 5 && Nat.beq q5 1 && Nat.beq q6 2 then F x0 x1 x2 x3 x4 x5 x6 x7 x8 (fun r => match r with | (r0, r1, r2, r3, r4, r5, r6) => k (.c (.int .i64 r0), [.cells 164 (.int .i64 r1 :: .own 1 :: .int .i64 2048 :: .int .i64 1792 :: .int .i64 1568 :: .int .i64 1372 :: .int .i64 1201 :: .int .i64 1051 :: .int .i64 920 :: .int .i64 805 :: .int .i64 705 :: .int .i64 617 :: .int .i64 540 :: .int .i64 473 :: .int .i64 414 :: .int .i64 363 :: .int .i64 318 :: .int .i64 279 :: .int .i64 245 :: .int .i64 215 :: .int .i64 189 :: .int .i64 166 :: .int .i64 146 :: .int .i64 128 :: .int .i64 112 :: .int .i64 98 :: .int .i64 86 :: .int .i64 76 :: .int .i64 67 :: .int .i64 59 :: .int .i64 52 :: .int .i64 46 :: .int .i64 41 :: .int .i64 36 :: .int .u64 r2 :: .int .u64 r3 :: .own 2 :: .bool r4 :: []), .vec 3 (.int .i64) r5 false, .vec 5 (.int .u8) r6 true])) else none | _ => none)
  | _, _ => none
noncomputable def spec129_b82 (fuel : Nat) : Ev.Spec := spg129_b82 (F_number_PutId_b82 fuel)
theorem ok129_b82 (fuel : Nat) : FnOK Tryz.prog 129 (spec129_b82 fuel) := by
  intro args objs kk r h
  unfold spec129_b82 spg129_b82 at h
  split at h
  · skip
    split at h
    rotate_left 1
    · cases h
    rename_i hsp
    have esp := splitRun_eq hsp
    subst esp
    obtain ⟨hb, h⟩ := cond_some' h
    simp only [Bool.and_eq_true, Nat.beq_eq, decide_eq_true_eq] at hb
    obtain ⟨⟨⟨⟨⟨⟨rfl, rfl⟩, rfl⟩, rfl⟩, rfl⟩, rfl⟩, rfl⟩ := hb
    exact (fok129_b82 fuel).wk [1000002] _ _ kk r ((F129_b82_eq fuel _ _ _ _ _ _ _ _ _ kk).trans h)
  · cases h
end Go.Proofs.YtmjeeaemmbkioaaGreat

set_option linter.unusedVariables false
set_option linter.unusedSimpArgs false
set_option maxRecDepth 100000
set_option maxHeartbeats 2000000
namespace Go.Proofs.YtmjeeaemmbkioaaGreat
open Go Ev
def kp156_020 (i : Nat) : Option (List Nat) := Ev.look i [(12, [0, 1, 6, 8, 9]), (100001, [0, 1, 6, 8, 9]), (200010, [0]), (400001, [4, 5])]
noncomputable def Gg156_020 (f124_975 : YF124_975) (f : Nat) : Option Ev.Spec := Ev.look f [(124, spg124_975 f124_975)]
noncomputable def G156_020 (fuel : Nat) : Nat → Option Ev.Spec := Gg156_020 (F_coder_Decoder_none_975 fuel)
noncomputable def J156_020 (fuel : Nat) (i : Nat) : Option Ev.Blk := Ev.look i []
noncomputable def F_coder_Decoder_Get_020 (fuel : Nat) (x0 : Int) (k0 : (Int × Int) → Option Ans) : Option Ans :=
  (F_coder_Decoder_none_975 fuel
    (fun y2 =>
      bif y2 then
       k0 ((0 : Int), (7 : Int))
      else
       bif Decidable.decide (x0 < (0 : Int)) then
       k0 ((0 : Int), (2 : Int))
       else none))
abbrev YF156_020 : Type := (Int) → ((Int × Int) → Option Ans) → Option Ans
theorem F156_020_eqg (fuel : Nat) (f124_975 : YF124_975) (x0 : Int) (k : Ev.Cont) : evalFn tab (Gg156_020 f124_975) (J156_020 fuel) kp156_020 fuel Tryz.f156 [.c (.nilptr), .c (.int .i64 x0)] [] k = (fun  (k0 : (Int × Int) → Option Ans) =>
  (f124_975
    (fun y2 =>
      bif y2 then
       k0 ((0 : Int), (7 : Int))
      else
       bif Decidable.decide (x0 < (0 : Int)) then
       k0 ((0 : Int), (2 : Int))
       else none))) (fun r => match r with | (r0, r1) => k (.tup [(false, [.int .i64 r0]), (false, [.int .i64 r1])], [])) := by
  kernel_rfl
theorem F156_020_eq (fuel : Nat) (x0 : Int) (k : Ev.Cont) : evalFn tab (G156_020 fuel) (J156_020 fuel) kp156_020 fuel Tryz.f156 [.c (.nilptr), .c (.int .i64 x0)] [] k = F_coder_Decoder_Get_020 fuel x0 (fun r => match r with | (r0, r1) => k (.tup [(false, [.int .i64 r0]), (false, [.int .i64 r1])], [])) :=
  F156_020_eqg fuel (F_coder_Decoder_none_975 fuel) x0 k
theorem hG156_020 (fuel : Nat) : GOK Tryz.prog (G156_020 fuel) :=
  gok_cons ⟨ok124_975 fuel, enters_of Tryz.func124 (by kernel_rfl) rfl⟩ <|
  gok_nil
theorem fok156_020 (fuel : Nat) : FnOK Tryz.prog 156 (evalFn tab (G156_020 fuel) (J156_020 fuel) kp156_020 fuel Tryz.f156) :=
  fn_ok tab_ok (hG156_020 fuel) mixed Tryz.func156 (c := (Tryz.f156.body).getD .skip) rfl (fun q hq => by
    rw [(by kernel_rfl : obl (J156_020 fuel) ((Tryz.f156.body).getD .skip) = [])] at hq
    cases hq)
noncomputable def mt156_020 : List Ev.SV → List Ev.Ob → Bool := fun args objs => match args, objs with
  | [.c (.nilptr), .c (.int .i64 _)], [] => true
  | _, _ => false
noncomputable def spg156_020 (F : YF156_020) : Ev.Spec := fun args objs k => match args, objs with
  | [.c (.nilptr), .c (.int .i64 x0)], [] => bif true then F x0 (fun r => match r with | (r0, r1) => k (.tup [(false, [.int .i64 r0]), (false, [.int .i64 r1])], [])) else none
  | _, _ => none
noncomputable def spec156_020 (fuel : Nat) : Ev.Spec := spg156_020 (F_coder_Decoder_Get_020 fuel)
theorem ok156_020 (fuel : Nat) : FnOK Tryz.prog 156 (spec156_020 fuel) := by
  intro args objs kk r h
  unfold spec156_020 spg156_020 at h
  split at h
  · skip
    obtain ⟨hb, h⟩ := cond_some' h
    simp only [Bool.and_eq_true, Nat.beq_eq, decide_eq_true_eq] at hb
    clear hb
    exact fok156_020 fuel _ _ kk r ((F156_020_eq fuel _ kk).trans h)
  · cases h
end Go.Proofs.YtmjeeaemmbkioaaGreat

set_option linter.unusedVariables false
set_option linter.unusedSimpArgs false
set_option maxRecDepth 100000
set_option maxHeartbeats 2000000
namespace Go.Proofs.YtmjeeaemmbkioaaGreat
open Go Ev
def kp173_020 (i : Nat) : Option (List Nat) := Ev.look i [(5, [0, 1, 4, 8]), (14, [0, 1, 4, 8, 9, 10, 49, 50]), (100000, [0, 1, 4, 8]), (100002, [0, 1, 4, 9]), (400000, [4, 5]), (400002, [4, 5])]
noncomputable def Gg173_020 (f156_020 : YF156_020) (f172 : YF172) (f : Nat) : Option Ev.Spec := Ev.look f [(156, spg156_020 f156_020), (172, spg172 f172)]
noncomputable def G173_020 (fuel : Nat) : Nat → Option Ev.Spec := Gg173_020 (F_coder_Decoder_Get_020 fuel) (F_number_tail_take fuel)
noncomputable def S_number_get_020_0 (fuel : Nat) (v : Int × Int × Bool × Int) (c : (Int × Int × Bool × Int) → Option Ans) (B : (Int × Bool × Int → Option Ans) × (Int × Int × Bool × Int → Option Ans)) : Option Ans := match v, B with
  | (x0, x1, x2, x3), (ret, b) =>
   bif Decidable.decide (x1 < (20 : Int)) then
      (F_coder_Decoder_Get_020 fuel (Go.IntKind.i64.wrap (Go.IntKind.i64.wrap (x0 + (1 : Int)) + x1))
        (fun (y3_0, y3_1) =>
          bif y3_1 != (0 : Int) then
           ret (y3_1, Bool.false, (0 : Int))
          else
           bif y3_0 == (0 : Int) then
            b (x0, x1, x2, x3)
           else
            c (x0, Go.IntKind.i64.wrap (x1 + (1 : Int)), x2, x3)))
     else
      b (x0, x1, x2, x3)
noncomputable def L_number_get_020_0 (fuel : Nat) (v : Int × Int × Bool × Int) (ret : (Int × Bool × Int → Option Ans)) (b : (Int × Int × Bool × Int → Option Ans)) : Option Ans := iter (S_number_get_020_0 fuel) fuel v (ret, b)
noncomputable def J173_020_0 (fuel : Nat) (i : Nat) : Option Ev.Blk := Ev.look i []
noncomputable def T173_020_0 (v : Int × Int × Bool × Int) : Ev.St := match v with | (x0, x1, x2, x3) => ⟨[(0, .c (.nilptr)), (1, .c (.int .i64 x0)), (4, .c (.ptr 0 0)), (8, .c (.int .i64 x1))], [(0, .cells 138 [.bool x2, .int .i64 x3])], 1, 0⟩
noncomputable def E173_020_0 (K : Ev.Ex → Ev.St → Option Ans) : (Int × Bool × Int → Option Ans) × (Int × Int × Bool × Int → Option Ans) := ((fun v => match v with | (x0, x1, x2) => K .ret ⟨[(4, .c (.ptr 0 0)), (5, .c (.int .i64 x0))], [(0, .cells 138 [.bool x1, .int .i64 x2])], 1, 0⟩), (fun v => match v with | (x0, x1, x2, x3) => K .normal ⟨[(0, .c (.nilptr)), (1, .c (.int .i64 x0)), (4, .c (.ptr 0 0)), (8, .c (.int .i64 x1))], [(0, .cells 138 [.bool x2, .int .i64 x3])], 1, 0⟩))
theorem S173_020_0_okg (fuel : Nat) (f156_020 : YF156_020) (f172 : YF172) (R : Ev.St → Option Ans) (K : Ev.Ex → Ev.St → Option Ans) (x0 : Int) (x1 : Int) (x2 : Bool) (x3 : Int) : evalCode tab (Gg173_020 f156_020 f172) (J173_020_0 fuel) kp173_020 fuel (bodyOf 0 Tryz.f173) (T173_020_0 (x0, x1, x2, x3)) (lc kp173_020 5 0 R K) = (fun (c : (Int × Int × Bool × Int) → Option Ans) (B : (Int × Bool × Int → Option Ans) × (Int × Int × Bool × Int → Option Ans)) => match B with
  | (ret, b) =>
   bif Decidable.decide (x1 < (20 : Int)) then
      (f156_020 (Go.IntKind.i64.wrap (Go.IntKind.i64.wrap (x0 + (1 : Int)) + x1))
        (fun (y3_0, y3_1) =>
          bif y3_1 != (0 : Int) then
           ret (y3_1, Bool.false, (0 : Int))
          else
           bif y3_0 == (0 : Int) then
            b (x0, x1, x2, x3)
           else
            c (x0, Go.IntKind.i64.wrap (x1 + (1 : Int)), x2, x3)))
     else
      b (x0, x1, x2, x3)) (fun v => R (T173_020_0 v)) (E173_020_0 K) := by
  kernel_rfl
theorem S173_020_0_ok (fuel : Nat) (R : Ev.St → Option Ans) (K : Ev.Ex → Ev.St → Option Ans) (x0 : Int) (x1 : Int) (x2 : Bool) (x3 : Int) : evalCode tab (G173_020 fuel) (J173_020_0 fuel) kp173_020 fuel (bodyOf 0 Tryz.f173) (T173_020_0 (x0, x1, x2, x3)) (lc kp173_020 5 0 R K) = S_number_get_020_0 fuel (x0, x1, x2, x3) (fun v => R (T173_020_0 v)) (E173_020_0 K) :=
  S173_020_0_okg fuel (F_coder_Decoder_Get_020 fuel) (F_number_tail_take fuel) R K x0 x1 x2 x3
noncomputable def B173_020_0 (fuel : Nat) : Ev.Blk := fun st K => match canonO (kp173_020 5) st with
  | some s => (match s with
    | ⟨[(q0, .c (.nilptr)), (q1, .c (.int .i64 x0)), (q2, .c (.ptr q3 q4)), (q5, .c (.int .i64 x1))], [(q6, .cells q7 [.bool x2, .int .i64 x3])], q8, q9⟩ => bif Nat.beq q0 0 && Nat.beq q1 1 && Nat.beq q2 4 && Nat.beq q3 0 && Nat.beq q4 0 && Nat.beq q5 8 && Nat.beq q6 0 && Nat.beq q7 138 && Nat.beq q8 1 && Nat.beq q9 0 then iter (S_number_get_020_0 fuel) fuel (x0, x1, x2, x3) (E173_020_0 K) else none
    | _ => none)
  | none => none
theorem B173_020_0_ok (fuel : Nat) (st : Ev.St) (K : Ev.Ex → Ev.St → Option Ans) (r : Ans) (h : B173_020_0 fuel st K = some r) : evalCode tab (G173_020 fuel) (J173_020_0 fuel) kp173_020 fuel (.block 0 (.loop (bodyOf 0 Tryz.f173))) st K = some r := by
  unfold B173_020_0 at h
  split at h
  · rename_i s hs
    split at h
    · skip
      obtain ⟨hb, h⟩ := cond_some' h
      simp only [Bool.and_eq_true, Nat.beq_eq, decide_eq_true_eq] at hb
      obtain ⟨⟨⟨⟨⟨⟨⟨⟨⟨rfl, rfl⟩, rfl⟩, rfl⟩, rfl⟩, rfl⟩, rfl⟩, rfl⟩, rfl⟩, rfl⟩ := hb
      exact blk_loop (S := T173_020_0) (ks := E173_020_0) (step := S_number_get_020_0 fuel) (v := (_, _, _, _)) (by kernel_rfl) (by kernel_rfl) (fun R K v => by obtain ⟨x0, x1, x2, x3⟩ := v; exact S173_020_0_ok fuel R K x0 x1 x2 x3) hs h
    · cases h
  · cases h
noncomputable def S_number_get_020_2 (fuel : Nat) (v : Int × Int × Int × Int × Int × Bool × Int × Int) (c : (Int × Int × Int × Int × Int × Bool × Int × Int) → Option Ans) (B : (Int × Bool × Int → Option Ans) × (Int × Int × Bool × Int → Option Ans)) : Option Ans := match v, B with
  | (x0, x1, x2, x3, x4, x5, x6, x7), (ret, b) =>
   bif Decidable.decide (x4 < x3) then
      bif Decidable.decide (x4 > (0 : Int)) then
       (F_number_tail_take fuel (x7)
         (fun (y4_0, y4_1) =>
           (F_coder_Decoder_Get_020 fuel (Go.IntKind.i64.wrap (x0 + y4_0))
             (fun (y8_0, y8_1) =>
               bif y8_1 != (0 : Int) then
                ret (y8_1, Bool.false, (0 : Int))
               else
                c (x0, x1, Go.IntKind.i64.wrap (Go.IntKind.i64.wrap ((2 : Int) * x2) + y8_0), x3, Go.IntKind.i64.wrap (x4 + (1 : Int)), x5, x6, y4_1)))))
      else
       (F_coder_Decoder_Get_020 fuel (Go.IntKind.i64.wrap (x0 + Go.IntKind.i64.wrap ((23 : Int) + x1)))
         (fun (y4_0, y4_1) =>
           bif y4_1 != (0 : Int) then
            ret (y4_1, Bool.false, (0 : Int))
           else
            c (x0, x1, Go.IntKind.i64.wrap (Go.IntKind.i64.wrap ((2 : Int) * x2) + y4_0), x3, Go.IntKind.i64.wrap (x4 + (1 : Int)), x5, x6, x7)))
     else
      b (x0, x2, x5, x6)
noncomputable def L_number_get_020_2 (fuel : Nat) (v : Int × Int × Int × Int × Int × Bool × Int × Int) (ret : (Int × Bool × Int → Option Ans)) (b : (Int × Int × Bool × Int → Option Ans)) : Option Ans := iter (S_number_get_020_2 fuel) fuel v (ret, b)
noncomputable def J173_020_2 (fuel : Nat) (i : Nat) : Option Ev.Blk := Ev.look i [(100000, B173_020_0 fuel)]
noncomputable def T173_020_2 (v : Int × Int × Int × Int × Int × Bool × Int × Int) : Ev.St := match v with | (x0, x1, x2, x3, x4, x5, x6, x7) => ⟨[(0, .c (.nilptr)), (1, .c (.int .i64 x0)), (4, .c (.ptr 0 0)), (8, .c (.int .i64 x1)), (9, .c (.int .i64 x2)), (10, .c (.ptr 1 0)), (49, .c (.int .i64 x3)), (50, .c (.int .i64 x4))], [(0, .cells 138 [.bool x5, .int .i64 x6]), (1, .cells 221 [.int .i64 x7])], 2, 0⟩
noncomputable def E173_020_2 (K : Ev.Ex → Ev.St → Option Ans) : (Int × Bool × Int → Option Ans) × (Int × Int × Bool × Int → Option Ans) := ((fun v => match v with | (x0, x1, x2) => K .ret ⟨[(4, .c (.ptr 0 0)), (5, .c (.int .i64 x0))], [(0, .cells 138 [.bool x1, .int .i64 x2])], 1, 0⟩), (fun v => match v with | (x0, x1, x2, x3) => K .normal ⟨[(0, .c (.nilptr)), (1, .c (.int .i64 x0)), (4, .c (.ptr 0 0)), (9, .c (.int .i64 x1))], [(0, .cells 138 [.bool x2, .int .i64 x3])], 1, 0⟩))
theorem S173_020_2_okg (fuel : Nat) (f156_020 : YF156_020) (f172 : YF172) (R : Ev.St → Option Ans) (K : Ev.Ex → Ev.St → Option Ans) (x0 : Int) (x1 : Int) (x2 : Int) (x3 : Int) (x4 : Int) (x5 : Bool) (x6 : Int) (x7 : Int) : evalCode tab (Gg173_020 f156_020 f172) (J173_020_2 fuel) kp173_020 fuel (bodyOf 2 Tryz.f173) (T173_020_2 (x0, x1, x2, x3, x4, x5, x6, x7)) (lc kp173_020 14 2 R K) = (fun (c : (Int × Int × Int × Int × Int × Bool × Int × Int) → Option Ans) (B : (Int × Bool × Int → Option Ans) × (Int × Int × Bool × Int → Option Ans)) => match B with
  | (ret, b) =>
   bif Decidable.decide (x4 < x3) then
      bif Decidable.decide (x4 > (0 : Int)) then
       (f172 (x7)
         (fun (y4_0, y4_1) =>
           (f156_020 (Go.IntKind.i64.wrap (x0 + y4_0))
             (fun (y8_0, y8_1) =>
               bif y8_1 != (0 : Int) then
                ret (y8_1, Bool.false, (0 : Int))
               else
                c (x0, x1, Go.IntKind.i64.wrap (Go.IntKind.i64.wrap ((2 : Int) * x2) + y8_0), x3, Go.IntKind.i64.wrap (x4 + (1 : Int)), x5, x6, y4_1)))))
      else
       (f156_020 (Go.IntKind.i64.wrap (x0 + Go.IntKind.i64.wrap ((23 : Int) + x1)))
         (fun (y4_0, y4_1) =>
           bif y4_1 != (0 : Int) then
            ret (y4_1, Bool.false, (0 : Int))
           else
            c (x0, x1, Go.IntKind.i64.wrap (Go.IntKind.i64.wrap ((2 : Int) * x2) + y4_0), x3, Go.IntKind.i64.wrap (x4 + (1 : Int)), x5, x6, x7)))
     else
      b (x0, x2, x5, x6)) (fun v => R (T173_020_2 v)) (E173_020_2 K) := by
  kernel_rfl
theorem S173_020_2_ok (fuel : Nat) (R : Ev.St → Option Ans) (K : Ev.Ex → Ev.St → Option Ans) (x0 : Int) (x1 : Int) (x2 : Int) (x3 : Int) (x4 : Int) (x5 : Bool) (x6 : Int) (x7 : Int) : evalCode tab (G173_020 fuel) (J173_020_2 fuel) kp173_020 fuel (bodyOf 2 Tryz.f173) (T173_020_2 (x0, x1, x2, x3, x4, x5, x6, x7)) (lc kp173_020 14 2 R K) = S_number_get_020_2 fuel (x0, x1, x2, x3, x4, x5, x6, x7) (fun v => R (T173_020_2 v)) (E173_020_2 K) :=
  S173_020_2_okg fuel (F_coder_Decoder_Get_020 fuel) (F_number_tail_take fuel) R K x0 x1 x2 x3 x4 x5 x6 x7
noncomputable def B173_020_2 (fuel : Nat) : Ev.Blk := fun st K => match canonO (kp173_020 14) st with
  | some s => (match s with
    | ⟨[(q0, .c (.nilptr)), (q1, .c (.int .i64 x0)), (q2, .c (.ptr q3 q4)), (q5, .c (.int .i64 x1)), (q6, .c (.int .i64 x2)), (q7, .c (.ptr q8 q9)), (q10, .c (.int .i64 x3)), (q11, .c (.int .i64 x4))], [(q12, .cells q13 [.bool x5, .int .i64 x6]), (q14, .cells q15 [.int .i64 x7])], q16, q17⟩ => bif Nat.beq q0 0 && Nat.beq q1 1 && Nat.beq q2 4 && Nat.beq q3 0 && Nat.beq q4 0 && Nat.beq q5 8 && Nat.beq q6 9 && Nat.beq q7 10 && Nat.beq q8 1 && Nat.beq q9 0 && Nat.beq q10 49 && Nat.beq q11 50 && Nat.beq q12 0 && Nat.beq q13 138 && Nat.beq q14 1 && Nat.beq q15 221 && Nat.beq q16 2 && Nat.beq q17 0 then iter (S_number_get_020_2 fuel) fuel (x0, x1, x2, x3, x4, x5, x6, x7) (E173_020_2 K) else none
    | _ => none)
  | none => none
theorem B173_020_2_ok (fuel : Nat) (st : Ev.St) (K : Ev.Ex → Ev.St → Option Ans) (r : Ans) (h : B173_020_2 fuel st K = some r) : evalCode tab (G173_020 fuel) (J173_020_2 fuel) kp173_020 fuel (.block 2 (.loop (bodyOf 2 Tryz.f173))) st K = some r := by
  unfold B173_020_2 at h
  split at h
  · rename_i s hs
    split at h
    · skip
      obtain ⟨hb, h⟩ := cond_some' h
      simp only [Bool.and_eq_true, Nat.beq_eq, decide_eq_true_eq] at hb
      obtain ⟨⟨⟨⟨⟨⟨⟨⟨⟨⟨⟨⟨⟨⟨⟨⟨⟨rfl, rfl⟩, rfl⟩, rfl⟩, rfl⟩, rfl⟩, rfl⟩, rfl⟩, rfl⟩, rfl⟩, rfl⟩, rfl⟩, rfl⟩, rfl⟩, rfl⟩, rfl⟩, rfl⟩, rfl⟩ := hb
      exact blk_loop (S := T173_020_2) (ks := E173_020_2) (step := S_number_get_020_2 fuel) (v := (_, _, _, _, _, _, _, _)) (by kernel_rfl) (by kernel_rfl) (fun R K v => by obtain ⟨x0, x1, x2, x3, x4, x5, x6, x7⟩ := v; exact S173_020_2_ok fuel R K x0 x1 x2 x3 x4 x5 x6 x7) hs h
    · cases h
  · cases h
noncomputable def J173_020 (fuel : Nat) (i : Nat) : Option Ev.Blk := Ev.look i [(100000, B173_020_0 fuel), (100002, B173_020_2 fuel)]
noncomputable def F_number_get_020 (fuel : Nat) (x0 : Int) (k0 : (Bool × Int × Int) → Option Ans) : Option Ans :=
  (F_coder_Decoder_Get_020 fuel (x0)
    (fun (y2_0, y2_1) =>
      bif y2_1 != (0 : Int) then
       k0 (y2_1 == (0 : Int), (0 : Int), y2_1)
      else
       bif y2_0 == (1 : Int) then
        k0 (y2_1 == (0 : Int), (0 : Int), y2_1)
       else
        (L_number_get_020_0 fuel (x0, (0 : Int), Bool.false, (0 : Int))
          (fun (ret0_0, ret0_1, ret0_2) =>
            k0 (ret0_1, ret0_2, ret0_0))
          (fun (b0_0, b0_1, b0_2, b0_3) =>
            (L_number_get_020_2 fuel (b0_0, b0_1, (1 : Int), b0_1, (0 : Int), b0_2, b0_3, (44 : Int))
              (fun (ret2_0, ret2_1, ret2_2) =>
                k0 (ret2_1, ret2_2, ret2_0))
              (fun (b2_0, b2_1, b2_2, b2_3) =>
                bif Decidable.decide (b2_1 > (1048577 : Int)) then
                 k0 (Bool.false, (0 : Int), (3 : Int))
                else
                 bif b2_1 == (1 : Int) then
                  k0 (Bool.false, (0 : Int), (0 : Int))
                 else
                  (F_coder_Decoder_Get_020 fuel (Go.IntKind.i64.wrap (b2_0 + (22 : Int)))
                    (fun (y18_0, y18_1) =>
                      bif y18_1 != (0 : Int) then
                       k0 (Bool.false, (0 : Int), y18_1)
                      else
                       k0 (Bool.false, Go.IntKind.i64.wrap (Go.IntKind.i64.wrap (b2_1 - (1 : Int)) * Go.IntKind.i64.wrap ((1 : Int) - Go.IntKind.i64.wrap ((2 : Int) * y18_0))), (0 : Int))))))))))
abbrev YF173_020 : Type := (Int) → ((Bool × Int × Int) → Option Ans) → Option Ans
theorem F173_020_eqg (fuel : Nat) (f156_020 : YF156_020) (f172 : YF172) (x0 : Int) (k : Ev.Cont) : evalFn tab (Gg173_020 f156_020 f172) (J173_020 fuel) kp173_020 fuel Tryz.f173 [.c (.nilptr), .c (.int .i64 x0)] [] k = (fun  (k0 : (Bool × Int × Int) → Option Ans) =>
  (f156_020 (x0)
    (fun (y2_0, y2_1) =>
      bif y2_1 != (0 : Int) then
       k0 (y2_1 == (0 : Int), (0 : Int), y2_1)
      else
       bif y2_0 == (1 : Int) then
        k0 (y2_1 == (0 : Int), (0 : Int), y2_1)
       else
        (L_number_get_020_0 fuel (x0, (0 : Int), Bool.false, (0 : Int))
          (fun (ret0_0, ret0_1, ret0_2) =>
            k0 (ret0_1, ret0_2, ret0_0))
          (fun (b0_0, b0_1, b0_2, b0_3) =>
            (L_number_get_020_2 fuel (b0_0, b0_1, (1 : Int), b0_1, (0 : Int), b0_2, b0_3, (44 : Int))
              (fun (ret2_0, ret2_1, ret2_2) =>
                k0 (ret2_1, ret2_2, ret2_0))
              (fun (b2_0, b2_1, b2_2, b2_3) =>
                bif Decidable.decide (b2_1 > (1048577 : Int)) then
                 k0 (Bool.false, (0 : Int), (3 : Int))
                else
                 bif b2_1 == (1 : Int) then
                  k0 (Bool.false, (0 : Int), (0 : Int))
                 else
                  (f156_020 (Go.IntKind.i64.wrap (b2_0 + (22 : Int)))
                    (fun (y18_0, y18_1) =>
                      bif y18_1 != (0 : Int) then
                       k0 (Bool.false, (0 : Int), y18_1)
                      else
                       k0 (Bool.false, Go.IntKind.i64.wrap (Go.IntKind.i64.wrap (b2_1 - (1 : Int)) * Go.IntKind.i64.wrap ((1 : Int) - Go.IntKind.i64.wrap ((2 : Int) * y18_0))), (0 : Int))))))))))) (fun r => match r with | (r0, r1, r2) => k (.tup [(true, [.bool r0, .int .i64 r1]), (false, [.int .i64 r2])], [])) := by
  kernel_rfl
theorem F173_020_eq (fuel : Nat) (x0 : Int) (k : Ev.Cont) : evalFn tab (G173_020 fuel) (J173_020 fuel) kp173_020 fuel Tryz.f173 [.c (.nilptr), .c (.int .i64 x0)] [] k = F_number_get_020 fuel x0 (fun r => match r with | (r0, r1, r2) => k (.tup [(true, [.bool r0, .int .i64 r1]), (false, [.int .i64 r2])], [])) :=
  F173_020_eqg fuel (F_coder_Decoder_Get_020 fuel) (F_number_tail_take fuel) x0 k
theorem hG173_020 (fuel : Nat) : GOK Tryz.prog (G173_020 fuel) :=
  gok_cons ⟨ok156_020 fuel, enters_of Tryz.func156 (by kernel_rfl) rfl⟩ <|
  gok_cons ⟨ok172 fuel, enters_of Tryz.func172 (by kernel_rfl) rfl⟩ <|
  gok_nil
theorem B173_020_0_blk (fuel : Nat) : BlkOK Tryz.prog Tryz.f173.ntmps (.block 0 (.loop (bodyOf 0 Tryz.f173))) (B173_020_0 fuel) :=
  blk_of (blk_of_code tab_ok (hG173_020 fuel) mixed (J := J173_020_0 fuel) (kp := kp173_020) (fuel := fuel) (by kernel_rfl) (fun q hq => by
    rw [(by kernel_rfl : obl (J173_020_0 fuel) (.block 0 (.loop (bodyOf 0 Tryz.f173))) = [])] at hq
    cases hq)) (B173_020_0_ok fuel)
theorem B173_020_2_blk (fuel : Nat) : BlkOK Tryz.prog Tryz.f173.ntmps (.block 2 (.loop (bodyOf 2 Tryz.f173))) (B173_020_2 fuel) :=
  blk_of (blk_of_code tab_ok (hG173_020 fuel) mixed (J := J173_020_2 fuel) (kp := kp173_020) (fuel := fuel) (by kernel_rfl) (fun q hq => by
    rw [(by kernel_rfl : obl (J173_020_2 fuel) (.block 2 (.loop (bodyOf 2 Tryz.f173))) = [])] at hq
    cases hq)) (B173_020_2_ok fuel)
theorem fok173_020 (fuel : Nat) : FnOK Tryz.prog 173 (evalFn tab (G173_020 fuel) (J173_020 fuel) kp173_020 fuel Tryz.f173) :=
  fn_ok tab_ok (hG173_020 fuel) mixed Tryz.func173 (c := (Tryz.f173.body).getD .skip) rfl (fun q hq => by
    rw [(by kernel_rfl : obl (J173_020 fuel) ((Tryz.f173.body).getD .skip) = [(.block 0 (.loop (bodyOf 0 Tryz.f173)), B173_020_0 fuel), (.block 2 (.loop (bodyOf 2 Tryz.f173)), B173_020_2 fuel)])] at hq
    simp only [List.mem_cons, List.not_mem_nil, or_false] at hq
    rcases hq with rfl | rfl
    · exact B173_020_0_blk fuel
    · exact B173_020_2_blk fuel)
noncomputable def mt173_020 : List Ev.SV → List Ev.Ob → Bool := fun args objs => match args, objs with
  | [.c (.nilptr), .c (.int .i64 _)], [] => true
  | _, _ => false
noncomputable def spg173_020 (F : YF173_020) : Ev.Spec := fun args objs k => match args, objs with
  | [.c (.nilptr), .c (.int .i64 x0)], [] => bif true then F x0 (fun r => match r with | (r0, r1, r2) => k (.tup [(true, [.bool r0, .int .i64 r1]), (false, [.int .i64 r2])], [])) else none
  | _, _ => none
noncomputable def spec173_020 (fuel : Nat) : Ev.Spec := spg173_020 (F_number_get_020 fuel)
theorem ok173_020 (fuel : Nat) : FnOK Tryz.prog 173 (spec173_020 fuel) := by
  intro args objs kk r h
  unfold spec173_020 spg173_020 at h
  split at h
  · skip
    obtain ⟨hb, h⟩ := cond_some' h
    simp only [Bool.and_eq_true, Nat.beq_eq, decide_eq_true_eq] at hb
    clear hb
    exact fok173_020 fuel _ _ kk r ((F173_020_eq fuel _ kk).trans h)
  · cases h
end Go.Proofs.YtmjeeaemmbkioaaGreat

set_option linter.unusedVariables false
set_option linter.unusedSimpArgs false
set_option maxRecDepth 100000
set_option maxHeartbeats 2000000
namespace Go.Proofs.YtmjeeaemmbkioaaGreat
open Go Ev
def kp137_020 (i : Nat) : Option (List Nat) := Ev.look i []
noncomputable def Gg137_020 (f76_975 : YF76_975) (f134 : YF134) (f156_020 : YF156_020) (f173_020 : YF173_020) (f : Nat) : Option Ev.Spec := Ev.look f [(76, spg76_975 f76_975), (134, spg134 f134), (156, spg156_020 f156_020), (173, spg173_020 f173_020)]
noncomputable def G137_020 (fuel : Nat) : Nat → Option Ev.Spec := Gg137_020 (F_coder_Decoder_Model_975 fuel) (F_number_fits fuel) (F_coder_Decoder_Get_020 fuel) (F_number_get_020 fuel)
noncomputable def J137_020 (fuel : Nat) (i : Nat) : Option Ev.Blk := Ev.look i []
noncomputable def F_number_Get_020 (fuel : Nat) (x0 : Int) (k0 : (Bool × Int × Int) → Option Ans) : Option Ans :=
  (F_coder_Decoder_Get_020 fuel ((-1 : Int))
    (fun (y2_0, y2_1) =>
      bif y2_1 == (7 : Int) then
       k0 (Bool.false, (0 : Int), y2_1)
      else
       (F_coder_Decoder_Model_975 fuel
         (fun (y7_0, y7_1) =>
           (F_number_fits fuel (y7_0) (y7_1) (x0) ((48 : Int))
             (fun y11 =>
               bif y11 != (0 : Int) then
                k0 (Bool.false, (0 : Int), y11)
               else
                (F_number_get_020 fuel (x0)
                  (fun (y16_0, y16_1, y16_2) =>
                    k0 (y16_0, y16_1, y16_2)))))))))
abbrev YF137_020 : Type := (Int) → ((Bool × Int × Int) → Option Ans) → Option Ans
theorem F137_020_eqg (fuel : Nat) (f76_975 : YF76_975) (f134 : YF134) (f156_020 : YF156_020) (f173_020 : YF173_020) (x0 : Int) (k : Ev.Cont) : evalFn tab (Gg137_020 f76_975 f134 f156_020 f173_020) (J137_020 fuel) kp137_020 fuel Tryz.f137 [.c (.nilptr), .c (.int .i64 x0)] [] k = (fun  (k0 : (Bool × Int × Int) → Option Ans) =>
  (f156_020 ((-1 : Int))
    (fun (y2_0, y2_1) =>
      bif y2_1 == (7 : Int) then
       k0 (Bool.false, (0 : Int), y2_1)
      else
       (f76_975
         (fun (y7_0, y7_1) =>
           (f134 (y7_0) (y7_1) (x0) ((48 : Int))
             (fun y11 =>
               bif y11 != (0 : Int) then
                k0 (Bool.false, (0 : Int), y11)
               else
                (f173_020 (x0)
                  (fun (y16_0, y16_1, y16_2) =>
                    k0 (y16_0, y16_1, y16_2)))))))))) (fun r => match r with | (r0, r1, r2) => k (.tup [(true, [.bool r0, .int .i64 r1]), (false, [.int .i64 r2])], [])) := by
  kernel_rfl
theorem F137_020_eq (fuel : Nat) (x0 : Int) (k : Ev.Cont) : evalFn tab (G137_020 fuel) (J137_020 fuel) kp137_020 fuel Tryz.f137 [.c (.nilptr), .c (.int .i64 x0)] [] k = F_number_Get_020 fuel x0 (fun r => match r with | (r0, r1, r2) => k (.tup [(true, [.bool r0, .int .i64 r1]), (false, [.int .i64 r2])], [])) :=
  F137_020_eqg fuel (F_coder_Decoder_Model_975 fuel) (F_number_fits fuel) (F_coder_Decoder_Get_020 fuel) (F_number_get_020 fuel) x0 k
theorem hG137_020 (fuel : Nat) : GOK Tryz.prog (G137_020 fuel) :=
  gok_cons ⟨ok76_975 fuel, enters_of Tryz.func76 (by kernel_rfl) rfl⟩ <|
  gok_cons ⟨ok134 fuel, enters_of Tryz.func134 (by kernel_rfl) rfl⟩ <|
  gok_cons ⟨ok156_020 fuel, enters_of Tryz.func156 (by kernel_rfl) rfl⟩ <|
  gok_cons ⟨ok173_020 fuel, enters_of Tryz.func173 (by kernel_rfl) rfl⟩ <|
  gok_nil
theorem fok137_020 (fuel : Nat) : FnOK Tryz.prog 137 (evalFn tab (G137_020 fuel) (J137_020 fuel) kp137_020 fuel Tryz.f137) :=
  fn_ok tab_ok (hG137_020 fuel) mixed Tryz.func137 (c := (Tryz.f137.body).getD .skip) rfl (fun q hq => by
    rw [(by kernel_rfl : obl (J137_020 fuel) ((Tryz.f137.body).getD .skip) = [])] at hq
    cases hq)
noncomputable def mt137_020 : List Ev.SV → List Ev.Ob → Bool := fun args objs => match args, objs with
  | [.c (.nilptr), .c (.int .i64 _)], [] => true
  | _, _ => false
noncomputable def spg137_020 (F : YF137_020) : Ev.Spec := fun args objs k => match args, objs with
  | [.c (.nilptr), .c (.int .i64 x0)], [] => bif true then F x0 (fun r => match r with | (r0, r1, r2) => k (.tup [(true, [.bool r0, .int .i64 r1]), (false, [.int .i64 r2])], [])) else none
  | _, _ => none
noncomputable def spec137_020 (fuel : Nat) : Ev.Spec := spg137_020 (F_number_Get_020 fuel)
theorem ok137_020 (fuel : Nat) : FnOK Tryz.prog 137 (spec137_020 fuel) := by
  intro args objs kk r h
  unfold spec137_020 spg137_020 at h
  split at h
  · skip
    obtain ⟨hb, h⟩ := cond_some' h
    simp only [Bool.and_eq_true, Nat.beq_eq, decide_eq_true_eq] at hb
    clear hb
    exact fok137_020 fuel _ _ kk r ((F137_020_eq fuel _ kk).trans h)
  · cases h
end Go.Proofs.YtmjeeaemmbkioaaGreat

set_option linter.unusedVariables false
set_option linter.unusedSimpArgs false
set_option maxRecDepth 100000
set_option maxHeartbeats 2000000
namespace Go.Proofs.YtmjeeaemmbkioaaGreat
open Go Ev
def kp164_40a (i : Nat) : Option (List Nat) := Ev.look i []
noncomputable def Gg164_40a (f : Nat) : Option Ev.Spec := Ev.look f []
noncomputable def G164_40a (fuel : Nat) : Nat → Option Ev.Spec := Gg164_40a
noncomputable def J164_40a (fuel : Nat) (i : Nat) : Option Ev.Blk := Ev.look i []
noncomputable def F_coder_interval_lose_40a (fuel : Nat) (x0 : Int) (x1 : Int) (x2 : Int) (x3 : Int) (x4 : Int) (x5 : Int) (x6 : Bool) (x7 : Bool) (x8 : (List Int)) (x9 : (List Int)) (k0 : (Int × Int × Int × Int × Int × Int × Int × Bool × Bool × (List Int) × (List Int)) → Option Ans) : Option Ans :=
  k0 (Go.IntKind.u8.wrap (Ev.ishr Go.IntKind.u64 x1 (24 : Int)), x0, Ev.iand Go.IntKind.u64 (Ev.ishl Go.IntKind.u64 x1 (8 : Int)) (4294967295 : Int), Ev.ior Go.IntKind.u64 (Ev.iand Go.IntKind.u64 (Ev.ishl Go.IntKind.u64 x2 (8 : Int)) (4294967295 : Int)) (255 : Int), x3, x4, x5, x6, x7, x8, x9)
abbrev YF164_40a : Type := (Int) → (Int) → (Int) → (Int) → (Int) → (Int) → (Bool) → (Bool) → ((List Int)) → ((List Int)) → ((Int × Int × Int × Int × Int × Int × Int × Bool × Bool × (List Int) × (List Int)) → Option Ans) → Option Ans
theorem F164_40a_eq (fuel : Nat) (x0 : Int) (x1 : Int) (x2 : Int) (x3 : Int) (x4 : Int) (x5 : Int) (x6 : Bool) (x7 : Bool) (x8 : (List Int)) (x9 : (List Int)) (k : Ev.Cont) : evalFn tab (G164_40a fuel) (J164_40a fuel) kp164_40a fuel Tryz.f164 [.c (.ptr 0 0)] [.cells 168 (.int .i64 x0 :: .own 1 :: .int .i64 2048 :: .int .i64 1792 :: .int .i64 1568 :: .int .i64 1372 :: .int .i64 1201 :: .int .i64 1051 :: .int .i64 920 :: .int .i64 805 :: .int .i64 705 :: .int .i64 617 :: .int .i64 540 :: .int .i64 473 :: .int .i64 414 :: .int .i64 363 :: .int .i64 318 :: .int .i64 279 :: .int .i64 245 :: .int .i64 215 :: .int .i64 189 :: .int .i64 166 :: .int .i64 146 :: .int .i64 128 :: .int .i64 112 :: .int .i64 98 :: .int .i64 86 :: .int .i64 76 :: .int .i64 67 :: .int .i64 59 :: .int .i64 52 :: .int .i64 46 :: .int .i64 41 :: .int .i64 36 :: .int .u64 x1 :: .int .u64 x2 :: .own 2 :: .int .i64 x3 :: .int .u64 x4 :: .int .i64 x5 :: .bool x6 :: .bool x7 :: []), .vec 3 (.int .i64) x8 false, .vec 5 (.int .u8) x9 false] k = F_coder_interval_lose_40a fuel x0 x1 x2 x3 x4 x5 x6 x7 x8 x9 (fun r => match r with | (r0, r1, r2, r3, r4, r5, r6, r7, r8, r9, r10) => k (.c (.int .u8 r0), [.cells 168 (.int .i64 r1 :: .own 1 :: .int .i64 2048 :: .int .i64 1792 :: .int .i64 1568 :: .int .i64 1372 :: .int .i64 1201 :: .int .i64 1051 :: .int .i64 920 :: .int .i64 805 :: .int .i64 705 :: .int .i64 617 :: .int .i64 540 :: .int .i64 473 :: .int .i64 414 :: .int .i64 363 :: .int .i64 318 :: .int .i64 279 :: .int .i64 245 :: .int .i64 215 :: .int .i64 189 :: .int .i64 166 :: .int .i64 146 :: .int .i64 128 :: .int .i64 112 :: .int .i64 98 :: .int .i64 86 :: .int .i64 76 :: .int .i64 67 :: .int .i64 59 :: .int .i64 52 :: .int .i64 46 :: .int .i64 41 :: .int .i64 36 :: .int .u64 r2 :: .int .u64 r3 :: .own 2 :: .int .i64 r4 :: .int .u64 r5 :: .int .i64 r6 :: .bool r7 :: .bool r8 :: []), .vec 3 (.int .i64) r9 false, .vec 5 (.int .u8) r10 false])) := by
  kernel_rfl
theorem hG164_40a (fuel : Nat) : GOK Tryz.prog (G164_40a fuel) :=
  gok_nil
theorem fok164_40a (fuel : Nat) : FnOK Tryz.prog 164 (evalFn tab (G164_40a fuel) (J164_40a fuel) kp164_40a fuel Tryz.f164) :=
  fn_ok tab_ok (hG164_40a fuel) mixed Tryz.func164 (c := (Tryz.f164.body).getD .skip) rfl (fun q hq => by
    rw [(by kernel_rfl : obl (J164_40a fuel) ((Tryz.f164.body).getD .skip) = [])] at hq
    cases hq)
noncomputable def mt164_40a : List Ev.SV → List Ev.Ob → Bool := fun args objs => match args, objs with
  | [.c (.ptr q0 q1)], [.cells q2 cs0, .vec q3 (.int .i64) _ false, .vec q4 (.int .u8) _ false] => (match splitRun 2 [(.i64, 2048), (.i64, 1792), (.i64, 1568), (.i64, 1372), (.i64, 1201), (.i64, 1051), (.i64, 920), (.i64, 805), (.i64, 705), (.i64, 617), (.i64, 540), (.i64, 473), (.i64, 414), (.i64, 363), (.i64, 318), (.i64, 279), (.i64, 245), (.i64, 215), (.i64, 189), (.i64, 166), (.i64, 146), (.i64, 128), (.i64, 112), (.i64, 98), (.i64, 86), (.i64, 76), (.i64, 67), (.i64, 59), (.i64, 52), (.i64, 46), (.i64, 41), (.i64, 36)] cs0 with | some ([.int .i64 _, .own q5], [.int .u64 _, .int .u64 _, .own q6, .int .i64 _, .int .u64 _, .int .i64 _, .bool _, .bool _]) => Nat.beq q0 0 && Nat.beq q1 0 && Nat.beq q2 168 && Nat.beq q3 3 && Nat.beq q4 5 && Nat.beq q5 1 && Nat.beq q6 2 | _ => false)
  | _, _ => false
noncomputable def spg164_40a (F : YF164_40a) : Ev.Spec := fun args objs k => match args, objs with
  | [.c (.ptr q0 q1)], [.cells q2 cs0, .vec q3 (.int .i64) x8 false, .vec q4 (.int .u8) x9 false] => (match splitRun 2 [(.i64, 2048), (.i64, 1792), (.i64, 1568), (.i64, 1372), (.i64, 1201), (.i64, 1051), (.i64, 920), (.i64, 805), (.i64, 705), (.i64, 617), (.i64, 540), (.i64, 473), (.i64, 414), (.i64, 363), (.i64, 318), (.i64, 279), (.i64, 245), (.i64, 215), (.i64, 189), (.i64, 166), (.i64, 146), (.i64, 128), (.i64, 112), (.i64, 98), (.i64, 86), (.i64, 76), (.i64, 67), (.i64, 59), (.i64, 52), (.i64, 46), (.i64, 41), (.i64, 36)] cs0 with | some ([.int .i64 x0, .own q5], [.int .u64 x1, .int .u64 x2, .own q6, .int .i64 x3, .int .u64 x4, .int .i64 x5, .bool x6, .bool x7]) => bif Nat.beq q0 0 && Nat.beq q1 0 && Nat.beq q2 168 && Nat.beq q3 3 && Nat.beq q4 5 && Nat.beq q5 1 && Nat.beq q6 2 then F x0 x1 x2 x3 x4 x5 x6 x7 x8 x9 (fun r => match r with | (r0, r1, r2, r3, r4, r5, r6, r7, r8, r9, r10) => k (.c (.int .u8 r0), [.cells 168 (.int .i64 r1 :: .own 1 :: .int .i64 2048 :: .int .i64 1792 :: .int .i64 1568 :: .int .i64 1372 :: .int .i64 1201 :: .int .i64 1051 :: .int .i64 920 :: .int .i64 805 :: .int .i64 705 :: .int .i64 617 :: .int .i64 540 :: .int .i64 473 :: .int .i64 414 :: .int .i64 363 :: .int .i64 318 :: .int .i64 279 :: .int .i64 245 :: .int .i64 215 :: .int .i64 189 :: .int .i64 166 :: .int .i64 146 :: .int .i64 128 :: .int .i64 112 :: .int .i64 98 :: .int .i64 86 :: .int .i64 76 :: .int .i64 67 :: .int .i64 59 :: .int .i64 52 :: .int .i64 46 :: .int .i64 41 :: .int .i64 36 :: .int .u64 r2 :: .int .u64 r3 :: .own 2 :: .int .i64 r4 :: .int .u64 r5 :: .int .i64 r6 :: .bool r7 :: .bool r8 :: []), .vec 3 (.int .i64) r9 false, .vec 5 (.int .u8) r10 false])) else none | _ => none)
  | _, _ => none
noncomputable def spec164_40a (fuel : Nat) : Ev.Spec := spg164_40a (F_coder_interval_lose_40a fuel)
theorem ok164_40a (fuel : Nat) : FnOK Tryz.prog 164 (spec164_40a fuel) := by
  intro args objs kk r h
  unfold spec164_40a spg164_40a at h
  split at h
  · skip
    split at h
    rotate_left 1
    · cases h
    rename_i hsp
    have esp := splitRun_eq hsp
    subst esp
    obtain ⟨hb, h⟩ := cond_some' h
    simp only [Bool.and_eq_true, Nat.beq_eq, decide_eq_true_eq] at hb
    obtain ⟨⟨⟨⟨⟨⟨rfl, rfl⟩, rfl⟩, rfl⟩, rfl⟩, rfl⟩, rfl⟩ := hb
    exact fok164_40a fuel _ _ kk r ((F164_40a_eq fuel _ _ _ _ _ _ _ _ _ _ kk).trans h)
  · cases h
end Go.Proofs.YtmjeeaemmbkioaaGreat

set_option linter.unusedVariables false
set_option linter.unusedSimpArgs false
set_option maxRecDepth 100000
set_option maxHeartbeats 2000000
namespace Go.Proofs.YtmjeeaemmbkioaaGreat
open Go Ev
def kp162_aa3 (i : Nat) : Option (List Nat) := Ev.look i [(200001, [0])]
noncomputable def Gg162_aa3 (f189_bb9 : YF189_bb9) (f : Nat) : Option Ev.Spec := Ev.look f [(189, spg189_bb9 f189_bb9)]
noncomputable def G162_aa3 (fuel : Nat) : Nat → Option Ev.Spec := Gg162_aa3 (F_coder_table_chance_bb9 fuel)
noncomputable def J162_aa3 (fuel : Nat) (i : Nat) : Option Ev.Blk := Ev.look i []
noncomputable def F_coder_interval_mid_aa3 (fuel : Nat) (x0 : Int) (x1 : Int) (x2 : Int) (x3 : Int) (x4 : Int) (x5 : Int) (x6 : Int) (x7 : Bool) (x8 : Bool) (x9 : (List Int)) (x10 : (List Int)) (k0 : (Int × Int × Int × Int × Int × Int × Int × Bool × Bool × (List Int) × (List Int)) → Option Ans) : Option Ans :=
  bif Decidable.decide ((0 : Int) ≤ x0 ∧ x0 < (↑x9.length : Int)) then
  (F_coder_table_chance_bb9 fuel (x1) (x9.getD x0.toNat (0 : Int))
     (fun y3 =>
       k0 (Go.IntKind.u64.wrap (Go.IntKind.u64.wrap (x2 + Go.IntKind.u64.wrap (Go.IntKind.u64.wrap ((Go.IntKind.u64.wrap (x3 - x2)).tdiv (4096 : Int)) * Go.IntKind.u64.wrap y3)) + Go.IntKind.u64.wrap ((Go.IntKind.u64.wrap ((Go.IntKind.u64.wrap (x3 - x2)).tmod (4096 : Int) * Go.IntKind.u64.wrap y3)).tdiv (4096 : Int))), x1, x2, x3, x4, x5, x6, x7, x8, x9, x10)))
  else none
abbrev YF162_aa3 : Type := (Int) → (Int) → (Int) → (Int) → (Int) → (Int) → (Int) → (Bool) → (Bool) → ((List Int)) → ((List Int)) → ((Int × Int × Int × Int × Int × Int × Int × Bool × Bool × (List Int) × (List Int)) → Option Ans) → Option Ans
theorem F162_aa3_eqg (fuel : Nat) (f189_bb9 : YF189_bb9) (x0 : Int) (x1 : Int) (x2 : Int) (x3 : Int) (x4 : Int) (x5 : Int) (x6 : Int) (x7 : Bool) (x8 : Bool) (x9 : (List Int)) (x10 : (List Int)) (k : Ev.Cont) : evalFn tab (Gg162_aa3 f189_bb9) (J162_aa3 fuel) kp162_aa3 fuel Tryz.f162 [.c (.ptr 0 0), .c (.int .i64 x0)] [.cells 168 (.int .i64 x1 :: .own 1 :: .int .i64 2048 :: .int .i64 1792 :: .int .i64 1568 :: .int .i64 1372 :: .int .i64 1201 :: .int .i64 1051 :: .int .i64 920 :: .int .i64 805 :: .int .i64 705 :: .int .i64 617 :: .int .i64 540 :: .int .i64 473 :: .int .i64 414 :: .int .i64 363 :: .int .i64 318 :: .int .i64 279 :: .int .i64 245 :: .int .i64 215 :: .int .i64 189 :: .int .i64 166 :: .int .i64 146 :: .int .i64 128 :: .int .i64 112 :: .int .i64 98 :: .int .i64 86 :: .int .i64 76 :: .int .i64 67 :: .int .i64 59 :: .int .i64 52 :: .int .i64 46 :: .int .i64 41 :: .int .i64 36 :: .int .u64 x2 :: .int .u64 x3 :: .own 2 :: .int .i64 x4 :: .int .u64 x5 :: .int .i64 x6 :: .bool x7 :: .bool x8 :: []), .vec 3 (.int .i64) x9 false, .vec 5 (.int .u8) x10 false] k = (fun  (k0 : (Int × Int × Int × Int × Int × Int × Int × Bool × Bool × (List Int) × (List Int)) → Option Ans) =>
  bif Decidable.decide ((0 : Int) ≤ x0 ∧ x0 < (↑x9.length : Int)) then
  (f189_bb9 (x1) (x9.getD x0.toNat (0 : Int))
     (fun y3 =>
       k0 (Go.IntKind.u64.wrap (Go.IntKind.u64.wrap (x2 + Go.IntKind.u64.wrap (Go.IntKind.u64.wrap ((Go.IntKind.u64.wrap (x3 - x2)).tdiv (4096 : Int)) * Go.IntKind.u64.wrap y3)) + Go.IntKind.u64.wrap ((Go.IntKind.u64.wrap ((Go.IntKind.u64.wrap (x3 - x2)).tmod (4096 : Int) * Go.IntKind.u64.wrap y3)).tdiv (4096 : Int))), x1, x2, x3, x4, x5, x6, x7, x8, x9, x10)))
  else none) (fun r => match r with | (r0, r1, r2, r3, r4, r5, r6, r7, r8, r9, r10) => k (.c (.int .u64 r0), [.cells 168 (.int .i64 r1 :: .own 1 :: .int .i64 2048 :: .int .i64 1792 :: .int .i64 1568 :: .int .i64 1372 :: .int .i64 1201 :: .int .i64 1051 :: .int .i64 920 :: .int .i64 805 :: .int .i64 705 :: .int .i64 617 :: .int .i64 540 :: .int .i64 473 :: .int .i64 414 :: .int .i64 363 :: .int .i64 318 :: .int .i64 279 :: .int .i64 245 :: .int .i64 215 :: .int .i64 189 :: .int .i64 166 :: .int .i64 146 :: .int .i64 128 :: .int .i64 112 :: .int .i64 98 :: .int .i64 86 :: .int .i64 76 :: .int .i64 67 :: .int .i64 59 :: .int .i64 52 :: .int .i64 46 :: .int .i64 41 :: .int .i64 36 :: .int .u64 r2 :: .int .u64 r3 :: .own 2 :: .int .i64 r4 :: .int .u64 r5 :: .int .i64 r6 :: .bool r7 :: .bool r8 :: []), .vec 3 (.int .i64) r9 false, .vec 5 (.int .u8) r10 false])) := by
  kernel_rfl
theorem F162_aa3_eq (fuel : Nat) (x0 : Int) (x1 : Int) (x2 : Int) (x3 : Int) (x4 : Int) (x5 : Int) (x6 : Int) (x7 : Bool) (x8 : Bool) (x9 : (List Int)) (x10 : (List Int)) (k : Ev.Cont) : evalFn tab (G162_aa3 fuel) (J162_aa3 fuel) kp162_aa3 fuel Tryz.f162 [.c (.ptr 0 0), .c (.int .i64 x0)] [.cells 168 (.int .i64 x1 :: .own 1 :: .int .i64 2048 :: .int .i64 1792 :: .int .i64 1568 :: .int .i64 1372 :: .int .i64 1201 :: .int .i64 1051 :: .int .i64 920 :: .int .i64 805 :: .int .i64 705 :: .int .i64 617 :: .int .i64 540 :: .int .i64 473 :: .int .i64 414 :: .int .i64 363 :: .int .i64 318 :: .int .i64 279 :: .int .i64 245 :: .int .i64 215 :: .int .i64 189 :: .int .i64 166 :: .int .i64 146 :: .int .i64 128 :: .int .i64 112 :: .int .i64 98 :: .int .i64 86 :: .int .i64 76 :: .int .i64 67 :: .int .i64 59 :: .int .i64 52 :: .int .i64 46 :: .int .i64 41 :: .int .i64 36 :: .int .u64 x2 :: .int .u64 x3 :: .own 2 :: .int .i64 x4 :: .int .u64 x5 :: .int .i64 x6 :: .bool x7 :: .bool x8 :: []), .vec 3 (.int .i64) x9 false, .vec 5 (.int .u8) x10 false] k = F_coder_interval_mid_aa3 fuel x0 x1 x2 x3 x4 x5 x6 x7 x8 x9 x10 (fun r => match r with | (r0, r1, r2, r3, r4, r5, r6, r7, r8, r9, r10) => k (.c (.int .u64 r0), [.cells 168 (.int .i64 r1 :: .own 1 :: .int .i64 2048 :: .int .i64 1792 :: .int .i64 1568 :: .int .i64 1372 :: .int .i64 1201 :: .int .i64 1051 :: .int .i64 920 :: .int .i64 805 :: .int .i64 705 :: .int .i64 617 :: .int .i64 540 :: .int .i64 473 :: .int .i64 414 :: .int .i64 363 :: .int .i64 318 :: .int .i64 279 :: .int .i64 245 :: .int .i64 215 :: .int .i64 189 :: .int .i64 166 :: .int .i64 146 :: .int .i64 128 :: .int .i64 112 :: .int .i64 98 :: .int .i64 86 :: .int .i64 76 :: .int .i64 67 :: .int .i64 59 :: .int .i64 52 :: .int .i64 46 :: .int .i64 41 :: .int .i64 36 :: .int .u64 r2 :: .int .u64 r3 :: .own 2 :: .int .i64 r4 :: .int .u64 r5 :: .int .i64 r6 :: .bool r7 :: .bool r8 :: []), .vec 3 (.int .i64) r9 false, .vec 5 (.int .u8) r10 false])) :=
  F162_aa3_eqg fuel (F_coder_table_chance_bb9 fuel) x0 x1 x2 x3 x4 x5 x6 x7 x8 x9 x10 k
theorem hG162_aa3 (fuel : Nat) : GOK Tryz.prog (G162_aa3 fuel) :=
  gok_cons ⟨ok189_bb9 fuel, enters_of Tryz.func189 (by kernel_rfl) rfl⟩ <|
  gok_nil
theorem fok162_aa3 (fuel : Nat) : FnOK Tryz.prog 162 (evalFn tab (G162_aa3 fuel) (J162_aa3 fuel) kp162_aa3 fuel Tryz.f162) :=
  fn_ok tab_ok (hG162_aa3 fuel) mixed Tryz.func162 (c := (Tryz.f162.body).getD .skip) rfl (fun q hq => by
    rw [(by kernel_rfl : obl (J162_aa3 fuel) ((Tryz.f162.body).getD .skip) = [])] at hq
    cases hq)
noncomputable def mt162_aa3 : List Ev.SV → List Ev.Ob → Bool := fun args objs => match args, objs with
  | [.c (.ptr q0 q1), .c (.int .i64 _)], [.cells q2 cs0, .vec q3 (.int .i64) _ false, .vec q4 (.int .u8) _ false] => (match splitRun 2 [(.i64, 2048), (.i64, 1792), (.i64, 1568), (.i64, 1372), (.i64, 1201), (.i64, 1051), (.i64, 920), (.i64, 805), (.i64, 705), (.i64, 617), (.i64, 540), (.i64, 473), (.i64, 414), (.i64, 363), (.i64, 318), (.i64, 279), (.i64, 245), (.i64, 215), (.i64, 189), (.i64, 166), (.i64, 146), (.i64, 128), (.i64, 112), (.i64, 98), (.i64, 86), (.i64, 76), (.i64, 67), (.i64, 59), (.i64, 52), (.i64, 46), (.i64, 41), (.i64, 36)] cs0 with | some ([.int .i64 _, .own q5], [.int .u64 _, .int .u64 _, .own q6, .int .i64 _, .int .u64 _, .int .i64 _, .bool _, .bool _]) => Nat.beq q0 0 && Nat.beq q1 0 && Nat.beq q2 168 && Nat.beq q3 3 && Nat.beq q4 5 && Nat.beq q5 1 && Nat.beq q6 2 | _ => false)
  | _, _ => false
noncomputable def spg162_aa3 (F : YF162_aa3) : Ev.Spec := fun args objs k => match args, objs with
  | [.c (.ptr q0 q1), .c (.int .i64 x0)], [.cells q2 cs0, .vec q3 (.int .i64) x9 false, .vec q4 (.int .u8) x10 false] => (match splitRun 2 [(.i64, 2048), (.i64, 1792), (.i64, 1568), (.i64, 1372), (.i64, 1201), (.i64, 1051), (.i64, 920), (.i64, 805), (.i64, 705), (.i64, 617), (.i64, 540), (.i64, 473), (.i64, 414), (.i64, 363), (.i64, 318), (.i64, 279), (.i64, 245), (.i64, 215), (.i64, 189), (.i64, 166), (.i64, 146), (.i64, 128), (.i64, 112), (.i64, 98), (.i64, 86), (.i64, 76), (.i64, 67), (.i64, 59), (.i64, 52), (.i64, 46), (.i64, 41), (.i64, 36)] cs0 with | some ([.int .i64 x1, .own q5], [.int .u64 x2, .int .u64 x3, .own q6, .int .i64 x4, .int .u64 x5, .int .i64 x6, .bool x7, .bool x8]) => bif Nat.beq q0 0 && Nat.beq q1 0 && Nat.beq q2 168 && Nat.beq q3 3 && Nat.beq q4 5 && Nat.beq q5 1 && Nat.beq q6 2 then F x0 x1 x2 x3 x4 x5 x6 x7 x8 x9 x10 (fun r => match r with | (r0, r1, r2, r3, r4, r5, r6, r7, r8, r9, r10) => k (.c (.int .u64 r0), [.cells 168 (.int .i64 r1 :: .own 1 :: .int .i64 2048 :: .int .i64 1792 :: .int .i64 1568 :: .int .i64 1372 :: .int .i64 1201 :: .int .i64 1051 :: .int .i64 920 :: .int .i64 805 :: .int .i64 705 :: .int .i64 617 :: .int .i64 540 :: .int .i64 473 :: .int .i64 414 :: .int .i64 363 :: .int .i64 318 :: .int .i64 279 :: .int .i64 245 :: .int .i64 215 :: .int .i64 189 :: .int .i64 166 :: .int .i64 146 :: .int .i64 128 :: .int .i64 112 :: .int .i64 98 :: .int .i64 86 :: .int .i64 76 :: .int .i64 67 :: .int .i64 59 :: .int .i64 52 :: .int .i64 46 :: .int .i64 41 :: .int .i64 36 :: .int .u64 r2 :: .int .u64 r3 :: .own 2 :: .int .i64 r4 :: .int .u64 r5 :: .int .i64 r6 :: .bool r7 :: .bool r8 :: []), .vec 3 (.int .i64) r9 false, .vec 5 (.int .u8) r10 false])) else none | _ => none)
  | _, _ => none
noncomputable def spec162_aa3 (fuel : Nat) : Ev.Spec := spg162_aa3 (F_coder_interval_mid_aa3 fuel)
theorem ok162_aa3 (fuel : Nat) : FnOK Tryz.prog 162 (spec162_aa3 fuel) := by
  intro args objs kk r h
  unfold spec162_aa3 spg162_aa3 at h
  split at h
  · skip
    split at h
    rotate_left 1
    · cases h
    rename_i hsp
    have esp := splitRun_eq hsp
    subst esp
    obtain ⟨hb, h⟩ := cond_some' h
    simp only [Bool.and_eq_true, Nat.beq_eq, decide_eq_true_eq] at hb
    obtain ⟨⟨⟨⟨⟨⟨rfl, rfl⟩, rfl⟩, rfl⟩, rfl⟩, rfl⟩, rfl⟩ := hb
    exact fok162_aa3 fuel _ _ kk r ((F162_aa3_eq fuel _ _ _ _ _ _ _ _ _ _ _ kk).trans h)
  · cases h
end Go.Proofs.YtmjeeaemmbkioaaGreat

set_option linter.unusedVariables false
set_option linter.unusedSimpArgs false
set_option maxRecDepth 100000
set_option maxHeartbeats 2000000
namespace Go.Proofs.YtmjeeaemmbkioaaGreat
open Go Ev
def kp163_40a (i : Nat) : Option (List Nat) := Ev.look i [(200001, [0])]
noncomputable def Gg163_40a (f : Nat) : Option Ev.Spec := Ev.look f []
noncomputable def G163_40a (fuel : Nat) : Nat → Option Ev.Spec := Gg163_40a
noncomputable def J163_40a (fuel : Nat) (i : Nat) : Option Ev.Blk := Ev.look i []
noncomputable def F_coder_interval_same_40a (fuel : Nat) (x0 : Int) (x1 : Int) (x2 : Int) (x3 : Int) (x4 : Int) (x5 : Int) (x6 : Bool) (x7 : Bool) (x8 : (List Int)) (x9 : (List Int)) (k0 : (Bool × Int × Int × Int × Int × Int × Int × Bool × Bool × (List Int) × (List Int)) → Option Ans) : Option Ans :=
  k0 (Ev.ishr Go.IntKind.u64 x1 (24 : Int) == Ev.ishr Go.IntKind.u64 x2 (24 : Int), x0, x1, x2, x3, x4, x5, x6, x7, x8, x9)
abbrev YF163_40a : Type := (Int) → (Int) → (Int) → (Int) → (Int) → (Int) → (Bool) → (Bool) → ((List Int)) → ((List Int)) → ((Bool × Int × Int × Int × Int × Int × Int × Bool × Bool × (List Int) × (List Int)) → Option Ans) → Option Ans
theorem F163_40a_eq (fuel : Nat) (x0 : Int) (x1 : Int) (x2 : Int) (x3 : Int) (x4 : Int) (x5 : Int) (x6 : Bool) (x7 : Bool) (x8 : (List Int)) (x9 : (List Int)) (k : Ev.Cont) : evalFn tab (G163_40a fuel) (J163_40a fuel) kp163_40a fuel Tryz.f163 [.c (.ptr 0 0)] [.cells 168 (.int .i64 x0 :: .own 1 :: .int .i64 2048 :: .int .i64 1792 :: .int .i64 1568 :: .int .i64 1372 :: .int .i64 1201 :: .int .i64 1051 :: .int .i64 920 :: .int .i64 805 :: .int .i64 705 :: .int .i64 617 :: .int .i64 540 :: .int .i64 473 :: .int .i64 414 :: .int .i64 363 :: .int .i64 318 :: .int .i64 279 :: .int .i64 245 :: .int .i64 215 :: .int .i64 189 :: .int .i64 166 :: .int .i64 146 :: .int .i64 128 :: .int .i64 112 :: .int .i64 98 :: .int .i64 86 :: .int .i64 76 :: .int .i64 67 :: .int .i64 59 :: .int .i64 52 :: .int .i64 46 :: .int .i64 41 :: .int .i64 36 :: .int .u64 x1 :: .int .u64 x2 :: .own 2 :: .int .i64 x3 :: .int .u64 x4 :: .int .i64 x5 :: .bool x6 :: .bool x7 :: []), .vec 3 (.int .i64) x8 false, .vec 5 (.int .u8) x9 false] k = F_coder_interval_same_40a fuel x0 x1 x2 x3 x4 x5 x6 x7 x8 x9 (fun r => match r with | (r0, r1, r2, r3, r4, r5, r6, r7, r8, r9, r10) => k (.c (.bool r0), [.cells 168 (.int .i64 r1 :: .own 1 :: .int .i64 2048 :: .int .i64 1792 :: .int .i64 1568 :: .int .i64 1372 :: .int .i64 1201 :: .int .i64 1051 :: .int .i64 920 :: .int .i64 805 :: .int .i64 705 :: .int .i64 617 :: .int .i64 540 :: .int .i64 473 :: .int .i64 414 :: .int .i64 363 :: .int .i64 318 :: .int .i64 279 :: .int .i64 245 :: .int .i64 215 :: .int .i64 189 :: .int .i64 166 :: .int .i64 146 :: .int .i64 128 :: .int .i64 112 :: .int .i64 98 :: .int .i64 86 :: .int .i64 76 :: .int .i64 67 :: .int .i64 59 :: .int .i64 52 :: .int .i64 46 :: .int .i64 41 :: .int .i64 36 :: .int .u64 r2 :: .int .u64 r3 :: .own 2 :: .int .i64 r4 :: .int .u64 r5 :: .int .i64 r6 :: .bool r7 :: .bool r8 :: []), .vec 3 (.int .i64) r9 false, .vec 5 (.int .u8) r10 false])) := by
  kernel_rfl
theorem hG163_40a (fuel : Nat) : GOK Tryz.prog (G163_40a fuel) :=
  gok_nil
theorem fok163_40a (fuel : Nat) : FnOK Tryz.prog 163 (evalFn tab (G163_40a fuel) (J163_40a fuel) kp163_40a fuel Tryz.f163) :=
  fn_ok tab_ok (hG163_40a fuel) mixed Tryz.func163 (c := (Tryz.f163.body).getD .skip) rfl (fun q hq => by
    rw [(by kernel_rfl : obl (J163_40a fuel) ((Tryz.f163.body).getD .skip) = [])] at hq
    cases hq)
noncomputable def mt163_40a : List Ev.SV → List Ev.Ob → Bool := fun args objs => match args, objs with
  | [.c (.ptr q0 q1)], [.cells q2 cs0, .vec q3 (.int .i64) _ false, .vec q4 (.int .u8) _ false] => (match splitRun 2 [(.i64, 2048), (.i64, 1792), (.i64, 1568), (.i64, 1372), (.i64, 1201), (.i64, 1051), (.i64, 920), (.i64, 805), (.i64, 705), (.i64, 617), (.i64, 540), (.i64, 473), (.i64, 414), (.i64, 363), (.i64, 318), (.i64, 279), (.i64, 245), (.i64, 215), (.i64, 189), (.i64, 166), (.i64, 146), (.i64, 128), (.i64, 112), (.i64, 98), (.i64, 86), (.i64, 76), (.i64, 67), (.i64, 59), (.i64, 52), (.i64, 46), (.i64, 41), (.i64, 36)] cs0 with | some ([.int .i64 _, .own q5], [.int .u64 _, .int .u64 _, .own q6, .int .i64 _, .int .u64 _, .int .i64 _, .bool _, .bool _]) => Nat.beq q0 0 && Nat.beq q1 0 && Nat.beq q2 168 && Nat.beq q3 3 && Nat.beq q4 5 && Nat.beq q5 1 && Nat.beq q6 2 | _ => false)
  | _, _ => false
noncomputable def spg163_40a (F : YF163_40a) : Ev.Spec := fun args objs k => match args, objs with
  | [.c (.ptr q0 q1)], [.cells q2 cs0, .vec q3 (.int .i64) x8 false, .vec q4 (.int .u8) x9 false] => (match splitRun 2 [(.i64, 2048), (.i64, 1792), (.i64, 1568), (.i64, 1372), (.i64, 1201), (.i64, 1051), (.i64, 920), (.i64, 805), (.i64, 705), (.i64, 617), (.i64, 540), (.i64, 473), (.i64, 414), (.i64, 363), (.i64, 318), (.i64, 279), (.i64, 245), (.i64, 215), (.i64, 189), (.i64, 166), (.i64, 146), (.i64, 128), (.i64, 112), (.i64, 98), (.i64, 86), (.i64, 76), (.i64, 67), (.i64, 59), (.i64, 52), (.i64, 46), (.i64, 41), (.i64, 36)] cs0 with | some ([.int .i64 x0, .own q5], [.int .u64 x1, .int .u64 x2, .own q6, .int .i64 x3, .int .u64 x4, .int .i64 x5, .bool x6, .bool x7]) => bif Nat.beq q0 0 && Nat.beq q1 0 && Nat.beq q2 168 && Nat.beq q3 3 && Nat.beq q4 5 && Nat.beq q5 1 && Nat.beq q6 2 then F x0 x1 x2 x3 x4 x5 x6 x7 x8 x9 (fun r => match r with | (r0, r1, r2, r3, r4, r5, r6, r7, r8, r9, r10) => k (.c (.bool r0), [.cells 168 (.int .i64 r1 :: .own 1 :: .int .i64 2048 :: .int .i64 1792 :: .int .i64 1568 :: .int .i64 1372 :: .int .i64 1201 :: .int .i64 1051 :: .int .i64 920 :: .int .i64 805 :: .int .i64 705 :: .int .i64 617 :: .int .i64 540 :: .int .i64 473 :: .int .i64 414 :: .int .i64 363 :: .int .i64 318 :: .int .i64 279 :: .int .i64 245 :: .int .i64 215 :: .int .i64 189 :: .int .i64 166 :: .int .i64 146 :: .int .i64 128 :: .int .i64 112 :: .int .i64 98 :: .int .i64 86 :: .int .i64 76 :: .int .i64 67 :: .int .i64 59 :: .int .i64 52 :: .int .i64 46 :: .int .i64 41 :: .int .i64 36 :: .int .u64 r2 :: .int .u64 r3 :: .own 2 :: .int .i64 r4 :: .int .u64 r5 :: .int .i64 r6 :: .bool r7 :: .bool r8 :: []), .vec 3 (.int .i64) r9 false, .vec 5 (.int .u8) r10 false])) else none | _ => none)
  | _, _ => none
noncomputable def spec163_40a (fuel : Nat) : Ev.Spec := spg163_40a (F_coder_interval_same_40a fuel)
theorem ok163_40a (fuel : Nat) : FnOK Tryz.prog 163 (spec163_40a fuel) := by
  intro args objs kk r h
  unfold spec163_40a spg163_40a at h
  split at h
  · skip
    split at h
    rotate_left 1
    · cases h
    rename_i hsp
    have esp := splitRun_eq hsp
    subst esp
    obtain ⟨hb, h⟩ := cond_some' h
    simp only [Bool.and_eq_true, Nat.beq_eq, decide_eq_true_eq] at hb
    obtain ⟨⟨⟨⟨⟨⟨rfl, rfl⟩, rfl⟩, rfl⟩, rfl⟩, rfl⟩, rfl⟩ := hb
    exact fok163_40a fuel _ _ kk r ((F163_40a_eq fuel _ _ _ _ _ _ _ _ _ _ kk).trans h)
  · cases h
end Go.Proofs.YtmjeeaemmbkioaaGreat

set_option linter.unusedVariables false
set_option linter.unusedSimpArgs false
set_option maxRecDepth 100000
set_option maxHeartbeats 2000000
namespace Go.Proofs.YtmjeeaemmbkioaaGreat
open Go Ev
def kp161_7ec (i : Nat) : Option (List Nat) := Ev.look i [(200003, [0])]
noncomputable def Gg161_7ec (f188 : YF188) (f : Nat) : Option Ev.Spec := Ev.look f [(188, spg188 f188)]
noncomputable def G161_7ec (fuel : Nat) : Nat → Option Ev.Spec := Gg161_7ec (F_coder_next fuel)
noncomputable def J161_7ec (fuel : Nat) (i : Nat) : Option Ev.Blk := Ev.look i []
noncomputable def F_coder_interval_take_7ec (fuel : Nat) (x0 : Int) (x1 : Int) (x2 : Int) (x3 : Int) (x4 : Int) (x5 : Int) (x6 : Int) (x7 : Int) (x8 : Int) (x9 : Bool) (x10 : Bool) (x11 : (List Int)) (x12 : (List Int)) (k0 : (Int × Int × Int × Int × Int × Int × Bool × Bool × (List Int) × (List Int)) → Option Ans) : Option Ans :=
  bif x1 == (1 : Int) then
   bif Decidable.decide ((0 : Int) ≤ x0 ∧ x0 < (↑x11.length : Int)) then
   (F_coder_next fuel (x3) (x11.getD x0.toNat (0 : Int)) (x1)
      (fun y4 =>
        bif Decidable.decide ((0 : Int) ≤ x0 ∧ x0 < (↑x11.length : Int)) then
        k0 (x3, x4, x2, x6, x7, x8, x9, x10, x11.set x0.toNat y4, x12)
        else none))
   else none
  else
   bif Decidable.decide ((0 : Int) ≤ x0 ∧ x0 < (↑x11.length : Int)) then
   (F_coder_next fuel (x3) (x11.getD x0.toNat (0 : Int)) (x1)
      (fun y4 =>
        bif Decidable.decide ((0 : Int) ≤ x0 ∧ x0 < (↑x11.length : Int)) then
        k0 (x3, Go.IntKind.u64.wrap (x2 + (1 : Int)), x5, x6, x7, x8, x9, x10, x11.set x0.toNat y4, x12)
        else none))
   else none
abbrev YF161_7ec : Type := (Int) → (Int) → (Int) → (Int) → (Int) → (Int) → (Int) → (Int) → (Int) → (Bool) → (Bool) → ((List Int)) → ((List Int)) → ((Int × Int × Int × Int × Int × Int × Bool × Bool × (List Int) × (List Int)) → Option Ans) → Option Ans
theorem F161_7ec_eqg (fuel : Nat) (f188 : YF188) (x0 : Int) (x1 : Int) (x2 : Int) (x3 : Int) (x4 : Int) (x5 : Int) (x6 : Int) (x7 : Int) (x8 : Int) (x9 : Bool) (x10 : Bool) (x11 : (List Int)) (x12 : (List Int)) (k : Ev.Cont) : evalFn tab (Gg161_7ec f188) (J161_7ec fuel) kp161_7ec fuel Tryz.f161 [.c (.ptr 0 0), .c (.int .i64 x0), .c (.int .i64 x1), .c (.int .u64 x2)] [.cells 168 (.int .i64 x3 :: .own 1 :: .int .i64 2048 :: .int .i64 1792 :: .int .i64 1568 :: .int .i64 1372 :: .int .i64 1201 :: .int .i64 1051 :: .int .i64 920 :: .int .i64 805 :: .int .i64 705 :: .int .i64 617 :: .int .i64 540 :: .int .i64 473 :: .int .i64 414 :: .int .i64 363 :: .int .i64 318 :: .int .i64 279 :: .int .i64 245 :: .int .i64 215 :: .int .i64 189 :: .int .i64 166 :: .int .i64 146 :: .int .i64 128 :: .int .i64 112 :: .int .i64 98 :: .int .i64 86 :: .int .i64 76 :: .int .i64 67 :: .int .i64 59 :: .int .i64 52 :: .int .i64 46 :: .int .i64 41 :: .int .i64 36 :: .int .u64 x4 :: .int .u64 x5 :: .own 2 :: .int .i64 x6 :: .int .u64 x7 :: .int .i64 x8 :: .bool x9 :: .bool x10 :: []), .vec 3 (.int .i64) x11 false, .vec 5 (.int .u8) x12 false] k = (fun  (k0 : (Int × Int × Int × Int × Int × Int × Bool × Bool × (List Int) × (List Int)) → Option Ans) =>
  bif x1 == (1 : Int) then
   bif Decidable.decide ((0 : Int) ≤ x0 ∧ x0 < (↑x11.length : Int)) then
   (f188 (x3) (x11.getD x0.toNat (0 : Int)) (x1)
      (fun y4 =>
        bif Decidable.decide ((0 : Int) ≤ x0 ∧ x0 < (↑x11.length : Int)) then
        k0 (x3, x4, x2, x6, x7, x8, x9, x10, x11.set x0.toNat y4, x12)
        else none))
   else none
  else
   bif Decidable.decide ((0 : Int) ≤ x0 ∧ x0 < (↑x11.length : Int)) then
   (f188 (x3) (x11.getD x0.toNat (0 : Int)) (x1)
      (fun y4 =>
        bif Decidable.decide ((0 : Int) ≤ x0 ∧ x0 < (↑x11.length : Int)) then
        k0 (x3, Go.IntKind.u64.wrap (x2 + (1 : Int)), x5, x6, x7, x8, x9, x10, x11.set x0.toNat y4, x12)
        else none))
   else none) (fun r => match r with | (r0, r1, r2, r3, r4, r5, r6, r7, r8, r9) => k (.tup [], [.cells 168 (.int .i64 r0 :: .own 1 :: .int .i64 2048 :: .int .i64 1792 :: .int .i64 1568 :: .int .i64 1372 :: .int .i64 1201 :: .int .i64 1051 :: .int .i64 920 :: .int .i64 805 :: .int .i64 705 :: .int .i64 617 :: .int .i64 540 :: .int .i64 473 :: .int .i64 414 :: .int .i64 363 :: .int .i64 318 :: .int .i64 279 :: .int .i64 245 :: .int .i64 215 :: .int .i64 189 :: .int .i64 166 :: .int .i64 146 :: .int .i64 128 :: .int .i64 112 :: .int .i64 98 :: .int .i64 86 :: .int .i64 76 :: .int .i64 67 :: .int .i64 59 :: .int .i64 52 :: .int .i64 46 :: .int .i64 41 :: .int .i64 36 :: .int .u64 r1 :: .int .u64 r2 :: .own 2 :: .int .i64 r3 :: .int .u64 r4 :: .int .i64 r5 :: .bool r6 :: .bool r7 :: []), .vec 3 (.int .i64) r8 false, .vec 5 (.int .u8) r9 false])) := by
  kernel_rfl
theorem F161_7ec_eq (fuel : Nat) (x0 : Int) (x1 : Int) (x2 : Int) (x3 : Int) (x4 : Int) (x5 : Int) (x6 : Int) (x7 : Int) (x8 : Int) (x9 : Bool) (x10 : Bool) (x11 : (List Int)) (x12 : (List Int)) (k : Ev.Cont) : evalFn tab (G161_7ec fuel) (J161_7ec fuel) kp161_7ec fuel Tryz.f161 [.c (.ptr 0 0), .c (.int .i64 x0), .c (.int .i64 x1), .c (.int .u64 x2)] [.cells 168 (.int .i64 x3 :: .own 1 :: .int .i64 2048 :: .int .i64 1792 :: .int .i64 1568 :: .int .i64 1372 :: .int .i64 1201 :: .int .i64 1051 :: .int .i64 920 :: .int .i64 805 :: .int .i64 705 :: .int .i64 617 :: .int .i64 540 :: .int .i64 473 :: .int .i64 414 :: .int .i64 363 :: .int .i64 318 :: .int .i64 279 :: .int .i64 245 :: .int .i64 215 :: .int .i64 189 :: .int .i64 166 :: .int .i64 146 :: .int .i64 128 :: .int .i64 112 :: .int .i64 98 :: .int .i64 86 :: .int .i64 76 :: .int .i64 67 :: .int .i64 59 :: .int .i64 52 :: .int .i64 46 :: .int .i64 41 :: .int .i64 36 :: .int .u64 x4 :: .int .u64 x5 :: .own 2 :: .int .i64 x6 :: .int .u64 x7 :: .int .i64 x8 :: .bool x9 :: .bool x10 :: []), .vec 3 (.int .i64) x11 false, .vec 5 (.int .u8) x12 false] k = F_coder_interval_take_7ec fuel x0 x1 x2 x3 x4 x5 x6 x7 x8 x9 x10 x11 x12 (fun r => match r with | (r0, r1, r2, r3, r4, r5, r6, r7, r8, r9) => k (.tup [], [.cells 168 (.int .i64 r0 :: .own 1 :: .int .i64 2048 :: .int .i64 1792 :: .int .i64 1568 :: .int .i64 1372 :: .int .i64 1201 :: .int .i64 1051 :: .int .i64 920 :: .int .i64 805 :: .int .i64 705 :: .int .i64 617 :: .int .i64 540 :: .int .i64 473 :: .int .i64 414 :: .int .i64 363 :: .int .i64 318 :: .int .i64 279 :: .int .i64 245 :: .int .i64 215 :: .int .i64 189 :: .int .i64 166 :: .int .i64 146 :: .int .i64 128 :: .int .i64 112 :: .int .i64 98 :: .int .i64 86 :: .int .i64 76 :: .int .i64 67 :: .int .i64 59 :: .int .i64 52 :: .int .i64 46 :: .int .i64 41 :: .int .i64 36 :: .int .u64 r1 :: .int .u64 r2 :: .own 2 :: .int .i64 r3 :: .int .u64 r4 :: .int .i64 r5 :: .bool r6 :: .bool r7 :: []), .vec 3 (.int .i64) r8 false, .vec 5 (.int .u8) r9 false])) :=
  F161_7ec_eqg fuel (F_coder_next fuel) x0 x1 x2 x3 x4 x5 x6 x7 x8 x9 x10 x11 x12 k
theorem hG161_7ec (fuel : Nat) : GOK Tryz.prog (G161_7ec fuel) :=
  gok_cons ⟨ok188 fuel, enters_of Tryz.func188 (by kernel_rfl) rfl⟩ <|
  gok_nil
theorem fok161_7ec (fuel : Nat) : FnOK Tryz.prog 161 (evalFn tab (G161_7ec fuel) (J161_7ec fuel) kp161_7ec fuel Tryz.f161) :=
  fn_ok tab_ok (hG161_7ec fuel) mixed Tryz.func161 (c := (Tryz.f161.body).getD .skip) rfl (fun q hq => by
    rw [(by kernel_rfl : obl (J161_7ec fuel) ((Tryz.f161.body).getD .skip) = [])] at hq
    cases hq)
noncomputable def mt161_7ec : List Ev.SV → List Ev.Ob → Bool := fun args objs => match args, objs with
  | [.c (.ptr q0 q1), .c (.int .i64 _), .c (.int .i64 _), .c (.int .u64 _)], [.cells q2 cs0, .vec q3 (.int .i64) _ false, .vec q4 (.int .u8) _ false] => (match splitRun 2 [(.i64, 2048), (.i64, 1792), (.i64, 1568), (.i64, 1372), (.i64, 1201), (.i64, 1051), (.i64, 920), (.i64, 805), (.i64, 705), (.i64, 617), (.i64, 540), (.i64, 473), (.i64, 414), (.i64, 363), (.i64, 318), (.i64, 279), (.i64, 245), (.i64, 215), (.i64, 189), (.i64, 166), (.i64, 146), (.i64, 128), (.i64, 112), (.i64, 98), (.i64, 86), (.i64, 76), (.i64, 67), (.i64, 59), (.i64, 52), (.i64, 46), (.i64, 41), (.i64, 36)] cs0 with | some ([.int .i64 _, .own q5], [.int .u64 _, .int .u64 _, .own q6, .int .i64 _, .int .u64 _, .int .i64 _, .bool _, .bool _]) => Nat.beq q0 0 && Nat.beq q1 0 && Nat.beq q2 168 && Nat.beq q3 3 && Nat.beq q4 5 && Nat.beq q5 1 && Nat.beq q6 2 | _ => false)
  | _, _ => false
noncomputable def spg161_7ec (F : YF161_7ec) : Ev.Spec := fun args objs k => match args, objs with
  | [.c (.ptr q0 q1), .c (.int .i64 x0), .c (.int .i64 x1), .c (.int .u64 x2)], [.cells q2 cs0, .vec q3 (.int .i64) x11 false, .vec q4 (.int .u8) x12 false] => (match splitRun 2 [(.i64, 2048), (.i64, 1792), (.i64, 1568), (.i64, 1372), (.i64, 1201), (.i64, 1051), (.i64, 920), (.i64, 805), (.i64, 705), (.i64, 617), (.i64, 540), (.i64, 473), (.i64, 414), (.i64, 363), (.i64, 318), (.i64, 279), (.i64, 245), (.i64, 215), (.i64, 189), (.i64, 166), (.i64, 146), (.i64, 128), (.i64, 112), (.i64, 98), (.i64, 86), (.i64, 76), (.i64, 67), (.i64, 59), (.i64, 52), (.i64, 46), (.i64, 41), (.i64, 36)] cs0 with | some ([.int .i64 x3, .own q5], [.int .u64 x4, .int .u64 x5, .own q6, .int .i64 x6, .int .u64 x7, .int .i64 x8, .bool x9, .bool x10]) => bif Nat.beq q0 0 && Nat.beq q1 0 && Nat.beq q2 168 && Nat.beq q3 3 && Nat.beq q4 5 && Nat.beq q5 1 && Nat.beq q6 2 then F x0 x1 x2 x3 x4 x5 x6 x7 x8 x9 x10 x11 x12 (fun r => match r with | (r0, r1, r2, r3, r4, r5, r6, r7, r8, r9) => k (.tup [], [.cells 168 (.int .i64 r0 :: .own 1 :: .int .i64 2048 :: .int .i64 1792 :: .int .i64 1568 :: .int .i64 1372 :: .int .i64 1201 :: .int .i64 1051 :: .int .i64 920 :: .int .i64 805 :: .int .i64 705 :: .int .i64 617 :: .int .i64 540 :: .int .i64 473 :: .int .i64 414 :: .int .i64 363 :: .int .i64 318 :: .int .i64 279 :: .int .i64 245 :: .int .i64 215 :: .int .i64 189 :: .int .i64 166 :: .int .i64 146 :: .int .i64 128 :: .int .i64 112 :: .int .i64 98 :: .int .i64 86 :: .int .i64 76 :: .int .i64 67 :: .int .i64 59 :: .int .i64 52 :: .int .i64 46 :: .int .i64 41 :: .int .i64 36 :: .int .u64 r1 :: .int .u64 r2 :: .own 2 :: .int .i64 r3 :: .int .u64 r4 :: .int .i64 r5 :: .bool r6 :: .bool r7 :: []), .vec 3 (.int .i64) r8 false, .vec 5 (.int .u8) r9 false])) else none | _ => none)
  | _, _ => none
noncomputable def spec161_7ec (fuel : Nat) : Ev.Spec := spg161_7ec (F_coder_interval_take_7ec fuel)
theorem ok161_7ec (fuel : Nat) : FnOK Tryz.prog 161 (spec161_7ec fuel) := by
  intro args objs kk r h
  unfold spec161_7ec spg161_7ec at h
  split at h
  · skip
    split at h
    rotate_left 1
    · cases h
    rename_i hsp
    have esp := splitRun_eq hsp
    subst esp
    obtain ⟨hb, h⟩ := cond_some' h
    simp only [Bool.and_eq_true, Nat.beq_eq, decide_eq_true_eq] at hb
    obtain ⟨⟨⟨⟨⟨⟨rfl, rfl⟩, rfl⟩, rfl⟩, rfl⟩, rfl⟩, rfl⟩ := hb
    exact fok161_7ec fuel _ _ kk r ((F161_7ec_eq fuel _ _ _ _ _ _ _ _ _ _ _ _ _ kk).trans h)
  · cases h
end Go.Proofs.YtmjeeaemmbkioaaGreat

