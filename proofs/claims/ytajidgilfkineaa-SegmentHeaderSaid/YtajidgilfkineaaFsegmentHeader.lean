/- incunable/segment.Header: its typed text, and that the machine does it. -/
import Derived.Test.YtajidgilfkineaaEvU
import Derived.Test.YtajidgilfkineaaFbitsPack
import Derived.Test.YtajidgilfkineaaFsegmentHeader135f
import Derived.Test.YtajidgilfkineaaFsegmentValid
import Derived.Test.YtajidgilfkineaaFsegmentflag
set_option linter.unusedVariables false
set_option linter.unusedSimpArgs false
set_option maxRecDepth 100000
namespace Go.Proofs.Ytajidgilfkineaa
open Go Ev
def kp41 (i : Nat) : Option (List Nat) := Ev.look i [(11, [1, 4, 5, 44, 45, 46]), (17, [1, 4, 5, 8, 58, 59, 60]), (100000, [1, 4, 5]), (100002, [1, 4, 5, 8]), (400000, [2, 3]), (400002, [2, 3])]
def Gg41 (f43 : YF43) (f75_35f : YF75_35f) (f77 : YF77) (f78 : YF78) (f : Nat) : Option Ev.Spec := Ev.look f [(43, spg43 f43), (75, spg75_35f f75_35f), (77, spg77 f77), (78, spg78 f78)]
def G41 (fuel : Nat) : Nat → Option Ev.Spec := Gg41 (F_segment_Valid fuel) (F_segment_Header_1_35f fuel) (F_segment_flag fuel) (F_bits_Pack fuel)
def S_segment_Header_2 (fuel : Nat) (v : (List Bool) × Int × Int × Int × Int × Int × (List Int) × (List Bool) × (List Int) × (List Int) × (List Int)) (c : ((List Bool) × Int × Int × Int × Int × Int × (List Int) × (List Bool) × (List Int) × (List Int) × (List Int)) → Option Ans) (B : (Int × Int × Int × (List Int) × (List Bool) × (List Int) × (List Int) × (List Int) → Option Ans)) : Option Ans := match v, B with
  | (x0, x1, x2, x3, x4, x5, x6, x7, x8, x9, x10), b =>
   bif Decidable.decide (x2 < x1) then
      bif Decidable.decide ((0 : Int) ≤ x2 ∧ x2 < (↑x0.length : Int)) then
      (F_segment_flag fuel (x0.getD x2.toNat Bool.false)
         (fun y4 =>
           bif Decidable.decide ((x9.length + [y4].length) * (1 : Nat) ≤ (140737488355328 : Nat) ∧ x9.length + [y4].length ≤ (140737488355328 : Nat)) then
           c (x0, x1, Go.IntKind.i64.wrap (x2 + (1 : Int)), x3, x4, x5, x6, x7, x8, x9 ++ [y4], x10)
           else none))
      else none
     else
      b (x3, x4, x5, x6, x7, x8, x9, x10)
def L_segment_Header_2 (fuel : Nat) (v : (List Bool) × Int × Int × Int × Int × Int × (List Int) × (List Bool) × (List Int) × (List Int) × (List Int)) (b : (Int × Int × Int × (List Int) × (List Bool) × (List Int) × (List Int) × (List Int) → Option Ans)) : Option Ans := iter (S_segment_Header_2 fuel) fuel v b
def J41_2 (fuel : Nat) (i : Nat) : Option Ev.Blk := Ev.look i []
def T41_2 (v : (List Bool) × Int × Int × Int × Int × Int × (List Int) × (List Bool) × (List Int) × (List Int) × (List Int)) : Ev.St := match v with | (x0, x1, x2, x3, x4, x5, x6, x7, x8, x9, x10) => ⟨[(1, .c (.ptr 0 0)), (4, .c (.ptr 1 0)), (5, .c (.clo 75 [1])), (8, .c (.own 2)), (58, .c (.sl .bool x0)), (59, .c (.int .i64 x1)), (60, .c (.int .i64 x2))], [(0, .cells 63 [.int .i64 x3, .int .i64 x4, .int .i64 x5, .sl (.int .i64) x6, .sl .bool x7, .sl (.int .u8) x8]), (1, .cells 28 [.own 3]), (2, .vec 5 (.int .u8) x9 true), (3, .vec 5 (.int .u8) x10 true)], 4, 0⟩
def E41_2 (K : Ev.Ex → Ev.St → Option Ans) : (Int × Int × Int × (List Int) × (List Bool) × (List Int) × (List Int) × (List Int) → Option Ans) := (fun v => match v with | (x0, x1, x2, x3, x4, x5, x6, x7) => K .normal ⟨[(1, .c (.ptr 0 0)), (4, .c (.ptr 1 0)), (5, .c (.clo 75 [1])), (8, .c (.own 2))], [(0, .cells 63 [.int .i64 x0, .int .i64 x1, .int .i64 x2, .sl (.int .i64) x3, .sl .bool x4, .sl (.int .u8) x5]), (1, .cells 28 [.own 3]), (2, .vec 5 (.int .u8) x6 true), (3, .vec 5 (.int .u8) x7 true)], 4, 0⟩)
theorem S41_2_okg (fuel : Nat) (f43 : YF43) (f75_35f : YF75_35f) (f77 : YF77) (f78 : YF78) (R : Ev.St → Option Ans) (K : Ev.Ex → Ev.St → Option Ans) (x0 : (List Bool)) (x1 : Int) (x2 : Int) (x3 : Int) (x4 : Int) (x5 : Int) (x6 : (List Int)) (x7 : (List Bool)) (x8 : (List Int)) (x9 : (List Int)) (x10 : (List Int)) : evalCode tab (Gg41 f43 f75_35f f77 f78) (J41_2 fuel) kp41 fuel (bodyOf 2 Try.f41) (T41_2 (x0, x1, x2, x3, x4, x5, x6, x7, x8, x9, x10)) (lc kp41 17 2 R K) = (fun (c : ((List Bool) × Int × Int × Int × Int × Int × (List Int) × (List Bool) × (List Int) × (List Int) × (List Int)) → Option Ans) (B : (Int × Int × Int × (List Int) × (List Bool) × (List Int) × (List Int) × (List Int) → Option Ans)) => match B with
  | b =>
   bif Decidable.decide (x2 < x1) then
      bif Decidable.decide ((0 : Int) ≤ x2 ∧ x2 < (↑x0.length : Int)) then
      (f77 (x0.getD x2.toNat Bool.false)
         (fun y4 =>
           bif Decidable.decide ((x9.length + [y4].length) * (1 : Nat) ≤ (140737488355328 : Nat) ∧ x9.length + [y4].length ≤ (140737488355328 : Nat)) then
           c (x0, x1, Go.IntKind.i64.wrap (x2 + (1 : Int)), x3, x4, x5, x6, x7, x8, x9 ++ [y4], x10)
           else none))
      else none
     else
      b (x3, x4, x5, x6, x7, x8, x9, x10)) (fun v => R (T41_2 v)) (E41_2 K) := by
  kernel_rfl
theorem S41_2_ok (fuel : Nat) (R : Ev.St → Option Ans) (K : Ev.Ex → Ev.St → Option Ans) (x0 : (List Bool)) (x1 : Int) (x2 : Int) (x3 : Int) (x4 : Int) (x5 : Int) (x6 : (List Int)) (x7 : (List Bool)) (x8 : (List Int)) (x9 : (List Int)) (x10 : (List Int)) : evalCode tab (G41 fuel) (J41_2 fuel) kp41 fuel (bodyOf 2 Try.f41) (T41_2 (x0, x1, x2, x3, x4, x5, x6, x7, x8, x9, x10)) (lc kp41 17 2 R K) = S_segment_Header_2 fuel (x0, x1, x2, x3, x4, x5, x6, x7, x8, x9, x10) (fun v => R (T41_2 v)) (E41_2 K) :=
  S41_2_okg fuel (F_segment_Valid fuel) (F_segment_Header_1_35f fuel) (F_segment_flag fuel) (F_bits_Pack fuel) R K x0 x1 x2 x3 x4 x5 x6 x7 x8 x9 x10
def B41_2 (fuel : Nat) : Ev.Blk := fun st K => match canonO (kp41 17) st with
  | some s => (match s with
    | ⟨[(q0, .c (.ptr q1 q2)), (q3, .c (.ptr q4 q5)), (q6, .c (.clo q7 [q8])), (q9, .c (.own q10)), (q11, .c (.sl .bool x0)), (q12, .c (.int .i64 x1)), (q13, .c (.int .i64 x2))], [(q14, .cells q15 [.int .i64 x3, .int .i64 x4, .int .i64 x5, .sl (.int .i64) x6, .sl .bool x7, .sl (.int .u8) x8]), (q16, .cells q17 [.own q18]), (q19, .vec q20 (.int .u8) x9 true), (q21, .vec q22 (.int .u8) x10 true)], q23, q24⟩ => bif Nat.beq q0 1 && Nat.beq q1 0 && Nat.beq q2 0 && Nat.beq q3 4 && Nat.beq q4 1 && Nat.beq q5 0 && Nat.beq q6 5 && Nat.beq q7 75 && Nat.beq q8 1 && Nat.beq q9 8 && Nat.beq q10 2 && Nat.beq q11 58 && Nat.beq q12 59 && Nat.beq q13 60 && Nat.beq q14 0 && Nat.beq q15 63 && Nat.beq q16 1 && Nat.beq q17 28 && Nat.beq q18 3 && Nat.beq q19 2 && Nat.beq q20 5 && Nat.beq q21 3 && Nat.beq q22 5 && Nat.beq q23 4 && Nat.beq q24 0 then iter (S_segment_Header_2 fuel) fuel (x0, x1, x2, x3, x4, x5, x6, x7, x8, x9, x10) (E41_2 K) else none
    | _ => none)
  | none => none
theorem B41_2_ok (fuel : Nat) (st : Ev.St) (K : Ev.Ex → Ev.St → Option Ans) (r : Ans) (h : B41_2 fuel st K = some r) : evalCode tab (G41 fuel) (J41_2 fuel) kp41 fuel (.block 2 (.loop (bodyOf 2 Try.f41))) st K = some r := by
  unfold B41_2 at h
  split at h
  · rename_i s hs
    split at h
    · obtain ⟨hb, h⟩ := cond_some' h
      simp only [Bool.and_eq_true, Nat.beq_eq, decide_eq_true_eq] at hb
      obtain ⟨⟨⟨⟨⟨⟨⟨⟨⟨⟨⟨⟨⟨⟨⟨⟨⟨⟨⟨⟨⟨⟨⟨⟨rfl, rfl⟩, rfl⟩, rfl⟩, rfl⟩, rfl⟩, rfl⟩, rfl⟩, rfl⟩, rfl⟩, rfl⟩, rfl⟩, rfl⟩, rfl⟩, rfl⟩, rfl⟩, rfl⟩, rfl⟩, rfl⟩, rfl⟩, rfl⟩, rfl⟩, rfl⟩, rfl⟩, rfl⟩ := hb
      exact blk_loop (S := T41_2) (ks := E41_2) (step := S_segment_Header_2 fuel) (v := (_, _, _, _, _, _, _, _, _, _, _)) (by kernel_rfl) (by kernel_rfl) (fun R K v => by obtain ⟨x0, x1, x2, x3, x4, x5, x6, x7, x8, x9, x10⟩ := v; exact S41_2_ok fuel R K x0 x1 x2 x3 x4 x5 x6 x7 x8 x9 x10) hs h
    · cases h
  · cases h
def S_segment_Header_0 (fuel : Nat) (v : (List Int) × Int × Int × Int × Int × Int × (List Int) × (List Bool) × (List Int) × (List Int)) (c : ((List Int) × Int × Int × Int × Int × Int × (List Int) × (List Bool) × (List Int) × (List Int)) → Option Ans) (B : (Int × Int × Int × (List Int) × (List Bool) × (List Int) × (List Int) → Option Ans)) : Option Ans := match v, B with
  | (x0, x1, x2, x3, x4, x5, x6, x7, x8, x9), b =>
   bif Decidable.decide (x2 < x1) then
      bif Decidable.decide ((0 : Int) ≤ x2 ∧ x2 < (↑x0.length : Int)) then
      (F_segment_Header_1_35f fuel (Go.IntKind.i64.wrap (x3 - x0.getD x2.toNat (0 : Int))) (x9)
         (fun y4 =>
           c (x0, x1, Go.IntKind.i64.wrap (x2 + (1 : Int)), x3, x4, x5, x6, x7, x8, y4)))
      else none
     else
      b (x3, x4, x5, x6, x7, x8, x9)
def L_segment_Header_0 (fuel : Nat) (v : (List Int) × Int × Int × Int × Int × Int × (List Int) × (List Bool) × (List Int) × (List Int)) (b : (Int × Int × Int × (List Int) × (List Bool) × (List Int) × (List Int) → Option Ans)) : Option Ans := iter (S_segment_Header_0 fuel) fuel v b
def J41_0 (fuel : Nat) (i : Nat) : Option Ev.Blk := Ev.look i [(100002, B41_2 fuel)]
def T41_0 (v : (List Int) × Int × Int × Int × Int × Int × (List Int) × (List Bool) × (List Int) × (List Int)) : Ev.St := match v with | (x0, x1, x2, x3, x4, x5, x6, x7, x8, x9) => ⟨[(1, .c (.ptr 0 0)), (4, .c (.ptr 1 0)), (5, .c (.clo 75 [1])), (44, .c (.sl (.int .i64) x0)), (45, .c (.int .i64 x1)), (46, .c (.int .i64 x2))], [(0, .cells 63 [.int .i64 x3, .int .i64 x4, .int .i64 x5, .sl (.int .i64) x6, .sl .bool x7, .sl (.int .u8) x8]), (1, .cells 28 [.own 2]), (2, .vec 5 (.int .u8) x9 true)], 3, 0⟩
def E41_0 (K : Ev.Ex → Ev.St → Option Ans) : (Int × Int × Int × (List Int) × (List Bool) × (List Int) × (List Int) → Option Ans) := (fun v => match v with | (x0, x1, x2, x3, x4, x5, x6) => K .normal ⟨[(1, .c (.ptr 0 0)), (4, .c (.ptr 1 0)), (5, .c (.clo 75 [1]))], [(0, .cells 63 [.int .i64 x0, .int .i64 x1, .int .i64 x2, .sl (.int .i64) x3, .sl .bool x4, .sl (.int .u8) x5]), (1, .cells 28 [.own 2]), (2, .vec 5 (.int .u8) x6 true)], 3, 0⟩)
theorem S41_0_okg (fuel : Nat) (f43 : YF43) (f75_35f : YF75_35f) (f77 : YF77) (f78 : YF78) (R : Ev.St → Option Ans) (K : Ev.Ex → Ev.St → Option Ans) (x0 : (List Int)) (x1 : Int) (x2 : Int) (x3 : Int) (x4 : Int) (x5 : Int) (x6 : (List Int)) (x7 : (List Bool)) (x8 : (List Int)) (x9 : (List Int)) : evalCode tab (Gg41 f43 f75_35f f77 f78) (J41_0 fuel) kp41 fuel (bodyOf 0 Try.f41) (T41_0 (x0, x1, x2, x3, x4, x5, x6, x7, x8, x9)) (lc kp41 11 0 R K) = (fun (c : ((List Int) × Int × Int × Int × Int × Int × (List Int) × (List Bool) × (List Int) × (List Int)) → Option Ans) (B : (Int × Int × Int × (List Int) × (List Bool) × (List Int) × (List Int) → Option Ans)) => match B with
  | b =>
   bif Decidable.decide (x2 < x1) then
      bif Decidable.decide ((0 : Int) ≤ x2 ∧ x2 < (↑x0.length : Int)) then
      (f75_35f (Go.IntKind.i64.wrap (x3 - x0.getD x2.toNat (0 : Int))) (x9)
         (fun y4 =>
           c (x0, x1, Go.IntKind.i64.wrap (x2 + (1 : Int)), x3, x4, x5, x6, x7, x8, y4)))
      else none
     else
      b (x3, x4, x5, x6, x7, x8, x9)) (fun v => R (T41_0 v)) (E41_0 K) := by
  kernel_rfl
theorem S41_0_ok (fuel : Nat) (R : Ev.St → Option Ans) (K : Ev.Ex → Ev.St → Option Ans) (x0 : (List Int)) (x1 : Int) (x2 : Int) (x3 : Int) (x4 : Int) (x5 : Int) (x6 : (List Int)) (x7 : (List Bool)) (x8 : (List Int)) (x9 : (List Int)) : evalCode tab (G41 fuel) (J41_0 fuel) kp41 fuel (bodyOf 0 Try.f41) (T41_0 (x0, x1, x2, x3, x4, x5, x6, x7, x8, x9)) (lc kp41 11 0 R K) = S_segment_Header_0 fuel (x0, x1, x2, x3, x4, x5, x6, x7, x8, x9) (fun v => R (T41_0 v)) (E41_0 K) :=
  S41_0_okg fuel (F_segment_Valid fuel) (F_segment_Header_1_35f fuel) (F_segment_flag fuel) (F_bits_Pack fuel) R K x0 x1 x2 x3 x4 x5 x6 x7 x8 x9
def B41_0 (fuel : Nat) : Ev.Blk := fun st K => match canonO (kp41 11) st with
  | some s => (match s with
    | ⟨[(q0, .c (.ptr q1 q2)), (q3, .c (.ptr q4 q5)), (q6, .c (.clo q7 [q8])), (q9, .c (.sl (.int .i64) x0)), (q10, .c (.int .i64 x1)), (q11, .c (.int .i64 x2))], [(q12, .cells q13 [.int .i64 x3, .int .i64 x4, .int .i64 x5, .sl (.int .i64) x6, .sl .bool x7, .sl (.int .u8) x8]), (q14, .cells q15 [.own q16]), (q17, .vec q18 (.int .u8) x9 true)], q19, q20⟩ => bif Nat.beq q0 1 && Nat.beq q1 0 && Nat.beq q2 0 && Nat.beq q3 4 && Nat.beq q4 1 && Nat.beq q5 0 && Nat.beq q6 5 && Nat.beq q7 75 && Nat.beq q8 1 && Nat.beq q9 44 && Nat.beq q10 45 && Nat.beq q11 46 && Nat.beq q12 0 && Nat.beq q13 63 && Nat.beq q14 1 && Nat.beq q15 28 && Nat.beq q16 2 && Nat.beq q17 2 && Nat.beq q18 5 && Nat.beq q19 3 && Nat.beq q20 0 then iter (S_segment_Header_0 fuel) fuel (x0, x1, x2, x3, x4, x5, x6, x7, x8, x9) (E41_0 K) else none
    | _ => none)
  | none => none
theorem B41_0_ok (fuel : Nat) (st : Ev.St) (K : Ev.Ex → Ev.St → Option Ans) (r : Ans) (h : B41_0 fuel st K = some r) : evalCode tab (G41 fuel) (J41_0 fuel) kp41 fuel (.block 0 (.loop (bodyOf 0 Try.f41))) st K = some r := by
  unfold B41_0 at h
  split at h
  · rename_i s hs
    split at h
    · obtain ⟨hb, h⟩ := cond_some' h
      simp only [Bool.and_eq_true, Nat.beq_eq, decide_eq_true_eq] at hb
      obtain ⟨⟨⟨⟨⟨⟨⟨⟨⟨⟨⟨⟨⟨⟨⟨⟨⟨⟨⟨⟨rfl, rfl⟩, rfl⟩, rfl⟩, rfl⟩, rfl⟩, rfl⟩, rfl⟩, rfl⟩, rfl⟩, rfl⟩, rfl⟩, rfl⟩, rfl⟩, rfl⟩, rfl⟩, rfl⟩, rfl⟩, rfl⟩, rfl⟩, rfl⟩ := hb
      exact blk_loop (S := T41_0) (ks := E41_0) (step := S_segment_Header_0 fuel) (v := (_, _, _, _, _, _, _, _, _, _)) (by kernel_rfl) (by kernel_rfl) (fun R K v => by obtain ⟨x0, x1, x2, x3, x4, x5, x6, x7, x8, x9⟩ := v; exact S41_0_ok fuel R K x0 x1 x2 x3 x4 x5 x6 x7 x8 x9) hs h
    · cases h
  · cases h
def J41 (fuel : Nat) (i : Nat) : Option Ev.Blk := Ev.look i [(100002, B41_2 fuel), (100000, B41_0 fuel)]
def F_segment_Header (fuel : Nat) (x0 : Int) (x1 : Int) (x2 : Int) (x3 : (List Int)) (x4 : (List Bool)) (x5 : (List Int)) (k0 : (Int × (List Int)) → Option Ans) : Option Ans :=
  (F_segment_Valid fuel (x0) (x1) (x2) (x3) (x4) (x5)
    (fun y2 =>
      bif !y2 then
       k0 ((2 : Int), [])
      else
       (F_segment_Header_1_35f fuel (x0) ([])
         (fun y7 =>
           bif (↑x3.length : Int) == (0 : Int) then
            bif Decidable.decide ((y7.length + [Go.IntKind.u8.wrap x1].length) * (1 : Nat) ≤ (140737488355328 : Nat) ∧ y7.length + [Go.IntKind.u8.wrap x1].length ≤ (140737488355328 : Nat)) then
            (L_segment_Header_2 fuel (x4, (↑x4.length : Int), (0 : Int), x0, x1, x2, x3, x4, x5, [], y7 ++ [Go.IntKind.u8.wrap x1])
               (fun (b2_0, b2_1, b2_2, b2_3, b2_4, b2_5, b2_6, b2_7) =>
                 (F_bits_Pack fuel (b2_6)
                   (fun (y17_0, y17_1) =>
                     bif Decidable.decide ((b2_7.length + y17_1.length) * (1 : Nat) ≤ (140737488355328 : Nat) ∧ b2_7.length + y17_1.length ≤ (140737488355328 : Nat)) then
                     (F_segment_Header_1_35f fuel (b2_2) (b2_7 ++ y17_1)
                        (fun y22 =>
                          (F_segment_Header_1_35f fuel ((↑b2_5.length : Int)) (y22)
                            (fun y26 =>
                              k0 ((0 : Int), y26)))))
                     else none))))
            else none
           else
            bif Decidable.decide ((y7.length + [Go.IntKind.u8.wrap (Go.IntKind.i64.wrap (x1 + (16 : Int)))].length) * (1 : Nat) ≤ (140737488355328 : Nat) ∧ y7.length + [Go.IntKind.u8.wrap (Go.IntKind.i64.wrap (x1 + (16 : Int)))].length ≤ (140737488355328 : Nat)) then
            (F_segment_Header_1_35f fuel ((↑x3.length : Int)) (y7 ++ [Go.IntKind.u8.wrap (Go.IntKind.i64.wrap (x1 + (16 : Int)))])
               (fun y13 =>
                 (L_segment_Header_0 fuel (x3, (↑x3.length : Int), (0 : Int), x0, x1, x2, x3, x4, x5, y13)
                   (fun (b0_0, b0_1, b0_2, b0_3, b0_4, b0_5, b0_6) =>
                     (L_segment_Header_2 fuel (b0_4, (↑b0_4.length : Int), (0 : Int), b0_0, b0_1, b0_2, b0_3, b0_4, b0_5, [], b0_6)
                       (fun (b2_0, b2_1, b2_2, b2_3, b2_4, b2_5, b2_6, b2_7) =>
                         (F_bits_Pack fuel (b2_6)
                           (fun (y25_0, y25_1) =>
                             bif Decidable.decide ((b2_7.length + y25_1.length) * (1 : Nat) ≤ (140737488355328 : Nat) ∧ b2_7.length + y25_1.length ≤ (140737488355328 : Nat)) then
                             (F_segment_Header_1_35f fuel (b2_2) (b2_7 ++ y25_1)
                                (fun y30 =>
                                  (F_segment_Header_1_35f fuel ((↑b2_5.length : Int)) (y30)
                                    (fun y34 =>
                                      k0 ((0 : Int), y34)))))
                             else none))))))))
            else none))))
abbrev YF41 : Type := (Int) → (Int) → (Int) → ((List Int)) → ((List Bool)) → ((List Int)) → ((Int × (List Int)) → Option Ans) → Option Ans
theorem F41_eqg (fuel : Nat) (f43 : YF43) (f75_35f : YF75_35f) (f77 : YF77) (f78 : YF78) (x0 : Int) (x1 : Int) (x2 : Int) (x3 : (List Int)) (x4 : (List Bool)) (x5 : (List Int)) (k : Ev.Cont) : evalFn tab (Gg41 f43 f75_35f f77 f78) (J41 fuel) kp41 fuel Try.f41 [.agg [.int .i64 x0, .int .i64 x1, .int .i64 x2, .sl (.int .i64) x3, .sl .bool x4, .sl (.int .u8) x5]] [] k = (fun  (k0 : (Int × (List Int)) → Option Ans) =>
  (f43 (x0) (x1) (x2) (x3) (x4) (x5)
    (fun y2 =>
      bif !y2 then
       k0 ((2 : Int), [])
      else
       (f75_35f (x0) ([])
         (fun y7 =>
           bif (↑x3.length : Int) == (0 : Int) then
            bif Decidable.decide ((y7.length + [Go.IntKind.u8.wrap x1].length) * (1 : Nat) ≤ (140737488355328 : Nat) ∧ y7.length + [Go.IntKind.u8.wrap x1].length ≤ (140737488355328 : Nat)) then
            (L_segment_Header_2 fuel (x4, (↑x4.length : Int), (0 : Int), x0, x1, x2, x3, x4, x5, [], y7 ++ [Go.IntKind.u8.wrap x1])
               (fun (b2_0, b2_1, b2_2, b2_3, b2_4, b2_5, b2_6, b2_7) =>
                 (f78 (b2_6)
                   (fun (y17_0, y17_1) =>
                     bif Decidable.decide ((b2_7.length + y17_1.length) * (1 : Nat) ≤ (140737488355328 : Nat) ∧ b2_7.length + y17_1.length ≤ (140737488355328 : Nat)) then
                     (f75_35f (b2_2) (b2_7 ++ y17_1)
                        (fun y22 =>
                          (f75_35f ((↑b2_5.length : Int)) (y22)
                            (fun y26 =>
                              k0 ((0 : Int), y26)))))
                     else none))))
            else none
           else
            bif Decidable.decide ((y7.length + [Go.IntKind.u8.wrap (Go.IntKind.i64.wrap (x1 + (16 : Int)))].length) * (1 : Nat) ≤ (140737488355328 : Nat) ∧ y7.length + [Go.IntKind.u8.wrap (Go.IntKind.i64.wrap (x1 + (16 : Int)))].length ≤ (140737488355328 : Nat)) then
            (f75_35f ((↑x3.length : Int)) (y7 ++ [Go.IntKind.u8.wrap (Go.IntKind.i64.wrap (x1 + (16 : Int)))])
               (fun y13 =>
                 (L_segment_Header_0 fuel (x3, (↑x3.length : Int), (0 : Int), x0, x1, x2, x3, x4, x5, y13)
                   (fun (b0_0, b0_1, b0_2, b0_3, b0_4, b0_5, b0_6) =>
                     (L_segment_Header_2 fuel (b0_4, (↑b0_4.length : Int), (0 : Int), b0_0, b0_1, b0_2, b0_3, b0_4, b0_5, [], b0_6)
                       (fun (b2_0, b2_1, b2_2, b2_3, b2_4, b2_5, b2_6, b2_7) =>
                         (f78 (b2_6)
                           (fun (y25_0, y25_1) =>
                             bif Decidable.decide ((b2_7.length + y25_1.length) * (1 : Nat) ≤ (140737488355328 : Nat) ∧ b2_7.length + y25_1.length ≤ (140737488355328 : Nat)) then
                             (f75_35f (b2_2) (b2_7 ++ y25_1)
                                (fun y30 =>
                                  (f75_35f ((↑b2_5.length : Int)) (y30)
                                    (fun y34 =>
                                      k0 ((0 : Int), y34)))))
                             else none))))))))
            else none))))) (fun r => match r with | (r0, r1) => k (.tup [(false, [.own 0]), (false, [.int .i64 r0])], [.vec 5 (.int .u8) r1 true])) := by
  kernel_rfl
theorem F41_eq (fuel : Nat) (x0 : Int) (x1 : Int) (x2 : Int) (x3 : (List Int)) (x4 : (List Bool)) (x5 : (List Int)) (k : Ev.Cont) : evalFn tab (G41 fuel) (J41 fuel) kp41 fuel Try.f41 [.agg [.int .i64 x0, .int .i64 x1, .int .i64 x2, .sl (.int .i64) x3, .sl .bool x4, .sl (.int .u8) x5]] [] k = F_segment_Header fuel x0 x1 x2 x3 x4 x5 (fun r => match r with | (r0, r1) => k (.tup [(false, [.own 0]), (false, [.int .i64 r0])], [.vec 5 (.int .u8) r1 true])) :=
  F41_eqg fuel (F_segment_Valid fuel) (F_segment_Header_1_35f fuel) (F_segment_flag fuel) (F_bits_Pack fuel) x0 x1 x2 x3 x4 x5 k
theorem hG41 (fuel : Nat) : GOK Try.prog (G41 fuel) :=
  gok_cons ⟨ok43 fuel, enters_of Try.func43 (by kernel_rfl) rfl⟩ <|
  gok_cons ⟨ok75_35f fuel, enters_of Try.func75 (by kernel_rfl) rfl⟩ <|
  gok_cons ⟨ok77 fuel, enters_of Try.func77 (by kernel_rfl) rfl⟩ <|
  gok_cons ⟨ok78 fuel, enters_of Try.func78 (by kernel_rfl) rfl⟩ <|
  gok_nil
theorem B41_2_blk (fuel : Nat) : BlkOK Try.prog Try.f41.ntmps (.block 2 (.loop (bodyOf 2 Try.f41))) (B41_2 fuel) :=
  blk_of (blk_of_code tab_ok (hG41 fuel) mixed (J := J41_2 fuel) (kp := kp41) (fuel := fuel) (by kernel_rfl) (fun q hq => by
    rw [(by kernel_rfl : obl (J41_2 fuel) (.block 2 (.loop (bodyOf 2 Try.f41))) = [])] at hq
    cases hq)) (B41_2_ok fuel)
theorem B41_0_blk (fuel : Nat) : BlkOK Try.prog Try.f41.ntmps (.block 0 (.loop (bodyOf 0 Try.f41))) (B41_0 fuel) :=
  blk_of (blk_of_code tab_ok (hG41 fuel) mixed (J := J41_0 fuel) (kp := kp41) (fuel := fuel) (by kernel_rfl) (fun q hq => by
    rw [(by kernel_rfl : obl (J41_0 fuel) (.block 0 (.loop (bodyOf 0 Try.f41))) = [])] at hq
    cases hq)) (B41_0_ok fuel)
theorem fok41 (fuel : Nat) : FnOK Try.prog 41 (evalFn tab (G41 fuel) (J41 fuel) kp41 fuel Try.f41) :=
  fn_ok tab_ok (hG41 fuel) mixed Try.func41 (c := (Try.f41.body).getD .skip) rfl (fun q hq => by
    rw [(by kernel_rfl : obl (J41 fuel) ((Try.f41.body).getD .skip) = [(.block 0 (.loop (bodyOf 0 Try.f41)), B41_0 fuel), (.block 2 (.loop (bodyOf 2 Try.f41)), B41_2 fuel)])] at hq
    simp only [List.mem_cons, List.not_mem_nil, or_false] at hq
    rcases hq with rfl | rfl
    · exact B41_0_blk fuel
    · exact B41_2_blk fuel)
def mt41 : List Ev.SV → List Ev.Ob → Bool := fun args objs => match args, objs with
  | [.agg [.int .i64 _, .int .i64 _, .int .i64 _, .sl (.int .i64) _, .sl .bool _, .sl (.int .u8) _]], [] => true
  | _, _ => false
def spg41 (F : YF41) : Ev.Spec := fun args objs k => match args, objs with
  | [.agg [.int .i64 x0, .int .i64 x1, .int .i64 x2, .sl (.int .i64) x3, .sl .bool x4, .sl (.int .u8) x5]], [] => bif true then F x0 x1 x2 x3 x4 x5 (fun r => match r with | (r0, r1) => k (.tup [(false, [.own 0]), (false, [.int .i64 r0])], [.vec 5 (.int .u8) r1 true])) else none
  | _, _ => none
def spec41 (fuel : Nat) : Ev.Spec := spg41 (F_segment_Header fuel)
theorem ok41 (fuel : Nat) : FnOK Try.prog 41 (spec41 fuel) := by
  intro args objs kk r h
  unfold spec41 spg41 at h
  split at h
  · obtain ⟨hb, h⟩ := cond_some' h
    simp only [Bool.and_eq_true, Nat.beq_eq, decide_eq_true_eq] at hb
    clear hb
    exact fok41 fuel _ _ kk r ((F41_eq fuel _ _ _ _ _ _ kk).trans h)
  · cases h
end Go.Proofs.Ytajidgilfkineaa
