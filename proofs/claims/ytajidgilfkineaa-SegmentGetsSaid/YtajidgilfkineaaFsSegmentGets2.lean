/- What the functions that SegmentGets reaches do: their typed texts, each with the proof that the machine does it. No condition. -/
import Derived.Test.YtajidgilfkineaaEvU
import Derived.Test.YtajidgilfkineaaFsSegmentGets1
set_option linter.unusedVariables false
set_option linter.unusedSimpArgs false
set_option maxRecDepth 100000
namespace Go.Proofs.Ytajidgilfkineaa
open Go Ev
def kp42 (i : Nat) : Option (List Nat) := Ev.look i [(9, [1, 4, 40, 41, 42]), (15, [1, 4, 7, 61, 62, 63]), (100000, [1, 4]), (100002, [1, 4, 7]), (400000, [2, 3]), (400002, [2, 3])]
def Gg42 (f44 : YF44) (f79 : YF79) (f : Nat) : Option Ev.Spec := Ev.look f [(44, spg44 f44), (79, spg79 f79)]
def G42 (fuel : Nat) : Nat → Option Ev.Spec := Gg42 (F_ref12_Valid fuel) (F_ref12_size fuel)
def S_ref12_Header_2 (fuel : Nat) (v : (List Bool) × Int × Int × Int × Int × Int × (List Int) × (List Bool) × (List Int) × (List Int) × (List Int)) (c : ((List Bool) × Int × Int × Int × Int × Int × (List Int) × (List Bool) × (List Int) × (List Int) × (List Int)) → Option Ans) (B : (Int × Int × Int × (List Int) × (List Bool) × (List Int) × (List Int) × (List Int) → Option Ans)) : Option Ans := match v, B with
  | (x0, x1, x2, x3, x4, x5, x6, x7, x8, x9, x10), b =>
   bif Decidable.decide (x2 < x1) then
      bif Decidable.decide ((0 : Int) ≤ x2 ∧ x2 < (↑x0.length : Int)) then
      bif x0.getD x2.toNat Bool.false then
        bif Decidable.decide ((0 : Int) ≤ Go.IntKind.i64.wrap (x2.tdiv (8 : Int)) ∧ Go.IntKind.i64.wrap (x2.tdiv (8 : Int)) < (↑x10.length : Int)) then
        bif Decidable.decide (x2.tmod (8 : Int) < (0 : Int)) then
          none
         else
          bif Decidable.decide ((0 : Int) ≤ Go.IntKind.i64.wrap (x2.tdiv (8 : Int)) ∧ Go.IntKind.i64.wrap (x2.tdiv (8 : Int)) < (↑x10.length : Int)) then
          c (x0, x1, Go.IntKind.i64.wrap (x2 + (1 : Int)), x3, x4, x5, x6, x7, x8, x9, x10.set (Go.IntKind.i64.wrap (x2.tdiv (8 : Int))).toNat (Go.IntKind.u8.wrap (x10.getD (Go.IntKind.i64.wrap (x2.tdiv (8 : Int))).toNat (0 : Int) + Ev.ishr Go.IntKind.u8 (128 : Int) (x2.tmod (8 : Int)))))
          else none
        else none
       else
        c (x0, x1, Go.IntKind.i64.wrap (x2 + (1 : Int)), x3, x4, x5, x6, x7, x8, x9, x10)
      else none
     else
      b (x3, x4, x5, x6, x7, x8, x9, x10)
def L_ref12_Header_2 (fuel : Nat) (v : (List Bool) × Int × Int × Int × Int × Int × (List Int) × (List Bool) × (List Int) × (List Int) × (List Int)) (b : (Int × Int × Int × (List Int) × (List Bool) × (List Int) × (List Int) × (List Int) → Option Ans)) : Option Ans := iter (S_ref12_Header_2 fuel) fuel v b
def J42_2 (fuel : Nat) (i : Nat) : Option Ev.Blk := Ev.look i []
def T42_2 (v : (List Bool) × Int × Int × Int × Int × Int × (List Int) × (List Bool) × (List Int) × (List Int) × (List Int)) : Ev.St := match v with | (x0, x1, x2, x3, x4, x5, x6, x7, x8, x9, x10) => ⟨[(1, .c (.ptr 0 0)), (4, .c (.own 1)), (7, .c (.own 2)), (61, .c (.sl .bool x0)), (62, .c (.int .i64 x1)), (63, .c (.int .i64 x2))], [(0, .cells 63 [.int .i64 x3, .int .i64 x4, .int .i64 x5, .sl (.int .i64) x6, .sl .bool x7, .sl (.int .u8) x8]), (1, .vec 5 (.int .u8) x9 true), (2, .vec 5 (.int .u8) x10 true)], 3, 0⟩
def E42_2 (K : Ev.Ex → Ev.St → Option Ans) : (Int × Int × Int × (List Int) × (List Bool) × (List Int) × (List Int) × (List Int) → Option Ans) := (fun v => match v with | (x0, x1, x2, x3, x4, x5, x6, x7) => K .normal ⟨[(1, .c (.ptr 0 0)), (4, .c (.own 1)), (7, .c (.own 2))], [(0, .cells 63 [.int .i64 x0, .int .i64 x1, .int .i64 x2, .sl (.int .i64) x3, .sl .bool x4, .sl (.int .u8) x5]), (1, .vec 5 (.int .u8) x6 true), (2, .vec 5 (.int .u8) x7 true)], 3, 0⟩)
theorem S42_2_okg (fuel : Nat) (f44 : YF44) (f79 : YF79) (R : Ev.St → Option Ans) (K : Ev.Ex → Ev.St → Option Ans) (x0 : (List Bool)) (x1 : Int) (x2 : Int) (x3 : Int) (x4 : Int) (x5 : Int) (x6 : (List Int)) (x7 : (List Bool)) (x8 : (List Int)) (x9 : (List Int)) (x10 : (List Int)) : evalCode tab (Gg42 f44 f79) (J42_2 fuel) kp42 fuel (bodyOf 2 Try.f42) (T42_2 (x0, x1, x2, x3, x4, x5, x6, x7, x8, x9, x10)) (lc kp42 15 2 R K) = (fun (c : ((List Bool) × Int × Int × Int × Int × Int × (List Int) × (List Bool) × (List Int) × (List Int) × (List Int)) → Option Ans) (B : (Int × Int × Int × (List Int) × (List Bool) × (List Int) × (List Int) × (List Int) → Option Ans)) => match B with
  | b =>
   bif Decidable.decide (x2 < x1) then
      bif Decidable.decide ((0 : Int) ≤ x2 ∧ x2 < (↑x0.length : Int)) then
      bif x0.getD x2.toNat Bool.false then
        bif Decidable.decide ((0 : Int) ≤ Go.IntKind.i64.wrap (x2.tdiv (8 : Int)) ∧ Go.IntKind.i64.wrap (x2.tdiv (8 : Int)) < (↑x10.length : Int)) then
        bif Decidable.decide (x2.tmod (8 : Int) < (0 : Int)) then
          none
         else
          bif Decidable.decide ((0 : Int) ≤ Go.IntKind.i64.wrap (x2.tdiv (8 : Int)) ∧ Go.IntKind.i64.wrap (x2.tdiv (8 : Int)) < (↑x10.length : Int)) then
          c (x0, x1, Go.IntKind.i64.wrap (x2 + (1 : Int)), x3, x4, x5, x6, x7, x8, x9, x10.set (Go.IntKind.i64.wrap (x2.tdiv (8 : Int))).toNat (Go.IntKind.u8.wrap (x10.getD (Go.IntKind.i64.wrap (x2.tdiv (8 : Int))).toNat (0 : Int) + Ev.ishr Go.IntKind.u8 (128 : Int) (x2.tmod (8 : Int)))))
          else none
        else none
       else
        c (x0, x1, Go.IntKind.i64.wrap (x2 + (1 : Int)), x3, x4, x5, x6, x7, x8, x9, x10)
      else none
     else
      b (x3, x4, x5, x6, x7, x8, x9, x10)) (fun v => R (T42_2 v)) (E42_2 K) := by
  kernel_rfl
theorem S42_2_ok (fuel : Nat) (R : Ev.St → Option Ans) (K : Ev.Ex → Ev.St → Option Ans) (x0 : (List Bool)) (x1 : Int) (x2 : Int) (x3 : Int) (x4 : Int) (x5 : Int) (x6 : (List Int)) (x7 : (List Bool)) (x8 : (List Int)) (x9 : (List Int)) (x10 : (List Int)) : evalCode tab (G42 fuel) (J42_2 fuel) kp42 fuel (bodyOf 2 Try.f42) (T42_2 (x0, x1, x2, x3, x4, x5, x6, x7, x8, x9, x10)) (lc kp42 15 2 R K) = S_ref12_Header_2 fuel (x0, x1, x2, x3, x4, x5, x6, x7, x8, x9, x10) (fun v => R (T42_2 v)) (E42_2 K) :=
  S42_2_okg fuel (F_ref12_Valid fuel) (F_ref12_size fuel) R K x0 x1 x2 x3 x4 x5 x6 x7 x8 x9 x10
def B42_2 (fuel : Nat) : Ev.Blk := fun st K => match canonO (kp42 15) st with
  | some s => (match s with
    | ⟨[(q0, .c (.ptr q1 q2)), (q3, .c (.own q4)), (q5, .c (.own q6)), (q7, .c (.sl .bool x0)), (q8, .c (.int .i64 x1)), (q9, .c (.int .i64 x2))], [(q10, .cells q11 [.int .i64 x3, .int .i64 x4, .int .i64 x5, .sl (.int .i64) x6, .sl .bool x7, .sl (.int .u8) x8]), (q12, .vec q13 (.int .u8) x9 true), (q14, .vec q15 (.int .u8) x10 true)], q16, q17⟩ => bif Nat.beq q0 1 && Nat.beq q1 0 && Nat.beq q2 0 && Nat.beq q3 4 && Nat.beq q4 1 && Nat.beq q5 7 && Nat.beq q6 2 && Nat.beq q7 61 && Nat.beq q8 62 && Nat.beq q9 63 && Nat.beq q10 0 && Nat.beq q11 63 && Nat.beq q12 1 && Nat.beq q13 5 && Nat.beq q14 2 && Nat.beq q15 5 && Nat.beq q16 3 && Nat.beq q17 0 then iter (S_ref12_Header_2 fuel) fuel (x0, x1, x2, x3, x4, x5, x6, x7, x8, x9, x10) (E42_2 K) else none
    | _ => none)
  | none => none
theorem B42_2_ok (fuel : Nat) (st : Ev.St) (K : Ev.Ex → Ev.St → Option Ans) (r : Ans) (h : B42_2 fuel st K = some r) : evalCode tab (G42 fuel) (J42_2 fuel) kp42 fuel (.block 2 (.loop (bodyOf 2 Try.f42))) st K = some r := by
  unfold B42_2 at h
  split at h
  · rename_i s hs
    split at h
    · obtain ⟨hb, h⟩ := cond_some' h
      simp only [Bool.and_eq_true, Nat.beq_eq, decide_eq_true_eq] at hb
      obtain ⟨⟨⟨⟨⟨⟨⟨⟨⟨⟨⟨⟨⟨⟨⟨⟨⟨rfl, rfl⟩, rfl⟩, rfl⟩, rfl⟩, rfl⟩, rfl⟩, rfl⟩, rfl⟩, rfl⟩, rfl⟩, rfl⟩, rfl⟩, rfl⟩, rfl⟩, rfl⟩, rfl⟩, rfl⟩ := hb
      exact blk_loop (S := T42_2) (ks := E42_2) (step := S_ref12_Header_2 fuel) (v := (_, _, _, _, _, _, _, _, _, _, _)) (by kernel_rfl) (by kernel_rfl) (fun R K v => by obtain ⟨x0, x1, x2, x3, x4, x5, x6, x7, x8, x9, x10⟩ := v; exact S42_2_ok fuel R K x0 x1 x2 x3 x4 x5 x6 x7 x8 x9 x10) hs h
    · cases h
  · cases h
def S_ref12_Header_0 (fuel : Nat) (v : (List Int) × Int × Int × Int × Int × Int × (List Int) × (List Bool) × (List Int) × (List Int)) (c : ((List Int) × Int × Int × Int × Int × Int × (List Int) × (List Bool) × (List Int) × (List Int)) → Option Ans) (B : (Int × Int × Int × (List Int) × (List Bool) × (List Int) × (List Int) → Option Ans)) : Option Ans := match v, B with
  | (x0, x1, x2, x3, x4, x5, x6, x7, x8, x9), b =>
   bif Decidable.decide (x2 < x1) then
      bif Decidable.decide ((0 : Int) ≤ x2 ∧ x2 < (↑x0.length : Int)) then
      (F_ref12_size fuel (Go.IntKind.i64.wrap (x3 - x0.getD x2.toNat (0 : Int)))
         (fun y4 =>
           bif Decidable.decide ((x9.length + y4.length) * (1 : Nat) ≤ (140737488355328 : Nat) ∧ x9.length + y4.length ≤ (140737488355328 : Nat)) then
           c (x0, x1, Go.IntKind.i64.wrap (x2 + (1 : Int)), x3, x4, x5, x6, x7, x8, x9 ++ y4)
           else none))
      else none
     else
      b (x3, x4, x5, x6, x7, x8, x9)
def L_ref12_Header_0 (fuel : Nat) (v : (List Int) × Int × Int × Int × Int × Int × (List Int) × (List Bool) × (List Int) × (List Int)) (b : (Int × Int × Int × (List Int) × (List Bool) × (List Int) × (List Int) → Option Ans)) : Option Ans := iter (S_ref12_Header_0 fuel) fuel v b
def J42_0 (fuel : Nat) (i : Nat) : Option Ev.Blk := Ev.look i [(100002, B42_2 fuel)]
def T42_0 (v : (List Int) × Int × Int × Int × Int × Int × (List Int) × (List Bool) × (List Int) × (List Int)) : Ev.St := match v with | (x0, x1, x2, x3, x4, x5, x6, x7, x8, x9) => ⟨[(1, .c (.ptr 0 0)), (4, .c (.own 1)), (40, .c (.sl (.int .i64) x0)), (41, .c (.int .i64 x1)), (42, .c (.int .i64 x2))], [(0, .cells 63 [.int .i64 x3, .int .i64 x4, .int .i64 x5, .sl (.int .i64) x6, .sl .bool x7, .sl (.int .u8) x8]), (1, .vec 5 (.int .u8) x9 true)], 2, 0⟩
def E42_0 (K : Ev.Ex → Ev.St → Option Ans) : (Int × Int × Int × (List Int) × (List Bool) × (List Int) × (List Int) → Option Ans) := (fun v => match v with | (x0, x1, x2, x3, x4, x5, x6) => K .normal ⟨[(1, .c (.ptr 0 0)), (4, .c (.own 1))], [(0, .cells 63 [.int .i64 x0, .int .i64 x1, .int .i64 x2, .sl (.int .i64) x3, .sl .bool x4, .sl (.int .u8) x5]), (1, .vec 5 (.int .u8) x6 true)], 2, 0⟩)
theorem S42_0_okg (fuel : Nat) (f44 : YF44) (f79 : YF79) (R : Ev.St → Option Ans) (K : Ev.Ex → Ev.St → Option Ans) (x0 : (List Int)) (x1 : Int) (x2 : Int) (x3 : Int) (x4 : Int) (x5 : Int) (x6 : (List Int)) (x7 : (List Bool)) (x8 : (List Int)) (x9 : (List Int)) : evalCode tab (Gg42 f44 f79) (J42_0 fuel) kp42 fuel (bodyOf 0 Try.f42) (T42_0 (x0, x1, x2, x3, x4, x5, x6, x7, x8, x9)) (lc kp42 9 0 R K) = (fun (c : ((List Int) × Int × Int × Int × Int × Int × (List Int) × (List Bool) × (List Int) × (List Int)) → Option Ans) (B : (Int × Int × Int × (List Int) × (List Bool) × (List Int) × (List Int) → Option Ans)) => match B with
  | b =>
   bif Decidable.decide (x2 < x1) then
      bif Decidable.decide ((0 : Int) ≤ x2 ∧ x2 < (↑x0.length : Int)) then
      (f79 (Go.IntKind.i64.wrap (x3 - x0.getD x2.toNat (0 : Int)))
         (fun y4 =>
           bif Decidable.decide ((x9.length + y4.length) * (1 : Nat) ≤ (140737488355328 : Nat) ∧ x9.length + y4.length ≤ (140737488355328 : Nat)) then
           c (x0, x1, Go.IntKind.i64.wrap (x2 + (1 : Int)), x3, x4, x5, x6, x7, x8, x9 ++ y4)
           else none))
      else none
     else
      b (x3, x4, x5, x6, x7, x8, x9)) (fun v => R (T42_0 v)) (E42_0 K) := by
  kernel_rfl
theorem S42_0_ok (fuel : Nat) (R : Ev.St → Option Ans) (K : Ev.Ex → Ev.St → Option Ans) (x0 : (List Int)) (x1 : Int) (x2 : Int) (x3 : Int) (x4 : Int) (x5 : Int) (x6 : (List Int)) (x7 : (List Bool)) (x8 : (List Int)) (x9 : (List Int)) : evalCode tab (G42 fuel) (J42_0 fuel) kp42 fuel (bodyOf 0 Try.f42) (T42_0 (x0, x1, x2, x3, x4, x5, x6, x7, x8, x9)) (lc kp42 9 0 R K) = S_ref12_Header_0 fuel (x0, x1, x2, x3, x4, x5, x6, x7, x8, x9) (fun v => R (T42_0 v)) (E42_0 K) :=
  S42_0_okg fuel (F_ref12_Valid fuel) (F_ref12_size fuel) R K x0 x1 x2 x3 x4 x5 x6 x7 x8 x9
def B42_0 (fuel : Nat) : Ev.Blk := fun st K => match canonO (kp42 9) st with
  | some s => (match s with
    | ⟨[(q0, .c (.ptr q1 q2)), (q3, .c (.own q4)), (q5, .c (.sl (.int .i64) x0)), (q6, .c (.int .i64 x1)), (q7, .c (.int .i64 x2))], [(q8, .cells q9 [.int .i64 x3, .int .i64 x4, .int .i64 x5, .sl (.int .i64) x6, .sl .bool x7, .sl (.int .u8) x8]), (q10, .vec q11 (.int .u8) x9 true)], q12, q13⟩ => bif Nat.beq q0 1 && Nat.beq q1 0 && Nat.beq q2 0 && Nat.beq q3 4 && Nat.beq q4 1 && Nat.beq q5 40 && Nat.beq q6 41 && Nat.beq q7 42 && Nat.beq q8 0 && Nat.beq q9 63 && Nat.beq q10 1 && Nat.beq q11 5 && Nat.beq q12 2 && Nat.beq q13 0 then iter (S_ref12_Header_0 fuel) fuel (x0, x1, x2, x3, x4, x5, x6, x7, x8, x9) (E42_0 K) else none
    | _ => none)
  | none => none
theorem B42_0_ok (fuel : Nat) (st : Ev.St) (K : Ev.Ex → Ev.St → Option Ans) (r : Ans) (h : B42_0 fuel st K = some r) : evalCode tab (G42 fuel) (J42_0 fuel) kp42 fuel (.block 0 (.loop (bodyOf 0 Try.f42))) st K = some r := by
  unfold B42_0 at h
  split at h
  · rename_i s hs
    split at h
    · obtain ⟨hb, h⟩ := cond_some' h
      simp only [Bool.and_eq_true, Nat.beq_eq, decide_eq_true_eq] at hb
      obtain ⟨⟨⟨⟨⟨⟨⟨⟨⟨⟨⟨⟨⟨rfl, rfl⟩, rfl⟩, rfl⟩, rfl⟩, rfl⟩, rfl⟩, rfl⟩, rfl⟩, rfl⟩, rfl⟩, rfl⟩, rfl⟩, rfl⟩ := hb
      exact blk_loop (S := T42_0) (ks := E42_0) (step := S_ref12_Header_0 fuel) (v := (_, _, _, _, _, _, _, _, _, _)) (by kernel_rfl) (by kernel_rfl) (fun R K v => by obtain ⟨x0, x1, x2, x3, x4, x5, x6, x7, x8, x9⟩ := v; exact S42_0_ok fuel R K x0 x1 x2 x3 x4 x5 x6 x7 x8 x9) hs h
    · cases h
  · cases h
def J42 (fuel : Nat) (i : Nat) : Option Ev.Blk := Ev.look i [(100002, B42_2 fuel), (100000, B42_0 fuel)]
def F_ref12_Header (fuel : Nat) (x0 : Int) (x1 : Int) (x2 : Int) (x3 : (List Int)) (x4 : (List Bool)) (x5 : (List Int)) (k0 : (Int × (List Int)) → Option Ans) : Option Ans :=
  (F_ref12_Valid fuel (x0) (x1) (x2) (x3) (x4) (x5)
    (fun y2 =>
      bif !y2 then
       k0 ((2 : Int), [])
      else
       (F_ref12_size fuel (x0)
         (fun y7 =>
           bif (↑x3.length : Int) == (0 : Int) then
            bif Decidable.decide ((y7.length + [Go.IntKind.u8.wrap x1].length) * (1 : Nat) ≤ (140737488355328 : Nat) ∧ y7.length + [Go.IntKind.u8.wrap x1].length ≤ (140737488355328 : Nat)) then
            bif Decidable.decide ((0 : Int) ≤ Go.IntKind.i64.wrap ((Go.IntKind.i64.wrap ((↑x4.length : Int) + (7 : Int))).tdiv (8 : Int)) ∧ Go.IntKind.i64.wrap ((Go.IntKind.i64.wrap ((↑x4.length : Int) + (7 : Int))).tdiv (8 : Int)) = Go.IntKind.i64.wrap ((Go.IntKind.i64.wrap ((↑x4.length : Int) + (7 : Int))).tdiv (8 : Int)) ∧ (↑(1 : Nat) : Int) * Go.IntKind.i64.wrap ((Go.IntKind.i64.wrap ((↑x4.length : Int) + (7 : Int))).tdiv (8 : Int)) ≤ (281474976710656 : Int) ∧ Go.IntKind.i64.wrap ((Go.IntKind.i64.wrap ((↑x4.length : Int) + (7 : Int))).tdiv (8 : Int)) ≤ (281474976710656 : Int)) then
             (L_ref12_Header_2 fuel (x4, (↑x4.length : Int), (0 : Int), x0, x1, x2, x3, x4, x5, y7 ++ [Go.IntKind.u8.wrap x1], List.replicate (Go.IntKind.i64.wrap ((Go.IntKind.i64.wrap ((↑x4.length : Int) + (7 : Int))).tdiv (8 : Int))).toNat (0 : Int))
                (fun (b2_0, b2_1, b2_2, b2_3, b2_4, b2_5, b2_6, b2_7) =>
                  bif Decidable.decide ((b2_6.length + b2_7.length) * (1 : Nat) ≤ (140737488355328 : Nat) ∧ b2_6.length + b2_7.length ≤ (140737488355328 : Nat)) then
                  (F_ref12_size fuel (b2_2)
                     (fun y19 =>
                       bif Decidable.decide (((b2_6 ++ b2_7).length + y19.length) * (1 : Nat) ≤ (140737488355328 : Nat) ∧ (b2_6 ++ b2_7).length + y19.length ≤ (140737488355328 : Nat)) then
                       (F_ref12_size fuel ((↑b2_5.length : Int))
                          (fun y24 =>
                            bif Decidable.decide (((b2_6 ++ b2_7 ++ y19).length + y24.length) * (1 : Nat) ≤ (140737488355328 : Nat) ∧ (b2_6 ++ b2_7 ++ y19).length + y24.length ≤ (140737488355328 : Nat)) then
                            k0 ((0 : Int), b2_6 ++ b2_7 ++ y19 ++ y24)
                            else none))
                       else none))
                  else none))
             else none
            else none
           else
            bif Decidable.decide ((y7.length + [Go.IntKind.u8.wrap (Go.IntKind.i64.wrap (x1 + (16 : Int)))].length) * (1 : Nat) ≤ (140737488355328 : Nat) ∧ y7.length + [Go.IntKind.u8.wrap (Go.IntKind.i64.wrap (x1 + (16 : Int)))].length ≤ (140737488355328 : Nat)) then
            (F_ref12_size fuel ((↑x3.length : Int))
               (fun y13 =>
                 bif Decidable.decide (((y7 ++ [Go.IntKind.u8.wrap (Go.IntKind.i64.wrap (x1 + (16 : Int)))]).length + y13.length) * (1 : Nat) ≤ (140737488355328 : Nat) ∧ (y7 ++ [Go.IntKind.u8.wrap (Go.IntKind.i64.wrap (x1 + (16 : Int)))]).length + y13.length ≤ (140737488355328 : Nat)) then
                 (L_ref12_Header_0 fuel (x3, (↑x3.length : Int), (0 : Int), x0, x1, x2, x3, x4, x5, y7 ++ [Go.IntKind.u8.wrap (Go.IntKind.i64.wrap (x1 + (16 : Int)))] ++ y13)
                    (fun (b0_0, b0_1, b0_2, b0_3, b0_4, b0_5, b0_6) =>
                      bif Decidable.decide ((0 : Int) ≤ Go.IntKind.i64.wrap ((Go.IntKind.i64.wrap ((↑b0_4.length : Int) + (7 : Int))).tdiv (8 : Int)) ∧ Go.IntKind.i64.wrap ((Go.IntKind.i64.wrap ((↑b0_4.length : Int) + (7 : Int))).tdiv (8 : Int)) = Go.IntKind.i64.wrap ((Go.IntKind.i64.wrap ((↑b0_4.length : Int) + (7 : Int))).tdiv (8 : Int)) ∧ (↑(1 : Nat) : Int) * Go.IntKind.i64.wrap ((Go.IntKind.i64.wrap ((↑b0_4.length : Int) + (7 : Int))).tdiv (8 : Int)) ≤ (281474976710656 : Int) ∧ Go.IntKind.i64.wrap ((Go.IntKind.i64.wrap ((↑b0_4.length : Int) + (7 : Int))).tdiv (8 : Int)) ≤ (281474976710656 : Int)) then
                      (L_ref12_Header_2 fuel (b0_4, (↑b0_4.length : Int), (0 : Int), b0_0, b0_1, b0_2, b0_3, b0_4, b0_5, b0_6, List.replicate (Go.IntKind.i64.wrap ((Go.IntKind.i64.wrap ((↑b0_4.length : Int) + (7 : Int))).tdiv (8 : Int))).toNat (0 : Int))
                         (fun (b2_0, b2_1, b2_2, b2_3, b2_4, b2_5, b2_6, b2_7) =>
                           bif Decidable.decide ((b2_6.length + b2_7.length) * (1 : Nat) ≤ (140737488355328 : Nat) ∧ b2_6.length + b2_7.length ≤ (140737488355328 : Nat)) then
                           (F_ref12_size fuel (b2_2)
                              (fun y28 =>
                                bif Decidable.decide (((b2_6 ++ b2_7).length + y28.length) * (1 : Nat) ≤ (140737488355328 : Nat) ∧ (b2_6 ++ b2_7).length + y28.length ≤ (140737488355328 : Nat)) then
                                (F_ref12_size fuel ((↑b2_5.length : Int))
                                   (fun y33 =>
                                     bif Decidable.decide (((b2_6 ++ b2_7 ++ y28).length + y33.length) * (1 : Nat) ≤ (140737488355328 : Nat) ∧ (b2_6 ++ b2_7 ++ y28).length + y33.length ≤ (140737488355328 : Nat)) then
                                     k0 ((0 : Int), b2_6 ++ b2_7 ++ y28 ++ y33)
                                     else none))
                                else none))
                           else none))
                      else none))
                 else none))
            else none))))
abbrev YF42 : Type := (Int) → (Int) → (Int) → ((List Int)) → ((List Bool)) → ((List Int)) → ((Int × (List Int)) → Option Ans) → Option Ans
theorem F42_eqg (fuel : Nat) (f44 : YF44) (f79 : YF79) (x0 : Int) (x1 : Int) (x2 : Int) (x3 : (List Int)) (x4 : (List Bool)) (x5 : (List Int)) (k : Ev.Cont) : evalFn tab (Gg42 f44 f79) (J42 fuel) kp42 fuel Try.f42 [.agg [.int .i64 x0, .int .i64 x1, .int .i64 x2, .sl (.int .i64) x3, .sl .bool x4, .sl (.int .u8) x5]] [] k = (fun  (k0 : (Int × (List Int)) → Option Ans) =>
  (f44 (x0) (x1) (x2) (x3) (x4) (x5)
    (fun y2 =>
      bif !y2 then
       k0 ((2 : Int), [])
      else
       (f79 (x0)
         (fun y7 =>
           bif (↑x3.length : Int) == (0 : Int) then
            bif Decidable.decide ((y7.length + [Go.IntKind.u8.wrap x1].length) * (1 : Nat) ≤ (140737488355328 : Nat) ∧ y7.length + [Go.IntKind.u8.wrap x1].length ≤ (140737488355328 : Nat)) then
            bif Decidable.decide ((0 : Int) ≤ Go.IntKind.i64.wrap ((Go.IntKind.i64.wrap ((↑x4.length : Int) + (7 : Int))).tdiv (8 : Int)) ∧ Go.IntKind.i64.wrap ((Go.IntKind.i64.wrap ((↑x4.length : Int) + (7 : Int))).tdiv (8 : Int)) = Go.IntKind.i64.wrap ((Go.IntKind.i64.wrap ((↑x4.length : Int) + (7 : Int))).tdiv (8 : Int)) ∧ (↑(1 : Nat) : Int) * Go.IntKind.i64.wrap ((Go.IntKind.i64.wrap ((↑x4.length : Int) + (7 : Int))).tdiv (8 : Int)) ≤ (281474976710656 : Int) ∧ Go.IntKind.i64.wrap ((Go.IntKind.i64.wrap ((↑x4.length : Int) + (7 : Int))).tdiv (8 : Int)) ≤ (281474976710656 : Int)) then
             (L_ref12_Header_2 fuel (x4, (↑x4.length : Int), (0 : Int), x0, x1, x2, x3, x4, x5, y7 ++ [Go.IntKind.u8.wrap x1], List.replicate (Go.IntKind.i64.wrap ((Go.IntKind.i64.wrap ((↑x4.length : Int) + (7 : Int))).tdiv (8 : Int))).toNat (0 : Int))
                (fun (b2_0, b2_1, b2_2, b2_3, b2_4, b2_5, b2_6, b2_7) =>
                  bif Decidable.decide ((b2_6.length + b2_7.length) * (1 : Nat) ≤ (140737488355328 : Nat) ∧ b2_6.length + b2_7.length ≤ (140737488355328 : Nat)) then
                  (f79 (b2_2)
                     (fun y19 =>
                       bif Decidable.decide (((b2_6 ++ b2_7).length + y19.length) * (1 : Nat) ≤ (140737488355328 : Nat) ∧ (b2_6 ++ b2_7).length + y19.length ≤ (140737488355328 : Nat)) then
                       (f79 ((↑b2_5.length : Int))
                          (fun y24 =>
                            bif Decidable.decide (((b2_6 ++ b2_7 ++ y19).length + y24.length) * (1 : Nat) ≤ (140737488355328 : Nat) ∧ (b2_6 ++ b2_7 ++ y19).length + y24.length ≤ (140737488355328 : Nat)) then
                            k0 ((0 : Int), b2_6 ++ b2_7 ++ y19 ++ y24)
                            else none))
                       else none))
                  else none))
             else none
            else none
           else
            bif Decidable.decide ((y7.length + [Go.IntKind.u8.wrap (Go.IntKind.i64.wrap (x1 + (16 : Int)))].length) * (1 : Nat) ≤ (140737488355328 : Nat) ∧ y7.length + [Go.IntKind.u8.wrap (Go.IntKind.i64.wrap (x1 + (16 : Int)))].length ≤ (140737488355328 : Nat)) then
            (f79 ((↑x3.length : Int))
               (fun y13 =>
                 bif Decidable.decide (((y7 ++ [Go.IntKind.u8.wrap (Go.IntKind.i64.wrap (x1 + (16 : Int)))]).length + y13.length) * (1 : Nat) ≤ (140737488355328 : Nat) ∧ (y7 ++ [Go.IntKind.u8.wrap (Go.IntKind.i64.wrap (x1 + (16 : Int)))]).length + y13.length ≤ (140737488355328 : Nat)) then
                 (L_ref12_Header_0 fuel (x3, (↑x3.length : Int), (0 : Int), x0, x1, x2, x3, x4, x5, y7 ++ [Go.IntKind.u8.wrap (Go.IntKind.i64.wrap (x1 + (16 : Int)))] ++ y13)
                    (fun (b0_0, b0_1, b0_2, b0_3, b0_4, b0_5, b0_6) =>
                      bif Decidable.decide ((0 : Int) ≤ Go.IntKind.i64.wrap ((Go.IntKind.i64.wrap ((↑b0_4.length : Int) + (7 : Int))).tdiv (8 : Int)) ∧ Go.IntKind.i64.wrap ((Go.IntKind.i64.wrap ((↑b0_4.length : Int) + (7 : Int))).tdiv (8 : Int)) = Go.IntKind.i64.wrap ((Go.IntKind.i64.wrap ((↑b0_4.length : Int) + (7 : Int))).tdiv (8 : Int)) ∧ (↑(1 : Nat) : Int) * Go.IntKind.i64.wrap ((Go.IntKind.i64.wrap ((↑b0_4.length : Int) + (7 : Int))).tdiv (8 : Int)) ≤ (281474976710656 : Int) ∧ Go.IntKind.i64.wrap ((Go.IntKind.i64.wrap ((↑b0_4.length : Int) + (7 : Int))).tdiv (8 : Int)) ≤ (281474976710656 : Int)) then
                      (L_ref12_Header_2 fuel (b0_4, (↑b0_4.length : Int), (0 : Int), b0_0, b0_1, b0_2, b0_3, b0_4, b0_5, b0_6, List.replicate (Go.IntKind.i64.wrap ((Go.IntKind.i64.wrap ((↑b0_4.length : Int) + (7 : Int))).tdiv (8 : Int))).toNat (0 : Int))
                         (fun (b2_0, b2_1, b2_2, b2_3, b2_4, b2_5, b2_6, b2_7) =>
                           bif Decidable.decide ((b2_6.length + b2_7.length) * (1 : Nat) ≤ (140737488355328 : Nat) ∧ b2_6.length + b2_7.length ≤ (140737488355328 : Nat)) then
                           (f79 (b2_2)
                              (fun y28 =>
                                bif Decidable.decide (((b2_6 ++ b2_7).length + y28.length) * (1 : Nat) ≤ (140737488355328 : Nat) ∧ (b2_6 ++ b2_7).length + y28.length ≤ (140737488355328 : Nat)) then
                                (f79 ((↑b2_5.length : Int))
                                   (fun y33 =>
                                     bif Decidable.decide (((b2_6 ++ b2_7 ++ y28).length + y33.length) * (1 : Nat) ≤ (140737488355328 : Nat) ∧ (b2_6 ++ b2_7 ++ y28).length + y33.length ≤ (140737488355328 : Nat)) then
                                     k0 ((0 : Int), b2_6 ++ b2_7 ++ y28 ++ y33)
                                     else none))
                                else none))
                           else none))
                      else none))
                 else none))
            else none))))) (fun r => match r with | (r0, r1) => k (.tup [(false, [.own 0]), (false, [.int .i64 r0])], [.vec 5 (.int .u8) r1 true])) := by
  kernel_rfl
theorem F42_eq (fuel : Nat) (x0 : Int) (x1 : Int) (x2 : Int) (x3 : (List Int)) (x4 : (List Bool)) (x5 : (List Int)) (k : Ev.Cont) : evalFn tab (G42 fuel) (J42 fuel) kp42 fuel Try.f42 [.agg [.int .i64 x0, .int .i64 x1, .int .i64 x2, .sl (.int .i64) x3, .sl .bool x4, .sl (.int .u8) x5]] [] k = F_ref12_Header fuel x0 x1 x2 x3 x4 x5 (fun r => match r with | (r0, r1) => k (.tup [(false, [.own 0]), (false, [.int .i64 r0])], [.vec 5 (.int .u8) r1 true])) :=
  F42_eqg fuel (F_ref12_Valid fuel) (F_ref12_size fuel) x0 x1 x2 x3 x4 x5 k
theorem hG42 (fuel : Nat) : GOK Try.prog (G42 fuel) :=
  gok_cons ⟨ok44 fuel, enters_of Try.func44 (by kernel_rfl) rfl⟩ <|
  gok_cons ⟨ok79 fuel, enters_of Try.func79 (by kernel_rfl) rfl⟩ <|
  gok_nil
theorem B42_2_blk (fuel : Nat) : BlkOK Try.prog Try.f42.ntmps (.block 2 (.loop (bodyOf 2 Try.f42))) (B42_2 fuel) :=
  blk_of (blk_of_code tab_ok (hG42 fuel) mixed (J := J42_2 fuel) (kp := kp42) (fuel := fuel) (by kernel_rfl) (fun q hq => by
    rw [(by kernel_rfl : obl (J42_2 fuel) (.block 2 (.loop (bodyOf 2 Try.f42))) = [])] at hq
    cases hq)) (B42_2_ok fuel)
theorem B42_0_blk (fuel : Nat) : BlkOK Try.prog Try.f42.ntmps (.block 0 (.loop (bodyOf 0 Try.f42))) (B42_0 fuel) :=
  blk_of (blk_of_code tab_ok (hG42 fuel) mixed (J := J42_0 fuel) (kp := kp42) (fuel := fuel) (by kernel_rfl) (fun q hq => by
    rw [(by kernel_rfl : obl (J42_0 fuel) (.block 0 (.loop (bodyOf 0 Try.f42))) = [])] at hq
    cases hq)) (B42_0_ok fuel)
theorem fok42 (fuel : Nat) : FnOK Try.prog 42 (evalFn tab (G42 fuel) (J42 fuel) kp42 fuel Try.f42) :=
  fn_ok tab_ok (hG42 fuel) mixed Try.func42 (c := (Try.f42.body).getD .skip) rfl (fun q hq => by
    rw [(by kernel_rfl : obl (J42 fuel) ((Try.f42.body).getD .skip) = [(.block 0 (.loop (bodyOf 0 Try.f42)), B42_0 fuel), (.block 2 (.loop (bodyOf 2 Try.f42)), B42_2 fuel)])] at hq
    simp only [List.mem_cons, List.not_mem_nil, or_false] at hq
    rcases hq with rfl | rfl
    · exact B42_0_blk fuel
    · exact B42_2_blk fuel)
def mt42 : List Ev.SV → List Ev.Ob → Bool := fun args objs => match args, objs with
  | [.agg [.int .i64 _, .int .i64 _, .int .i64 _, .sl (.int .i64) _, .sl .bool _, .sl (.int .u8) _]], [] => true
  | _, _ => false
def spg42 (F : YF42) : Ev.Spec := fun args objs k => match args, objs with
  | [.agg [.int .i64 x0, .int .i64 x1, .int .i64 x2, .sl (.int .i64) x3, .sl .bool x4, .sl (.int .u8) x5]], [] => bif true then F x0 x1 x2 x3 x4 x5 (fun r => match r with | (r0, r1) => k (.tup [(false, [.own 0]), (false, [.int .i64 r0])], [.vec 5 (.int .u8) r1 true])) else none
  | _, _ => none
def spec42 (fuel : Nat) : Ev.Spec := spg42 (F_ref12_Header fuel)
theorem ok42 (fuel : Nat) : FnOK Try.prog 42 (spec42 fuel) := by
  intro args objs kk r h
  unfold spec42 spg42 at h
  split at h
  · obtain ⟨hb, h⟩ := cond_some' h
    simp only [Bool.and_eq_true, Nat.beq_eq, decide_eq_true_eq] at hb
    clear hb
    exact fok42 fuel _ _ kk r ((F42_eq fuel _ _ _ _ _ _ kk).trans h)
  · cases h
end Go.Proofs.Ytajidgilfkineaa

set_option linter.unusedVariables false
set_option linter.unusedSimpArgs false
set_option maxRecDepth 100000
namespace Go.Proofs.Ytajidgilfkineaa
open Go Ev
def kp82 (i : Nat) : Option (List Nat) := Ev.look i []
def Gg82 (f : Nat) : Option Ev.Spec := Ev.look f []
def G82 (fuel : Nat) : Nat → Option Ev.Spec := Gg82
def J82 (fuel : Nat) (i : Nat) : Option Ev.Blk := Ev.look i []
def F_bytes_Equal (fuel : Nat) (x0 : (List Int)) (x1 : (List Int)) (k0 : (Bool) → Option Ans) : Option Ans :=
  k0 ((Go.strOfNums x0).toList == (Go.strOfNums x1).toList)
abbrev YF82 : Type := ((List Int)) → ((List Int)) → ((Bool) → Option Ans) → Option Ans
theorem F82_eq (fuel : Nat) (x0 : (List Int)) (x1 : (List Int)) (k : Ev.Cont) : evalFn tab (G82 fuel) (J82 fuel) kp82 fuel Try.f82 [.c (.sl (.int .u8) x0), .c (.sl (.int .u8) x1)] [] k = F_bytes_Equal fuel x0 x1 (fun r => match r with | r0 => k (.c (.bool r0), [])) := by
  kernel_rfl
theorem hG82 (fuel : Nat) : GOK Try.prog (G82 fuel) :=
  gok_nil
theorem fok82 (fuel : Nat) : FnOK Try.prog 82 (evalFn tab (G82 fuel) (J82 fuel) kp82 fuel Try.f82) :=
  fn_ok tab_ok (hG82 fuel) mixed Try.func82 (c := (Try.f82.body).getD .skip) rfl (fun q hq => by
    rw [(by kernel_rfl : obl (J82 fuel) ((Try.f82.body).getD .skip) = [])] at hq
    cases hq)
def mt82 : List Ev.SV → List Ev.Ob → Bool := fun args objs => match args, objs with
  | [.c (.sl (.int .u8) _), .c (.sl (.int .u8) _)], [] => true
  | _, _ => false
def spg82 (F : YF82) : Ev.Spec := fun args objs k => match args, objs with
  | [.c (.sl (.int .u8) x0), .c (.sl (.int .u8) x1)], [] => bif true then F x0 x1 (fun r => match r with | r0 => k (.c (.bool r0), [])) else none
  | _, _ => none
def spec82 (fuel : Nat) : Ev.Spec := spg82 (F_bytes_Equal fuel)
theorem ok82 (fuel : Nat) : FnOK Try.prog 82 (spec82 fuel) := by
  intro args objs kk r h
  unfold spec82 spg82 at h
  split at h
  · obtain ⟨hb, h⟩ := cond_some' h
    simp only [Bool.and_eq_true, Nat.beq_eq, decide_eq_true_eq] at hb
    clear hb
    exact fok82 fuel _ _ kk r ((F82_eq fuel _ _ kk).trans h)
  · cases h
end Go.Proofs.Ytajidgilfkineaa

set_option linter.unusedVariables false
set_option linter.unusedSimpArgs false
set_option maxRecDepth 100000
namespace Go.Proofs.Ytajidgilfkineaa
open Go Ev
def kp81 (i : Nat) : Option (List Nat) := Ev.look i [(4, [0, 1, 12, 13]), (100000, []), (400000, [4])]
def Gg81 (f : Nat) : Option Ev.Spec := Ev.look f []
def G81 (fuel : Nat) : Nat → Option Ev.Spec := Gg81
def S_slices_Equal_bool_bool_0 (fuel : Nat) (v : (List Bool) × (List Bool) × Int × Int) (c : ((List Bool) × (List Bool) × Int × Int) → Option Ans) (B : (Bool → Option Ans) × (Unit → Option Ans)) : Option Ans := match v, B with
  | (x0, x1, x2, x3), (ret, b) =>
   bif Decidable.decide (x3 < x2) then
      bif Decidable.decide ((0 : Int) ≤ x3 ∧ x3 < (↑x0.length : Int)) then
      bif Decidable.decide ((0 : Int) ≤ x3 ∧ x3 < (↑x1.length : Int)) then
       bif !x0.getD x3.toNat Bool.false == x1.getD x3.toNat Bool.false then
         ret Bool.false
        else
         c (x0, x1, x2, Go.IntKind.i64.wrap (x3 + (1 : Int)))
       else none
      else none
     else
      b ()
def L_slices_Equal_bool_bool_0 (fuel : Nat) (v : (List Bool) × (List Bool) × Int × Int) (ret : (Bool → Option Ans)) (b : (Unit → Option Ans)) : Option Ans := iter (S_slices_Equal_bool_bool_0 fuel) fuel v (ret, b)
def J81_0 (fuel : Nat) (i : Nat) : Option Ev.Blk := Ev.look i []
def T81_0 (v : (List Bool) × (List Bool) × Int × Int) : Ev.St := match v with | (x0, x1, x2, x3) => ⟨[(0, .c (.sl .bool x0)), (1, .c (.sl .bool x1)), (12, .c (.int .i64 x2)), (13, .c (.int .i64 x3))], [], 0, 0⟩
def E81_0 (K : Ev.Ex → Ev.St → Option Ans) : (Bool → Option Ans) × (Unit → Option Ans) := ((fun v => match v with | x0 => K .ret ⟨[(4, .c (.bool x0))], [], 0, 0⟩), (fun v => match v with | () => K .normal ⟨[], [], 0, 0⟩))
theorem S81_0_ok (fuel : Nat) (R : Ev.St → Option Ans) (K : Ev.Ex → Ev.St → Option Ans) (x0 : (List Bool)) (x1 : (List Bool)) (x2 : Int) (x3 : Int) : evalCode tab (G81 fuel) (J81_0 fuel) kp81 fuel (bodyOf 0 Try.f81) (T81_0 (x0, x1, x2, x3)) (lc kp81 4 0 R K) = S_slices_Equal_bool_bool_0 fuel (x0, x1, x2, x3) (fun v => R (T81_0 v)) (E81_0 K) := by
  kernel_rfl
def B81_0 (fuel : Nat) : Ev.Blk := fun st K => match canonO (kp81 4) st with
  | some s => (match s with
    | ⟨[(q0, .c (.sl .bool x0)), (q1, .c (.sl .bool x1)), (q2, .c (.int .i64 x2)), (q3, .c (.int .i64 x3))], [], q4, q5⟩ => bif Nat.beq q0 0 && Nat.beq q1 1 && Nat.beq q2 12 && Nat.beq q3 13 && Nat.beq q4 0 && Nat.beq q5 0 then iter (S_slices_Equal_bool_bool_0 fuel) fuel (x0, x1, x2, x3) (E81_0 K) else none
    | _ => none)
  | none => none
theorem B81_0_ok (fuel : Nat) (st : Ev.St) (K : Ev.Ex → Ev.St → Option Ans) (r : Ans) (h : B81_0 fuel st K = some r) : evalCode tab (G81 fuel) (J81_0 fuel) kp81 fuel (.block 0 (.loop (bodyOf 0 Try.f81))) st K = some r := by
  unfold B81_0 at h
  split at h
  · rename_i s hs
    split at h
    · obtain ⟨hb, h⟩ := cond_some' h
      simp only [Bool.and_eq_true, Nat.beq_eq, decide_eq_true_eq] at hb
      obtain ⟨⟨⟨⟨⟨rfl, rfl⟩, rfl⟩, rfl⟩, rfl⟩, rfl⟩ := hb
      exact blk_loop (S := T81_0) (ks := E81_0) (step := S_slices_Equal_bool_bool_0 fuel) (v := (_, _, _, _)) (by kernel_rfl) (by kernel_rfl) (fun R K v => by obtain ⟨x0, x1, x2, x3⟩ := v; exact S81_0_ok fuel R K x0 x1 x2 x3) hs h
    · cases h
  · cases h
def J81 (fuel : Nat) (i : Nat) : Option Ev.Blk := Ev.look i [(100000, B81_0 fuel)]
def F_slices_Equal_bool_bool (fuel : Nat) (x0 : (List Bool)) (x1 : (List Bool)) (k0 : (Bool) → Option Ans) : Option Ans :=
  bif (↑x0.length : Int) != (↑x1.length : Int) then
   k0 Bool.false
  else
   (L_slices_Equal_bool_bool_0 fuel (x0, x1, (↑x0.length : Int), (0 : Int))
     (fun ret0_0 =>
       k0 ret0_0)
     (fun () =>
       k0 Bool.true))
abbrev YF81 : Type := ((List Bool)) → ((List Bool)) → ((Bool) → Option Ans) → Option Ans
theorem F81_eq (fuel : Nat) (x0 : (List Bool)) (x1 : (List Bool)) (k : Ev.Cont) : evalFn tab (G81 fuel) (J81 fuel) kp81 fuel Try.f81 [.c (.sl .bool x0), .c (.sl .bool x1)] [] k = F_slices_Equal_bool_bool fuel x0 x1 (fun r => match r with | r0 => k (.c (.bool r0), [])) := by
  kernel_rfl
theorem hG81 (fuel : Nat) : GOK Try.prog (G81 fuel) :=
  gok_nil
theorem B81_0_blk (fuel : Nat) : BlkOK Try.prog Try.f81.ntmps (.block 0 (.loop (bodyOf 0 Try.f81))) (B81_0 fuel) :=
  blk_of (blk_of_code tab_ok (hG81 fuel) mixed (J := J81_0 fuel) (kp := kp81) (fuel := fuel) (by kernel_rfl) (fun q hq => by
    rw [(by kernel_rfl : obl (J81_0 fuel) (.block 0 (.loop (bodyOf 0 Try.f81))) = [])] at hq
    cases hq)) (B81_0_ok fuel)
theorem fok81 (fuel : Nat) : FnOK Try.prog 81 (evalFn tab (G81 fuel) (J81 fuel) kp81 fuel Try.f81) :=
  fn_ok tab_ok (hG81 fuel) mixed Try.func81 (c := (Try.f81.body).getD .skip) rfl (fun q hq => by
    rw [(by kernel_rfl : obl (J81 fuel) ((Try.f81.body).getD .skip) = [(.block 0 (.loop (bodyOf 0 Try.f81)), B81_0 fuel)])] at hq
    simp only [List.mem_cons, List.not_mem_nil, or_false] at hq
    subst hq
    · exact B81_0_blk fuel)
def mt81 : List Ev.SV → List Ev.Ob → Bool := fun args objs => match args, objs with
  | [.c (.sl .bool _), .c (.sl .bool _)], [] => true
  | _, _ => false
def spg81 (F : YF81) : Ev.Spec := fun args objs k => match args, objs with
  | [.c (.sl .bool x0), .c (.sl .bool x1)], [] => bif true then F x0 x1 (fun r => match r with | r0 => k (.c (.bool r0), [])) else none
  | _, _ => none
def spec81 (fuel : Nat) : Ev.Spec := spg81 (F_slices_Equal_bool_bool fuel)
theorem ok81 (fuel : Nat) : FnOK Try.prog 81 (spec81 fuel) := by
  intro args objs kk r h
  unfold spec81 spg81 at h
  split at h
  · obtain ⟨hb, h⟩ := cond_some' h
    simp only [Bool.and_eq_true, Nat.beq_eq, decide_eq_true_eq] at hb
    clear hb
    exact fok81 fuel _ _ kk r ((F81_eq fuel _ _ kk).trans h)
  · cases h
end Go.Proofs.Ytajidgilfkineaa

set_option linter.unusedVariables false
set_option linter.unusedSimpArgs false
set_option maxRecDepth 100000
namespace Go.Proofs.Ytajidgilfkineaa
open Go Ev
def kp80 (i : Nat) : Option (List Nat) := Ev.look i [(4, [0, 1, 12, 13]), (100000, []), (400000, [4])]
def Gg80 (f : Nat) : Option Ev.Spec := Ev.look f []
def G80 (fuel : Nat) : Nat → Option Ev.Spec := Gg80
def S_slices_Equal_int_int_0 (fuel : Nat) (v : (List Int) × (List Int) × Int × Int) (c : ((List Int) × (List Int) × Int × Int) → Option Ans) (B : (Bool → Option Ans) × (Unit → Option Ans)) : Option Ans := match v, B with
  | (x0, x1, x2, x3), (ret, b) =>
   bif Decidable.decide (x3 < x2) then
      bif Decidable.decide ((0 : Int) ≤ x3 ∧ x3 < (↑x0.length : Int)) then
      bif Decidable.decide ((0 : Int) ≤ x3 ∧ x3 < (↑x1.length : Int)) then
       bif x0.getD x3.toNat (0 : Int) != x1.getD x3.toNat (0 : Int) then
         ret Bool.false
        else
         c (x0, x1, x2, Go.IntKind.i64.wrap (x3 + (1 : Int)))
       else none
      else none
     else
      b ()
def L_slices_Equal_int_int_0 (fuel : Nat) (v : (List Int) × (List Int) × Int × Int) (ret : (Bool → Option Ans)) (b : (Unit → Option Ans)) : Option Ans := iter (S_slices_Equal_int_int_0 fuel) fuel v (ret, b)
def J80_0 (fuel : Nat) (i : Nat) : Option Ev.Blk := Ev.look i []
def T80_0 (v : (List Int) × (List Int) × Int × Int) : Ev.St := match v with | (x0, x1, x2, x3) => ⟨[(0, .c (.sl (.int .i64) x0)), (1, .c (.sl (.int .i64) x1)), (12, .c (.int .i64 x2)), (13, .c (.int .i64 x3))], [], 0, 0⟩
def E80_0 (K : Ev.Ex → Ev.St → Option Ans) : (Bool → Option Ans) × (Unit → Option Ans) := ((fun v => match v with | x0 => K .ret ⟨[(4, .c (.bool x0))], [], 0, 0⟩), (fun v => match v with | () => K .normal ⟨[], [], 0, 0⟩))
theorem S80_0_ok (fuel : Nat) (R : Ev.St → Option Ans) (K : Ev.Ex → Ev.St → Option Ans) (x0 : (List Int)) (x1 : (List Int)) (x2 : Int) (x3 : Int) : evalCode tab (G80 fuel) (J80_0 fuel) kp80 fuel (bodyOf 0 Try.f80) (T80_0 (x0, x1, x2, x3)) (lc kp80 4 0 R K) = S_slices_Equal_int_int_0 fuel (x0, x1, x2, x3) (fun v => R (T80_0 v)) (E80_0 K) := by
  kernel_rfl
def B80_0 (fuel : Nat) : Ev.Blk := fun st K => match canonO (kp80 4) st with
  | some s => (match s with
    | ⟨[(q0, .c (.sl (.int .i64) x0)), (q1, .c (.sl (.int .i64) x1)), (q2, .c (.int .i64 x2)), (q3, .c (.int .i64 x3))], [], q4, q5⟩ => bif Nat.beq q0 0 && Nat.beq q1 1 && Nat.beq q2 12 && Nat.beq q3 13 && Nat.beq q4 0 && Nat.beq q5 0 then iter (S_slices_Equal_int_int_0 fuel) fuel (x0, x1, x2, x3) (E80_0 K) else none
    | _ => none)
  | none => none
theorem B80_0_ok (fuel : Nat) (st : Ev.St) (K : Ev.Ex → Ev.St → Option Ans) (r : Ans) (h : B80_0 fuel st K = some r) : evalCode tab (G80 fuel) (J80_0 fuel) kp80 fuel (.block 0 (.loop (bodyOf 0 Try.f80))) st K = some r := by
  unfold B80_0 at h
  split at h
  · rename_i s hs
    split at h
    · obtain ⟨hb, h⟩ := cond_some' h
      simp only [Bool.and_eq_true, Nat.beq_eq, decide_eq_true_eq] at hb
      obtain ⟨⟨⟨⟨⟨rfl, rfl⟩, rfl⟩, rfl⟩, rfl⟩, rfl⟩ := hb
      exact blk_loop (S := T80_0) (ks := E80_0) (step := S_slices_Equal_int_int_0 fuel) (v := (_, _, _, _)) (by kernel_rfl) (by kernel_rfl) (fun R K v => by obtain ⟨x0, x1, x2, x3⟩ := v; exact S80_0_ok fuel R K x0 x1 x2 x3) hs h
    · cases h
  · cases h
def J80 (fuel : Nat) (i : Nat) : Option Ev.Blk := Ev.look i [(100000, B80_0 fuel)]
def F_slices_Equal_int_int (fuel : Nat) (x0 : (List Int)) (x1 : (List Int)) (k0 : (Bool) → Option Ans) : Option Ans :=
  bif (↑x0.length : Int) != (↑x1.length : Int) then
   k0 Bool.false
  else
   (L_slices_Equal_int_int_0 fuel (x0, x1, (↑x0.length : Int), (0 : Int))
     (fun ret0_0 =>
       k0 ret0_0)
     (fun () =>
       k0 Bool.true))
abbrev YF80 : Type := ((List Int)) → ((List Int)) → ((Bool) → Option Ans) → Option Ans
theorem F80_eq (fuel : Nat) (x0 : (List Int)) (x1 : (List Int)) (k : Ev.Cont) : evalFn tab (G80 fuel) (J80 fuel) kp80 fuel Try.f80 [.c (.sl (.int .i64) x0), .c (.sl (.int .i64) x1)] [] k = F_slices_Equal_int_int fuel x0 x1 (fun r => match r with | r0 => k (.c (.bool r0), [])) := by
  kernel_rfl
theorem hG80 (fuel : Nat) : GOK Try.prog (G80 fuel) :=
  gok_nil
theorem B80_0_blk (fuel : Nat) : BlkOK Try.prog Try.f80.ntmps (.block 0 (.loop (bodyOf 0 Try.f80))) (B80_0 fuel) :=
  blk_of (blk_of_code tab_ok (hG80 fuel) mixed (J := J80_0 fuel) (kp := kp80) (fuel := fuel) (by kernel_rfl) (fun q hq => by
    rw [(by kernel_rfl : obl (J80_0 fuel) (.block 0 (.loop (bodyOf 0 Try.f80))) = [])] at hq
    cases hq)) (B80_0_ok fuel)
theorem fok80 (fuel : Nat) : FnOK Try.prog 80 (evalFn tab (G80 fuel) (J80 fuel) kp80 fuel Try.f80) :=
  fn_ok tab_ok (hG80 fuel) mixed Try.func80 (c := (Try.f80.body).getD .skip) rfl (fun q hq => by
    rw [(by kernel_rfl : obl (J80 fuel) ((Try.f80.body).getD .skip) = [(.block 0 (.loop (bodyOf 0 Try.f80)), B80_0 fuel)])] at hq
    simp only [List.mem_cons, List.not_mem_nil, or_false] at hq
    subst hq
    · exact B80_0_blk fuel)
def mt80 : List Ev.SV → List Ev.Ob → Bool := fun args objs => match args, objs with
  | [.c (.sl (.int .i64) _), .c (.sl (.int .i64) _)], [] => true
  | _, _ => false
def spg80 (F : YF80) : Ev.Spec := fun args objs k => match args, objs with
  | [.c (.sl (.int .i64) x0), .c (.sl (.int .i64) x1)], [] => bif true then F x0 x1 (fun r => match r with | r0 => k (.c (.bool r0), [])) else none
  | _, _ => none
def spec80 (fuel : Nat) : Ev.Spec := spg80 (F_slices_Equal_int_int fuel)
theorem ok80 (fuel : Nat) : FnOK Try.prog 80 (spec80 fuel) := by
  intro args objs kk r h
  unfold spec80 spg80 at h
  split at h
  · obtain ⟨hb, h⟩ := cond_some' h
    simp only [Bool.and_eq_true, Nat.beq_eq, decide_eq_true_eq] at hb
    clear hb
    exact fok80 fuel _ _ kk r ((F80_eq fuel _ _ kk).trans h)
  · cases h
end Go.Proofs.Ytajidgilfkineaa

set_option linter.unusedVariables false
set_option linter.unusedSimpArgs false
set_option maxRecDepth 100000
namespace Go.Proofs.Ytajidgilfkineaa
open Go Ev
def kp46 (i : Nat) : Option (List Nat) := Ev.look i []
def Gg46 (f80 : YF80) (f81 : YF81) (f82 : YF82) (f : Nat) : Option Ev.Spec := Ev.look f [(80, spg80 f80), (81, spg81 f81), (82, spg82 f82)]
def G46 (fuel : Nat) : Nat → Option Ev.Spec := Gg46 (F_slices_Equal_int_int fuel) (F_slices_Equal_bool_bool fuel) (F_bytes_Equal fuel)
def J46 (fuel : Nat) (i : Nat) : Option Ev.Blk := Ev.look i []
def F_segment_Same (fuel : Nat) (x0 : Int) (x1 : Int) (x2 : Int) (x3 : (List Int)) (x4 : (List Bool)) (x5 : (List Int)) (x6 : Int) (x7 : Int) (x8 : Int) (x9 : (List Int)) (x10 : (List Bool)) (x11 : (List Int)) (k0 : (Bool) → Option Ans) : Option Ans :=
  bif x0 == x6 then
   bif x1 == x7 then
    bif x2 == x8 then
     (F_slices_Equal_int_int fuel (x3) (x9)
       (fun y5 =>
         bif y5 then
          (F_slices_Equal_bool_bool fuel (x4) (x10)
            (fun y10 =>
              bif y10 then
               (F_bytes_Equal fuel (x5) (x11)
                 (fun y15 =>
                   k0 y15))
              else
               k0 Bool.false))
         else
          k0 Bool.false))
    else
     k0 Bool.false
   else
    k0 Bool.false
  else
   k0 Bool.false
abbrev YF46 : Type := (Int) → (Int) → (Int) → ((List Int)) → ((List Bool)) → ((List Int)) → (Int) → (Int) → (Int) → ((List Int)) → ((List Bool)) → ((List Int)) → ((Bool) → Option Ans) → Option Ans
theorem F46_eqg (fuel : Nat) (f80 : YF80) (f81 : YF81) (f82 : YF82) (x0 : Int) (x1 : Int) (x2 : Int) (x3 : (List Int)) (x4 : (List Bool)) (x5 : (List Int)) (x6 : Int) (x7 : Int) (x8 : Int) (x9 : (List Int)) (x10 : (List Bool)) (x11 : (List Int)) (k : Ev.Cont) : evalFn tab (Gg46 f80 f81 f82) (J46 fuel) kp46 fuel Try.f46 [.agg [.int .i64 x0, .int .i64 x1, .int .i64 x2, .sl (.int .i64) x3, .sl .bool x4, .sl (.int .u8) x5], .agg [.int .i64 x6, .int .i64 x7, .int .i64 x8, .sl (.int .i64) x9, .sl .bool x10, .sl (.int .u8) x11]] [] k = (fun  (k0 : (Bool) → Option Ans) =>
  bif x0 == x6 then
   bif x1 == x7 then
    bif x2 == x8 then
     (f80 (x3) (x9)
       (fun y5 =>
         bif y5 then
          (f81 (x4) (x10)
            (fun y10 =>
              bif y10 then
               (f82 (x5) (x11)
                 (fun y15 =>
                   k0 y15))
              else
               k0 Bool.false))
         else
          k0 Bool.false))
    else
     k0 Bool.false
   else
    k0 Bool.false
  else
   k0 Bool.false) (fun r => match r with | r0 => k (.c (.bool r0), [])) := by
  kernel_rfl
theorem F46_eq (fuel : Nat) (x0 : Int) (x1 : Int) (x2 : Int) (x3 : (List Int)) (x4 : (List Bool)) (x5 : (List Int)) (x6 : Int) (x7 : Int) (x8 : Int) (x9 : (List Int)) (x10 : (List Bool)) (x11 : (List Int)) (k : Ev.Cont) : evalFn tab (G46 fuel) (J46 fuel) kp46 fuel Try.f46 [.agg [.int .i64 x0, .int .i64 x1, .int .i64 x2, .sl (.int .i64) x3, .sl .bool x4, .sl (.int .u8) x5], .agg [.int .i64 x6, .int .i64 x7, .int .i64 x8, .sl (.int .i64) x9, .sl .bool x10, .sl (.int .u8) x11]] [] k = F_segment_Same fuel x0 x1 x2 x3 x4 x5 x6 x7 x8 x9 x10 x11 (fun r => match r with | r0 => k (.c (.bool r0), [])) :=
  F46_eqg fuel (F_slices_Equal_int_int fuel) (F_slices_Equal_bool_bool fuel) (F_bytes_Equal fuel) x0 x1 x2 x3 x4 x5 x6 x7 x8 x9 x10 x11 k
theorem hG46 (fuel : Nat) : GOK Try.prog (G46 fuel) :=
  gok_cons ⟨ok80 fuel, enters_of Try.func80 (by kernel_rfl) rfl⟩ <|
  gok_cons ⟨ok81 fuel, enters_of Try.func81 (by kernel_rfl) rfl⟩ <|
  gok_cons ⟨ok82 fuel, enters_of Try.func82 (by kernel_rfl) rfl⟩ <|
  gok_nil
theorem fok46 (fuel : Nat) : FnOK Try.prog 46 (evalFn tab (G46 fuel) (J46 fuel) kp46 fuel Try.f46) :=
  fn_ok tab_ok (hG46 fuel) mixed Try.func46 (c := (Try.f46.body).getD .skip) rfl (fun q hq => by
    rw [(by kernel_rfl : obl (J46 fuel) ((Try.f46.body).getD .skip) = [])] at hq
    cases hq)
def mt46 : List Ev.SV → List Ev.Ob → Bool := fun args objs => match args, objs with
  | [.agg [.int .i64 _, .int .i64 _, .int .i64 _, .sl (.int .i64) _, .sl .bool _, .sl (.int .u8) _], .agg [.int .i64 _, .int .i64 _, .int .i64 _, .sl (.int .i64) _, .sl .bool _, .sl (.int .u8) _]], [] => true
  | _, _ => false
def spg46 (F : YF46) : Ev.Spec := fun args objs k => match args, objs with
  | [.agg [.int .i64 x0, .int .i64 x1, .int .i64 x2, .sl (.int .i64) x3, .sl .bool x4, .sl (.int .u8) x5], .agg [.int .i64 x6, .int .i64 x7, .int .i64 x8, .sl (.int .i64) x9, .sl .bool x10, .sl (.int .u8) x11]], [] => bif true then F x0 x1 x2 x3 x4 x5 x6 x7 x8 x9 x10 x11 (fun r => match r with | r0 => k (.c (.bool r0), [])) else none
  | _, _ => none
def spec46 (fuel : Nat) : Ev.Spec := spg46 (F_segment_Same fuel)
theorem ok46 (fuel : Nat) : FnOK Try.prog 46 (spec46 fuel) := by
  intro args objs kk r h
  unfold spec46 spg46 at h
  split at h
  · obtain ⟨hb, h⟩ := cond_some' h
    simp only [Bool.and_eq_true, Nat.beq_eq, decide_eq_true_eq] at hb
    clear hb
    exact fok46 fuel _ _ kk r ((F46_eq fuel _ _ _ _ _ _ _ _ _ _ _ _ kk).trans h)
  · cases h
end Go.Proofs.Ytajidgilfkineaa

set_option linter.unusedVariables false
set_option linter.unusedSimpArgs false
set_option maxRecDepth 100000
namespace Go.Proofs.Ytajidgilfkineaa
open Go Ev
def kp39 (i : Nat) : Option (List Nat) := Ev.look i [(3, [0, 3, 6, 7, 8]), (100000, [0, 3]), (400000, [2])]
def Gg39 (f : Nat) : Option Ev.Spec := Ev.look f []
def G39 (fuel : Nat) : Nat → Option Ev.Spec := Gg39
def S_law12_large_0 (fuel : Nat) (v : (List (Int × (Int × (Int × ((List Int) × ((List Bool) × (List Int))))))) × Int × (List (Int × (Int × (Int × ((List Int) × ((List Bool) × (List Int))))))) × Int × Int) (c : ((List (Int × (Int × (Int × ((List Int) × ((List Bool) × (List Int))))))) × Int × (List (Int × (Int × (Int × ((List Int) × ((List Bool) × (List Int))))))) × Int × Int) → Option Ans) (B : ((List (Int × (Int × (Int × ((List Int) × ((List Bool) × (List Int))))))) × Int → Option Ans)) : Option Ans := match v, B with
  | (x0, x1, x2, x3, x4), b =>
   bif Decidable.decide (x4 < x3) then
      bif Decidable.decide ((0 : Int) ≤ x4 ∧ x4 < (↑x2.length : Int)) then
      c (x0, Go.IntKind.i64.wrap (x1 + Go.IntKind.i64.wrap ((↑(List.length (x2.getD x4.toNat ((0 : Int), (0 : Int), (0 : Int), [], [], [])).snd.snd.snd.snd.snd) : Int) + (↑(List.length (x2.getD x4.toNat ((0 : Int), (0 : Int), (0 : Int), [], [], [])).snd.snd.snd.fst) : Int))), x2, x3, Go.IntKind.i64.wrap (x4 + (1 : Int)))
      else none
     else
      b (x0, x1)
def L_law12_large_0 (fuel : Nat) (v : (List (Int × (Int × (Int × ((List Int) × ((List Bool) × (List Int))))))) × Int × (List (Int × (Int × (Int × ((List Int) × ((List Bool) × (List Int))))))) × Int × Int) (b : ((List (Int × (Int × (Int × ((List Int) × ((List Bool) × (List Int))))))) × Int → Option Ans)) : Option Ans := iter (S_law12_large_0 fuel) fuel v b
def J39_0 (fuel : Nat) (i : Nat) : Option Ev.Blk := Ev.look i []
def T39_0 (v : (List (Int × (Int × (Int × ((List Int) × ((List Bool) × (List Int))))))) × Int × (List (Int × (Int × (Int × ((List Int) × ((List Bool) × (List Int))))))) × Int × Int) : Ev.St := match v with | (x0, x1, x2, x3, x4) => ⟨[(0, .c (.sl (.pair (.int .i64) (.pair (.int .i64) (.pair (.int .i64) (.pair (.sl (.int .i64)) (.pair (.sl .bool) (.sl (.int .u8))))))) x0)), (3, .c (.int .i64 x1)), (6, .c (.sl (.pair (.int .i64) (.pair (.int .i64) (.pair (.int .i64) (.pair (.sl (.int .i64)) (.pair (.sl .bool) (.sl (.int .u8))))))) x2)), (7, .c (.int .i64 x3)), (8, .c (.int .i64 x4))], [], 0, 0⟩
def E39_0 (K : Ev.Ex → Ev.St → Option Ans) : ((List (Int × (Int × (Int × ((List Int) × ((List Bool) × (List Int))))))) × Int → Option Ans) := (fun v => match v with | (x0, x1) => K .normal ⟨[(0, .c (.sl (.pair (.int .i64) (.pair (.int .i64) (.pair (.int .i64) (.pair (.sl (.int .i64)) (.pair (.sl .bool) (.sl (.int .u8))))))) x0)), (3, .c (.int .i64 x1))], [], 0, 0⟩)
theorem S39_0_ok (fuel : Nat) (R : Ev.St → Option Ans) (K : Ev.Ex → Ev.St → Option Ans) (x0 : (List (Int × (Int × (Int × ((List Int) × ((List Bool) × (List Int)))))))) (x1 : Int) (x2 : (List (Int × (Int × (Int × ((List Int) × ((List Bool) × (List Int)))))))) (x3 : Int) (x4 : Int) : evalCode tab (G39 fuel) (J39_0 fuel) kp39 fuel (bodyOf 0 Try.f39) (T39_0 (x0, x1, x2, x3, x4)) (lc kp39 3 0 R K) = S_law12_large_0 fuel (x0, x1, x2, x3, x4) (fun v => R (T39_0 v)) (E39_0 K) := by
  kernel_rfl
def B39_0 (fuel : Nat) : Ev.Blk := fun st K => match canonO (kp39 3) st with
  | some s => (match s with
    | ⟨[(q0, .c (.sl (.pair (.int .i64) (.pair (.int .i64) (.pair (.int .i64) (.pair (.sl (.int .i64)) (.pair (.sl .bool) (.sl (.int .u8))))))) x0)), (q1, .c (.int .i64 x1)), (q2, .c (.sl (.pair (.int .i64) (.pair (.int .i64) (.pair (.int .i64) (.pair (.sl (.int .i64)) (.pair (.sl .bool) (.sl (.int .u8))))))) x2)), (q3, .c (.int .i64 x3)), (q4, .c (.int .i64 x4))], [], q5, q6⟩ => bif Nat.beq q0 0 && Nat.beq q1 3 && Nat.beq q2 6 && Nat.beq q3 7 && Nat.beq q4 8 && Nat.beq q5 0 && Nat.beq q6 0 then iter (S_law12_large_0 fuel) fuel (x0, x1, x2, x3, x4) (E39_0 K) else none
    | _ => none)
  | none => none
theorem B39_0_ok (fuel : Nat) (st : Ev.St) (K : Ev.Ex → Ev.St → Option Ans) (r : Ans) (h : B39_0 fuel st K = some r) : evalCode tab (G39 fuel) (J39_0 fuel) kp39 fuel (.block 0 (.loop (bodyOf 0 Try.f39))) st K = some r := by
  unfold B39_0 at h
  split at h
  · rename_i s hs
    split at h
    · obtain ⟨hb, h⟩ := cond_some' h
      simp only [Bool.and_eq_true, Nat.beq_eq, decide_eq_true_eq] at hb
      obtain ⟨⟨⟨⟨⟨⟨rfl, rfl⟩, rfl⟩, rfl⟩, rfl⟩, rfl⟩, rfl⟩ := hb
      exact blk_loop (S := T39_0) (ks := E39_0) (step := S_law12_large_0 fuel) (v := (_, _, _, _, _)) (by kernel_rfl) (by kernel_rfl) (fun R K v => by obtain ⟨x0, x1, x2, x3, x4⟩ := v; exact S39_0_ok fuel R K x0 x1 x2 x3 x4) hs h
    · cases h
  · cases h
def J39 (fuel : Nat) (i : Nat) : Option Ev.Blk := Ev.look i [(100000, B39_0 fuel)]
def F_law12_large (fuel : Nat) (x0 : (List (Int × Int × Int × (List Int) × (List Bool) × (List Int)))) (k0 : (Bool) → Option Ans) : Option Ans :=
  (L_law12_large_0 fuel (x0, (0 : Int), x0, (↑x0.length : Int), (0 : Int))
    (fun (b0_0, b0_1) =>
      bif Decidable.decide ((↑b0_0.length : Int) > (300 : Int)) then
       k0 Bool.true
      else
       k0 (Decidable.decide (b0_1 > (200000 : Int)))))
abbrev YF39 : Type := ((List (Int × Int × Int × (List Int) × (List Bool) × (List Int)))) → ((Bool) → Option Ans) → Option Ans
theorem F39_eq (fuel : Nat) (x0 : (List (Int × Int × Int × (List Int) × (List Bool) × (List Int)))) (k : Ev.Cont) : evalFn tab (G39 fuel) (J39 fuel) kp39 fuel Try.f39 [.c (.sl (.pair (.int .i64) (.pair (.int .i64) (.pair (.int .i64) (.pair (.sl (.int .i64)) (.pair (.sl .bool) (.sl (.int .u8))))))) x0)] [] k = F_law12_large fuel x0 (fun r => match r with | r0 => k (.c (.bool r0), [])) := by
  kernel_rfl
theorem hG39 (fuel : Nat) : GOK Try.prog (G39 fuel) :=
  gok_nil
theorem B39_0_blk (fuel : Nat) : BlkOK Try.prog Try.f39.ntmps (.block 0 (.loop (bodyOf 0 Try.f39))) (B39_0 fuel) :=
  blk_of (blk_of_code tab_ok (hG39 fuel) mixed (J := J39_0 fuel) (kp := kp39) (fuel := fuel) (by kernel_rfl) (fun q hq => by
    rw [(by kernel_rfl : obl (J39_0 fuel) (.block 0 (.loop (bodyOf 0 Try.f39))) = [])] at hq
    cases hq)) (B39_0_ok fuel)
theorem fok39 (fuel : Nat) : FnOK Try.prog 39 (evalFn tab (G39 fuel) (J39 fuel) kp39 fuel Try.f39) :=
  fn_ok tab_ok (hG39 fuel) mixed Try.func39 (c := (Try.f39.body).getD .skip) rfl (fun q hq => by
    rw [(by kernel_rfl : obl (J39 fuel) ((Try.f39.body).getD .skip) = [(.block 0 (.loop (bodyOf 0 Try.f39)), B39_0 fuel)])] at hq
    simp only [List.mem_cons, List.not_mem_nil, or_false] at hq
    subst hq
    · exact B39_0_blk fuel)
def mt39 : List Ev.SV → List Ev.Ob → Bool := fun args objs => match args, objs with
  | [.c (.sl (.pair (.int .i64) (.pair (.int .i64) (.pair (.int .i64) (.pair (.sl (.int .i64)) (.pair (.sl .bool) (.sl (.int .u8))))))) _)], [] => true
  | _, _ => false
def spg39 (F : YF39) : Ev.Spec := fun args objs k => match args, objs with
  | [.c (.sl (.pair (.int .i64) (.pair (.int .i64) (.pair (.int .i64) (.pair (.sl (.int .i64)) (.pair (.sl .bool) (.sl (.int .u8))))))) x0)], [] => bif true then F x0 (fun r => match r with | r0 => k (.c (.bool r0), [])) else none
  | _, _ => none
def spec39 (fuel : Nat) : Ev.Spec := spg39 (F_law12_large fuel)
theorem ok39 (fuel : Nat) : FnOK Try.prog 39 (spec39 fuel) := by
  intro args objs kk r h
  unfold spec39 spg39 at h
  split at h
  · obtain ⟨hb, h⟩ := cond_some' h
    simp only [Bool.and_eq_true, Nat.beq_eq, decide_eq_true_eq] at hb
    clear hb
    exact fok39 fuel _ _ kk r ((F39_eq fuel _ kk).trans h)
  · cases h
end Go.Proofs.Ytajidgilfkineaa

