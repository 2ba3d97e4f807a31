/- What the functions that SegmentDrop reaches do: their typed texts, each with the proof that the machine does it. No condition. -/
import Derived.Test.YtajidgilfkineaaEvU
import Derived.Test.YtajidgilfkineaaFsSegmentDrop1
set_option linter.unusedVariables false
set_option linter.unusedSimpArgs false
set_option linter.unusedVariables false
set_option linter.unusedSimpArgs false
set_option maxRecDepth 100000
namespace Go.Proofs.Ytajidgilfkineaa
open Go Ev
def kp48 (i : Nat) : Option (List Nat) := Ev.look i [(7, [0, 6, 7, 8]), (11, [0, 6, 7, 8, 9, 38, 39, 40]), (17, [0, 6, 7, 8, 9, 64, 65, 66]), (100000, [7]), (100002, [0, 6, 7, 8, 9]), (100004, [0, 6, 7, 8, 9]), (400000, [2, 3]), (400002, [2, 3]), (400004, [2, 3])]
def Gg48 (f83 : YF83) (f84 : YF84) (f : Nat) : Option Ev.Spec := Ev.look f [(83, spg83 f83), (84, spg84 f84)]
def G48 (fuel : Nat) : Nat → Option Ev.Spec := Gg48 (F_segment_order fuel) (F_segment_clone fuel)
def S_segment_Drop_2 (fuel : Nat) (v : (List (Int × (Int × (Int × ((List Int) × ((List Bool) × (List Int))))))) × Int × Int × Int × (List (Int × Bool)) × (List (Int × (Int × (Int × ((List Int) × ((List Bool) × (List Int))))))) × Int × Int × Int × (List Int) × (List Bool) × (List Int)) (c : ((List (Int × (Int × (Int × ((List Int) × ((List Bool) × (List Int))))))) × Int × Int × Int × (List (Int × Bool)) × (List (Int × (Int × (Int × ((List Int) × ((List Bool) × (List Int))))))) × Int × Int × Int × (List Int) × (List Bool) × (List Int)) → Option Ans) (B : ((List (Int × (Int × (Int × ((List Int) × ((List Bool) × (List Int))))))) × Int × (List (Int × Bool)) × (List (Int × (Int × (Int × ((List Int) × ((List Bool) × (List Int))))))) × Int × Int × Int × (List Int) × (List Bool) × (List Int) → Option Ans)) : Option Ans := match v, B with
  | (x0, x1, x2, x3, x4, x5, x6, x7, x8, x9, x10, x11), b =>
   bif Decidable.decide (x3 < x2) then
      bif Decidable.decide ((0 : Int) ≤ x3 ∧ x3 < (↑x9.length : Int)) then
      bif Decidable.decide ((0 : Int) ≤ x3 ∧ x3 < (↑x10.length : Int)) then
       c (x0, x1, x2, Go.IntKind.i64.wrap (x3 + (1 : Int)), x4, x5, x6, x7, x8, x9, x10.set x3.toNat (Ev.mget Bool.false (x9.getD x3.toNat (0 : Int)) x4), x11)
       else none
      else none
     else
      b (x0, x1, x4, x5, x6, x7, x8, x9, x10, x11)
def L_segment_Drop_2 (fuel : Nat) (v : (List (Int × (Int × (Int × ((List Int) × ((List Bool) × (List Int))))))) × Int × Int × Int × (List (Int × Bool)) × (List (Int × (Int × (Int × ((List Int) × ((List Bool) × (List Int))))))) × Int × Int × Int × (List Int) × (List Bool) × (List Int)) (b : ((List (Int × (Int × (Int × ((List Int) × ((List Bool) × (List Int))))))) × Int × (List (Int × Bool)) × (List (Int × (Int × (Int × ((List Int) × ((List Bool) × (List Int))))))) × Int × Int × Int × (List Int) × (List Bool) × (List Int) → Option Ans)) : Option Ans := iter (S_segment_Drop_2 fuel) fuel v b
def J48_2 (fuel : Nat) (i : Nat) : Option Ev.Blk := Ev.look i []
def T48_2 (v : (List (Int × (Int × (Int × ((List Int) × ((List Bool) × (List Int))))))) × Int × Int × Int × (List (Int × Bool)) × (List (Int × (Int × (Int × ((List Int) × ((List Bool) × (List Int))))))) × Int × Int × Int × (List Int) × (List Bool) × (List Int)) : Ev.St := match v with | (x0, x1, x2, x3, x4, x5, x6, x7, x8, x9, x10, x11) => ⟨[(0, .c (.sl (.pair (.int .i64) (.pair (.int .i64) (.pair (.int .i64) (.pair (.sl (.int .i64)) (.pair (.sl .bool) (.sl (.int .u8))))))) x0)), (6, .c (.mp 0)), (7, .c (.own 1)), (8, .c (.int .i64 x1)), (9, .c (.ptr 2 0)), (38, .c (.own 3)), (39, .c (.int .i64 x2)), (40, .c (.int .i64 x3))], [(0, .dict .i64 .bool x4), (1, .vec 63 (.pair (.int .i64) (.pair (.int .i64) (.pair (.int .i64) (.pair (.sl (.int .i64)) (.pair (.sl .bool) (.sl (.int .u8))))))) x5 true), (2, .cells 63 [.int .i64 x6, .int .i64 x7, .int .i64 x8, .own 3, .own 4, .own 5]), (3, .vec 3 (.int .i64) x9 true), (4, .vec 4 .bool x10 true), (5, .vec 5 (.int .u8) x11 true)], 6, 0⟩
def E48_2 (K : Ev.Ex → Ev.St → Option Ans) : ((List (Int × (Int × (Int × ((List Int) × ((List Bool) × (List Int))))))) × Int × (List (Int × Bool)) × (List (Int × (Int × (Int × ((List Int) × ((List Bool) × (List Int))))))) × Int × Int × Int × (List Int) × (List Bool) × (List Int) → Option Ans) := (fun v => match v with | (x0, x1, x2, x3, x4, x5, x6, x7, x8, x9) => K .normal ⟨[(0, .c (.sl (.pair (.int .i64) (.pair (.int .i64) (.pair (.int .i64) (.pair (.sl (.int .i64)) (.pair (.sl .bool) (.sl (.int .u8))))))) x0)), (6, .c (.mp 0)), (7, .c (.own 1)), (8, .c (.int .i64 x1)), (9, .c (.ptr 2 0))], [(0, .dict .i64 .bool x2), (1, .vec 63 (.pair (.int .i64) (.pair (.int .i64) (.pair (.int .i64) (.pair (.sl (.int .i64)) (.pair (.sl .bool) (.sl (.int .u8))))))) x3 true), (2, .cells 63 [.int .i64 x4, .int .i64 x5, .int .i64 x6, .own 3, .own 4, .own 5]), (3, .vec 3 (.int .i64) x7 true), (4, .vec 4 .bool x8 true), (5, .vec 5 (.int .u8) x9 true)], 6, 0⟩)
theorem S48_2_okg (fuel : Nat) (f83 : YF83) (f84 : YF84) (R : Ev.St → Option Ans) (K : Ev.Ex → Ev.St → Option Ans) (x0 : (List (Int × (Int × (Int × ((List Int) × ((List Bool) × (List Int)))))))) (x1 : Int) (x2 : Int) (x3 : Int) (x4 : (List (Int × Bool))) (x5 : (List (Int × (Int × (Int × ((List Int) × ((List Bool) × (List Int)))))))) (x6 : Int) (x7 : Int) (x8 : Int) (x9 : (List Int)) (x10 : (List Bool)) (x11 : (List Int)) : evalCode tab (Gg48 f83 f84) (J48_2 fuel) kp48 fuel (bodyOf 2 Try.f48) (T48_2 (x0, x1, x2, x3, x4, x5, x6, x7, x8, x9, x10, x11)) (lc kp48 11 2 R K) = (fun (c : ((List (Int × (Int × (Int × ((List Int) × ((List Bool) × (List Int))))))) × Int × Int × Int × (List (Int × Bool)) × (List (Int × (Int × (Int × ((List Int) × ((List Bool) × (List Int))))))) × Int × Int × Int × (List Int) × (List Bool) × (List Int)) → Option Ans) (B : ((List (Int × (Int × (Int × ((List Int) × ((List Bool) × (List Int))))))) × Int × (List (Int × Bool)) × (List (Int × (Int × (Int × ((List Int) × ((List Bool) × (List Int))))))) × Int × Int × Int × (List Int) × (List Bool) × (List Int) → Option Ans)) => match B with
  | b =>
   bif Decidable.decide (x3 < x2) then
      bif Decidable.decide ((0 : Int) ≤ x3 ∧ x3 < (↑x9.length : Int)) then
      bif Decidable.decide ((0 : Int) ≤ x3 ∧ x3 < (↑x10.length : Int)) then
       c (x0, x1, x2, Go.IntKind.i64.wrap (x3 + (1 : Int)), x4, x5, x6, x7, x8, x9, x10.set x3.toNat (Ev.mget Bool.false (x9.getD x3.toNat (0 : Int)) x4), x11)
       else none
      else none
     else
      b (x0, x1, x4, x5, x6, x7, x8, x9, x10, x11)) (fun v => R (T48_2 v)) (E48_2 K) := by
  kernel_rfl
theorem S48_2_ok (fuel : Nat) (R : Ev.St → Option Ans) (K : Ev.Ex → Ev.St → Option Ans) (x0 : (List (Int × (Int × (Int × ((List Int) × ((List Bool) × (List Int)))))))) (x1 : Int) (x2 : Int) (x3 : Int) (x4 : (List (Int × Bool))) (x5 : (List (Int × (Int × (Int × ((List Int) × ((List Bool) × (List Int)))))))) (x6 : Int) (x7 : Int) (x8 : Int) (x9 : (List Int)) (x10 : (List Bool)) (x11 : (List Int)) : evalCode tab (G48 fuel) (J48_2 fuel) kp48 fuel (bodyOf 2 Try.f48) (T48_2 (x0, x1, x2, x3, x4, x5, x6, x7, x8, x9, x10, x11)) (lc kp48 11 2 R K) = S_segment_Drop_2 fuel (x0, x1, x2, x3, x4, x5, x6, x7, x8, x9, x10, x11) (fun v => R (T48_2 v)) (E48_2 K) :=
  S48_2_okg fuel (F_segment_order fuel) (F_segment_clone fuel) R K x0 x1 x2 x3 x4 x5 x6 x7 x8 x9 x10 x11
def B48_2 (fuel : Nat) : Ev.Blk := fun st K => match canonO (kp48 11) st with
  | some s => (match s with
    | ⟨[(q0, .c (.sl (.pair (.int .i64) (.pair (.int .i64) (.pair (.int .i64) (.pair (.sl (.int .i64)) (.pair (.sl .bool) (.sl (.int .u8))))))) x0)), (q1, .c (.mp q2)), (q3, .c (.own q4)), (q5, .c (.int .i64 x1)), (q6, .c (.ptr q7 q8)), (q9, .c (.own q10)), (q11, .c (.int .i64 x2)), (q12, .c (.int .i64 x3))], [(q13, .dict .i64 .bool x4), (q14, .vec q15 (.pair (.int .i64) (.pair (.int .i64) (.pair (.int .i64) (.pair (.sl (.int .i64)) (.pair (.sl .bool) (.sl (.int .u8))))))) x5 true), (q16, .cells q17 [.int .i64 x6, .int .i64 x7, .int .i64 x8, .own q18, .own q19, .own q20]), (q21, .vec q22 (.int .i64) x9 true), (q23, .vec q24 .bool x10 true), (q25, .vec q26 (.int .u8) x11 true)], q27, q28⟩ => bif Nat.beq q0 0 && Nat.beq q1 6 && Nat.beq q2 0 && Nat.beq q3 7 && Nat.beq q4 1 && Nat.beq q5 8 && Nat.beq q6 9 && Nat.beq q7 2 && Nat.beq q8 0 && Nat.beq q9 38 && Nat.beq q10 3 && Nat.beq q11 39 && Nat.beq q12 40 && Nat.beq q13 0 && Nat.beq q14 1 && Nat.beq q15 63 && Nat.beq q16 2 && Nat.beq q17 63 && Nat.beq q18 3 && Nat.beq q19 4 && Nat.beq q20 5 && Nat.beq q21 3 && Nat.beq q22 3 && Nat.beq q23 4 && Nat.beq q24 4 && Nat.beq q25 5 && Nat.beq q26 5 && Nat.beq q27 6 && Nat.beq q28 0 then iter (S_segment_Drop_2 fuel) fuel (x0, x1, x2, x3, x4, x5, x6, x7, x8, x9, x10, x11) (E48_2 K) else none
    | _ => none)
  | none => none
theorem B48_2_ok (fuel : Nat) (st : Ev.St) (K : Ev.Ex → Ev.St → Option Ans) (r : Ans) (h : B48_2 fuel st K = some r) : evalCode tab (G48 fuel) (J48_2 fuel) kp48 fuel (.block 2 (.loop (bodyOf 2 Try.f48))) st K = some r := by
  unfold B48_2 at h
  split at h
  · rename_i s hs
    split at h
    · obtain ⟨hb, h⟩ := cond_some' h
      simp only [Bool.and_eq_true, Nat.beq_eq, decide_eq_true_eq] at hb
      obtain ⟨⟨⟨⟨⟨⟨⟨⟨⟨⟨⟨⟨⟨⟨⟨⟨⟨⟨⟨⟨⟨⟨⟨⟨⟨⟨⟨⟨rfl, rfl⟩, rfl⟩, rfl⟩, rfl⟩, rfl⟩, rfl⟩, rfl⟩, rfl⟩, rfl⟩, rfl⟩, rfl⟩, rfl⟩, rfl⟩, rfl⟩, rfl⟩, rfl⟩, rfl⟩, rfl⟩, rfl⟩, rfl⟩, rfl⟩, rfl⟩, rfl⟩, rfl⟩, rfl⟩, rfl⟩, rfl⟩, rfl⟩ := hb
      exact blk_loop (S := T48_2) (ks := E48_2) (step := S_segment_Drop_2 fuel) (v := (_, _, _, _, _, _, _, _, _, _, _, _)) (by kernel_rfl) (by kernel_rfl) (fun R K v => by obtain ⟨x0, x1, x2, x3, x4, x5, x6, x7, x8, x9, x10, x11⟩ := v; exact S48_2_ok fuel R K x0 x1 x2 x3 x4 x5 x6 x7 x8 x9 x10 x11) hs h
    · cases h
  · cases h
def S_segment_Drop_4 (fuel : Nat) (v : (List (Int × (Int × (Int × ((List Int) × ((List Bool) × (List Int))))))) × Int × Int × Int × (List (Int × Bool)) × (List (Int × (Int × (Int × ((List Int) × ((List Bool) × (List Int))))))) × Int × Int × Int × (List Int) × (List Bool) × (List Int)) (c : ((List (Int × (Int × (Int × ((List Int) × ((List Bool) × (List Int))))))) × Int × Int × Int × (List (Int × Bool)) × (List (Int × (Int × (Int × ((List Int) × ((List Bool) × (List Int))))))) × Int × Int × Int × (List Int) × (List Bool) × (List Int)) → Option Ans) (B : ((List (Int × (Int × (Int × ((List Int) × ((List Bool) × (List Int))))))) × Int × (List (Int × Bool)) × (List (Int × (Int × (Int × ((List Int) × ((List Bool) × (List Int))))))) × Int × Int × Int × (List Int) × (List Bool) × (List Int) → Option Ans)) : Option Ans := match v, B with
  | (x0, x1, x2, x3, x4, x5, x6, x7, x8, x9, x10, x11), b =>
   bif Decidable.decide (x3 < x2) then
      bif Decidable.decide ((0 : Int) ≤ x3 ∧ x3 < (↑x9.length : Int)) then
      c (x0, x1, x2, Go.IntKind.i64.wrap (x3 + (1 : Int)), Ev.mput (x9.getD x3.toNat (0 : Int)) Bool.true x4, x5, x6, x7, x8, x9, x10, x11)
      else none
     else
      b (x0, x1, x4, x5, x6, x7, x8, x9, x10, x11)
def L_segment_Drop_4 (fuel : Nat) (v : (List (Int × (Int × (Int × ((List Int) × ((List Bool) × (List Int))))))) × Int × Int × Int × (List (Int × Bool)) × (List (Int × (Int × (Int × ((List Int) × ((List Bool) × (List Int))))))) × Int × Int × Int × (List Int) × (List Bool) × (List Int)) (b : ((List (Int × (Int × (Int × ((List Int) × ((List Bool) × (List Int))))))) × Int × (List (Int × Bool)) × (List (Int × (Int × (Int × ((List Int) × ((List Bool) × (List Int))))))) × Int × Int × Int × (List Int) × (List Bool) × (List Int) → Option Ans)) : Option Ans := iter (S_segment_Drop_4 fuel) fuel v b
def J48_4 (fuel : Nat) (i : Nat) : Option Ev.Blk := Ev.look i [(100002, B48_2 fuel)]
def T48_4 (v : (List (Int × (Int × (Int × ((List Int) × ((List Bool) × (List Int))))))) × Int × Int × Int × (List (Int × Bool)) × (List (Int × (Int × (Int × ((List Int) × ((List Bool) × (List Int))))))) × Int × Int × Int × (List Int) × (List Bool) × (List Int)) : Ev.St := match v with | (x0, x1, x2, x3, x4, x5, x6, x7, x8, x9, x10, x11) => ⟨[(0, .c (.sl (.pair (.int .i64) (.pair (.int .i64) (.pair (.int .i64) (.pair (.sl (.int .i64)) (.pair (.sl .bool) (.sl (.int .u8))))))) x0)), (6, .c (.mp 0)), (7, .c (.own 1)), (8, .c (.int .i64 x1)), (9, .c (.ptr 2 0)), (64, .c (.own 3)), (65, .c (.int .i64 x2)), (66, .c (.int .i64 x3))], [(0, .dict .i64 .bool x4), (1, .vec 63 (.pair (.int .i64) (.pair (.int .i64) (.pair (.int .i64) (.pair (.sl (.int .i64)) (.pair (.sl .bool) (.sl (.int .u8))))))) x5 true), (2, .cells 63 [.int .i64 x6, .int .i64 x7, .int .i64 x8, .own 3, .own 4, .own 5]), (3, .vec 3 (.int .i64) x9 true), (4, .vec 4 .bool x10 true), (5, .vec 5 (.int .u8) x11 true)], 6, 0⟩
def E48_4 (K : Ev.Ex → Ev.St → Option Ans) : ((List (Int × (Int × (Int × ((List Int) × ((List Bool) × (List Int))))))) × Int × (List (Int × Bool)) × (List (Int × (Int × (Int × ((List Int) × ((List Bool) × (List Int))))))) × Int × Int × Int × (List Int) × (List Bool) × (List Int) → Option Ans) := (fun v => match v with | (x0, x1, x2, x3, x4, x5, x6, x7, x8, x9) => K .normal ⟨[(0, .c (.sl (.pair (.int .i64) (.pair (.int .i64) (.pair (.int .i64) (.pair (.sl (.int .i64)) (.pair (.sl .bool) (.sl (.int .u8))))))) x0)), (6, .c (.mp 0)), (7, .c (.own 1)), (8, .c (.int .i64 x1)), (9, .c (.ptr 2 0))], [(0, .dict .i64 .bool x2), (1, .vec 63 (.pair (.int .i64) (.pair (.int .i64) (.pair (.int .i64) (.pair (.sl (.int .i64)) (.pair (.sl .bool) (.sl (.int .u8))))))) x3 true), (2, .cells 63 [.int .i64 x4, .int .i64 x5, .int .i64 x6, .own 3, .own 4, .own 5]), (3, .vec 3 (.int .i64) x7 true), (4, .vec 4 .bool x8 true), (5, .vec 5 (.int .u8) x9 true)], 6, 0⟩)
theorem S48_4_okg (fuel : Nat) (f83 : YF83) (f84 : YF84) (R : Ev.St → Option Ans) (K : Ev.Ex → Ev.St → Option Ans) (x0 : (List (Int × (Int × (Int × ((List Int) × ((List Bool) × (List Int)))))))) (x1 : Int) (x2 : Int) (x3 : Int) (x4 : (List (Int × Bool))) (x5 : (List (Int × (Int × (Int × ((List Int) × ((List Bool) × (List Int)))))))) (x6 : Int) (x7 : Int) (x8 : Int) (x9 : (List Int)) (x10 : (List Bool)) (x11 : (List Int)) : evalCode tab (Gg48 f83 f84) (J48_4 fuel) kp48 fuel (bodyOf 4 Try.f48) (T48_4 (x0, x1, x2, x3, x4, x5, x6, x7, x8, x9, x10, x11)) (lc kp48 17 4 R K) = (fun (c : ((List (Int × (Int × (Int × ((List Int) × ((List Bool) × (List Int))))))) × Int × Int × Int × (List (Int × Bool)) × (List (Int × (Int × (Int × ((List Int) × ((List Bool) × (List Int))))))) × Int × Int × Int × (List Int) × (List Bool) × (List Int)) → Option Ans) (B : ((List (Int × (Int × (Int × ((List Int) × ((List Bool) × (List Int))))))) × Int × (List (Int × Bool)) × (List (Int × (Int × (Int × ((List Int) × ((List Bool) × (List Int))))))) × Int × Int × Int × (List Int) × (List Bool) × (List Int) → Option Ans)) => match B with
  | b =>
   bif Decidable.decide (x3 < x2) then
      bif Decidable.decide ((0 : Int) ≤ x3 ∧ x3 < (↑x9.length : Int)) then
      c (x0, x1, x2, Go.IntKind.i64.wrap (x3 + (1 : Int)), Ev.mput (x9.getD x3.toNat (0 : Int)) Bool.true x4, x5, x6, x7, x8, x9, x10, x11)
      else none
     else
      b (x0, x1, x4, x5, x6, x7, x8, x9, x10, x11)) (fun v => R (T48_4 v)) (E48_4 K) := by
  kernel_rfl
theorem S48_4_ok (fuel : Nat) (R : Ev.St → Option Ans) (K : Ev.Ex → Ev.St → Option Ans) (x0 : (List (Int × (Int × (Int × ((List Int) × ((List Bool) × (List Int)))))))) (x1 : Int) (x2 : Int) (x3 : Int) (x4 : (List (Int × Bool))) (x5 : (List (Int × (Int × (Int × ((List Int) × ((List Bool) × (List Int)))))))) (x6 : Int) (x7 : Int) (x8 : Int) (x9 : (List Int)) (x10 : (List Bool)) (x11 : (List Int)) : evalCode tab (G48 fuel) (J48_4 fuel) kp48 fuel (bodyOf 4 Try.f48) (T48_4 (x0, x1, x2, x3, x4, x5, x6, x7, x8, x9, x10, x11)) (lc kp48 17 4 R K) = S_segment_Drop_4 fuel (x0, x1, x2, x3, x4, x5, x6, x7, x8, x9, x10, x11) (fun v => R (T48_4 v)) (E48_4 K) :=
  S48_4_okg fuel (F_segment_order fuel) (F_segment_clone fuel) R K x0 x1 x2 x3 x4 x5 x6 x7 x8 x9 x10 x11
def B48_4 (fuel : Nat) : Ev.Blk := fun st K => match canonO (kp48 17) st with
  | some s => (match s with
    | ⟨[(q0, .c (.sl (.pair (.int .i64) (.pair (.int .i64) (.pair (.int .i64) (.pair (.sl (.int .i64)) (.pair (.sl .bool) (.sl (.int .u8))))))) x0)), (q1, .c (.mp q2)), (q3, .c (.own q4)), (q5, .c (.int .i64 x1)), (q6, .c (.ptr q7 q8)), (q9, .c (.own q10)), (q11, .c (.int .i64 x2)), (q12, .c (.int .i64 x3))], [(q13, .dict .i64 .bool x4), (q14, .vec q15 (.pair (.int .i64) (.pair (.int .i64) (.pair (.int .i64) (.pair (.sl (.int .i64)) (.pair (.sl .bool) (.sl (.int .u8))))))) x5 true), (q16, .cells q17 [.int .i64 x6, .int .i64 x7, .int .i64 x8, .own q18, .own q19, .own q20]), (q21, .vec q22 (.int .i64) x9 true), (q23, .vec q24 .bool x10 true), (q25, .vec q26 (.int .u8) x11 true)], q27, q28⟩ => bif Nat.beq q0 0 && Nat.beq q1 6 && Nat.beq q2 0 && Nat.beq q3 7 && Nat.beq q4 1 && Nat.beq q5 8 && Nat.beq q6 9 && Nat.beq q7 2 && Nat.beq q8 0 && Nat.beq q9 64 && Nat.beq q10 3 && Nat.beq q11 65 && Nat.beq q12 66 && Nat.beq q13 0 && Nat.beq q14 1 && Nat.beq q15 63 && Nat.beq q16 2 && Nat.beq q17 63 && Nat.beq q18 3 && Nat.beq q19 4 && Nat.beq q20 5 && Nat.beq q21 3 && Nat.beq q22 3 && Nat.beq q23 4 && Nat.beq q24 4 && Nat.beq q25 5 && Nat.beq q26 5 && Nat.beq q27 6 && Nat.beq q28 0 then iter (S_segment_Drop_4 fuel) fuel (x0, x1, x2, x3, x4, x5, x6, x7, x8, x9, x10, x11) (E48_4 K) else none
    | _ => none)
  | none => none
theorem B48_4_ok (fuel : Nat) (st : Ev.St) (K : Ev.Ex → Ev.St → Option Ans) (r : Ans) (h : B48_4 fuel st K = some r) : evalCode tab (G48 fuel) (J48_4 fuel) kp48 fuel (.block 4 (.loop (bodyOf 4 Try.f48))) st K = some r := by
  unfold B48_4 at h
  split at h
  · rename_i s hs
    split at h
    · obtain ⟨hb, h⟩ := cond_some' h
      simp only [Bool.and_eq_true, Nat.beq_eq, decide_eq_true_eq] at hb
      obtain ⟨⟨⟨⟨⟨⟨⟨⟨⟨⟨⟨⟨⟨⟨⟨⟨⟨⟨⟨⟨⟨⟨⟨⟨⟨⟨⟨⟨rfl, rfl⟩, rfl⟩, rfl⟩, rfl⟩, rfl⟩, rfl⟩, rfl⟩, rfl⟩, rfl⟩, rfl⟩, rfl⟩, rfl⟩, rfl⟩, rfl⟩, rfl⟩, rfl⟩, rfl⟩, rfl⟩, rfl⟩, rfl⟩, rfl⟩, rfl⟩, rfl⟩, rfl⟩, rfl⟩, rfl⟩, rfl⟩, rfl⟩ := hb
      exact blk_loop (S := T48_4) (ks := E48_4) (step := S_segment_Drop_4 fuel) (v := (_, _, _, _, _, _, _, _, _, _, _, _)) (by kernel_rfl) (by kernel_rfl) (fun R K v => by obtain ⟨x0, x1, x2, x3, x4, x5, x6, x7, x8, x9, x10, x11⟩ := v; exact S48_4_ok fuel R K x0 x1 x2 x3 x4 x5 x6 x7 x8 x9 x10 x11) hs h
    · cases h
  · cases h
def S_segment_Drop_0 (fuel : Nat) (v : (List (Int × (Int × (Int × ((List Int) × ((List Bool) × (List Int))))))) × Int × (List (Int × Bool)) × (List (Int × (Int × (Int × ((List Int) × ((List Bool) × (List Int)))))))) (c : ((List (Int × (Int × (Int × ((List Int) × ((List Bool) × (List Int))))))) × Int × (List (Int × Bool)) × (List (Int × (Int × (Int × ((List Int) × ((List Bool) × (List Int)))))))) → Option Ans) (B : ((List (Int × (Int × (Int × ((List Int) × ((List Bool) × (List Int))))))) → Option Ans)) : Option Ans := match v, B with
  | (x0, x1, x2, x3), b =>
   bif Decidable.decide (x1 ≥ (0 : Int)) then
      bif Decidable.decide ((0 : Int) ≤ x1 ∧ x1 < (↑x0.length : Int)) then
      (F_segment_clone fuel ((x0.getD x1.toNat ((0 : Int), (0 : Int), (0 : Int), [], [], [])).fst) ((x0.getD x1.toNat ((0 : Int), (0 : Int), (0 : Int), [], [], [])).snd.fst) ((x0.getD x1.toNat ((0 : Int), (0 : Int), (0 : Int), [], [], [])).snd.snd.fst) ((x0.getD x1.toNat ((0 : Int), (0 : Int), (0 : Int), [], [], [])).snd.snd.snd.fst) ((x0.getD x1.toNat ((0 : Int), (0 : Int), (0 : Int), [], [], [])).snd.snd.snd.snd.fst) ((x0.getD x1.toNat ((0 : Int), (0 : Int), (0 : Int), [], [], [])).snd.snd.snd.snd.snd)
         (fun (y4_0, y4_1, y4_2, y4_3, y4_4, y4_5) =>
           (L_segment_Drop_2 fuel (x0, x1, (↑y4_3.length : Int), (0 : Int), x2, x3, y4_0, y4_1, y4_2, y4_3, y4_4, y4_5)
             (fun (b2_0, b2_1, b2_2, b2_3, b2_4, b2_5, b2_6, b2_7, b2_8, b2_9) =>
               bif Decidable.decide ((0 : Int) ≤ (↑b2_7.length : Int) ∧ (↑b2_7.length : Int) < (↑b2_8.length : Int)) then
               (L_segment_Drop_4 fuel (b2_0, b2_1, (↑b2_7.length : Int), (0 : Int), b2_2, b2_3, b2_4, b2_5, b2_6, b2_7, b2_8.set (↑b2_7.length : Int).toNat (Ev.mget Bool.false b2_4 b2_2), b2_9)
                  (fun (b4_0, b4_1, b4_2, b4_3, b4_4, b4_5, b4_6, b4_7, b4_8, b4_9) =>
                    bif Decidable.decide ((0 : Int) ≤ b4_1 ∧ b4_1 < (↑b4_3.length : Int)) then
                    c (b4_0, Go.IntKind.i64.wrap (b4_1 - (1 : Int)), b4_2, b4_3.set b4_1.toNat (b4_4, b4_5, b4_6, b4_7, b4_8, b4_9))
                    else none))
               else none))))
      else none
     else
      b x3
def L_segment_Drop_0 (fuel : Nat) (v : (List (Int × (Int × (Int × ((List Int) × ((List Bool) × (List Int))))))) × Int × (List (Int × Bool)) × (List (Int × (Int × (Int × ((List Int) × ((List Bool) × (List Int)))))))) (b : ((List (Int × (Int × (Int × ((List Int) × ((List Bool) × (List Int))))))) → Option Ans)) : Option Ans := iter (S_segment_Drop_0 fuel) fuel v b
def J48_0 (fuel : Nat) (i : Nat) : Option Ev.Blk := Ev.look i [(100002, B48_2 fuel), (100004, B48_4 fuel)]
def T48_0 (v : (List (Int × (Int × (Int × ((List Int) × ((List Bool) × (List Int))))))) × Int × (List (Int × Bool)) × (List (Int × (Int × (Int × ((List Int) × ((List Bool) × (List Int)))))))) : Ev.St := match v with | (x0, x1, x2, x3) => ⟨[(0, .c (.sl (.pair (.int .i64) (.pair (.int .i64) (.pair (.int .i64) (.pair (.sl (.int .i64)) (.pair (.sl .bool) (.sl (.int .u8))))))) x0)), (6, .c (.mp 0)), (7, .c (.own 1)), (8, .c (.int .i64 x1))], [(0, .dict .i64 .bool x2), (1, .vec 63 (.pair (.int .i64) (.pair (.int .i64) (.pair (.int .i64) (.pair (.sl (.int .i64)) (.pair (.sl .bool) (.sl (.int .u8))))))) x3 true)], 2, 0⟩
def E48_0 (K : Ev.Ex → Ev.St → Option Ans) : ((List (Int × (Int × (Int × ((List Int) × ((List Bool) × (List Int))))))) → Option Ans) := (fun v => match v with | x0 => K .normal ⟨[(7, .c (.own 0))], [(0, .vec 63 (.pair (.int .i64) (.pair (.int .i64) (.pair (.int .i64) (.pair (.sl (.int .i64)) (.pair (.sl .bool) (.sl (.int .u8))))))) x0 true)], 1, 0⟩)
theorem S48_0_okg (fuel : Nat) (f83 : YF83) (f84 : YF84) (R : Ev.St → Option Ans) (K : Ev.Ex → Ev.St → Option Ans) (x0 : (List (Int × (Int × (Int × ((List Int) × ((List Bool) × (List Int)))))))) (x1 : Int) (x2 : (List (Int × Bool))) (x3 : (List (Int × (Int × (Int × ((List Int) × ((List Bool) × (List Int)))))))) : evalCode tab (Gg48 f83 f84) (J48_0 fuel) kp48 fuel (bodyOf 0 Try.f48) (T48_0 (x0, x1, x2, x3)) (lc kp48 7 0 R K) = (fun (c : ((List (Int × (Int × (Int × ((List Int) × ((List Bool) × (List Int))))))) × Int × (List (Int × Bool)) × (List (Int × (Int × (Int × ((List Int) × ((List Bool) × (List Int)))))))) → Option Ans) (B : ((List (Int × (Int × (Int × ((List Int) × ((List Bool) × (List Int))))))) → Option Ans)) => match B with
  | b =>
   bif Decidable.decide (x1 ≥ (0 : Int)) then
      bif Decidable.decide ((0 : Int) ≤ x1 ∧ x1 < (↑x0.length : Int)) then
      (f84 ((x0.getD x1.toNat ((0 : Int), (0 : Int), (0 : Int), [], [], [])).fst) ((x0.getD x1.toNat ((0 : Int), (0 : Int), (0 : Int), [], [], [])).snd.fst) ((x0.getD x1.toNat ((0 : Int), (0 : Int), (0 : Int), [], [], [])).snd.snd.fst) ((x0.getD x1.toNat ((0 : Int), (0 : Int), (0 : Int), [], [], [])).snd.snd.snd.fst) ((x0.getD x1.toNat ((0 : Int), (0 : Int), (0 : Int), [], [], [])).snd.snd.snd.snd.fst) ((x0.getD x1.toNat ((0 : Int), (0 : Int), (0 : Int), [], [], [])).snd.snd.snd.snd.snd)
         (fun (y4_0, y4_1, y4_2, y4_3, y4_4, y4_5) =>
           (L_segment_Drop_2 fuel (x0, x1, (↑y4_3.length : Int), (0 : Int), x2, x3, y4_0, y4_1, y4_2, y4_3, y4_4, y4_5)
             (fun (b2_0, b2_1, b2_2, b2_3, b2_4, b2_5, b2_6, b2_7, b2_8, b2_9) =>
               bif Decidable.decide ((0 : Int) ≤ (↑b2_7.length : Int) ∧ (↑b2_7.length : Int) < (↑b2_8.length : Int)) then
               (L_segment_Drop_4 fuel (b2_0, b2_1, (↑b2_7.length : Int), (0 : Int), b2_2, b2_3, b2_4, b2_5, b2_6, b2_7, b2_8.set (↑b2_7.length : Int).toNat (Ev.mget Bool.false b2_4 b2_2), b2_9)
                  (fun (b4_0, b4_1, b4_2, b4_3, b4_4, b4_5, b4_6, b4_7, b4_8, b4_9) =>
                    bif Decidable.decide ((0 : Int) ≤ b4_1 ∧ b4_1 < (↑b4_3.length : Int)) then
                    c (b4_0, Go.IntKind.i64.wrap (b4_1 - (1 : Int)), b4_2, b4_3.set b4_1.toNat (b4_4, b4_5, b4_6, b4_7, b4_8, b4_9))
                    else none))
               else none))))
      else none
     else
      b x3) (fun v => R (T48_0 v)) (E48_0 K) := by
  kernel_rfl
theorem S48_0_ok (fuel : Nat) (R : Ev.St → Option Ans) (K : Ev.Ex → Ev.St → Option Ans) (x0 : (List (Int × (Int × (Int × ((List Int) × ((List Bool) × (List Int)))))))) (x1 : Int) (x2 : (List (Int × Bool))) (x3 : (List (Int × (Int × (Int × ((List Int) × ((List Bool) × (List Int)))))))) : evalCode tab (G48 fuel) (J48_0 fuel) kp48 fuel (bodyOf 0 Try.f48) (T48_0 (x0, x1, x2, x3)) (lc kp48 7 0 R K) = S_segment_Drop_0 fuel (x0, x1, x2, x3) (fun v => R (T48_0 v)) (E48_0 K) :=
  S48_0_okg fuel (F_segment_order fuel) (F_segment_clone fuel) R K x0 x1 x2 x3
def B48_0 (fuel : Nat) : Ev.Blk := fun st K => match canonO (kp48 7) st with
  | some s => (match s with
    | ⟨[(q0, .c (.sl (.pair (.int .i64) (.pair (.int .i64) (.pair (.int .i64) (.pair (.sl (.int .i64)) (.pair (.sl .bool) (.sl (.int .u8))))))) x0)), (q1, .c (.mp q2)), (q3, .c (.own q4)), (q5, .c (.int .i64 x1))], [(q6, .dict .i64 .bool x2), (q7, .vec q8 (.pair (.int .i64) (.pair (.int .i64) (.pair (.int .i64) (.pair (.sl (.int .i64)) (.pair (.sl .bool) (.sl (.int .u8))))))) x3 true)], q9, q10⟩ => bif Nat.beq q0 0 && Nat.beq q1 6 && Nat.beq q2 0 && Nat.beq q3 7 && Nat.beq q4 1 && Nat.beq q5 8 && Nat.beq q6 0 && Nat.beq q7 1 && Nat.beq q8 63 && Nat.beq q9 2 && Nat.beq q10 0 then iter (S_segment_Drop_0 fuel) fuel (x0, x1, x2, x3) (E48_0 K) else none
    | _ => none)
  | none => none
theorem B48_0_ok (fuel : Nat) (st : Ev.St) (K : Ev.Ex → Ev.St → Option Ans) (r : Ans) (h : B48_0 fuel st K = some r) : evalCode tab (G48 fuel) (J48_0 fuel) kp48 fuel (.block 0 (.loop (bodyOf 0 Try.f48))) st K = some r := by
  unfold B48_0 at h
  split at h
  · rename_i s hs
    split at h
    · obtain ⟨hb, h⟩ := cond_some' h
      simp only [Bool.and_eq_true, Nat.beq_eq, decide_eq_true_eq] at hb
      obtain ⟨⟨⟨⟨⟨⟨⟨⟨⟨⟨rfl, rfl⟩, rfl⟩, rfl⟩, rfl⟩, rfl⟩, rfl⟩, rfl⟩, rfl⟩, rfl⟩, rfl⟩ := hb
      exact blk_loop (S := T48_0) (ks := E48_0) (step := S_segment_Drop_0 fuel) (v := (_, _, _, _)) (by kernel_rfl) (by kernel_rfl) (fun R K v => by obtain ⟨x0, x1, x2, x3⟩ := v; exact S48_0_ok fuel R K x0 x1 x2 x3) hs h
    · cases h
  · cases h
def J48 (fuel : Nat) (i : Nat) : Option Ev.Blk := Ev.look i [(100002, B48_2 fuel), (100004, B48_4 fuel), (100000, B48_0 fuel)]
def F_segment_Drop (fuel : Nat) (x0 : (List (Int × Int × Int × (List Int) × (List Bool) × (List Int)))) (k0 : (Int × (List (Int × (Int × (Int × ((List Int) × ((List Bool) × (List Int)))))))) → Option Ans) : Option Ans :=
  (F_segment_order fuel (x0)
    (fun (y2_0, y2_1) =>
      bif Decidable.decide (y2_0 ≥ (0 : Int)) then
       k0 ((40 : Int), [])
      else
       bif Decidable.decide ((0 : Int) ≤ (↑x0.length : Int) ∧ (↑x0.length : Int) = (↑x0.length : Int) ∧ (↑(96 : Nat) : Int) * (↑x0.length : Int) ≤ (281474976710656 : Int) ∧ (↑x0.length : Int) ≤ (281474976710656 : Int)) then
       (L_segment_Drop_0 fuel (x0, Go.IntKind.i64.wrap ((↑x0.length : Int) - (1 : Int)), [], List.replicate (↑x0.length : Int).toNat ((0 : Int), (0 : Int), (0 : Int), [], [], []))
          (fun b0_0 =>
            k0 ((0 : Int), b0_0)))
       else none))
abbrev YF48 : Type := ((List (Int × Int × Int × (List Int) × (List Bool) × (List Int)))) → ((Int × (List (Int × (Int × (Int × ((List Int) × ((List Bool) × (List Int)))))))) → Option Ans) → Option Ans
theorem F48_eqg (fuel : Nat) (f83 : YF83) (f84 : YF84) (x0 : (List (Int × Int × Int × (List Int) × (List Bool) × (List Int)))) (k : Ev.Cont) : evalFn tab (Gg48 f83 f84) (J48 fuel) kp48 fuel Try.f48 [.c (.sl (.pair (.int .i64) (.pair (.int .i64) (.pair (.int .i64) (.pair (.sl (.int .i64)) (.pair (.sl .bool) (.sl (.int .u8))))))) x0)] [] k = (fun  (k0 : (Int × (List (Int × (Int × (Int × ((List Int) × ((List Bool) × (List Int)))))))) → Option Ans) =>
  (f83 (x0)
    (fun (y2_0, y2_1) =>
      bif Decidable.decide (y2_0 ≥ (0 : Int)) then
       k0 ((40 : Int), [])
      else
       bif Decidable.decide ((0 : Int) ≤ (↑x0.length : Int) ∧ (↑x0.length : Int) = (↑x0.length : Int) ∧ (↑(96 : Nat) : Int) * (↑x0.length : Int) ≤ (281474976710656 : Int) ∧ (↑x0.length : Int) ≤ (281474976710656 : Int)) then
       (L_segment_Drop_0 fuel (x0, Go.IntKind.i64.wrap ((↑x0.length : Int) - (1 : Int)), [], List.replicate (↑x0.length : Int).toNat ((0 : Int), (0 : Int), (0 : Int), [], [], []))
          (fun b0_0 =>
            k0 ((0 : Int), b0_0)))
       else none))) (fun r => match r with | (r0, r1) => k (.tup [(false, [.own 0]), (false, [.int .i64 r0])], [.vec 63 (.pair (.int .i64) (.pair (.int .i64) (.pair (.int .i64) (.pair (.sl (.int .i64)) (.pair (.sl .bool) (.sl (.int .u8))))))) r1 true])) := by
  kernel_rfl
theorem F48_eq (fuel : Nat) (x0 : (List (Int × Int × Int × (List Int) × (List Bool) × (List Int)))) (k : Ev.Cont) : evalFn tab (G48 fuel) (J48 fuel) kp48 fuel Try.f48 [.c (.sl (.pair (.int .i64) (.pair (.int .i64) (.pair (.int .i64) (.pair (.sl (.int .i64)) (.pair (.sl .bool) (.sl (.int .u8))))))) x0)] [] k = F_segment_Drop fuel x0 (fun r => match r with | (r0, r1) => k (.tup [(false, [.own 0]), (false, [.int .i64 r0])], [.vec 63 (.pair (.int .i64) (.pair (.int .i64) (.pair (.int .i64) (.pair (.sl (.int .i64)) (.pair (.sl .bool) (.sl (.int .u8))))))) r1 true])) :=
  F48_eqg fuel (F_segment_order fuel) (F_segment_clone fuel) x0 k
theorem hG48 (fuel : Nat) : GOK Try.prog (G48 fuel) :=
  gok_cons ⟨ok83 fuel, enters_of Try.func83 (by kernel_rfl) rfl⟩ <|
  gok_cons ⟨ok84 fuel, enters_of Try.func84 (by kernel_rfl) rfl⟩ <|
  gok_nil
theorem B48_2_blk (fuel : Nat) : BlkOK Try.prog Try.f48.ntmps (.block 2 (.loop (bodyOf 2 Try.f48))) (B48_2 fuel) :=
  blk_of (blk_of_code tab_ok (hG48 fuel) mixed (J := J48_2 fuel) (kp := kp48) (fuel := fuel) (by kernel_rfl) (fun q hq => by
    rw [(by kernel_rfl : obl (J48_2 fuel) (.block 2 (.loop (bodyOf 2 Try.f48))) = [])] at hq
    cases hq)) (B48_2_ok fuel)
theorem B48_4_blk (fuel : Nat) : BlkOK Try.prog Try.f48.ntmps (.block 4 (.loop (bodyOf 4 Try.f48))) (B48_4 fuel) :=
  blk_of (blk_of_code tab_ok (hG48 fuel) mixed (J := J48_4 fuel) (kp := kp48) (fuel := fuel) (by kernel_rfl) (fun q hq => by
    rw [(by kernel_rfl : obl (J48_4 fuel) (.block 4 (.loop (bodyOf 4 Try.f48))) = [])] at hq
    cases hq)) (B48_4_ok fuel)
theorem B48_0_blk (fuel : Nat) : BlkOK Try.prog Try.f48.ntmps (.block 0 (.loop (bodyOf 0 Try.f48))) (B48_0 fuel) :=
  blk_of (blk_of_code tab_ok (hG48 fuel) mixed (J := J48_0 fuel) (kp := kp48) (fuel := fuel) (by kernel_rfl) (fun q hq => by
    rw [(by kernel_rfl : obl (J48_0 fuel) (.block 0 (.loop (bodyOf 0 Try.f48))) = [(.block 2 (.loop (bodyOf 2 Try.f48)), B48_2 fuel), (.block 4 (.loop (bodyOf 4 Try.f48)), B48_4 fuel)])] at hq
    simp only [List.mem_cons, List.not_mem_nil, or_false] at hq
    rcases hq with rfl | rfl
    · exact B48_2_blk fuel
    · exact B48_4_blk fuel)) (B48_0_ok fuel)
theorem fok48 (fuel : Nat) : FnOK Try.prog 48 (evalFn tab (G48 fuel) (J48 fuel) kp48 fuel Try.f48) :=
  fn_ok tab_ok (hG48 fuel) mixed Try.func48 (c := (Try.f48.body).getD .skip) rfl (fun q hq => by
    rw [(by kernel_rfl : obl (J48 fuel) ((Try.f48.body).getD .skip) = [(.block 0 (.loop (bodyOf 0 Try.f48)), B48_0 fuel)])] at hq
    simp only [List.mem_cons, List.not_mem_nil, or_false] at hq
    subst hq
    · exact B48_0_blk fuel)
def mt48 : List Ev.SV → List Ev.Ob → Bool := fun args objs => match args, objs with
  | [.c (.sl (.pair (.int .i64) (.pair (.int .i64) (.pair (.int .i64) (.pair (.sl (.int .i64)) (.pair (.sl .bool) (.sl (.int .u8))))))) _)], [] => true
  | _, _ => false
def spg48 (F : YF48) : Ev.Spec := fun args objs k => match args, objs with
  | [.c (.sl (.pair (.int .i64) (.pair (.int .i64) (.pair (.int .i64) (.pair (.sl (.int .i64)) (.pair (.sl .bool) (.sl (.int .u8))))))) x0)], [] => bif true then F x0 (fun r => match r with | (r0, r1) => k (.tup [(false, [.own 0]), (false, [.int .i64 r0])], [.vec 63 (.pair (.int .i64) (.pair (.int .i64) (.pair (.int .i64) (.pair (.sl (.int .i64)) (.pair (.sl .bool) (.sl (.int .u8))))))) r1 true])) else none
  | _, _ => none
def spec48 (fuel : Nat) : Ev.Spec := spg48 (F_segment_Drop fuel)
theorem ok48 (fuel : Nat) : FnOK Try.prog 48 (spec48 fuel) := by
  intro args objs kk r h
  unfold spec48 spg48 at h
  split at h
  · obtain ⟨hb, h⟩ := cond_some' h
    simp only [Bool.and_eq_true, Nat.beq_eq, decide_eq_true_eq] at hb
    clear hb
    exact fok48 fuel _ _ kk r ((F48_eq fuel _ kk).trans h)
  · cases h
end Go.Proofs.Ytajidgilfkineaa

set_option linter.unusedVariables false
set_option linter.unusedSimpArgs false
set_option maxRecDepth 100000
namespace Go.Proofs.Ytajidgilfkineaa
open Go Ev
def kp10 (i : Nat) : Option (List Nat) := Ev.look i []
def Gg10 (f39 : YF39) (f40 : YF40) (f48 : YF48) (f49 : YF49) (f50 : YF50) (f : Nat) : Option Ev.Spec := Ev.look f [(39, spg39 f39), (40, spg40 f40), (48, spg48 f48), (49, spg49 f49), (50, spg50 f50)]
def G10 (fuel : Nat) : Nat → Option Ev.Spec := Gg10 (F_law12_large fuel) (F_law12_Awake fuel) (F_segment_Drop fuel) (F_ref12_Drop fuel) (F_ref12_SameList fuel)
def J10 (fuel : Nat) (i : Nat) : Option Ev.Blk := Ev.look i []
def F_law12_SegmentDrop (fuel : Nat) (x0 : (List (Int × Int × Int × (List Int) × (List Bool) × (List Int)))) (k0 : (Bool) → Option Ans) : Option Ans :=
  (F_law12_large fuel (x0)
    (fun y2 =>
      bif y2 then
       (F_law12_Awake fuel
         (fun y7 =>
           k0 y7))
      else
       (F_segment_Drop fuel (x0)
         (fun (y7_0, y7_1) =>
           (F_ref12_Drop fuel (x0)
             (fun (y11_0, y11_1) =>
               bif y7_0 == y11_0 then
                (F_ref12_SameList fuel (y7_1) (y11_1)
                  (fun y16 =>
                    bif y16 then
                     (F_law12_Awake fuel
                       (fun y21 =>
                         k0 y21))
                    else
                     k0 Bool.false))
               else
                k0 Bool.false))))))
abbrev YF10 : Type := ((List (Int × Int × Int × (List Int) × (List Bool) × (List Int)))) → ((Bool) → Option Ans) → Option Ans
theorem F10_eqg (fuel : Nat) (f39 : YF39) (f40 : YF40) (f48 : YF48) (f49 : YF49) (f50 : YF50) (x0 : (List (Int × Int × Int × (List Int) × (List Bool) × (List Int)))) (k : Ev.Cont) : evalFn tab (Gg10 f39 f40 f48 f49 f50) (J10 fuel) kp10 fuel Try.f10 [.c (.sl (.pair (.int .i64) (.pair (.int .i64) (.pair (.int .i64) (.pair (.sl (.int .i64)) (.pair (.sl .bool) (.sl (.int .u8))))))) x0)] [] k = (fun  (k0 : (Bool) → Option Ans) =>
  (f39 (x0)
    (fun y2 =>
      bif y2 then
       (f40
         (fun y7 =>
           k0 y7))
      else
       (f48 (x0)
         (fun (y7_0, y7_1) =>
           (f49 (x0)
             (fun (y11_0, y11_1) =>
               bif y7_0 == y11_0 then
                (f50 (y7_1) (y11_1)
                  (fun y16 =>
                    bif y16 then
                     (f40
                       (fun y21 =>
                         k0 y21))
                    else
                     k0 Bool.false))
               else
                k0 Bool.false))))))) (fun r => match r with | r0 => k (.c (.bool r0), [])) := by
  kernel_rfl
theorem F10_eq (fuel : Nat) (x0 : (List (Int × Int × Int × (List Int) × (List Bool) × (List Int)))) (k : Ev.Cont) : evalFn tab (G10 fuel) (J10 fuel) kp10 fuel Try.f10 [.c (.sl (.pair (.int .i64) (.pair (.int .i64) (.pair (.int .i64) (.pair (.sl (.int .i64)) (.pair (.sl .bool) (.sl (.int .u8))))))) x0)] [] k = F_law12_SegmentDrop fuel x0 (fun r => match r with | r0 => k (.c (.bool r0), [])) :=
  F10_eqg fuel (F_law12_large fuel) (F_law12_Awake fuel) (F_segment_Drop fuel) (F_ref12_Drop fuel) (F_ref12_SameList fuel) x0 k
theorem hG10 (fuel : Nat) : GOK Try.prog (G10 fuel) :=
  gok_cons ⟨ok39 fuel, enters_of Try.func39 (by kernel_rfl) rfl⟩ <|
  gok_cons ⟨ok40 fuel, enters_of Try.func40 (by kernel_rfl) rfl⟩ <|
  gok_cons ⟨ok48 fuel, enters_of Try.func48 (by kernel_rfl) rfl⟩ <|
  gok_cons ⟨ok49 fuel, enters_of Try.func49 (by kernel_rfl) rfl⟩ <|
  gok_cons ⟨ok50 fuel, enters_of Try.func50 (by kernel_rfl) rfl⟩ <|
  gok_nil
theorem fok10 (fuel : Nat) : FnOK Try.prog 10 (evalFn tab (G10 fuel) (J10 fuel) kp10 fuel Try.f10) :=
  fn_ok tab_ok (hG10 fuel) mixed Try.func10 (c := (Try.f10.body).getD .skip) rfl (fun q hq => by
    rw [(by kernel_rfl : obl (J10 fuel) ((Try.f10.body).getD .skip) = [])] at hq
    cases hq)
def mt10 : List Ev.SV → List Ev.Ob → Bool := fun args objs => match args, objs with
  | [.c (.sl (.pair (.int .i64) (.pair (.int .i64) (.pair (.int .i64) (.pair (.sl (.int .i64)) (.pair (.sl .bool) (.sl (.int .u8))))))) _)], [] => true
  | _, _ => false
def spg10 (F : YF10) : Ev.Spec := fun args objs k => match args, objs with
  | [.c (.sl (.pair (.int .i64) (.pair (.int .i64) (.pair (.int .i64) (.pair (.sl (.int .i64)) (.pair (.sl .bool) (.sl (.int .u8))))))) x0)], [] => bif true then F x0 (fun r => match r with | r0 => k (.c (.bool r0), [])) else none
  | _, _ => none
def spec10 (fuel : Nat) : Ev.Spec := spg10 (F_law12_SegmentDrop fuel)
theorem ok10 (fuel : Nat) : FnOK Try.prog 10 (spec10 fuel) := by
  intro args objs kk r h
  unfold spec10 spg10 at h
  split at h
  · obtain ⟨hb, h⟩ := cond_some' h
    simp only [Bool.and_eq_true, Nat.beq_eq, decide_eq_true_eq] at hb
    clear hb
    exact fok10 fuel _ _ kk r ((F10_eq fuel _ kk).trans h)
  · cases h
end Go.Proofs.Ytajidgilfkineaa

set_option linter.unusedVariables false
set_option linter.unusedSimpArgs false
set_option maxRecDepth 100000
namespace Go.Proofs.Ytajidgilfkineaa
open Go Ev
def kp107 (i : Nat) : Option (List Nat) := Ev.look i []
def Gg107 (f : Nat) : Option Ev.Spec := Ev.look f []
def G107 (fuel : Nat) : Nat → Option Ev.Spec := Gg107
def J107 (fuel : Nat) (i : Nat) : Option Ev.Blk := Ev.look i []
def F_bitmap_fits (fuel : Nat) (x0 : Int) (x1 : Int) (k0 : (Bool) → Option Ans) : Option Ans :=
  bif Decidable.decide (x0 ≥ (0 : Int)) then
   bif Decidable.decide (x1 ≥ (0 : Int)) then
    bif Decidable.decide (x0 ≤ (200 : Int)) then
     bif Decidable.decide (x1 ≤ (200 : Int)) then
      k0 (Decidable.decide (Go.IntKind.i64.wrap (x0 * x1) ≤ (8192 : Int)))
     else
      k0 Bool.false
    else
     k0 Bool.false
   else
    k0 Bool.false
  else
   k0 Bool.false
abbrev YF107 : Type := (Int) → (Int) → ((Bool) → Option Ans) → Option Ans
theorem F107_eq (fuel : Nat) (x0 : Int) (x1 : Int) (k : Ev.Cont) : evalFn tab (G107 fuel) (J107 fuel) kp107 fuel Try.f107 [.c (.int .i64 x0), .c (.int .i64 x1)] [] k = F_bitmap_fits fuel x0 x1 (fun r => match r with | r0 => k (.c (.bool r0), [])) := by
  kernel_rfl
theorem hG107 (fuel : Nat) : GOK Try.prog (G107 fuel) :=
  gok_nil
theorem fok107 (fuel : Nat) : FnOK Try.prog 107 (evalFn tab (G107 fuel) (J107 fuel) kp107 fuel Try.f107) :=
  fn_ok tab_ok (hG107 fuel) mixed Try.func107 (c := (Try.f107.body).getD .skip) rfl (fun q hq => by
    rw [(by kernel_rfl : obl (J107 fuel) ((Try.f107.body).getD .skip) = [])] at hq
    cases hq)
def mt107 : List Ev.SV → List Ev.Ob → Bool := fun args objs => match args, objs with
  | [.c (.int .i64 _), .c (.int .i64 _)], [] => true
  | _, _ => false
def spg107 (F : YF107) : Ev.Spec := fun args objs k => match args, objs with
  | [.c (.int .i64 x0), .c (.int .i64 x1)], [] => bif true then F x0 x1 (fun r => match r with | r0 => k (.c (.bool r0), [])) else none
  | _, _ => none
def spec107 (fuel : Nat) : Ev.Spec := spg107 (F_bitmap_fits fuel)
theorem ok107 (fuel : Nat) : FnOK Try.prog 107 (spec107 fuel) := by
  intro args objs kk r h
  unfold spec107 spg107 at h
  split at h
  · obtain ⟨hb, h⟩ := cond_some' h
    simp only [Bool.and_eq_true, Nat.beq_eq, decide_eq_true_eq] at hb
    clear hb
    exact fok107 fuel _ _ kk r ((F107_eq fuel _ _ kk).trans h)
  · cases h
end Go.Proofs.Ytajidgilfkineaa

set_option linter.unusedVariables false
set_option linter.unusedSimpArgs false
set_option maxRecDepth 100000
namespace Go.Proofs.Ytajidgilfkineaa
open Go Ev
def kp69 (i : Nat) : Option (List Nat) := Ev.look i [(4, [23, 24, 25]), (100000, []), (400000, [2])]
def Gg69 (f107 : YF107) (f : Nat) : Option Ev.Spec := Ev.look f [(107, spg107 f107)]
def G69 (fuel : Nat) : Nat → Option Ev.Spec := Gg69 (F_bitmap_fits fuel)
def S_bitmap_Valid_0 (fuel : Nat) (v : (List Int) × Int × Int) (c : ((List Int) × Int × Int) → Option Ans) (B : (Bool → Option Ans) × (Unit → Option Ans)) : Option Ans := match v, B with
  | (x0, x1, x2), (ret, b) =>
   bif Decidable.decide (x2 < x1) then
      bif Decidable.decide ((0 : Int) ≤ x2 ∧ x2 < (↑x0.length : Int)) then
      bif Decidable.decide (x0.getD x2.toNat (0 : Int) > (1 : Int)) then
        ret Bool.false
       else
        c (x0, x1, Go.IntKind.i64.wrap (x2 + (1 : Int)))
      else none
     else
      b ()
def L_bitmap_Valid_0 (fuel : Nat) (v : (List Int) × Int × Int) (ret : (Bool → Option Ans)) (b : (Unit → Option Ans)) : Option Ans := iter (S_bitmap_Valid_0 fuel) fuel v (ret, b)
def J69_0 (fuel : Nat) (i : Nat) : Option Ev.Blk := Ev.look i []
def T69_0 (v : (List Int) × Int × Int) : Ev.St := match v with | (x0, x1, x2) => ⟨[(23, .c (.sl (.int .u8) x0)), (24, .c (.int .i64 x1)), (25, .c (.int .i64 x2))], [], 0, 0⟩
def E69_0 (K : Ev.Ex → Ev.St → Option Ans) : (Bool → Option Ans) × (Unit → Option Ans) := ((fun v => match v with | x0 => K .ret ⟨[(2, .c (.bool x0))], [], 0, 0⟩), (fun v => match v with | () => K .normal ⟨[], [], 0, 0⟩))
theorem S69_0_okg (fuel : Nat) (f107 : YF107) (R : Ev.St → Option Ans) (K : Ev.Ex → Ev.St → Option Ans) (x0 : (List Int)) (x1 : Int) (x2 : Int) : evalCode tab (Gg69 f107) (J69_0 fuel) kp69 fuel (bodyOf 0 Try.f69) (T69_0 (x0, x1, x2)) (lc kp69 4 0 R K) = (fun (c : ((List Int) × Int × Int) → Option Ans) (B : (Bool → Option Ans) × (Unit → Option Ans)) => match B with
  | (ret, b) =>
   bif Decidable.decide (x2 < x1) then
      bif Decidable.decide ((0 : Int) ≤ x2 ∧ x2 < (↑x0.length : Int)) then
      bif Decidable.decide (x0.getD x2.toNat (0 : Int) > (1 : Int)) then
        ret Bool.false
       else
        c (x0, x1, Go.IntKind.i64.wrap (x2 + (1 : Int)))
      else none
     else
      b ()) (fun v => R (T69_0 v)) (E69_0 K) := by
  kernel_rfl
theorem S69_0_ok (fuel : Nat) (R : Ev.St → Option Ans) (K : Ev.Ex → Ev.St → Option Ans) (x0 : (List Int)) (x1 : Int) (x2 : Int) : evalCode tab (G69 fuel) (J69_0 fuel) kp69 fuel (bodyOf 0 Try.f69) (T69_0 (x0, x1, x2)) (lc kp69 4 0 R K) = S_bitmap_Valid_0 fuel (x0, x1, x2) (fun v => R (T69_0 v)) (E69_0 K) :=
  S69_0_okg fuel (F_bitmap_fits fuel) R K x0 x1 x2
def B69_0 (fuel : Nat) : Ev.Blk := fun st K => match canonO (kp69 4) st with
  | some s => (match s with
    | ⟨[(q0, .c (.sl (.int .u8) x0)), (q1, .c (.int .i64 x1)), (q2, .c (.int .i64 x2))], [], q3, q4⟩ => bif Nat.beq q0 23 && Nat.beq q1 24 && Nat.beq q2 25 && Nat.beq q3 0 && Nat.beq q4 0 then iter (S_bitmap_Valid_0 fuel) fuel (x0, x1, x2) (E69_0 K) else none
    | _ => none)
  | none => none
theorem B69_0_ok (fuel : Nat) (st : Ev.St) (K : Ev.Ex → Ev.St → Option Ans) (r : Ans) (h : B69_0 fuel st K = some r) : evalCode tab (G69 fuel) (J69_0 fuel) kp69 fuel (.block 0 (.loop (bodyOf 0 Try.f69))) st K = some r := by
  unfold B69_0 at h
  split at h
  · rename_i s hs
    split at h
    · obtain ⟨hb, h⟩ := cond_some' h
      simp only [Bool.and_eq_true, Nat.beq_eq, decide_eq_true_eq] at hb
      obtain ⟨⟨⟨⟨rfl, rfl⟩, rfl⟩, rfl⟩, rfl⟩ := hb
      exact blk_loop (S := T69_0) (ks := E69_0) (step := S_bitmap_Valid_0 fuel) (v := (_, _, _)) (by kernel_rfl) (by kernel_rfl) (fun R K v => by obtain ⟨x0, x1, x2⟩ := v; exact S69_0_ok fuel R K x0 x1 x2) hs h
    · cases h
  · cases h
def J69 (fuel : Nat) (i : Nat) : Option Ev.Blk := Ev.look i [(100000, B69_0 fuel)]
def F_bitmap_Valid (fuel : Nat) (x0 : Int) (x1 : Int) (x2 : (List Int)) (k0 : (Bool) → Option Ans) : Option Ans :=
  (F_bitmap_fits fuel (x0) (x1)
    (fun y2 =>
      bif !y2 then
       k0 Bool.false
      else
       bif (↑x2.length : Int) != Go.IntKind.i64.wrap (x0 * x1) then
        k0 Bool.false
       else
        (L_bitmap_Valid_0 fuel (x2, (↑x2.length : Int), (0 : Int))
          (fun ret0_0 =>
            k0 ret0_0)
          (fun () =>
            k0 Bool.true))))
abbrev YF69 : Type := (Int) → (Int) → ((List Int)) → ((Bool) → Option Ans) → Option Ans
theorem F69_eqg (fuel : Nat) (f107 : YF107) (x0 : Int) (x1 : Int) (x2 : (List Int)) (k : Ev.Cont) : evalFn tab (Gg69 f107) (J69 fuel) kp69 fuel Try.f69 [.agg [.int .i64 x0, .int .i64 x1, .sl (.int .u8) x2]] [] k = (fun  (k0 : (Bool) → Option Ans) =>
  (f107 (x0) (x1)
    (fun y2 =>
      bif !y2 then
       k0 Bool.false
      else
       bif (↑x2.length : Int) != Go.IntKind.i64.wrap (x0 * x1) then
        k0 Bool.false
       else
        (L_bitmap_Valid_0 fuel (x2, (↑x2.length : Int), (0 : Int))
          (fun ret0_0 =>
            k0 ret0_0)
          (fun () =>
            k0 Bool.true))))) (fun r => match r with | r0 => k (.c (.bool r0), [])) := by
  kernel_rfl
theorem F69_eq (fuel : Nat) (x0 : Int) (x1 : Int) (x2 : (List Int)) (k : Ev.Cont) : evalFn tab (G69 fuel) (J69 fuel) kp69 fuel Try.f69 [.agg [.int .i64 x0, .int .i64 x1, .sl (.int .u8) x2]] [] k = F_bitmap_Valid fuel x0 x1 x2 (fun r => match r with | r0 => k (.c (.bool r0), [])) :=
  F69_eqg fuel (F_bitmap_fits fuel) x0 x1 x2 k
theorem hG69 (fuel : Nat) : GOK Try.prog (G69 fuel) :=
  gok_cons ⟨ok107 fuel, enters_of Try.func107 (by kernel_rfl) rfl⟩ <|
  gok_nil
theorem B69_0_blk (fuel : Nat) : BlkOK Try.prog Try.f69.ntmps (.block 0 (.loop (bodyOf 0 Try.f69))) (B69_0 fuel) :=
  blk_of (blk_of_code tab_ok (hG69 fuel) mixed (J := J69_0 fuel) (kp := kp69) (fuel := fuel) (by kernel_rfl) (fun q hq => by
    rw [(by kernel_rfl : obl (J69_0 fuel) (.block 0 (.loop (bodyOf 0 Try.f69))) = [])] at hq
    cases hq)) (B69_0_ok fuel)
theorem fok69 (fuel : Nat) : FnOK Try.prog 69 (evalFn tab (G69 fuel) (J69 fuel) kp69 fuel Try.f69) :=
  fn_ok tab_ok (hG69 fuel) mixed Try.func69 (c := (Try.f69.body).getD .skip) rfl (fun q hq => by
    rw [(by kernel_rfl : obl (J69 fuel) ((Try.f69.body).getD .skip) = [(.block 0 (.loop (bodyOf 0 Try.f69)), B69_0 fuel)])] at hq
    simp only [List.mem_cons, List.not_mem_nil, or_false] at hq
    subst hq
    · exact B69_0_blk fuel)
def mt69 : List Ev.SV → List Ev.Ob → Bool := fun args objs => match args, objs with
  | [.agg [.int .i64 _, .int .i64 _, .sl (.int .u8) _]], [] => true
  | _, _ => false
def spg69 (F : YF69) : Ev.Spec := fun args objs k => match args, objs with
  | [.agg [.int .i64 x0, .int .i64 x1, .sl (.int .u8) x2]], [] => bif true then F x0 x1 x2 (fun r => match r with | r0 => k (.c (.bool r0), [])) else none
  | _, _ => none
def spec69 (fuel : Nat) : Ev.Spec := spg69 (F_bitmap_Valid fuel)
theorem ok69 (fuel : Nat) : FnOK Try.prog 69 (spec69 fuel) := by
  intro args objs kk r h
  unfold spec69 spg69 at h
  split at h
  · obtain ⟨hb, h⟩ := cond_some' h
    simp only [Bool.and_eq_true, Nat.beq_eq, decide_eq_true_eq] at hb
    clear hb
    exact fok69 fuel _ _ kk r ((F69_eq fuel _ _ _ kk).trans h)
  · cases h
end Go.Proofs.Ytajidgilfkineaa

set_option linter.unusedVariables false
set_option linter.unusedSimpArgs false
set_option maxRecDepth 100000
namespace Go.Proofs.Ytajidgilfkineaa
open Go Ev
def kp68 (i : Nat) : Option (List Nat) := Ev.look i []
def Gg68 (f : Nat) : Option Ev.Spec := Ev.look f []
def G68 (fuel : Nat) : Nat → Option Ev.Spec := Gg68
def J68 (fuel : Nat) (i : Nat) : Option Ev.Blk := Ev.look i []
def F_ref05_Sides (fuel : Nat) (x0 : Int) (x1 : Int) (k0 : (Bool) → Option Ans) : Option Ans :=
  bif Decidable.decide (x0 ≥ (0 : Int)) then
   bif Decidable.decide (x1 ≥ (0 : Int)) then
    bif Decidable.decide (x0 ≤ (200 : Int)) then
     bif Decidable.decide (x1 ≤ (200 : Int)) then
      k0 (Decidable.decide (Go.IntKind.i64.wrap (x0 * x1) ≤ (8192 : Int)))
     else
      k0 Bool.false
    else
     k0 Bool.false
   else
    k0 Bool.false
  else
   k0 Bool.false
abbrev YF68 : Type := (Int) → (Int) → ((Bool) → Option Ans) → Option Ans
theorem F68_eq (fuel : Nat) (x0 : Int) (x1 : Int) (k : Ev.Cont) : evalFn tab (G68 fuel) (J68 fuel) kp68 fuel Try.f68 [.c (.int .i64 x0), .c (.int .i64 x1)] [] k = F_ref05_Sides fuel x0 x1 (fun r => match r with | r0 => k (.c (.bool r0), [])) := by
  kernel_rfl
theorem hG68 (fuel : Nat) : GOK Try.prog (G68 fuel) :=
  gok_nil
theorem fok68 (fuel : Nat) : FnOK Try.prog 68 (evalFn tab (G68 fuel) (J68 fuel) kp68 fuel Try.f68) :=
  fn_ok tab_ok (hG68 fuel) mixed Try.func68 (c := (Try.f68.body).getD .skip) rfl (fun q hq => by
    rw [(by kernel_rfl : obl (J68 fuel) ((Try.f68.body).getD .skip) = [])] at hq
    cases hq)
def mt68 : List Ev.SV → List Ev.Ob → Bool := fun args objs => match args, objs with
  | [.c (.int .i64 _), .c (.int .i64 _)], [] => true
  | _, _ => false
def spg68 (F : YF68) : Ev.Spec := fun args objs k => match args, objs with
  | [.c (.int .i64 x0), .c (.int .i64 x1)], [] => bif true then F x0 x1 (fun r => match r with | r0 => k (.c (.bool r0), [])) else none
  | _, _ => none
def spec68 (fuel : Nat) : Ev.Spec := spg68 (F_ref05_Sides fuel)
theorem ok68 (fuel : Nat) : FnOK Try.prog 68 (spec68 fuel) := by
  intro args objs kk r h
  unfold spec68 spg68 at h
  split at h
  · obtain ⟨hb, h⟩ := cond_some' h
    simp only [Bool.and_eq_true, Nat.beq_eq, decide_eq_true_eq] at hb
    clear hb
    exact fok68 fuel _ _ kk r ((F68_eq fuel _ _ kk).trans h)
  · cases h
end Go.Proofs.Ytajidgilfkineaa

set_option linter.unusedVariables false
set_option linter.unusedSimpArgs false
set_option maxRecDepth 100000
namespace Go.Proofs.Ytajidgilfkineaa
open Go Ev
def kp28 (i : Nat) : Option (List Nat) := Ev.look i [(4, [1, 3]), (100000, []), (400000, [2])]
def Gg28 (f68 : YF68) (f : Nat) : Option Ev.Spec := Ev.look f [(68, spg68 f68)]
def G28 (fuel : Nat) : Nat → Option Ev.Spec := Gg28 (F_ref05_Sides fuel)
def S_ref05_Valid_0 (fuel : Nat) (v : Int × Int × Int × (List Int)) (c : (Int × Int × Int × (List Int)) → Option Ans) (B : (Bool → Option Ans) × (Unit → Option Ans)) : Option Ans := match v, B with
  | (x0, x1, x2, x3), (ret, b) =>
   bif Decidable.decide (x0 < (↑x3.length : Int)) then
      bif Decidable.decide ((0 : Int) ≤ x0 ∧ x0 < (↑x3.length : Int)) then
      bif Decidable.decide (x3.getD x0.toNat (0 : Int) > (1 : Int)) then
        ret Bool.false
       else
        c (Go.IntKind.i64.wrap (x0 + (1 : Int)), x1, x2, x3)
      else none
     else
      b ()
def L_ref05_Valid_0 (fuel : Nat) (v : Int × Int × Int × (List Int)) (ret : (Bool → Option Ans)) (b : (Unit → Option Ans)) : Option Ans := iter (S_ref05_Valid_0 fuel) fuel v (ret, b)
def J28_0 (fuel : Nat) (i : Nat) : Option Ev.Blk := Ev.look i []
def T28_0 (v : Int × Int × Int × (List Int)) : Ev.St := match v with | (x0, x1, x2, x3) => ⟨[(1, .c (.ptr 0 0)), (3, .c (.int .i64 x0))], [(0, .cells 45 [.int .i64 x1, .int .i64 x2, .sl (.int .u8) x3])], 1, 0⟩
def E28_0 (K : Ev.Ex → Ev.St → Option Ans) : (Bool → Option Ans) × (Unit → Option Ans) := ((fun v => match v with | x0 => K .ret ⟨[(2, .c (.bool x0))], [], 0, 0⟩), (fun v => match v with | () => K .normal ⟨[], [], 0, 0⟩))
theorem S28_0_okg (fuel : Nat) (f68 : YF68) (R : Ev.St → Option Ans) (K : Ev.Ex → Ev.St → Option Ans) (x0 : Int) (x1 : Int) (x2 : Int) (x3 : (List Int)) : evalCode tab (Gg28 f68) (J28_0 fuel) kp28 fuel (bodyOf 0 Try.f28) (T28_0 (x0, x1, x2, x3)) (lc kp28 4 0 R K) = (fun (c : (Int × Int × Int × (List Int)) → Option Ans) (B : (Bool → Option Ans) × (Unit → Option Ans)) => match B with
  | (ret, b) =>
   bif Decidable.decide (x0 < (↑x3.length : Int)) then
      bif Decidable.decide ((0 : Int) ≤ x0 ∧ x0 < (↑x3.length : Int)) then
      bif Decidable.decide (x3.getD x0.toNat (0 : Int) > (1 : Int)) then
        ret Bool.false
       else
        c (Go.IntKind.i64.wrap (x0 + (1 : Int)), x1, x2, x3)
      else none
     else
      b ()) (fun v => R (T28_0 v)) (E28_0 K) := by
  kernel_rfl
theorem S28_0_ok (fuel : Nat) (R : Ev.St → Option Ans) (K : Ev.Ex → Ev.St → Option Ans) (x0 : Int) (x1 : Int) (x2 : Int) (x3 : (List Int)) : evalCode tab (G28 fuel) (J28_0 fuel) kp28 fuel (bodyOf 0 Try.f28) (T28_0 (x0, x1, x2, x3)) (lc kp28 4 0 R K) = S_ref05_Valid_0 fuel (x0, x1, x2, x3) (fun v => R (T28_0 v)) (E28_0 K) :=
  S28_0_okg fuel (F_ref05_Sides fuel) R K x0 x1 x2 x3
def B28_0 (fuel : Nat) : Ev.Blk := fun st K => match canonO (kp28 4) st with
  | some s => (match s with
    | ⟨[(q0, .c (.ptr q1 q2)), (q3, .c (.int .i64 x0))], [(q4, .cells q5 [.int .i64 x1, .int .i64 x2, .sl (.int .u8) x3])], q6, q7⟩ => bif Nat.beq q0 1 && Nat.beq q1 0 && Nat.beq q2 0 && Nat.beq q3 3 && Nat.beq q4 0 && Nat.beq q5 45 && Nat.beq q6 1 && Nat.beq q7 0 then iter (S_ref05_Valid_0 fuel) fuel (x0, x1, x2, x3) (E28_0 K) else none
    | _ => none)
  | none => none
theorem B28_0_ok (fuel : Nat) (st : Ev.St) (K : Ev.Ex → Ev.St → Option Ans) (r : Ans) (h : B28_0 fuel st K = some r) : evalCode tab (G28 fuel) (J28_0 fuel) kp28 fuel (.block 0 (.loop (bodyOf 0 Try.f28))) st K = some r := by
  unfold B28_0 at h
  split at h
  · rename_i s hs
    split at h
    · obtain ⟨hb, h⟩ := cond_some' h
      simp only [Bool.and_eq_true, Nat.beq_eq, decide_eq_true_eq] at hb
      obtain ⟨⟨⟨⟨⟨⟨⟨rfl, rfl⟩, rfl⟩, rfl⟩, rfl⟩, rfl⟩, rfl⟩, rfl⟩ := hb
      exact blk_loop (S := T28_0) (ks := E28_0) (step := S_ref05_Valid_0 fuel) (v := (_, _, _, _)) (by kernel_rfl) (by kernel_rfl) (fun R K v => by obtain ⟨x0, x1, x2, x3⟩ := v; exact S28_0_ok fuel R K x0 x1 x2 x3) hs h
    · cases h
  · cases h
def J28 (fuel : Nat) (i : Nat) : Option Ev.Blk := Ev.look i [(100000, B28_0 fuel)]
def F_ref05_Valid (fuel : Nat) (x0 : Int) (x1 : Int) (x2 : (List Int)) (k0 : (Bool) → Option Ans) : Option Ans :=
  (F_ref05_Sides fuel (x0) (x1)
    (fun y2 =>
      bif !y2 then
       k0 Bool.false
      else
       bif (↑x2.length : Int) != Go.IntKind.i64.wrap (x0 * x1) then
        k0 Bool.false
       else
        (L_ref05_Valid_0 fuel ((0 : Int), x0, x1, x2)
          (fun ret0_0 =>
            k0 ret0_0)
          (fun () =>
            k0 Bool.true))))
abbrev YF28 : Type := (Int) → (Int) → ((List Int)) → ((Bool) → Option Ans) → Option Ans
theorem F28_eqg (fuel : Nat) (f68 : YF68) (x0 : Int) (x1 : Int) (x2 : (List Int)) (k : Ev.Cont) : evalFn tab (Gg28 f68) (J28 fuel) kp28 fuel Try.f28 [.agg [.int .i64 x0, .int .i64 x1, .sl (.int .u8) x2]] [] k = (fun  (k0 : (Bool) → Option Ans) =>
  (f68 (x0) (x1)
    (fun y2 =>
      bif !y2 then
       k0 Bool.false
      else
       bif (↑x2.length : Int) != Go.IntKind.i64.wrap (x0 * x1) then
        k0 Bool.false
       else
        (L_ref05_Valid_0 fuel ((0 : Int), x0, x1, x2)
          (fun ret0_0 =>
            k0 ret0_0)
          (fun () =>
            k0 Bool.true))))) (fun r => match r with | r0 => k (.c (.bool r0), [])) := by
  kernel_rfl
theorem F28_eq (fuel : Nat) (x0 : Int) (x1 : Int) (x2 : (List Int)) (k : Ev.Cont) : evalFn tab (G28 fuel) (J28 fuel) kp28 fuel Try.f28 [.agg [.int .i64 x0, .int .i64 x1, .sl (.int .u8) x2]] [] k = F_ref05_Valid fuel x0 x1 x2 (fun r => match r with | r0 => k (.c (.bool r0), [])) :=
  F28_eqg fuel (F_ref05_Sides fuel) x0 x1 x2 k
theorem hG28 (fuel : Nat) : GOK Try.prog (G28 fuel) :=
  gok_cons ⟨ok68 fuel, enters_of Try.func68 (by kernel_rfl) rfl⟩ <|
  gok_nil
theorem B28_0_blk (fuel : Nat) : BlkOK Try.prog Try.f28.ntmps (.block 0 (.loop (bodyOf 0 Try.f28))) (B28_0 fuel) :=
  blk_of (blk_of_code tab_ok (hG28 fuel) mixed (J := J28_0 fuel) (kp := kp28) (fuel := fuel) (by kernel_rfl) (fun q hq => by
    rw [(by kernel_rfl : obl (J28_0 fuel) (.block 0 (.loop (bodyOf 0 Try.f28))) = [])] at hq
    cases hq)) (B28_0_ok fuel)
theorem fok28 (fuel : Nat) : FnOK Try.prog 28 (evalFn tab (G28 fuel) (J28 fuel) kp28 fuel Try.f28) :=
  fn_ok tab_ok (hG28 fuel) mixed Try.func28 (c := (Try.f28.body).getD .skip) rfl (fun q hq => by
    rw [(by kernel_rfl : obl (J28 fuel) ((Try.f28.body).getD .skip) = [(.block 0 (.loop (bodyOf 0 Try.f28)), B28_0 fuel)])] at hq
    simp only [List.mem_cons, List.not_mem_nil, or_false] at hq
    subst hq
    · exact B28_0_blk fuel)
def mt28 : List Ev.SV → List Ev.Ob → Bool := fun args objs => match args, objs with
  | [.agg [.int .i64 _, .int .i64 _, .sl (.int .u8) _]], [] => true
  | _, _ => false
def spg28 (F : YF28) : Ev.Spec := fun args objs k => match args, objs with
  | [.agg [.int .i64 x0, .int .i64 x1, .sl (.int .u8) x2]], [] => bif true then F x0 x1 x2 (fun r => match r with | r0 => k (.c (.bool r0), [])) else none
  | _, _ => none
def spec28 (fuel : Nat) : Ev.Spec := spg28 (F_ref05_Valid fuel)
theorem ok28 (fuel : Nat) : FnOK Try.prog 28 (spec28 fuel) := by
  intro args objs kk r h
  unfold spec28 spg28 at h
  split at h
  · obtain ⟨hb, h⟩ := cond_some' h
    simp only [Bool.and_eq_true, Nat.beq_eq, decide_eq_true_eq] at hb
    clear hb
    exact fok28 fuel _ _ kk r ((F28_eq fuel _ _ _ kk).trans h)
  · cases h
end Go.Proofs.Ytajidgilfkineaa

set_option linter.unusedVariables false
set_option linter.unusedSimpArgs false
set_option maxRecDepth 100000
namespace Go.Proofs.Ytajidgilfkineaa
open Go Ev
def kp126 (i : Nat) : Option (List Nat) := Ev.look i []
def Gg126 (f : Nat) : Option Ev.Spec := Ev.look f []
def G126 (fuel : Nat) : Nat → Option Ev.Spec := Gg126
def J126 (fuel : Nat) (i : Nat) : Option Ev.Blk := Ev.look i []
def F_ref05_inside (fuel : Nat) (x0 : Int) (x1 : Int) (x2 : (List Int)) (x3 : Int) (x4 : Int) (k0 : (Bool) → Option Ans) : Option Ans :=
  bif Decidable.decide (x3 ≥ (0 : Int)) then
   bif Decidable.decide (x4 ≥ (0 : Int)) then
    bif Decidable.decide (x3 < x0) then
     k0 (Decidable.decide (x4 < x1))
    else
     k0 Bool.false
   else
    k0 Bool.false
  else
   k0 Bool.false
abbrev YF126 : Type := (Int) → (Int) → ((List Int)) → (Int) → (Int) → ((Bool) → Option Ans) → Option Ans
theorem F126_eq (fuel : Nat) (x0 : Int) (x1 : Int) (x2 : (List Int)) (x3 : Int) (x4 : Int) (k : Ev.Cont) : evalFn tab (G126 fuel) (J126 fuel) kp126 fuel Try.f126 [.agg [.int .i64 x0, .int .i64 x1, .sl (.int .u8) x2], .c (.int .i64 x3), .c (.int .i64 x4)] [] k = F_ref05_inside fuel x0 x1 x2 x3 x4 (fun r => match r with | r0 => k (.c (.bool r0), [])) := by
  kernel_rfl
theorem hG126 (fuel : Nat) : GOK Try.prog (G126 fuel) :=
  gok_nil
theorem fok126 (fuel : Nat) : FnOK Try.prog 126 (evalFn tab (G126 fuel) (J126 fuel) kp126 fuel Try.f126) :=
  fn_ok tab_ok (hG126 fuel) mixed Try.func126 (c := (Try.f126.body).getD .skip) rfl (fun q hq => by
    rw [(by kernel_rfl : obl (J126 fuel) ((Try.f126.body).getD .skip) = [])] at hq
    cases hq)
def mt126 : List Ev.SV → List Ev.Ob → Bool := fun args objs => match args, objs with
  | [.agg [.int .i64 _, .int .i64 _, .sl (.int .u8) _], .c (.int .i64 _), .c (.int .i64 _)], [] => true
  | _, _ => false
def spg126 (F : YF126) : Ev.Spec := fun args objs k => match args, objs with
  | [.agg [.int .i64 x0, .int .i64 x1, .sl (.int .u8) x2], .c (.int .i64 x3), .c (.int .i64 x4)], [] => bif true then F x0 x1 x2 x3 x4 (fun r => match r with | r0 => k (.c (.bool r0), [])) else none
  | _, _ => none
def spec126 (fuel : Nat) : Ev.Spec := spg126 (F_ref05_inside fuel)
theorem ok126 (fuel : Nat) : FnOK Try.prog 126 (spec126 fuel) := by
  intro args objs kk r h
  unfold spec126 spg126 at h
  split at h
  · obtain ⟨hb, h⟩ := cond_some' h
    simp only [Bool.and_eq_true, Nat.beq_eq, decide_eq_true_eq] at hb
    clear hb
    exact fok126 fuel _ _ kk r ((F126_eq fuel _ _ _ _ _ kk).trans h)
  · cases h
end Go.Proofs.Ytajidgilfkineaa

set_option linter.unusedVariables false
set_option linter.unusedSimpArgs false
set_option maxRecDepth 100000
namespace Go.Proofs.Ytajidgilfkineaa
open Go Ev
def kp110 (i : Nat) : Option (List Nat) := Ev.look i []
def Gg110 (f126 : YF126) (f : Nat) : Option Ev.Spec := Ev.look f [(126, spg126 f126)]
def G110 (fuel : Nat) : Nat → Option Ev.Spec := Gg110 (F_ref05_inside fuel)
def J110 (fuel : Nat) (i : Nat) : Option Ev.Blk := Ev.look i []
def F_ref05_At (fuel : Nat) (x0 : Int) (x1 : Int) (x2 : (List Int)) (x3 : Int) (x4 : Int) (k0 : (Int) → Option Ans) : Option Ans :=
  (F_ref05_inside fuel (x0) (x1) (x2) (x3) (x4)
    (fun y2 =>
      bif !y2 then
       k0 ((0 : Int))
      else
       bif Decidable.decide ((0 : Int) ≤ Go.IntKind.i64.wrap (Go.IntKind.i64.wrap (x4 * x0) + x3) ∧ Go.IntKind.i64.wrap (Go.IntKind.i64.wrap (x4 * x0) + x3) < (↑x2.length : Int)) then
       k0 (Go.IntKind.i64.wrap (x2.getD (Go.IntKind.i64.wrap (Go.IntKind.i64.wrap (x4 * x0) + x3)).toNat (0 : Int)))
       else none))
abbrev YF110 : Type := (Int) → (Int) → ((List Int)) → (Int) → (Int) → ((Int) → Option Ans) → Option Ans
theorem F110_eqg (fuel : Nat) (f126 : YF126) (x0 : Int) (x1 : Int) (x2 : (List Int)) (x3 : Int) (x4 : Int) (k : Ev.Cont) : evalFn tab (Gg110 f126) (J110 fuel) kp110 fuel Try.f110 [.agg [.int .i64 x0, .int .i64 x1, .sl (.int .u8) x2], .c (.int .i64 x3), .c (.int .i64 x4)] [] k = (fun  (k0 : (Int) → Option Ans) =>
  (f126 (x0) (x1) (x2) (x3) (x4)
    (fun y2 =>
      bif !y2 then
       k0 ((0 : Int))
      else
       bif Decidable.decide ((0 : Int) ≤ Go.IntKind.i64.wrap (Go.IntKind.i64.wrap (x4 * x0) + x3) ∧ Go.IntKind.i64.wrap (Go.IntKind.i64.wrap (x4 * x0) + x3) < (↑x2.length : Int)) then
       k0 (Go.IntKind.i64.wrap (x2.getD (Go.IntKind.i64.wrap (Go.IntKind.i64.wrap (x4 * x0) + x3)).toNat (0 : Int)))
       else none))) (fun r => match r with | r0 => k (.c (.int .i64 r0), [])) := by
  kernel_rfl
theorem F110_eq (fuel : Nat) (x0 : Int) (x1 : Int) (x2 : (List Int)) (x3 : Int) (x4 : Int) (k : Ev.Cont) : evalFn tab (G110 fuel) (J110 fuel) kp110 fuel Try.f110 [.agg [.int .i64 x0, .int .i64 x1, .sl (.int .u8) x2], .c (.int .i64 x3), .c (.int .i64 x4)] [] k = F_ref05_At fuel x0 x1 x2 x3 x4 (fun r => match r with | r0 => k (.c (.int .i64 r0), [])) :=
  F110_eqg fuel (F_ref05_inside fuel) x0 x1 x2 x3 x4 k
theorem hG110 (fuel : Nat) : GOK Try.prog (G110 fuel) :=
  gok_cons ⟨ok126 fuel, enters_of Try.func126 (by kernel_rfl) rfl⟩ <|
  gok_nil
theorem fok110 (fuel : Nat) : FnOK Try.prog 110 (evalFn tab (G110 fuel) (J110 fuel) kp110 fuel Try.f110) :=
  fn_ok tab_ok (hG110 fuel) mixed Try.func110 (c := (Try.f110.body).getD .skip) rfl (fun q hq => by
    rw [(by kernel_rfl : obl (J110 fuel) ((Try.f110.body).getD .skip) = [])] at hq
    cases hq)
def mt110 : List Ev.SV → List Ev.Ob → Bool := fun args objs => match args, objs with
  | [.agg [.int .i64 _, .int .i64 _, .sl (.int .u8) _], .c (.int .i64 _), .c (.int .i64 _)], [] => true
  | _, _ => false
def spg110 (F : YF110) : Ev.Spec := fun args objs k => match args, objs with
  | [.agg [.int .i64 x0, .int .i64 x1, .sl (.int .u8) x2], .c (.int .i64 x3), .c (.int .i64 x4)], [] => bif true then F x0 x1 x2 x3 x4 (fun r => match r with | r0 => k (.c (.int .i64 r0), [])) else none
  | _, _ => none
def spec110 (fuel : Nat) : Ev.Spec := spg110 (F_ref05_At fuel)
theorem ok110 (fuel : Nat) : FnOK Try.prog 110 (spec110 fuel) := by
  intro args objs kk r h
  unfold spec110 spg110 at h
  split at h
  · obtain ⟨hb, h⟩ := cond_some' h
    simp only [Bool.and_eq_true, Nat.beq_eq, decide_eq_true_eq] at hb
    clear hb
    exact fok110 fuel _ _ kk r ((F110_eq fuel _ _ _ _ _ kk).trans h)
  · cases h
end Go.Proofs.Ytajidgilfkineaa

set_option linter.unusedVariables false
set_option linter.unusedSimpArgs false
set_option maxRecDepth 100000
namespace Go.Proofs.Ytajidgilfkineaa
open Go Ev
def kp112 (i : Nat) : Option (List Nat) := Ev.look i [(5, [0, 4]), (100000, [4]), (400000, [2, 3])]
def Gg112 (f : Nat) : Option Ev.Spec := Ev.look f []
def G112 (fuel : Nat) : Nat → Option Ev.Spec := Gg112
def S_ref01_Size_0 (fuel : Nat) (v : Int × (List Int)) (c : (Int × (List Int)) → Option Ans) (B : ((List Int) → Option Ans)) : Option Ans := match v, B with
  | (x0, x1), b =>
   bif Decidable.decide (x0 > (0 : Int)) then
      bif Decidable.decide (([Go.IntKind.u8.wrap (Go.IntKind.i64.wrap ((128 : Int) + x0.tmod (128 : Int)))].length + x1.length) * (1 : Nat) ≤ (140737488355328 : Nat) ∧ [Go.IntKind.u8.wrap (Go.IntKind.i64.wrap ((128 : Int) + x0.tmod (128 : Int)))].length + x1.length ≤ (140737488355328 : Nat)) then
      c (Go.IntKind.i64.wrap (x0.tdiv (128 : Int)), [Go.IntKind.u8.wrap (Go.IntKind.i64.wrap ((128 : Int) + x0.tmod (128 : Int)))] ++ x1)
      else none
     else
      b x1
def L_ref01_Size_0 (fuel : Nat) (v : Int × (List Int)) (b : ((List Int) → Option Ans)) : Option Ans := iter (S_ref01_Size_0 fuel) fuel v b
def J112_0 (fuel : Nat) (i : Nat) : Option Ev.Blk := Ev.look i []
def T112_0 (v : Int × (List Int)) : Ev.St := match v with | (x0, x1) => ⟨[(0, .c (.int .i64 x0)), (4, .c (.own 0))], [(0, .vec 5 (.int .u8) x1 true)], 1, 0⟩
def E112_0 (K : Ev.Ex → Ev.St → Option Ans) : ((List Int) → Option Ans) := (fun v => match v with | x0 => K .normal ⟨[(4, .c (.own 0))], [(0, .vec 5 (.int .u8) x0 true)], 1, 0⟩)
theorem S112_0_ok (fuel : Nat) (R : Ev.St → Option Ans) (K : Ev.Ex → Ev.St → Option Ans) (x0 : Int) (x1 : (List Int)) : evalCode tab (G112 fuel) (J112_0 fuel) kp112 fuel (bodyOf 0 Try.f112) (T112_0 (x0, x1)) (lc kp112 5 0 R K) = S_ref01_Size_0 fuel (x0, x1) (fun v => R (T112_0 v)) (E112_0 K) := by
  kernel_rfl
def B112_0 (fuel : Nat) : Ev.Blk := fun st K => match canonO (kp112 5) st with
  | some s => (match s with
    | ⟨[(q0, .c (.int .i64 x0)), (q1, .c (.own q2))], [(q3, .vec q4 (.int .u8) x1 true)], q5, q6⟩ => bif Nat.beq q0 0 && Nat.beq q1 4 && Nat.beq q2 0 && Nat.beq q3 0 && Nat.beq q4 5 && Nat.beq q5 1 && Nat.beq q6 0 then iter (S_ref01_Size_0 fuel) fuel (x0, x1) (E112_0 K) else none
    | _ => none)
  | none => none
theorem B112_0_ok (fuel : Nat) (st : Ev.St) (K : Ev.Ex → Ev.St → Option Ans) (r : Ans) (h : B112_0 fuel st K = some r) : evalCode tab (G112 fuel) (J112_0 fuel) kp112 fuel (.block 0 (.loop (bodyOf 0 Try.f112))) st K = some r := by
  unfold B112_0 at h
  split at h
  · rename_i s hs
    split at h
    · obtain ⟨hb, h⟩ := cond_some' h
      simp only [Bool.and_eq_true, Nat.beq_eq, decide_eq_true_eq] at hb
      obtain ⟨⟨⟨⟨⟨⟨rfl, rfl⟩, rfl⟩, rfl⟩, rfl⟩, rfl⟩, rfl⟩ := hb
      exact blk_loop (S := T112_0) (ks := E112_0) (step := S_ref01_Size_0 fuel) (v := (_, _)) (by kernel_rfl) (by kernel_rfl) (fun R K v => by obtain ⟨x0, x1⟩ := v; exact S112_0_ok fuel R K x0 x1) hs h
    · cases h
  · cases h
def J112 (fuel : Nat) (i : Nat) : Option Ev.Blk := Ev.look i [(100000, B112_0 fuel)]
def F_ref01_Size (fuel : Nat) (x0 : Int) (k0 : (Int × (List Int)) → Option Ans) : Option Ans :=
  bif Decidable.decide (x0 < (0 : Int)) then
   k0 ((2 : Int), [])
  else
   bif Decidable.decide (x0 > (2147483647 : Int)) then
    k0 ((2 : Int), [])
   else
    (L_ref01_Size_0 fuel (Go.IntKind.i64.wrap (x0.tdiv (128 : Int)), [Go.IntKind.u8.wrap (x0.tmod (128 : Int))])
      (fun b0_0 =>
        k0 ((0 : Int), b0_0)))
abbrev YF112 : Type := (Int) → ((Int × (List Int)) → Option Ans) → Option Ans
theorem F112_eq (fuel : Nat) (x0 : Int) (k : Ev.Cont) : evalFn tab (G112 fuel) (J112 fuel) kp112 fuel Try.f112 [.c (.int .i64 x0)] [] k = F_ref01_Size fuel x0 (fun r => match r with | (r0, r1) => k (.tup [(false, [.own 0]), (false, [.int .i64 r0])], [.vec 5 (.int .u8) r1 true])) := by
  kernel_rfl
theorem hG112 (fuel : Nat) : GOK Try.prog (G112 fuel) :=
  gok_nil
theorem B112_0_blk (fuel : Nat) : BlkOK Try.prog Try.f112.ntmps (.block 0 (.loop (bodyOf 0 Try.f112))) (B112_0 fuel) :=
  blk_of (blk_of_code tab_ok (hG112 fuel) mixed (J := J112_0 fuel) (kp := kp112) (fuel := fuel) (by kernel_rfl) (fun q hq => by
    rw [(by kernel_rfl : obl (J112_0 fuel) (.block 0 (.loop (bodyOf 0 Try.f112))) = [])] at hq
    cases hq)) (B112_0_ok fuel)
theorem fok112 (fuel : Nat) : FnOK Try.prog 112 (evalFn tab (G112 fuel) (J112 fuel) kp112 fuel Try.f112) :=
  fn_ok tab_ok (hG112 fuel) mixed Try.func112 (c := (Try.f112.body).getD .skip) rfl (fun q hq => by
    rw [(by kernel_rfl : obl (J112 fuel) ((Try.f112.body).getD .skip) = [(.block 0 (.loop (bodyOf 0 Try.f112)), B112_0 fuel)])] at hq
    simp only [List.mem_cons, List.not_mem_nil, or_false] at hq
    subst hq
    · exact B112_0_blk fuel)
def mt112 : List Ev.SV → List Ev.Ob → Bool := fun args objs => match args, objs with
  | [.c (.int .i64 _)], [] => true
  | _, _ => false
def spg112 (F : YF112) : Ev.Spec := fun args objs k => match args, objs with
  | [.c (.int .i64 x0)], [] => bif true then F x0 (fun r => match r with | (r0, r1) => k (.tup [(false, [.own 0]), (false, [.int .i64 r0])], [.vec 5 (.int .u8) r1 true])) else none
  | _, _ => none
def spec112 (fuel : Nat) : Ev.Spec := spg112 (F_ref01_Size fuel)
theorem ok112 (fuel : Nat) : FnOK Try.prog 112 (spec112 fuel) := by
  intro args objs kk r h
  unfold spec112 spg112 at h
  split at h
  · obtain ⟨hb, h⟩ := cond_some' h
    simp only [Bool.and_eq_true, Nat.beq_eq, decide_eq_true_eq] at hb
    clear hb
    exact fok112 fuel _ _ kk r ((F112_eq fuel _ kk).trans h)
  · cases h
end Go.Proofs.Ytajidgilfkineaa

set_option linter.unusedVariables false
set_option linter.unusedSimpArgs false
set_option maxRecDepth 100000
namespace Go.Proofs.Ytajidgilfkineaa
open Go Ev
def kp79 (i : Nat) : Option (List Nat) := Ev.look i []
def Gg79 (f112 : YF112) (f : Nat) : Option Ev.Spec := Ev.look f [(112, spg112 f112)]
def G79 (fuel : Nat) : Nat → Option Ev.Spec := Gg79 (F_ref01_Size fuel)
def J79 (fuel : Nat) (i : Nat) : Option Ev.Blk := Ev.look i []
def F_ref12_size (fuel : Nat) (x0 : Int) (k0 : ((List Int)) → Option Ans) : Option Ans :=
  (F_ref01_Size fuel (x0)
    (fun (y2_0, y2_1) =>
      k0 y2_1))
abbrev YF79 : Type := (Int) → (((List Int)) → Option Ans) → Option Ans
theorem F79_eqg (fuel : Nat) (f112 : YF112) (x0 : Int) (k : Ev.Cont) : evalFn tab (Gg79 f112) (J79 fuel) kp79 fuel Try.f79 [.c (.int .i64 x0)] [] k = (fun  (k0 : ((List Int)) → Option Ans) =>
  (f112 (x0)
    (fun (y2_0, y2_1) =>
      k0 y2_1))) (fun r => match r with | r0 => k (.c (.own 0), [.vec 5 (.int .u8) r0 true])) := by
  kernel_rfl
theorem F79_eq (fuel : Nat) (x0 : Int) (k : Ev.Cont) : evalFn tab (G79 fuel) (J79 fuel) kp79 fuel Try.f79 [.c (.int .i64 x0)] [] k = F_ref12_size fuel x0 (fun r => match r with | r0 => k (.c (.own 0), [.vec 5 (.int .u8) r0 true])) :=
  F79_eqg fuel (F_ref01_Size fuel) x0 k
theorem hG79 (fuel : Nat) : GOK Try.prog (G79 fuel) :=
  gok_cons ⟨ok112 fuel, enters_of Try.func112 (by kernel_rfl) rfl⟩ <|
  gok_nil
theorem fok79 (fuel : Nat) : FnOK Try.prog 79 (evalFn tab (G79 fuel) (J79 fuel) kp79 fuel Try.f79) :=
  fn_ok tab_ok (hG79 fuel) mixed Try.func79 (c := (Try.f79.body).getD .skip) rfl (fun q hq => by
    rw [(by kernel_rfl : obl (J79 fuel) ((Try.f79.body).getD .skip) = [])] at hq
    cases hq)
def mt79 : List Ev.SV → List Ev.Ob → Bool := fun args objs => match args, objs with
  | [.c (.int .i64 _)], [] => true
  | _, _ => false
def spg79 (F : YF79) : Ev.Spec := fun args objs k => match args, objs with
  | [.c (.int .i64 x0)], [] => bif true then F x0 (fun r => match r with | r0 => k (.c (.own 0), [.vec 5 (.int .u8) r0 true])) else none
  | _, _ => none
def spec79 (fuel : Nat) : Ev.Spec := spg79 (F_ref12_size fuel)
theorem ok79 (fuel : Nat) : FnOK Try.prog 79 (spec79 fuel) := by
  intro args objs kk r h
  unfold spec79 spg79 at h
  split at h
  · obtain ⟨hb, h⟩ := cond_some' h
    simp only [Bool.and_eq_true, Nat.beq_eq, decide_eq_true_eq] at hb
    clear hb
    exact fok79 fuel _ _ kk r ((F79_eq fuel _ kk).trans h)
  · cases h
end Go.Proofs.Ytajidgilfkineaa

set_option linter.unusedVariables false
set_option linter.unusedSimpArgs false
set_option maxRecDepth 100000
namespace Go.Proofs.Ytajidgilfkineaa
open Go Ev
def kp42 (i : Nat) : Option (List Nat) := Ev.look i [(9, [1, 4, 40, 41, 42]), (15, [1, 4, 7, 61, 62, 63]), (100000, [1, 4]), (100002, [1, 4, 7]), (400000, [2, 3]), (400002, [2, 3])]
def Gg42 (f44 : YF44) (f79 : YF79) (f : Nat) : Option Ev.Spec := Ev.look f [(44, spg44 f44), (79, spg79 f79)]
def G42 (fuel : Nat) : Nat → Option Ev.Spec := Gg42 (F_ref12_Valid fuel) (F_ref12_size fuel)
def S_ref12_Header_2 (fuel : Nat) (v : (List Bool) × Int × Int × Int × Int × Int × (List Int) × (List Bool) × (List Int) × (List Int) × (List Int)) (c : ((List Bool) × Int × Int × Int × Int × Int × (List Int) × (List Bool) × (List Int) × (List Int) × (List Int)) → Option Ans) (B : (Int × Int × Int × (List Int) × (List Bool) × (List Int) × (List Int) × (List Int) → Option Ans)) : Option Ans := match v, B with
  | (x0, x1, x2, x3, x4, x5, x6, x7, x8, x9, x10), b =>
   bif Decidable.decide (x2 < x1) then
      bif Decidable.decide ((0 : Int) ≤ x2 ∧ x2 < (↑x0.length : Int)) then
      bif x0.getD x2.toNat Bool.false then
        bif Decidable.decide ((0 : Int) ≤ Go.IntKind.i64.wrap (x2.tdiv (8 : Int)) ∧ Go.IntKind.i64.wrap (x2.tdiv (8 : Int)) < (↑x10.length : Int)) then
        bif Decidable.decide (x2.tmod (8 : Int) < (0 : Int)) then
          none
         else
          bif Decidable.decide ((0 : Int) ≤ Go.IntKind.i64.wrap (x2.tdiv (8 : Int)) ∧ Go.IntKind.i64.wrap (x2.tdiv (8 : Int)) < (↑x10.length : Int)) then
          c (x0, x1, Go.IntKind.i64.wrap (x2 + (1 : Int)), x3, x4, x5, x6, x7, x8, x9, x10.set (Go.IntKind.i64.wrap (x2.tdiv (8 : Int))).toNat (Go.IntKind.u8.wrap (x10.getD (Go.IntKind.i64.wrap (x2.tdiv (8 : Int))).toNat (0 : Int) + Ev.ishr Go.IntKind.u8 (128 : Int) (x2.tmod (8 : Int)))))
          else none
        else none
       else
        c (x0, x1, Go.IntKind.i64.wrap (x2 + (1 : Int)), x3, x4, x5, x6, x7, x8, x9, x10)
      else none
     else
      b (x3, x4, x5, x6, x7, x8, x9, x10)
def L_ref12_Header_2 (fuel : Nat) (v : (List Bool) × Int × Int × Int × Int × Int × (List Int) × (List Bool) × (List Int) × (List Int) × (List Int)) (b : (Int × Int × Int × (List Int) × (List Bool) × (List Int) × (List Int) × (List Int) → Option Ans)) : Option Ans := iter (S_ref12_Header_2 fuel) fuel v b
def J42_2 (fuel : Nat) (i : Nat) : Option Ev.Blk := Ev.look i []
def T42_2 (v : (List Bool) × Int × Int × Int × Int × Int × (List Int) × (List Bool) × (List Int) × (List Int) × (List Int)) : Ev.St := match v with | (x0, x1, x2, x3, x4, x5, x6, x7, x8, x9, x10) => ⟨[(1, .c (.ptr 0 0)), (4, .c (.own 1)), (7, .c (.own 2)), (61, .c (.sl .bool x0)), (62, .c (.int .i64 x1)), (63, .c (.int .i64 x2))], [(0, .cells 63 [.int .i64 x3, .int .i64 x4, .int .i64 x5, .sl (.int .i64) x6, .sl .bool x7, .sl (.int .u8) x8]), (1, .vec 5 (.int .u8) x9 true), (2, .vec 5 (.int .u8) x10 true)], 3, 0⟩
def E42_2 (K : Ev.Ex → Ev.St → Option Ans) : (Int × Int × Int × (List Int) × (List Bool) × (List Int) × (List Int) × (List Int) → Option Ans) := (fun v => match v with | (x0, x1, x2, x3, x4, x5, x6, x7) => K .normal ⟨[(1, .c (.ptr 0 0)), (4, .c (.own 1)), (7, .c (.own 2))], [(0, .cells 63 [.int .i64 x0, .int .i64 x1, .int .i64 x2, .sl (.int .i64) x3, .sl .bool x4, .sl (.int .u8) x5]), (1, .vec 5 (.int .u8) x6 true), (2, .vec 5 (.int .u8) x7 true)], 3, 0⟩)
theorem S42_2_okg (fuel : Nat) (f44 : YF44) (f79 : YF79) (R : Ev.St → Option Ans) (K : Ev.Ex → Ev.St → Option Ans) (x0 : (List Bool)) (x1 : Int) (x2 : Int) (x3 : Int) (x4 : Int) (x5 : Int) (x6 : (List Int)) (x7 : (List Bool)) (x8 : (List Int)) (x9 : (List Int)) (x10 : (List Int)) : evalCode tab (Gg42 f44 f79) (J42_2 fuel) kp42 fuel (bodyOf 2 Try.f42) (T42_2 (x0, x1, x2, x3, x4, x5, x6, x7, x8, x9, x10)) (lc kp42 15 2 R K) = (fun (c : ((List Bool) × Int × Int × Int × Int × Int × (List Int) × (List Bool) × (List Int) × (List Int) × (List Int)) → Option Ans) (B : (Int × Int × Int × (List Int) × (List Bool) × (List Int) × (List Int) × (List Int) → Option Ans)) => match B with
  | b =>
   bif Decidable.decide (x2 < x1) then
      bif Decidable.decide ((0 : Int) ≤ x2 ∧ x2 < (↑x0.length : Int)) then
      bif x0.getD x2.toNat Bool.false then
        bif Decidable.decide ((0 : Int) ≤ Go.IntKind.i64.wrap (x2.tdiv (8 : Int)) ∧ Go.IntKind.i64.wrap (x2.tdiv (8 : Int)) < (↑x10.length : Int)) then
        bif Decidable.decide (x2.tmod (8 : Int) < (0 : Int)) then
          none
         else
          bif Decidable.decide ((0 : Int) ≤ Go.IntKind.i64.wrap (x2.tdiv (8 : Int)) ∧ Go.IntKind.i64.wrap (x2.tdiv (8 : Int)) < (↑x10.length : Int)) then
          c (x0, x1, Go.IntKind.i64.wrap (x2 + (1 : Int)), x3, x4, x5, x6, x7, x8, x9, x10.set (Go.IntKind.i64.wrap (x2.tdiv (8 : Int))).toNat (Go.IntKind.u8.wrap (x10.getD (Go.IntKind.i64.wrap (x2.tdiv (8 : Int))).toNat (0 : Int) + Ev.ishr Go.IntKind.u8 (128 : Int) (x2.tmod (8 : Int)))))
          else none
        else none
       else
        c (x0, x1, Go.IntKind.i64.wrap (x2 + (1 : Int)), x3, x4, x5, x6, x7, x8, x9, x10)
      else none
     else
      b (x3, x4, x5, x6, x7, x8, x9, x10)) (fun v => R (T42_2 v)) (E42_2 K) := by
  kernel_rfl
theorem S42_2_ok (fuel : Nat) (R : Ev.St → Option Ans) (K : Ev.Ex → Ev.St → Option Ans) (x0 : (List Bool)) (x1 : Int) (x2 : Int) (x3 : Int) (x4 : Int) (x5 : Int) (x6 : (List Int)) (x7 : (List Bool)) (x8 : (List Int)) (x9 : (List Int)) (x10 : (List Int)) : evalCode tab (G42 fuel) (J42_2 fuel) kp42 fuel (bodyOf 2 Try.f42) (T42_2 (x0, x1, x2, x3, x4, x5, x6, x7, x8, x9, x10)) (lc kp42 15 2 R K) = S_ref12_Header_2 fuel (x0, x1, x2, x3, x4, x5, x6, x7, x8, x9, x10) (fun v => R (T42_2 v)) (E42_2 K) :=
  S42_2_okg fuel (F_ref12_Valid fuel) (F_ref12_size fuel) R K x0 x1 x2 x3 x4 x5 x6 x7 x8 x9 x10
def B42_2 (fuel : Nat) : Ev.Blk := fun st K => match canonO (kp42 15) st with
  | some s => (match s with
    | ⟨[(q0, .c (.ptr q1 q2)), (q3, .c (.own q4)), (q5, .c (.own q6)), (q7, .c (.sl .bool x0)), (q8, .c (.int .i64 x1)), (q9, .c (.int .i64 x2))], [(q10, .cells q11 [.int .i64 x3, .int .i64 x4, .int .i64 x5, .sl (.int .i64) x6, .sl .bool x7, .sl (.int .u8) x8]), (q12, .vec q13 (.int .u8) x9 true), (q14, .vec q15 (.int .u8) x10 true)], q16, q17⟩ => bif Nat.beq q0 1 && Nat.beq q1 0 && Nat.beq q2 0 && Nat.beq q3 4 && Nat.beq q4 1 && Nat.beq q5 7 && Nat.beq q6 2 && Nat.beq q7 61 && Nat.beq q8 62 && Nat.beq q9 63 && Nat.beq q10 0 && Nat.beq q11 63 && Nat.beq q12 1 && Nat.beq q13 5 && Nat.beq q14 2 && Nat.beq q15 5 && Nat.beq q16 3 && Nat.beq q17 0 then iter (S_ref12_Header_2 fuel) fuel (x0, x1, x2, x3, x4, x5, x6, x7, x8, x9, x10) (E42_2 K) else none
    | _ => none)
  | none => none
theorem B42_2_ok (fuel : Nat) (st : Ev.St) (K : Ev.Ex → Ev.St → Option Ans) (r : Ans) (h : B42_2 fuel st K = some r) : evalCode tab (G42 fuel) (J42_2 fuel) kp42 fuel (.block 2 (.loop (bodyOf 2 Try.f42))) st K = some r := by
  unfold B42_2 at h
  split at h
  · rename_i s hs
    split at h
    · obtain ⟨hb, h⟩ := cond_some' h
      simp only [Bool.and_eq_true, Nat.beq_eq, decide_eq_true_eq] at hb
      obtain ⟨⟨⟨⟨⟨⟨⟨⟨⟨⟨⟨⟨⟨⟨⟨⟨⟨rfl, rfl⟩, rfl⟩, rfl⟩, rfl⟩, rfl⟩, rfl⟩, rfl⟩, rfl⟩, rfl⟩, rfl⟩, rfl⟩, rfl⟩, rfl⟩, rfl⟩, rfl⟩, rfl⟩, rfl⟩ := hb
      exact blk_loop (S := T42_2) (ks := E42_2) (step := S_ref12_Header_2 fuel) (v := (_, _, _, _, _, _, _, _, _, _, _)) (by kernel_rfl) (by kernel_rfl) (fun R K v => by obtain ⟨x0, x1, x2, x3, x4, x5, x6, x7, x8, x9, x10⟩ := v; exact S42_2_ok fuel R K x0 x1 x2 x3 x4 x5 x6 x7 x8 x9 x10) hs h
    · cases h
  · cases h
def S_ref12_Header_0 (fuel : Nat) (v : (List Int) × Int × Int × Int × Int × Int × (List Int) × (List Bool) × (List Int) × (List Int)) (c : ((List Int) × Int × Int × Int × Int × Int × (List Int) × (List Bool) × (List Int) × (List Int)) → Option Ans) (B : (Int × Int × Int × (List Int) × (List Bool) × (List Int) × (List Int) → Option Ans)) : Option Ans := match v, B with
  | (x0, x1, x2, x3, x4, x5, x6, x7, x8, x9), b =>
   bif Decidable.decide (x2 < x1) then
      bif Decidable.decide ((0 : Int) ≤ x2 ∧ x2 < (↑x0.length : Int)) then
      (F_ref12_size fuel (Go.IntKind.i64.wrap (x3 - x0.getD x2.toNat (0 : Int)))
         (fun y4 =>
           bif Decidable.decide ((x9.length + y4.length) * (1 : Nat) ≤ (140737488355328 : Nat) ∧ x9.length + y4.length ≤ (140737488355328 : Nat)) then
           c (x0, x1, Go.IntKind.i64.wrap (x2 + (1 : Int)), x3, x4, x5, x6, x7, x8, x9 ++ y4)
           else none))
      else none
     else
      b (x3, x4, x5, x6, x7, x8, x9)
def L_ref12_Header_0 (fuel : Nat) (v : (List Int) × Int × Int × Int × Int × Int × (List Int) × (List Bool) × (List Int) × (List Int)) (b : (Int × Int × Int × (List Int) × (List Bool) × (List Int) × (List Int) → Option Ans)) : Option Ans := iter (S_ref12_Header_0 fuel) fuel v b
def J42_0 (fuel : Nat) (i : Nat) : Option Ev.Blk := Ev.look i [(100002, B42_2 fuel)]
def T42_0 (v : (List Int) × Int × Int × Int × Int × Int × (List Int) × (List Bool) × (List Int) × (List Int)) : Ev.St := match v with | (x0, x1, x2, x3, x4, x5, x6, x7, x8, x9) => ⟨[(1, .c (.ptr 0 0)), (4, .c (.own 1)), (40, .c (.sl (.int .i64) x0)), (41, .c (.int .i64 x1)), (42, .c (.int .i64 x2))], [(0, .cells 63 [.int .i64 x3, .int .i64 x4, .int .i64 x5, .sl (.int .i64) x6, .sl .bool x7, .sl (.int .u8) x8]), (1, .vec 5 (.int .u8) x9 true)], 2, 0⟩
def E42_0 (K : Ev.Ex → Ev.St → Option Ans) : (Int × Int × Int × (List Int) × (List Bool) × (List Int) × (List Int) → Option Ans) := (fun v => match v with | (x0, x1, x2, x3, x4, x5, x6) => K .normal ⟨[(1, .c (.ptr 0 0)), (4, .c (.own 1))], [(0, .cells 63 [.int .i64 x0, .int .i64 x1, .int .i64 x2, .sl (.int .i64) x3, .sl .bool x4, .sl (.int .u8) x5]), (1, .vec 5 (.int .u8) x6 true)], 2, 0⟩)
theorem S42_0_okg (fuel : Nat) (f44 : YF44) (f79 : YF79) (R : Ev.St → Option Ans) (K : Ev.Ex → Ev.St → Option Ans) (x0 : (List Int)) (x1 : Int) (x2 : Int) (x3 : Int) (x4 : Int) (x5 : Int) (x6 : (List Int)) (x7 : (List Bool)) (x8 : (List Int)) (x9 : (List Int)) : evalCode tab (Gg42 f44 f79) (J42_0 fuel) kp42 fuel (bodyOf 0 Try.f42) (T42_0 (x0, x1, x2, x3, x4, x5, x6, x7, x8, x9)) (lc kp42 9 0 R K) = (fun (c : ((List Int) × Int × Int × Int × Int × Int × (List Int) × (List Bool) × (List Int) × (List Int)) → Option Ans) (B : (Int × Int × Int × (List Int) × (List Bool) × (List Int) × (List Int) → Option Ans)) => match B with
  | b =>
   bif Decidable.decide (x2 < x1) then
      bif Decidable.decide ((0 : Int) ≤ x2 ∧ x2 < (↑x0.length : Int)) then
      (f79 (Go.IntKind.i64.wrap (x3 - x0.getD x2.toNat (0 : Int)))
         (fun y4 =>
           bif Decidable.decide ((x9.length + y4.length) * (1 : Nat) ≤ (140737488355328 : Nat) ∧ x9.length + y4.length ≤ (140737488355328 : Nat)) then
           c (x0, x1, Go.IntKind.i64.wrap (x2 + (1 : Int)), x3, x4, x5, x6, x7, x8, x9 ++ y4)
           else none))
      else none
     else
      b (x3, x4, x5, x6, x7, x8, x9)) (fun v => R (T42_0 v)) (E42_0 K) := by
  kernel_rfl
theorem S42_0_ok (fuel : Nat) (R : Ev.St → Option Ans) (K : Ev.Ex → Ev.St → Option Ans) (x0 : (List Int)) (x1 : Int) (x2 : Int) (x3 : Int) (x4 : Int) (x5 : Int) (x6 : (List Int)) (x7 : (List Bool)) (x8 : (List Int)) (x9 : (List Int)) : evalCode tab (G42 fuel) (J42_0 fuel) kp42 fuel (bodyOf 0 Try.f42) (T42_0 (x0, x1, x2, x3, x4, x5, x6, x7, x8, x9)) (lc kp42 9 0 R K) = S_ref12_Header_0 fuel (x0, x1, x2, x3, x4, x5, x6, x7, x8, x9) (fun v => R (T42_0 v)) (E42_0 K) :=
  S42_0_okg fuel (F_ref12_Valid fuel) (F_ref12_size fuel) R K x0 x1 x2 x3 x4 x5 x6 x7 x8 x9
def B42_0 (fuel : Nat) : Ev.Blk := fun st K => match canonO (kp42 9) st with
  | some s => (match s with
    | ⟨[(q0, .c (.ptr q1 q2)), (q3, .c (.own q4)), (q5, .c (.sl (.int .i64) x0)), (q6, .c (.int .i64 x1)), (q7, .c (.int .i64 x2))], [(q8, .cells q9 [.int .i64 x3, .int .i64 x4, .int .i64 x5, .sl (.int .i64) x6, .sl .bool x7, .sl (.int .u8) x8]), (q10, .vec q11 (.int .u8) x9 true)], q12, q13⟩ => bif Nat.beq q0 1 && Nat.beq q1 0 && Nat.beq q2 0 && Nat.beq q3 4 && Nat.beq q4 1 && Nat.beq q5 40 && Nat.beq q6 41 && Nat.beq q7 42 && Nat.beq q8 0 && Nat.beq q9 63 && Nat.beq q10 1 && Nat.beq q11 5 && Nat.beq q12 2 && Nat.beq q13 0 then iter (S_ref12_Header_0 fuel) fuel (x0, x1, x2, x3, x4, x5, x6, x7, x8, x9) (E42_0 K) else none
    | _ => none)
  | none => none
theorem B42_0_ok (fuel : Nat) (st : Ev.St) (K : Ev.Ex → Ev.St → Option Ans) (r : Ans) (h : B42_0 fuel st K = some r) : evalCode tab (G42 fuel) (J42_0 fuel) kp42 fuel (.block 0 (.loop (bodyOf 0 Try.f42))) st K = some r := by
  unfold B42_0 at h
  split at h
  · rename_i s hs
    split at h
    · obtain ⟨hb, h⟩ := cond_some' h
      simp only [Bool.and_eq_true, Nat.beq_eq, decide_eq_true_eq] at hb
      obtain ⟨⟨⟨⟨⟨⟨⟨⟨⟨⟨⟨⟨⟨rfl, rfl⟩, rfl⟩, rfl⟩, rfl⟩, rfl⟩, rfl⟩, rfl⟩, rfl⟩, rfl⟩, rfl⟩, rfl⟩, rfl⟩, rfl⟩ := hb
      exact blk_loop (S := T42_0) (ks := E42_0) (step := S_ref12_Header_0 fuel) (v := (_, _, _, _, _, _, _, _, _, _)) (by kernel_rfl) (by kernel_rfl) (fun R K v => by obtain ⟨x0, x1, x2, x3, x4, x5, x6, x7, x8, x9⟩ := v; exact S42_0_ok fuel R K x0 x1 x2 x3 x4 x5 x6 x7 x8 x9) hs h
    · cases h
  · cases h
def J42 (fuel : Nat) (i : Nat) : Option Ev.Blk := Ev.look i [(100002, B42_2 fuel), (100000, B42_0 fuel)]
def F_ref12_Header (fuel : Nat) (x0 : Int) (x1 : Int) (x2 : Int) (x3 : (List Int)) (x4 : (List Bool)) (x5 : (List Int)) (k0 : (Int × (List Int)) → Option Ans) : Option Ans :=
  (F_ref12_Valid fuel (x0) (x1) (x2) (x3) (x4) (x5)
    (fun y2 =>
      bif !y2 then
       k0 ((2 : Int), [])
      else
       (F_ref12_size fuel (x0)
         (fun y7 =>
           bif (↑x3.length : Int) == (0 : Int) then
            bif Decidable.decide ((y7.length + [Go.IntKind.u8.wrap x1].length) * (1 : Nat) ≤ (140737488355328 : Nat) ∧ y7.length + [Go.IntKind.u8.wrap x1].length ≤ (140737488355328 : Nat)) then
            bif Decidable.decide ((0 : Int) ≤ Go.IntKind.i64.wrap ((Go.IntKind.i64.wrap ((↑x4.length : Int) + (7 : Int))).tdiv (8 : Int)) ∧ Go.IntKind.i64.wrap ((Go.IntKind.i64.wrap ((↑x4.length : Int) + (7 : Int))).tdiv (8 : Int)) = Go.IntKind.i64.wrap ((Go.IntKind.i64.wrap ((↑x4.length : Int) + (7 : Int))).tdiv (8 : Int)) ∧ (↑(1 : Nat) : Int) * Go.IntKind.i64.wrap ((Go.IntKind.i64.wrap ((↑x4.length : Int) + (7 : Int))).tdiv (8 : Int)) ≤ (281474976710656 : Int) ∧ Go.IntKind.i64.wrap ((Go.IntKind.i64.wrap ((↑x4.length : Int) + (7 : Int))).tdiv (8 : Int)) ≤ (281474976710656 : Int)) then
             (L_ref12_Header_2 fuel (x4, (↑x4.length : Int), (0 : Int), x0, x1, x2, x3, x4, x5, y7 ++ [Go.IntKind.u8.wrap x1], List.replicate (Go.IntKind.i64.wrap ((Go.IntKind.i64.wrap ((↑x4.length : Int) + (7 : Int))).tdiv (8 : Int))).toNat (0 : Int))
                (fun (b2_0, b2_1, b2_2, b2_3, b2_4, b2_5, b2_6, b2_7) =>
                  bif Decidable.decide ((b2_6.length + b2_7.length) * (1 : Nat) ≤ (140737488355328 : Nat) ∧ b2_6.length + b2_7.length ≤ (140737488355328 : Nat)) then
                  (F_ref12_size fuel (b2_2)
                     (fun y19 =>
                       bif Decidable.decide (((b2_6 ++ b2_7).length + y19.length) * (1 : Nat) ≤ (140737488355328 : Nat) ∧ (b2_6 ++ b2_7).length + y19.length ≤ (140737488355328 : Nat)) then
                       (F_ref12_size fuel ((↑b2_5.length : Int))
                          (fun y24 =>
                            bif Decidable.decide (((b2_6 ++ b2_7 ++ y19).length + y24.length) * (1 : Nat) ≤ (140737488355328 : Nat) ∧ (b2_6 ++ b2_7 ++ y19).length + y24.length ≤ (140737488355328 : Nat)) then
                            k0 ((0 : Int), b2_6 ++ b2_7 ++ y19 ++ y24)
                            else none))
                       else none))
                  else none))
             else none
            else none
           else
            bif Decidable.decide ((y7.length + [Go.IntKind.u8.wrap (Go.IntKind.i64.wrap (x1 + (16 : Int)))].length) * (1 : Nat) ≤ (140737488355328 : Nat) ∧ y7.length + [Go.IntKind.u8.wrap (Go.IntKind.i64.wrap (x1 + (16 : Int)))].length ≤ (140737488355328 : Nat)) then
            (F_ref12_size fuel ((↑x3.length : Int))
               (fun y13 =>
                 bif Decidable.decide (((y7 ++ [Go.IntKind.u8.wrap (Go.IntKind.i64.wrap (x1 + (16 : Int)))]).length + y13.length) * (1 : Nat) ≤ (140737488355328 : Nat) ∧ (y7 ++ [Go.IntKind.u8.wrap (Go.IntKind.i64.wrap (x1 + (16 : Int)))]).length + y13.length ≤ (140737488355328 : Nat)) then
                 (L_ref12_Header_0 fuel (x3, (↑x3.length : Int), (0 : Int), x0, x1, x2, x3, x4, x5, y7 ++ [Go.IntKind.u8.wrap (Go.IntKind.i64.wrap (x1 + (16 : Int)))] ++ y13)
                    (fun (b0_0, b0_1, b0_2, b0_3, b0_4, b0_5, b0_6) =>
                      bif Decidable.decide ((0 : Int) ≤ Go.IntKind.i64.wrap ((Go.IntKind.i64.wrap ((↑b0_4.length : Int) + (7 : Int))).tdiv (8 : Int)) ∧ Go.IntKind.i64.wrap ((Go.IntKind.i64.wrap ((↑b0_4.length : Int) + (7 : Int))).tdiv (8 : Int)) = Go.IntKind.i64.wrap ((Go.IntKind.i64.wrap ((↑b0_4.length : Int) + (7 : Int))).tdiv (8 : Int)) ∧ (↑(1 : Nat) : Int) * Go.IntKind.i64.wrap ((Go.IntKind.i64.wrap ((↑b0_4.length : Int) + (7 : Int))).tdiv (8 : Int)) ≤ (281474976710656 : Int) ∧ Go.IntKind.i64.wrap ((Go.IntKind.i64.wrap ((↑b0_4.length : Int) + (7 : Int))).tdiv (8 : Int)) ≤ (281474976710656 : Int)) then
                      (L_ref12_Header_2 fuel (b0_4, (↑b0_4.length : Int), (0 : Int), b0_0, b0_1, b0_2, b0_3, b0_4, b0_5, b0_6, List.replicate (Go.IntKind.i64.wrap ((Go.IntKind.i64.wrap ((↑b0_4.length : Int) + (7 : Int))).tdiv (8 : Int))).toNat (0 : Int))
                         (fun (b2_0, b2_1, b2_2, b2_3, b2_4, b2_5, b2_6, b2_7) =>
                           bif Decidable.decide ((b2_6.length + b2_7.length) * (1 : Nat) ≤ (140737488355328 : Nat) ∧ b2_6.length + b2_7.length ≤ (140737488355328 : Nat)) then
                           (F_ref12_size fuel (b2_2)
                              (fun y28 =>
                                bif Decidable.decide (((b2_6 ++ b2_7).length + y28.length) * (1 : Nat) ≤ (140737488355328 : Nat) ∧ (b2_6 ++ b2_7).length + y28.length ≤ (140737488355328 : Nat)) then
                                (F_ref12_size fuel ((↑b2_5.length : Int))
                                   (fun y33 =>
                                     bif Decidable.decide (((b2_6 ++ b2_7 ++ y28).length + y33.length) * (1 : Nat) ≤ (140737488355328 : Nat) ∧ (b2_6 ++ b2_7 ++ y28).length + y33.length ≤ (140737488355328 : Nat)) then
                                     k0 ((0 : Int), b2_6 ++ b2_7 ++ y28 ++ y33)
                                     else none))
                                else none))
                           else none))
                      else none))
                 else none))
            else none))))
abbrev YF42 : Type := (Int) → (Int) → (Int) → ((List Int)) → ((List Bool)) → ((List Int)) → ((Int × (List Int)) → Option Ans) → Option Ans
theorem F42_eqg (fuel : Nat) (f44 : YF44) (f79 : YF79) (x0 : Int) (x1 : Int) (x2 : Int) (x3 : (List Int)) (x4 : (List Bool)) (x5 : (List Int)) (k : Ev.Cont) : evalFn tab (Gg42 f44 f79) (J42 fuel) kp42 fuel Try.f42 [.agg [.int .i64 x0, .int .i64 x1, .int .i64 x2, .sl (.int .i64) x3, .sl .bool x4, .sl (.int .u8) x5]] [] k = (fun  (k0 : (Int × (List Int)) → Option Ans) =>
  (f44 (x0) (x1) (x2) (x3) (x4) (x5)
    (fun y2 =>
      bif !y2 then
       k0 ((2 : Int), [])
      else
       (f79 (x0)
         (fun y7 =>
           bif (↑x3.length : Int) == (0 : Int) then
            bif Decidable.decide ((y7.length + [Go.IntKind.u8.wrap x1].length) * (1 : Nat) ≤ (140737488355328 : Nat) ∧ y7.length + [Go.IntKind.u8.wrap x1].length ≤ (140737488355328 : Nat)) then
            bif Decidable.decide ((0 : Int) ≤ Go.IntKind.i64.wrap ((Go.IntKind.i64.wrap ((↑x4.length : Int) + (7 : Int))).tdiv (8 : Int)) ∧ Go.IntKind.i64.wrap ((Go.IntKind.i64.wrap ((↑x4.length : Int) + (7 : Int))).tdiv (8 : Int)) = Go.IntKind.i64.wrap ((Go.IntKind.i64.wrap ((↑x4.length : Int) + (7 : Int))).tdiv (8 : Int)) ∧ (↑(1 : Nat) : Int) * Go.IntKind.i64.wrap ((Go.IntKind.i64.wrap ((↑x4.length : Int) + (7 : Int))).tdiv (8 : Int)) ≤ (281474976710656 : Int) ∧ Go.IntKind.i64.wrap ((Go.IntKind.i64.wrap ((↑x4.length : Int) + (7 : Int))).tdiv (8 : Int)) ≤ (281474976710656 : Int)) then
             (L_ref12_Header_2 fuel (x4, (↑x4.length : Int), (0 : Int), x0, x1, x2, x3, x4, x5, y7 ++ [Go.IntKind.u8.wrap x1], List.replicate (Go.IntKind.i64.wrap ((Go.IntKind.i64.wrap ((↑x4.length : Int) + (7 : Int))).tdiv (8 : Int))).toNat (0 : Int))
                (fun (b2_0, b2_1, b2_2, b2_3, b2_4, b2_5, b2_6, b2_7) =>
                  bif Decidable.decide ((b2_6.length + b2_7.length) * (1 : Nat) ≤ (140737488355328 : Nat) ∧ b2_6.length + b2_7.length ≤ (140737488355328 : Nat)) then
                  (f79 (b2_2)
                     (fun y19 =>
                       bif Decidable.decide (((b2_6 ++ b2_7).length + y19.length) * (1 : Nat) ≤ (140737488355328 : Nat) ∧ (b2_6 ++ b2_7).length + y19.length ≤ (140737488355328 : Nat)) then
                       (f79 ((↑b2_5.length : Int))
                          (fun y24 =>
                            bif Decidable.decide (((b2_6 ++ b2_7 ++ y19).length + y24.length) * (1 : Nat) ≤ (140737488355328 : Nat) ∧ (b2_6 ++ b2_7 ++ y19).length + y24.length ≤ (140737488355328 : Nat)) then
                            k0 ((0 : Int), b2_6 ++ b2_7 ++ y19 ++ y24)
                            else none))
                       else none))
                  else none))
             else none
            else none
           else
            bif Decidable.decide ((y7.length + [Go.IntKind.u8.wrap (Go.IntKind.i64.wrap (x1 + (16 : Int)))].length) * (1 : Nat) ≤ (140737488355328 : Nat) ∧ y7.length + [Go.IntKind.u8.wrap (Go.IntKind.i64.wrap (x1 + (16 : Int)))].length ≤ (140737488355328 : Nat)) then
            (f79 ((↑x3.length : Int))
               (fun y13 =>
                 bif Decidable.decide (((y7 ++ [Go.IntKind.u8.wrap (Go.IntKind.i64.wrap (x1 + (16 : Int)))]).length + y13.length) * (1 : Nat) ≤ (140737488355328 : Nat) ∧ (y7 ++ [Go.IntKind.u8.wrap (Go.IntKind.i64.wrap (x1 + (16 : Int)))]).length + y13.length ≤ (140737488355328 : Nat)) then
                 (L_ref12_Header_0 fuel (x3, (↑x3.length : Int), (0 : Int), x0, x1, x2, x3, x4, x5, y7 ++ [Go.IntKind.u8.wrap (Go.IntKind.i64.wrap (x1 + (16 : Int)))] ++ y13)
                    (fun (b0_0, b0_1, b0_2, b0_3, b0_4, b0_5, b0_6) =>
                      bif Decidable.decide ((0 : Int) ≤ Go.IntKind.i64.wrap ((Go.IntKind.i64.wrap ((↑b0_4.length : Int) + (7 : Int))).tdiv (8 : Int)) ∧ Go.IntKind.i64.wrap ((Go.IntKind.i64.wrap ((↑b0_4.length : Int) + (7 : Int))).tdiv (8 : Int)) = Go.IntKind.i64.wrap ((Go.IntKind.i64.wrap ((↑b0_4.length : Int) + (7 : Int))).tdiv (8 : Int)) ∧ (↑(1 : Nat) : Int) * Go.IntKind.i64.wrap ((Go.IntKind.i64.wrap ((↑b0_4.length : Int) + (7 : Int))).tdiv (8 : Int)) ≤ (281474976710656 : Int) ∧ Go.IntKind.i64.wrap ((Go.IntKind.i64.wrap ((↑b0_4.length : Int) + (7 : Int))).tdiv (8 : Int)) ≤ (281474976710656 : Int)) then
                      (L_ref12_Header_2 fuel (b0_4, (↑b0_4.length : Int), (0 : Int), b0_0, b0_1, b0_2, b0_3, b0_4, b0_5, b0_6, List.replicate (Go.IntKind.i64.wrap ((Go.IntKind.i64.wrap ((↑b0_4.length : Int) + (7 : Int))).tdiv (8 : Int))).toNat (0 : Int))
                         (fun (b2_0, b2_1, b2_2, b2_3, b2_4, b2_5, b2_6, b2_7) =>
                           bif Decidable.decide ((b2_6.length + b2_7.length) * (1 : Nat) ≤ (140737488355328 : Nat) ∧ b2_6.length + b2_7.length ≤ (140737488355328 : Nat)) then
                           (f79 (b2_2)
                              (fun y28 =>
                                bif Decidable.decide (((b2_6 ++ b2_7).length + y28.length) * (1 : Nat) ≤ (140737488355328 : Nat) ∧ (b2_6 ++ b2_7).length + y28.length ≤ (140737488355328 : Nat)) then
                                (f79 ((↑b2_5.length : Int))
                                   (fun y33 =>
                                     bif Decidable.decide (((b2_6 ++ b2_7 ++ y28).length + y33.length) * (1 : Nat) ≤ (140737488355328 : Nat) ∧ (b2_6 ++ b2_7 ++ y28).length + y33.length ≤ (140737488355328 : Nat)) then
                                     k0 ((0 : Int), b2_6 ++ b2_7 ++ y28 ++ y33)
                                     else none))
                                else none))
                           else none))
                      else none))
                 else none))
            else none))))) (fun r => match r with | (r0, r1) => k (.tup [(false, [.own 0]), (false, [.int .i64 r0])], [.vec 5 (.int .u8) r1 true])) := by
  kernel_rfl
theorem F42_eq (fuel : Nat) (x0 : Int) (x1 : Int) (x2 : Int) (x3 : (List Int)) (x4 : (List Bool)) (x5 : (List Int)) (k : Ev.Cont) : evalFn tab (G42 fuel) (J42 fuel) kp42 fuel Try.f42 [.agg [.int .i64 x0, .int .i64 x1, .int .i64 x2, .sl (.int .i64) x3, .sl .bool x4, .sl (.int .u8) x5]] [] k = F_ref12_Header fuel x0 x1 x2 x3 x4 x5 (fun r => match r with | (r0, r1) => k (.tup [(false, [.own 0]), (false, [.int .i64 r0])], [.vec 5 (.int .u8) r1 true])) :=
  F42_eqg fuel (F_ref12_Valid fuel) (F_ref12_size fuel) x0 x1 x2 x3 x4 x5 k
theorem hG42 (fuel : Nat) : GOK Try.prog (G42 fuel) :=
  gok_cons ⟨ok44 fuel, enters_of Try.func44 (by kernel_rfl) rfl⟩ <|
  gok_cons ⟨ok79 fuel, enters_of Try.func79 (by kernel_rfl) rfl⟩ <|
  gok_nil
theorem B42_2_blk (fuel : Nat) : BlkOK Try.prog Try.f42.ntmps (.block 2 (.loop (bodyOf 2 Try.f42))) (B42_2 fuel) :=
  blk_of (blk_of_code tab_ok (hG42 fuel) mixed (J := J42_2 fuel) (kp := kp42) (fuel := fuel) (by kernel_rfl) (fun q hq => by
    rw [(by kernel_rfl : obl (J42_2 fuel) (.block 2 (.loop (bodyOf 2 Try.f42))) = [])] at hq
    cases hq)) (B42_2_ok fuel)
theorem B42_0_blk (fuel : Nat) : BlkOK Try.prog Try.f42.ntmps (.block 0 (.loop (bodyOf 0 Try.f42))) (B42_0 fuel) :=
  blk_of (blk_of_code tab_ok (hG42 fuel) mixed (J := J42_0 fuel) (kp := kp42) (fuel := fuel) (by kernel_rfl) (fun q hq => by
    rw [(by kernel_rfl : obl (J42_0 fuel) (.block 0 (.loop (bodyOf 0 Try.f42))) = [])] at hq
    cases hq)) (B42_0_ok fuel)
theorem fok42 (fuel : Nat) : FnOK Try.prog 42 (evalFn tab (G42 fuel) (J42 fuel) kp42 fuel Try.f42) :=
  fn_ok tab_ok (hG42 fuel) mixed Try.func42 (c := (Try.f42.body).getD .skip) rfl (fun q hq => by
    rw [(by kernel_rfl : obl (J42 fuel) ((Try.f42.body).getD .skip) = [(.block 0 (.loop (bodyOf 0 Try.f42)), B42_0 fuel), (.block 2 (.loop (bodyOf 2 Try.f42)), B42_2 fuel)])] at hq
    simp only [List.mem_cons, List.not_mem_nil, or_false] at hq
    rcases hq with rfl | rfl
    · exact B42_0_blk fuel
    · exact B42_2_blk fuel)
def mt42 : List Ev.SV → List Ev.Ob → Bool := fun args objs => match args, objs with
  | [.agg [.int .i64 _, .int .i64 _, .int .i64 _, .sl (.int .i64) _, .sl .bool _, .sl (.int .u8) _]], [] => true
  | _, _ => false
def spg42 (F : YF42) : Ev.Spec := fun args objs k => match args, objs with
  | [.agg [.int .i64 x0, .int .i64 x1, .int .i64 x2, .sl (.int .i64) x3, .sl .bool x4, .sl (.int .u8) x5]], [] => bif true then F x0 x1 x2 x3 x4 x5 (fun r => match r with | (r0, r1) => k (.tup [(false, [.own 0]), (false, [.int .i64 r0])], [.vec 5 (.int .u8) r1 true])) else none
  | _, _ => none
def spec42 (fuel : Nat) : Ev.Spec := spg42 (F_ref12_Header fuel)
theorem ok42 (fuel : Nat) : FnOK Try.prog 42 (spec42 fuel) := by
  intro args objs kk r h
  unfold spec42 spg42 at h
  split at h
  · obtain ⟨hb, h⟩ := cond_some' h
    simp only [Bool.and_eq_true, Nat.beq_eq, decide_eq_true_eq] at hb
    clear hb
    exact fok42 fuel _ _ kk r ((F42_eq fuel _ _ _ _ _ _ kk).trans h)
  · cases h
end Go.Proofs.Ytajidgilfkineaa

set_option linter.unusedVariables false
set_option linter.unusedSimpArgs false
set_option maxRecDepth 100000
namespace Go.Proofs.Ytajidgilfkineaa
open Go Ev
def kp82 (i : Nat) : Option (List Nat) := Ev.look i []
def Gg82 (f : Nat) : Option Ev.Spec := Ev.look f []
def G82 (fuel : Nat) : Nat → Option Ev.Spec := Gg82
def J82 (fuel : Nat) (i : Nat) : Option Ev.Blk := Ev.look i []
def F_bytes_Equal (fuel : Nat) (x0 : (List Int)) (x1 : (List Int)) (k0 : (Bool) → Option Ans) : Option Ans :=
  k0 ((Go.strOfNums x0).toList == (Go.strOfNums x1).toList)
abbrev YF82 : Type := ((List Int)) → ((List Int)) → ((Bool) → Option Ans) → Option Ans
theorem F82_eq (fuel : Nat) (x0 : (List Int)) (x1 : (List Int)) (k : Ev.Cont) : evalFn tab (G82 fuel) (J82 fuel) kp82 fuel Try.f82 [.c (.sl (.int .u8) x0), .c (.sl (.int .u8) x1)] [] k = F_bytes_Equal fuel x0 x1 (fun r => match r with | r0 => k (.c (.bool r0), [])) := by
  kernel_rfl
theorem hG82 (fuel : Nat) : GOK Try.prog (G82 fuel) :=
  gok_nil
theorem fok82 (fuel : Nat) : FnOK Try.prog 82 (evalFn tab (G82 fuel) (J82 fuel) kp82 fuel Try.f82) :=
  fn_ok tab_ok (hG82 fuel) mixed Try.func82 (c := (Try.f82.body).getD .skip) rfl (fun q hq => by
    rw [(by kernel_rfl : obl (J82 fuel) ((Try.f82.body).getD .skip) = [])] at hq
    cases hq)
def mt82 : List Ev.SV → List Ev.Ob → Bool := fun args objs => match args, objs with
  | [.c (.sl (.int .u8) _), .c (.sl (.int .u8) _)], [] => true
  | _, _ => false
def spg82 (F : YF82) : Ev.Spec := fun args objs k => match args, objs with
  | [.c (.sl (.int .u8) x0), .c (.sl (.int .u8) x1)], [] => bif true then F x0 x1 (fun r => match r with | r0 => k (.c (.bool r0), [])) else none
  | _, _ => none
def spec82 (fuel : Nat) : Ev.Spec := spg82 (F_bytes_Equal fuel)
theorem ok82 (fuel : Nat) : FnOK Try.prog 82 (spec82 fuel) := by
  intro args objs kk r h
  unfold spec82 spg82 at h
  split at h
  · obtain ⟨hb, h⟩ := cond_some' h
    simp only [Bool.and_eq_true, Nat.beq_eq, decide_eq_true_eq] at hb
    clear hb
    exact fok82 fuel _ _ kk r ((F82_eq fuel _ _ kk).trans h)
  · cases h
end Go.Proofs.Ytajidgilfkineaa

set_option linter.unusedVariables false
set_option linter.unusedSimpArgs false
set_option maxRecDepth 100000
namespace Go.Proofs.Ytajidgilfkineaa
open Go Ev
def kp81 (i : Nat) : Option (List Nat) := Ev.look i [(4, [0, 1, 12, 13]), (100000, []), (400000, [4])]
def Gg81 (f : Nat) : Option Ev.Spec := Ev.look f []
def G81 (fuel : Nat) : Nat → Option Ev.Spec := Gg81
def S_slices_Equal_bool_bool_0 (fuel : Nat) (v : (List Bool) × (List Bool) × Int × Int) (c : ((List Bool) × (List Bool) × Int × Int) → Option Ans) (B : (Bool → Option Ans) × (Unit → Option Ans)) : Option Ans := match v, B with
  | (x0, x1, x2, x3), (ret, b) =>
   bif Decidable.decide (x3 < x2) then
      bif Decidable.decide ((0 : Int) ≤ x3 ∧ x3 < (↑x0.length : Int)) then
      bif Decidable.decide ((0 : Int) ≤ x3 ∧ x3 < (↑x1.length : Int)) then
       bif !x0.getD x3.toNat Bool.false == x1.getD x3.toNat Bool.false then
         ret Bool.false
        else
         c (x0, x1, x2, Go.IntKind.i64.wrap (x3 + (1 : Int)))
       else none
      else none
     else
      b ()
def L_slices_Equal_bool_bool_0 (fuel : Nat) (v : (List Bool) × (List Bool) × Int × Int) (ret : (Bool → Option Ans)) (b : (Unit → Option Ans)) : Option Ans := iter (S_slices_Equal_bool_bool_0 fuel) fuel v (ret, b)
def J81_0 (fuel : Nat) (i : Nat) : Option Ev.Blk := Ev.look i []
def T81_0 (v : (List Bool) × (List Bool) × Int × Int) : Ev.St := match v with | (x0, x1, x2, x3) => ⟨[(0, .c (.sl .bool x0)), (1, .c (.sl .bool x1)), (12, .c (.int .i64 x2)), (13, .c (.int .i64 x3))], [], 0, 0⟩
def E81_0 (K : Ev.Ex → Ev.St → Option Ans) : (Bool → Option Ans) × (Unit → Option Ans) := ((fun v => match v with | x0 => K .ret ⟨[(4, .c (.bool x0))], [], 0, 0⟩), (fun v => match v with | () => K .normal ⟨[], [], 0, 0⟩))
theorem S81_0_ok (fuel : Nat) (R : Ev.St → Option Ans) (K : Ev.Ex → Ev.St → Option Ans) (x0 : (List Bool)) (x1 : (List Bool)) (x2 : Int) (x3 : Int) : evalCode tab (G81 fuel) (J81_0 fuel) kp81 fuel (bodyOf 0 Try.f81) (T81_0 (x0, x1, x2, x3)) (lc kp81 4 0 R K) = S_slices_Equal_bool_bool_0 fuel (x0, x1, x2, x3) (fun v => R (T81_0 v)) (E81_0 K) := by
  kernel_rfl
def B81_0 (fuel : Nat) : Ev.Blk := fun st K => match canonO (kp81 4) st with
  | some s => (match s with
    | ⟨[(q0, .c (.sl .bool x0)), (q1, .c (.sl .bool x1)), (q2, .c (.int .i64 x2)), (q3, .c (.int .i64 x3))], [], q4, q5⟩ => bif Nat.beq q0 0 && Nat.beq q1 1 && Nat.beq q2 12 && Nat.beq q3 13 && Nat.beq q4 0 && Nat.beq q5 0 then iter (S_slices_Equal_bool_bool_0 fuel) fuel (x0, x1, x2, x3) (E81_0 K) else none
    | _ => none)
  | none => none
theorem B81_0_ok (fuel : Nat) (st : Ev.St) (K : Ev.Ex → Ev.St → Option Ans) (r : Ans) (h : B81_0 fuel st K = some r) : evalCode tab (G81 fuel) (J81_0 fuel) kp81 fuel (.block 0 (.loop (bodyOf 0 Try.f81))) st K = some r := by
  unfold B81_0 at h
  split at h
  · rename_i s hs
    split at h
    · obtain ⟨hb, h⟩ := cond_some' h
      simp only [Bool.and_eq_true, Nat.beq_eq, decide_eq_true_eq] at hb
      obtain ⟨⟨⟨⟨⟨rfl, rfl⟩, rfl⟩, rfl⟩, rfl⟩, rfl⟩ := hb
      exact blk_loop (S := T81_0) (ks := E81_0) (step := S_slices_Equal_bool_bool_0 fuel) (v := (_, _, _, _)) (by kernel_rfl) (by kernel_rfl) (fun R K v => by obtain ⟨x0, x1, x2, x3⟩ := v; exact S81_0_ok fuel R K x0 x1 x2 x3) hs h
    · cases h
  · cases h
def J81 (fuel : Nat) (i : Nat) : Option Ev.Blk := Ev.look i [(100000, B81_0 fuel)]
def F_slices_Equal_bool_bool (fuel : Nat) (x0 : (List Bool)) (x1 : (List Bool)) (k0 : (Bool) → Option Ans) : Option Ans :=
  bif (↑x0.length : Int) != (↑x1.length : Int) then
   k0 Bool.false
  else
   (L_slices_Equal_bool_bool_0 fuel (x0, x1, (↑x0.length : Int), (0 : Int))
     (fun ret0_0 =>
       k0 ret0_0)
     (fun () =>
       k0 Bool.true))
abbrev YF81 : Type := ((List Bool)) → ((List Bool)) → ((Bool) → Option Ans) → Option Ans
theorem F81_eq (fuel : Nat) (x0 : (List Bool)) (x1 : (List Bool)) (k : Ev.Cont) : evalFn tab (G81 fuel) (J81 fuel) kp81 fuel Try.f81 [.c (.sl .bool x0), .c (.sl .bool x1)] [] k = F_slices_Equal_bool_bool fuel x0 x1 (fun r => match r with | r0 => k (.c (.bool r0), [])) := by
  kernel_rfl
theorem hG81 (fuel : Nat) : GOK Try.prog (G81 fuel) :=
  gok_nil
theorem B81_0_blk (fuel : Nat) : BlkOK Try.prog Try.f81.ntmps (.block 0 (.loop (bodyOf 0 Try.f81))) (B81_0 fuel) :=
  blk_of (blk_of_code tab_ok (hG81 fuel) mixed (J := J81_0 fuel) (kp := kp81) (fuel := fuel) (by kernel_rfl) (fun q hq => by
    rw [(by kernel_rfl : obl (J81_0 fuel) (.block 0 (.loop (bodyOf 0 Try.f81))) = [])] at hq
    cases hq)) (B81_0_ok fuel)
theorem fok81 (fuel : Nat) : FnOK Try.prog 81 (evalFn tab (G81 fuel) (J81 fuel) kp81 fuel Try.f81) :=
  fn_ok tab_ok (hG81 fuel) mixed Try.func81 (c := (Try.f81.body).getD .skip) rfl (fun q hq => by
    rw [(by kernel_rfl : obl (J81 fuel) ((Try.f81.body).getD .skip) = [(.block 0 (.loop (bodyOf 0 Try.f81)), B81_0 fuel)])] at hq
    simp only [List.mem_cons, List.not_mem_nil, or_false] at hq
    subst hq
    · exact B81_0_blk fuel)
def mt81 : List Ev.SV → List Ev.Ob → Bool := fun args objs => match args, objs with
  | [.c (.sl .bool _), .c (.sl .bool _)], [] => true
  | _, _ => false
def spg81 (F : YF81) : Ev.Spec := fun args objs k => match args, objs with
  | [.c (.sl .bool x0), .c (.sl .bool x1)], [] => bif true then F x0 x1 (fun r => match r with | r0 => k (.c (.bool r0), [])) else none
  | _, _ => none
def spec81 (fuel : Nat) : Ev.Spec := spg81 (F_slices_Equal_bool_bool fuel)
theorem ok81 (fuel : Nat) : FnOK Try.prog 81 (spec81 fuel) := by
  intro args objs kk r h
  unfold spec81 spg81 at h
  split at h
  · obtain ⟨hb, h⟩ := cond_some' h
    simp only [Bool.and_eq_true, Nat.beq_eq, decide_eq_true_eq] at hb
    clear hb
    exact fok81 fuel _ _ kk r ((F81_eq fuel _ _ kk).trans h)
  · cases h
end Go.Proofs.Ytajidgilfkineaa

set_option linter.unusedVariables false
set_option linter.unusedSimpArgs false
set_option maxRecDepth 100000
namespace Go.Proofs.Ytajidgilfkineaa
open Go Ev
def kp80 (i : Nat) : Option (List Nat) := Ev.look i [(4, [0, 1, 12, 13]), (100000, []), (400000, [4])]
def Gg80 (f : Nat) : Option Ev.Spec := Ev.look f []
def G80 (fuel : Nat) : Nat → Option Ev.Spec := Gg80
def S_slices_Equal_int_int_0 (fuel : Nat) (v : (List Int) × (List Int) × Int × Int) (c : ((List Int) × (List Int) × Int × Int) → Option Ans) (B : (Bool → Option Ans) × (Unit → Option Ans)) : Option Ans := match v, B with
  | (x0, x1, x2, x3), (ret, b) =>
   bif Decidable.decide (x3 < x2) then
      bif Decidable.decide ((0 : Int) ≤ x3 ∧ x3 < (↑x0.length : Int)) then
      bif Decidable.decide ((0 : Int) ≤ x3 ∧ x3 < (↑x1.length : Int)) then
       bif x0.getD x3.toNat (0 : Int) != x1.getD x3.toNat (0 : Int) then
         ret Bool.false
        else
         c (x0, x1, x2, Go.IntKind.i64.wrap (x3 + (1 : Int)))
       else none
      else none
     else
      b ()
def L_slices_Equal_int_int_0 (fuel : Nat) (v : (List Int) × (List Int) × Int × Int) (ret : (Bool → Option Ans)) (b : (Unit → Option Ans)) : Option Ans := iter (S_slices_Equal_int_int_0 fuel) fuel v (ret, b)
def J80_0 (fuel : Nat) (i : Nat) : Option Ev.Blk := Ev.look i []
def T80_0 (v : (List Int) × (List Int) × Int × Int) : Ev.St := match v with | (x0, x1, x2, x3) => ⟨[(0, .c (.sl (.int .i64) x0)), (1, .c (.sl (.int .i64) x1)), (12, .c (.int .i64 x2)), (13, .c (.int .i64 x3))], [], 0, 0⟩
def E80_0 (K : Ev.Ex → Ev.St → Option Ans) : (Bool → Option Ans) × (Unit → Option Ans) := ((fun v => match v with | x0 => K .ret ⟨[(4, .c (.bool x0))], [], 0, 0⟩), (fun v => match v with | () => K .normal ⟨[], [], 0, 0⟩))
theorem S80_0_ok (fuel : Nat) (R : Ev.St → Option Ans) (K : Ev.Ex → Ev.St → Option Ans) (x0 : (List Int)) (x1 : (List Int)) (x2 : Int) (x3 : Int) : evalCode tab (G80 fuel) (J80_0 fuel) kp80 fuel (bodyOf 0 Try.f80) (T80_0 (x0, x1, x2, x3)) (lc kp80 4 0 R K) = S_slices_Equal_int_int_0 fuel (x0, x1, x2, x3) (fun v => R (T80_0 v)) (E80_0 K) := by
  kernel_rfl
def B80_0 (fuel : Nat) : Ev.Blk := fun st K => match canonO (kp80 4) st with
  | some s => (match s with
    | ⟨[(q0, .c (.sl (.int .i64) x0)), (q1, .c (.sl (.int .i64) x1)), (q2, .c (.int .i64 x2)), (q3, .c (.int .i64 x3))], [], q4, q5⟩ => bif Nat.beq q0 0 && Nat.beq q1 1 && Nat.beq q2 12 && Nat.beq q3 13 && Nat.beq q4 0 && Nat.beq q5 0 then iter (S_slices_Equal_int_int_0 fuel) fuel (x0, x1, x2, x3) (E80_0 K) else none
    | _ => none)
  | none => none
theorem B80_0_ok (fuel : Nat) (st : Ev.St) (K : Ev.Ex → Ev.St → Option Ans) (r : Ans) (h : B80_0 fuel st K = some r) : evalCode tab (G80 fuel) (J80_0 fuel) kp80 fuel (.block 0 (.loop (bodyOf 0 Try.f80))) st K = some r := by
  unfold B80_0 at h
  split at h
  · rename_i s hs
    split at h
    · obtain ⟨hb, h⟩ := cond_some' h
      simp only [Bool.and_eq_true, Nat.beq_eq, decide_eq_true_eq] at hb
      obtain ⟨⟨⟨⟨⟨rfl, rfl⟩, rfl⟩, rfl⟩, rfl⟩, rfl⟩ := hb
      exact blk_loop (S := T80_0) (ks := E80_0) (step := S_slices_Equal_int_int_0 fuel) (v := (_, _, _, _)) (by kernel_rfl) (by kernel_rfl) (fun R K v => by obtain ⟨x0, x1, x2, x3⟩ := v; exact S80_0_ok fuel R K x0 x1 x2 x3) hs h
    · cases h
  · cases h
def J80 (fuel : Nat) (i : Nat) : Option Ev.Blk := Ev.look i [(100000, B80_0 fuel)]
def F_slices_Equal_int_int (fuel : Nat) (x0 : (List Int)) (x1 : (List Int)) (k0 : (Bool) → Option Ans) : Option Ans :=
  bif (↑x0.length : Int) != (↑x1.length : Int) then
   k0 Bool.false
  else
   (L_slices_Equal_int_int_0 fuel (x0, x1, (↑x0.length : Int), (0 : Int))
     (fun ret0_0 =>
       k0 ret0_0)
     (fun () =>
       k0 Bool.true))
abbrev YF80 : Type := ((List Int)) → ((List Int)) → ((Bool) → Option Ans) → Option Ans
theorem F80_eq (fuel : Nat) (x0 : (List Int)) (x1 : (List Int)) (k : Ev.Cont) : evalFn tab (G80 fuel) (J80 fuel) kp80 fuel Try.f80 [.c (.sl (.int .i64) x0), .c (.sl (.int .i64) x1)] [] k = F_slices_Equal_int_int fuel x0 x1 (fun r => match r with | r0 => k (.c (.bool r0), [])) := by
  kernel_rfl
theorem hG80 (fuel : Nat) : GOK Try.prog (G80 fuel) :=
  gok_nil
theorem B80_0_blk (fuel : Nat) : BlkOK Try.prog Try.f80.ntmps (.block 0 (.loop (bodyOf 0 Try.f80))) (B80_0 fuel) :=
  blk_of (blk_of_code tab_ok (hG80 fuel) mixed (J := J80_0 fuel) (kp := kp80) (fuel := fuel) (by kernel_rfl) (fun q hq => by
    rw [(by kernel_rfl : obl (J80_0 fuel) (.block 0 (.loop (bodyOf 0 Try.f80))) = [])] at hq
    cases hq)) (B80_0_ok fuel)
theorem fok80 (fuel : Nat) : FnOK Try.prog 80 (evalFn tab (G80 fuel) (J80 fuel) kp80 fuel Try.f80) :=
  fn_ok tab_ok (hG80 fuel) mixed Try.func80 (c := (Try.f80.body).getD .skip) rfl (fun q hq => by
    rw [(by kernel_rfl : obl (J80 fuel) ((Try.f80.body).getD .skip) = [(.block 0 (.loop (bodyOf 0 Try.f80)), B80_0 fuel)])] at hq
    simp only [List.mem_cons, List.not_mem_nil, or_false] at hq
    subst hq
    · exact B80_0_blk fuel)
def mt80 : List Ev.SV → List Ev.Ob → Bool := fun args objs => match args, objs with
  | [.c (.sl (.int .i64) _), .c (.sl (.int .i64) _)], [] => true
  | _, _ => false
def spg80 (F : YF80) : Ev.Spec := fun args objs k => match args, objs with
  | [.c (.sl (.int .i64) x0), .c (.sl (.int .i64) x1)], [] => bif true then F x0 x1 (fun r => match r with | r0 => k (.c (.bool r0), [])) else none
  | _, _ => none
def spec80 (fuel : Nat) : Ev.Spec := spg80 (F_slices_Equal_int_int fuel)
theorem ok80 (fuel : Nat) : FnOK Try.prog 80 (spec80 fuel) := by
  intro args objs kk r h
  unfold spec80 spg80 at h
  split at h
  · obtain ⟨hb, h⟩ := cond_some' h
    simp only [Bool.and_eq_true, Nat.beq_eq, decide_eq_true_eq] at hb
    clear hb
    exact fok80 fuel _ _ kk r ((F80_eq fuel _ _ kk).trans h)
  · cases h
end Go.Proofs.Ytajidgilfkineaa

set_option linter.unusedVariables false
set_option linter.unusedSimpArgs false
set_option maxRecDepth 100000
namespace Go.Proofs.Ytajidgilfkineaa
open Go Ev
def kp46 (i : Nat) : Option (List Nat) := Ev.look i []
def Gg46 (f80 : YF80) (f81 : YF81) (f82 : YF82) (f : Nat) : Option Ev.Spec := Ev.look f [(80, spg80 f80), (81, spg81 f81), (82, spg82 f82)]
def G46 (fuel : Nat) : Nat → Option Ev.Spec := Gg46 (F_slices_Equal_int_int fuel) (F_slices_Equal_bool_bool fuel) (F_bytes_Equal fuel)
def J46 (fuel : Nat) (i : Nat) : Option Ev.Blk := Ev.look i []
def F_segment_Same (fuel : Nat) (x0 : Int) (x1 : Int) (x2 : Int) (x3 : (List Int)) (x4 : (List Bool)) (x5 : (List Int)) (x6 : Int) (x7 : Int) (x8 : Int) (x9 : (List Int)) (x10 : (List Bool)) (x11 : (List Int)) (k0 : (Bool) → Option Ans) : Option Ans :=
  bif x0 == x6 then
   bif x1 == x7 then
    bif x2 == x8 then
     (F_slices_Equal_int_int fuel (x3) (x9)
       (fun y5 =>
         bif y5 then
          (F_slices_Equal_bool_bool fuel (x4) (x10)
            (fun y10 =>
              bif y10 then
               (F_bytes_Equal fuel (x5) (x11)
                 (fun y15 =>
                   k0 y15))
              else
               k0 Bool.false))
         else
          k0 Bool.false))
    else
     k0 Bool.false
   else
    k0 Bool.false
  else
   k0 Bool.false
abbrev YF46 : Type := (Int) → (Int) → (Int) → ((List Int)) → ((List Bool)) → ((List Int)) → (Int) → (Int) → (Int) → ((List Int)) → ((List Bool)) → ((List Int)) → ((Bool) → Option Ans) → Option Ans
theorem F46_eqg (fuel : Nat) (f80 : YF80) (f81 : YF81) (f82 : YF82) (x0 : Int) (x1 : Int) (x2 : Int) (x3 : (List Int)) (x4 : (List Bool)) (x5 : (List Int)) (x6 : Int) (x7 : Int) (x8 : Int) (x9 : (List Int)) (x10 : (List Bool)) (x11 : (List Int)) (k : Ev.Cont) : evalFn tab (Gg46 f80 f81 f82) (J46 fuel) kp46 fuel Try.f46 [.agg [.int .i64 x0, .int .i64 x1, .int .i64 x2, .sl (.int .i64) x3, .sl .bool x4, .sl (.int .u8) x5], .agg [.int .i64 x6, .int .i64 x7, .int .i64 x8, .sl (.int .i64) x9, .sl .bool x10, .sl (.int .u8) x11]] [] k = (fun  (k0 : (Bool) → Option Ans) =>
  bif x0 == x6 then
   bif x1 == x7 then
    bif x2 == x8 then
     (f80 (x3) (x9)
       (fun y5 =>
         bif y5 then
          (f81 (x4) (x10)
            (fun y10 =>
              bif y10 then
               (f82 (x5) (x11)
                 (fun y15 =>
                   k0 y15))
              else
               k0 Bool.false))
         else
          k0 Bool.false))
    else
     k0 Bool.false
   else
    k0 Bool.false
  else
   k0 Bool.false) (fun r => match r with | r0 => k (.c (.bool r0), [])) := by
  kernel_rfl
theorem F46_eq (fuel : Nat) (x0 : Int) (x1 : Int) (x2 : Int) (x3 : (List Int)) (x4 : (List Bool)) (x5 : (List Int)) (x6 : Int) (x7 : Int) (x8 : Int) (x9 : (List Int)) (x10 : (List Bool)) (x11 : (List Int)) (k : Ev.Cont) : evalFn tab (G46 fuel) (J46 fuel) kp46 fuel Try.f46 [.agg [.int .i64 x0, .int .i64 x1, .int .i64 x2, .sl (.int .i64) x3, .sl .bool x4, .sl (.int .u8) x5], .agg [.int .i64 x6, .int .i64 x7, .int .i64 x8, .sl (.int .i64) x9, .sl .bool x10, .sl (.int .u8) x11]] [] k = F_segment_Same fuel x0 x1 x2 x3 x4 x5 x6 x7 x8 x9 x10 x11 (fun r => match r with | r0 => k (.c (.bool r0), [])) :=
  F46_eqg fuel (F_slices_Equal_int_int fuel) (F_slices_Equal_bool_bool fuel) (F_bytes_Equal fuel) x0 x1 x2 x3 x4 x5 x6 x7 x8 x9 x10 x11 k
theorem hG46 (fuel : Nat) : GOK Try.prog (G46 fuel) :=
  gok_cons ⟨ok80 fuel, enters_of Try.func80 (by kernel_rfl) rfl⟩ <|
  gok_cons ⟨ok81 fuel, enters_of Try.func81 (by kernel_rfl) rfl⟩ <|
  gok_cons ⟨ok82 fuel, enters_of Try.func82 (by kernel_rfl) rfl⟩ <|
  gok_nil
theorem fok46 (fuel : Nat) : FnOK Try.prog 46 (evalFn tab (G46 fuel) (J46 fuel) kp46 fuel Try.f46) :=
  fn_ok tab_ok (hG46 fuel) mixed Try.func46 (c := (Try.f46.body).getD .skip) rfl (fun q hq => by
    rw [(by kernel_rfl : obl (J46 fuel) ((Try.f46.body).getD .skip) = [])] at hq
    cases hq)
def mt46 : List Ev.SV → List Ev.Ob → Bool := fun args objs => match args, objs with
  | [.agg [.int .i64 _, .int .i64 _, .int .i64 _, .sl (.int .i64) _, .sl .bool _, .sl (.int .u8) _], .agg [.int .i64 _, .int .i64 _, .int .i64 _, .sl (.int .i64) _, .sl .bool _, .sl (.int .u8) _]], [] => true
  | _, _ => false
def spg46 (F : YF46) : Ev.Spec := fun args objs k => match args, objs with
  | [.agg [.int .i64 x0, .int .i64 x1, .int .i64 x2, .sl (.int .i64) x3, .sl .bool x4, .sl (.int .u8) x5], .agg [.int .i64 x6, .int .i64 x7, .int .i64 x8, .sl (.int .i64) x9, .sl .bool x10, .sl (.int .u8) x11]], [] => bif true then F x0 x1 x2 x3 x4 x5 x6 x7 x8 x9 x10 x11 (fun r => match r with | r0 => k (.c (.bool r0), [])) else none
  | _, _ => none
def spec46 (fuel : Nat) : Ev.Spec := spg46 (F_segment_Same fuel)
theorem ok46 (fuel : Nat) : FnOK Try.prog 46 (spec46 fuel) := by
  intro args objs kk r h
  unfold spec46 spg46 at h
  split at h
  · obtain ⟨hb, h⟩ := cond_some' h
    simp only [Bool.and_eq_true, Nat.beq_eq, decide_eq_true_eq] at hb
    clear hb
    exact fok46 fuel _ _ kk r ((F46_eq fuel _ _ _ _ _ _ _ _ _ _ _ _ kk).trans h)
  · cases h
end Go.Proofs.Ytajidgilfkineaa

