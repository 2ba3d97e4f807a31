/- What the functions that FileEmbedded reaches do: their typed texts, each with the proof that the machine does it. No condition. -/
import Derived.Test.YtihfgpfofmjbaaaEvX
import Derived.Test.YtihfgpfofmjbaaaFsFileEmbedded1
set_option linter.unusedVariables false
set_option linter.unusedSimpArgs false
set_option linter.unusedVariables false
set_option linter.unusedSimpArgs false
set_option maxRecDepth 100000
set_option maxHeartbeats 2000000
namespace Go.Proofs.Ytihfgpfofmjbaaa
open Go Ev
def kp63 (i : Nat) : Option (List Nat) := Ev.look i [(11, [1, 4, 5, 44, 45, 46]), (17, [1, 4, 5, 8, 58, 59, 60]), (100000, [1, 4, 5]), (100002, [1, 4, 5, 8]), (400000, [2, 3]), (400002, [2, 3])]
noncomputable def Gg63 (f59 : YF59) (f136_35f : YF136_35f) (f138 : YF138) (f139 : YF139) (f : Nat) : Option Ev.Spec := Ev.look f [(59, spg59 f59), (136, spg136_35f f136_35f), (138, spg138 f138), (139, spg139 f139)]
noncomputable def G63 (fuel : Nat) : Nat → Option Ev.Spec := Gg63 (F_segment_Valid fuel) (F_segment_Header_1_35f fuel) (F_segment_flag fuel) (F_bits_Pack fuel)
noncomputable def S_segment_Header_2 (fuel : Nat) (v : (List Bool) × Int × Int × Int × Int × Int × (List Int) × (List Bool) × (List Int) × (List Int) × (List Int)) (c : ((List Bool) × Int × Int × Int × Int × Int × (List Int) × (List Bool) × (List Int) × (List Int) × (List Int)) → Option Ans) (B : (Int × Int × Int × (List Int) × (List Bool) × (List Int) × (List Int) × (List Int) → Option Ans)) : Option Ans := match v, B with
  | (x0, x1, x2, x3, x4, x5, x6, x7, x8, x9, x10), b =>
   bif Decidable.decide (x2 < x1) then
      bif Decidable.decide ((0 : Int) ≤ x2 ∧ x2 < (↑x0.length : Int)) then
      (F_segment_flag fuel (x0.getD x2.toNat Bool.false)
         (fun y4 =>
           bif Decidable.decide ((x9.length + [y4].length) * (1 : Nat) ≤ (140737488355328 : Nat) ∧ x9.length + [y4].length ≤ (140737488355328 : Nat)) then
           c (x0, x1, Go.IntKind.i64.wrap (x2 + (1 : Int)), x3, x4, x5, x6, x7, x8, x9 ++ [y4], x10)
           else none))
      else none
     else
      b (x3, x4, x5, x6, x7, x8, x9, x10)
noncomputable def L_segment_Header_2 (fuel : Nat) (v : (List Bool) × Int × Int × Int × Int × Int × (List Int) × (List Bool) × (List Int) × (List Int) × (List Int)) (b : (Int × Int × Int × (List Int) × (List Bool) × (List Int) × (List Int) × (List Int) → Option Ans)) : Option Ans := iter (S_segment_Header_2 fuel) fuel v b
noncomputable def J63_2 (fuel : Nat) (i : Nat) : Option Ev.Blk := Ev.look i []
noncomputable def T63_2 (v : (List Bool) × Int × Int × Int × Int × Int × (List Int) × (List Bool) × (List Int) × (List Int) × (List Int)) : Ev.St := match v with | (x0, x1, x2, x3, x4, x5, x6, x7, x8, x9, x10) => ⟨[(1, .c (.ptr 0 0)), (4, .c (.ptr 1 0)), (5, .c (.clo 136 [1])), (8, .c (.own 2)), (58, .c (.sl .bool x0)), (59, .c (.int .i64 x1)), (60, .c (.int .i64 x2))], [(0, .cells 103 [.int .i64 x3, .int .i64 x4, .int .i64 x5, .sl (.int .i64) x6, .sl .bool x7, .sl (.int .u8) x8]), (1, .cells 25 [.own 3]), (2, .vec 5 (.int .u8) x9 true), (3, .vec 5 (.int .u8) x10 true)], 4, 0⟩
noncomputable def E63_2 (K : Ev.Ex → Ev.St → Option Ans) : (Int × Int × Int × (List Int) × (List Bool) × (List Int) × (List Int) × (List Int) → Option Ans) := (fun v => match v with | (x0, x1, x2, x3, x4, x5, x6, x7) => K .normal ⟨[(1, .c (.ptr 0 0)), (4, .c (.ptr 1 0)), (5, .c (.clo 136 [1])), (8, .c (.own 2))], [(0, .cells 103 [.int .i64 x0, .int .i64 x1, .int .i64 x2, .sl (.int .i64) x3, .sl .bool x4, .sl (.int .u8) x5]), (1, .cells 25 [.own 3]), (2, .vec 5 (.int .u8) x6 true), (3, .vec 5 (.int .u8) x7 true)], 4, 0⟩)
theorem S63_2_okg (fuel : Nat) (f59 : YF59) (f136_35f : YF136_35f) (f138 : YF138) (f139 : YF139) (R : Ev.St → Option Ans) (K : Ev.Ex → Ev.St → Option Ans) (x0 : (List Bool)) (x1 : Int) (x2 : Int) (x3 : Int) (x4 : Int) (x5 : Int) (x6 : (List Int)) (x7 : (List Bool)) (x8 : (List Int)) (x9 : (List Int)) (x10 : (List Int)) : evalCode tab (Gg63 f59 f136_35f f138 f139) (J63_2 fuel) kp63 fuel (bodyOf 2 Try.f63) (T63_2 (x0, x1, x2, x3, x4, x5, x6, x7, x8, x9, x10)) (lc kp63 17 2 R K) = (fun (c : ((List Bool) × Int × Int × Int × Int × Int × (List Int) × (List Bool) × (List Int) × (List Int) × (List Int)) → Option Ans) (B : (Int × Int × Int × (List Int) × (List Bool) × (List Int) × (List Int) × (List Int) → Option Ans)) => match B with
  | b =>
   bif Decidable.decide (x2 < x1) then
      bif Decidable.decide ((0 : Int) ≤ x2 ∧ x2 < (↑x0.length : Int)) then
      (f138 (x0.getD x2.toNat Bool.false)
         (fun y4 =>
           bif Decidable.decide ((x9.length + [y4].length) * (1 : Nat) ≤ (140737488355328 : Nat) ∧ x9.length + [y4].length ≤ (140737488355328 : Nat)) then
           c (x0, x1, Go.IntKind.i64.wrap (x2 + (1 : Int)), x3, x4, x5, x6, x7, x8, x9 ++ [y4], x10)
           else none))
      else none
     else
      b (x3, x4, x5, x6, x7, x8, x9, x10)) (fun v => R (T63_2 v)) (E63_2 K) := by
  kernel_rfl
theorem S63_2_ok (fuel : Nat) (R : Ev.St → Option Ans) (K : Ev.Ex → Ev.St → Option Ans) (x0 : (List Bool)) (x1 : Int) (x2 : Int) (x3 : Int) (x4 : Int) (x5 : Int) (x6 : (List Int)) (x7 : (List Bool)) (x8 : (List Int)) (x9 : (List Int)) (x10 : (List Int)) : evalCode tab (G63 fuel) (J63_2 fuel) kp63 fuel (bodyOf 2 Try.f63) (T63_2 (x0, x1, x2, x3, x4, x5, x6, x7, x8, x9, x10)) (lc kp63 17 2 R K) = S_segment_Header_2 fuel (x0, x1, x2, x3, x4, x5, x6, x7, x8, x9, x10) (fun v => R (T63_2 v)) (E63_2 K) :=
  S63_2_okg fuel (F_segment_Valid fuel) (F_segment_Header_1_35f fuel) (F_segment_flag fuel) (F_bits_Pack fuel) R K x0 x1 x2 x3 x4 x5 x6 x7 x8 x9 x10
noncomputable def B63_2 (fuel : Nat) : Ev.Blk := fun st K => match canonO (kp63 17) st with
  | some s => (match s with
    | ⟨[(q0, .c (.ptr q1 q2)), (q3, .c (.ptr q4 q5)), (q6, .c (.clo q7 [q8])), (q9, .c (.own q10)), (q11, .c (.sl .bool x0)), (q12, .c (.int .i64 x1)), (q13, .c (.int .i64 x2))], [(q14, .cells q15 [.int .i64 x3, .int .i64 x4, .int .i64 x5, .sl (.int .i64) x6, .sl .bool x7, .sl (.int .u8) x8]), (q16, .cells q17 [.own q18]), (q19, .vec q20 (.int .u8) x9 true), (q21, .vec q22 (.int .u8) x10 true)], q23, q24⟩ => bif Nat.beq q0 1 && Nat.beq q1 0 && Nat.beq q2 0 && Nat.beq q3 4 && Nat.beq q4 1 && Nat.beq q5 0 && Nat.beq q6 5 && Nat.beq q7 136 && Nat.beq q8 1 && Nat.beq q9 8 && Nat.beq q10 2 && Nat.beq q11 58 && Nat.beq q12 59 && Nat.beq q13 60 && Nat.beq q14 0 && Nat.beq q15 103 && Nat.beq q16 1 && Nat.beq q17 25 && Nat.beq q18 3 && Nat.beq q19 2 && Nat.beq q20 5 && Nat.beq q21 3 && Nat.beq q22 5 && Nat.beq q23 4 && Nat.beq q24 0 then iter (S_segment_Header_2 fuel) fuel (x0, x1, x2, x3, x4, x5, x6, x7, x8, x9, x10) (E63_2 K) else none
    | _ => none)
  | none => none
theorem B63_2_ok (fuel : Nat) (st : Ev.St) (K : Ev.Ex → Ev.St → Option Ans) (r : Ans) (h : B63_2 fuel st K = some r) : evalCode tab (G63 fuel) (J63_2 fuel) kp63 fuel (.block 2 (.loop (bodyOf 2 Try.f63))) st K = some r := by
  unfold B63_2 at h
  split at h
  · rename_i s hs
    split at h
    · skip
      obtain ⟨hb, h⟩ := cond_some' h
      simp only [Bool.and_eq_true, Nat.beq_eq, decide_eq_true_eq] at hb
      obtain ⟨⟨⟨⟨⟨⟨⟨⟨⟨⟨⟨⟨⟨⟨⟨⟨⟨⟨⟨⟨⟨⟨⟨⟨rfl, rfl⟩, rfl⟩, rfl⟩, rfl⟩, rfl⟩, rfl⟩, rfl⟩, rfl⟩, rfl⟩, rfl⟩, rfl⟩, rfl⟩, rfl⟩, rfl⟩, rfl⟩, rfl⟩, rfl⟩, rfl⟩, rfl⟩, rfl⟩, rfl⟩, rfl⟩, rfl⟩, rfl⟩ := hb
      exact blk_loop (S := T63_2) (ks := E63_2) (step := S_segment_Header_2 fuel) (v := (_, _, _, _, _, _, _, _, _, _, _)) (by kernel_rfl) (by kernel_rfl) (fun R K v => by obtain ⟨x0, x1, x2, x3, x4, x5, x6, x7, x8, x9, x10⟩ := v; exact S63_2_ok fuel R K x0 x1 x2 x3 x4 x5 x6 x7 x8 x9 x10) hs h
    · cases h
  · cases h
noncomputable def S_segment_Header_0 (fuel : Nat) (v : (List Int) × Int × Int × Int × Int × Int × (List Int) × (List Bool) × (List Int) × (List Int)) (c : ((List Int) × Int × Int × Int × Int × Int × (List Int) × (List Bool) × (List Int) × (List Int)) → Option Ans) (B : (Int × Int × Int × (List Int) × (List Bool) × (List Int) × (List Int) → Option Ans)) : Option Ans := match v, B with
  | (x0, x1, x2, x3, x4, x5, x6, x7, x8, x9), b =>
   bif Decidable.decide (x2 < x1) then
      bif Decidable.decide ((0 : Int) ≤ x2 ∧ x2 < (↑x0.length : Int)) then
      (F_segment_Header_1_35f fuel (Go.IntKind.i64.wrap (x3 - x0.getD x2.toNat (0 : Int))) (x9)
         (fun y4 =>
           c (x0, x1, Go.IntKind.i64.wrap (x2 + (1 : Int)), x3, x4, x5, x6, x7, x8, y4)))
      else none
     else
      b (x3, x4, x5, x6, x7, x8, x9)
noncomputable def L_segment_Header_0 (fuel : Nat) (v : (List Int) × Int × Int × Int × Int × Int × (List Int) × (List Bool) × (List Int) × (List Int)) (b : (Int × Int × Int × (List Int) × (List Bool) × (List Int) × (List Int) → Option Ans)) : Option Ans := iter (S_segment_Header_0 fuel) fuel v b
noncomputable def J63_0 (fuel : Nat) (i : Nat) : Option Ev.Blk := Ev.look i [(100002, B63_2 fuel)]
noncomputable def T63_0 (v : (List Int) × Int × Int × Int × Int × Int × (List Int) × (List Bool) × (List Int) × (List Int)) : Ev.St := match v with | (x0, x1, x2, x3, x4, x5, x6, x7, x8, x9) => ⟨[(1, .c (.ptr 0 0)), (4, .c (.ptr 1 0)), (5, .c (.clo 136 [1])), (44, .c (.sl (.int .i64) x0)), (45, .c (.int .i64 x1)), (46, .c (.int .i64 x2))], [(0, .cells 103 [.int .i64 x3, .int .i64 x4, .int .i64 x5, .sl (.int .i64) x6, .sl .bool x7, .sl (.int .u8) x8]), (1, .cells 25 [.own 2]), (2, .vec 5 (.int .u8) x9 true)], 3, 0⟩
noncomputable def E63_0 (K : Ev.Ex → Ev.St → Option Ans) : (Int × Int × Int × (List Int) × (List Bool) × (List Int) × (List Int) → Option Ans) := (fun v => match v with | (x0, x1, x2, x3, x4, x5, x6) => K .normal ⟨[(1, .c (.ptr 0 0)), (4, .c (.ptr 1 0)), (5, .c (.clo 136 [1]))], [(0, .cells 103 [.int .i64 x0, .int .i64 x1, .int .i64 x2, .sl (.int .i64) x3, .sl .bool x4, .sl (.int .u8) x5]), (1, .cells 25 [.own 2]), (2, .vec 5 (.int .u8) x6 true)], 3, 0⟩)
theorem S63_0_okg (fuel : Nat) (f59 : YF59) (f136_35f : YF136_35f) (f138 : YF138) (f139 : YF139) (R : Ev.St → Option Ans) (K : Ev.Ex → Ev.St → Option Ans) (x0 : (List Int)) (x1 : Int) (x2 : Int) (x3 : Int) (x4 : Int) (x5 : Int) (x6 : (List Int)) (x7 : (List Bool)) (x8 : (List Int)) (x9 : (List Int)) : evalCode tab (Gg63 f59 f136_35f f138 f139) (J63_0 fuel) kp63 fuel (bodyOf 0 Try.f63) (T63_0 (x0, x1, x2, x3, x4, x5, x6, x7, x8, x9)) (lc kp63 11 0 R K) = (fun (c : ((List Int) × Int × Int × Int × Int × Int × (List Int) × (List Bool) × (List Int) × (List Int)) → Option Ans) (B : (Int × Int × Int × (List Int) × (List Bool) × (List Int) × (List Int) → Option Ans)) => match B with
  | b =>
   bif Decidable.decide (x2 < x1) then
      bif Decidable.decide ((0 : Int) ≤ x2 ∧ x2 < (↑x0.length : Int)) then
      (f136_35f (Go.IntKind.i64.wrap (x3 - x0.getD x2.toNat (0 : Int))) (x9)
         (fun y4 =>
           c (x0, x1, Go.IntKind.i64.wrap (x2 + (1 : Int)), x3, x4, x5, x6, x7, x8, y4)))
      else none
     else
      b (x3, x4, x5, x6, x7, x8, x9)) (fun v => R (T63_0 v)) (E63_0 K) := by
  kernel_rfl
theorem S63_0_ok (fuel : Nat) (R : Ev.St → Option Ans) (K : Ev.Ex → Ev.St → Option Ans) (x0 : (List Int)) (x1 : Int) (x2 : Int) (x3 : Int) (x4 : Int) (x5 : Int) (x6 : (List Int)) (x7 : (List Bool)) (x8 : (List Int)) (x9 : (List Int)) : evalCode tab (G63 fuel) (J63_0 fuel) kp63 fuel (bodyOf 0 Try.f63) (T63_0 (x0, x1, x2, x3, x4, x5, x6, x7, x8, x9)) (lc kp63 11 0 R K) = S_segment_Header_0 fuel (x0, x1, x2, x3, x4, x5, x6, x7, x8, x9) (fun v => R (T63_0 v)) (E63_0 K) :=
  S63_0_okg fuel (F_segment_Valid fuel) (F_segment_Header_1_35f fuel) (F_segment_flag fuel) (F_bits_Pack fuel) R K x0 x1 x2 x3 x4 x5 x6 x7 x8 x9
noncomputable def B63_0 (fuel : Nat) : Ev.Blk := fun st K => match canonO (kp63 11) st with
  | some s => (match s with
    | ⟨[(q0, .c (.ptr q1 q2)), (q3, .c (.ptr q4 q5)), (q6, .c (.clo q7 [q8])), (q9, .c (.sl (.int .i64) x0)), (q10, .c (.int .i64 x1)), (q11, .c (.int .i64 x2))], [(q12, .cells q13 [.int .i64 x3, .int .i64 x4, .int .i64 x5, .sl (.int .i64) x6, .sl .bool x7, .sl (.int .u8) x8]), (q14, .cells q15 [.own q16]), (q17, .vec q18 (.int .u8) x9 true)], q19, q20⟩ => bif Nat.beq q0 1 && Nat.beq q1 0 && Nat.beq q2 0 && Nat.beq q3 4 && Nat.beq q4 1 && Nat.beq q5 0 && Nat.beq q6 5 && Nat.beq q7 136 && Nat.beq q8 1 && Nat.beq q9 44 && Nat.beq q10 45 && Nat.beq q11 46 && Nat.beq q12 0 && Nat.beq q13 103 && Nat.beq q14 1 && Nat.beq q15 25 && Nat.beq q16 2 && Nat.beq q17 2 && Nat.beq q18 5 && Nat.beq q19 3 && Nat.beq q20 0 then iter (S_segment_Header_0 fuel) fuel (x0, x1, x2, x3, x4, x5, x6, x7, x8, x9) (E63_0 K) else none
    | _ => none)
  | none => none
theorem B63_0_ok (fuel : Nat) (st : Ev.St) (K : Ev.Ex → Ev.St → Option Ans) (r : Ans) (h : B63_0 fuel st K = some r) : evalCode tab (G63 fuel) (J63_0 fuel) kp63 fuel (.block 0 (.loop (bodyOf 0 Try.f63))) st K = some r := by
  unfold B63_0 at h
  split at h
  · rename_i s hs
    split at h
    · skip
      obtain ⟨hb, h⟩ := cond_some' h
      simp only [Bool.and_eq_true, Nat.beq_eq, decide_eq_true_eq] at hb
      obtain ⟨⟨⟨⟨⟨⟨⟨⟨⟨⟨⟨⟨⟨⟨⟨⟨⟨⟨⟨⟨rfl, rfl⟩, rfl⟩, rfl⟩, rfl⟩, rfl⟩, rfl⟩, rfl⟩, rfl⟩, rfl⟩, rfl⟩, rfl⟩, rfl⟩, rfl⟩, rfl⟩, rfl⟩, rfl⟩, rfl⟩, rfl⟩, rfl⟩, rfl⟩ := hb
      exact blk_loop (S := T63_0) (ks := E63_0) (step := S_segment_Header_0 fuel) (v := (_, _, _, _, _, _, _, _, _, _)) (by kernel_rfl) (by kernel_rfl) (fun R K v => by obtain ⟨x0, x1, x2, x3, x4, x5, x6, x7, x8, x9⟩ := v; exact S63_0_ok fuel R K x0 x1 x2 x3 x4 x5 x6 x7 x8 x9) hs h
    · cases h
  · cases h
noncomputable def J63 (fuel : Nat) (i : Nat) : Option Ev.Blk := Ev.look i [(100002, B63_2 fuel), (100000, B63_0 fuel)]
noncomputable def F_segment_Header (fuel : Nat) (x0 : Int) (x1 : Int) (x2 : Int) (x3 : (List Int)) (x4 : (List Bool)) (x5 : (List Int)) (k0 : (Int × (List Int)) → Option Ans) : Option Ans :=
  (F_segment_Valid fuel (x0) (x1) (x2) (x3) (x4) (x5)
    (fun y2 =>
      bif !y2 then
       k0 ((2 : Int), [])
      else
       (F_segment_Header_1_35f fuel (x0) ([])
         (fun y7 =>
           bif (↑x3.length : Int) == (0 : Int) then
            bif Decidable.decide ((y7.length + [Go.IntKind.u8.wrap x1].length) * (1 : Nat) ≤ (140737488355328 : Nat) ∧ y7.length + [Go.IntKind.u8.wrap x1].length ≤ (140737488355328 : Nat)) then
            (L_segment_Header_2 fuel (x4, (↑x4.length : Int), (0 : Int), x0, x1, x2, x3, x4, x5, [], y7 ++ [Go.IntKind.u8.wrap x1])
               (fun (b2_0, b2_1, b2_2, b2_3, b2_4, b2_5, b2_6, b2_7) =>
                 (F_bits_Pack fuel (b2_6)
                   (fun (y17_0, y17_1) =>
                     bif Decidable.decide ((b2_7.length + y17_1.length) * (1 : Nat) ≤ (140737488355328 : Nat) ∧ b2_7.length + y17_1.length ≤ (140737488355328 : Nat)) then
                     (F_segment_Header_1_35f fuel (b2_2) (b2_7 ++ y17_1)
                        (fun y22 =>
                          (F_segment_Header_1_35f fuel ((↑b2_5.length : Int)) (y22)
                            (fun y26 =>
                              k0 ((0 : Int), y26)))))
                     else none))))
            else none
           else
            bif Decidable.decide ((y7.length + [Go.IntKind.u8.wrap (Go.IntKind.i64.wrap (x1 + (16 : Int)))].length) * (1 : Nat) ≤ (140737488355328 : Nat) ∧ y7.length + [Go.IntKind.u8.wrap (Go.IntKind.i64.wrap (x1 + (16 : Int)))].length ≤ (140737488355328 : Nat)) then
            (F_segment_Header_1_35f fuel ((↑x3.length : Int)) (y7 ++ [Go.IntKind.u8.wrap (Go.IntKind.i64.wrap (x1 + (16 : Int)))])
               (fun y13 =>
                 (L_segment_Header_0 fuel (x3, (↑x3.length : Int), (0 : Int), x0, x1, x2, x3, x4, x5, y13)
                   (fun (b0_0, b0_1, b0_2, b0_3, b0_4, b0_5, b0_6) =>
                     (L_segment_Header_2 fuel (b0_4, (↑b0_4.length : Int), (0 : Int), b0_0, b0_1, b0_2, b0_3, b0_4, b0_5, [], b0_6)
                       (fun (b2_0, b2_1, b2_2, b2_3, b2_4, b2_5, b2_6, b2_7) =>
                         (F_bits_Pack fuel (b2_6)
                           (fun (y25_0, y25_1) =>
                             bif Decidable.decide ((b2_7.length + y25_1.length) * (1 : Nat) ≤ (140737488355328 : Nat) ∧ b2_7.length + y25_1.length ≤ (140737488355328 : Nat)) then
                             (F_segment_Header_1_35f fuel (b2_2) (b2_7 ++ y25_1)
                                (fun y30 =>
                                  (F_segment_Header_1_35f fuel ((↑b2_5.length : Int)) (y30)
                                    (fun y34 =>
                                      k0 ((0 : Int), y34)))))
                             else none))))))))
            else none))))
abbrev YF63 : Type := (Int) → (Int) → (Int) → ((List Int)) → ((List Bool)) → ((List Int)) → ((Int × (List Int)) → Option Ans) → Option Ans
theorem F63_eqg (fuel : Nat) (f59 : YF59) (f136_35f : YF136_35f) (f138 : YF138) (f139 : YF139) (x0 : Int) (x1 : Int) (x2 : Int) (x3 : (List Int)) (x4 : (List Bool)) (x5 : (List Int)) (k : Ev.Cont) : evalFn tab (Gg63 f59 f136_35f f138 f139) (J63 fuel) kp63 fuel Try.f63 [.agg [.int .i64 x0, .int .i64 x1, .int .i64 x2, .sl (.int .i64) x3, .sl .bool x4, .sl (.int .u8) x5]] [] k = (fun  (k0 : (Int × (List Int)) → Option Ans) =>
  (f59 (x0) (x1) (x2) (x3) (x4) (x5)
    (fun y2 =>
      bif !y2 then
       k0 ((2 : Int), [])
      else
       (f136_35f (x0) ([])
         (fun y7 =>
           bif (↑x3.length : Int) == (0 : Int) then
            bif Decidable.decide ((y7.length + [Go.IntKind.u8.wrap x1].length) * (1 : Nat) ≤ (140737488355328 : Nat) ∧ y7.length + [Go.IntKind.u8.wrap x1].length ≤ (140737488355328 : Nat)) then
            (L_segment_Header_2 fuel (x4, (↑x4.length : Int), (0 : Int), x0, x1, x2, x3, x4, x5, [], y7 ++ [Go.IntKind.u8.wrap x1])
               (fun (b2_0, b2_1, b2_2, b2_3, b2_4, b2_5, b2_6, b2_7) =>
                 (f139 (b2_6)
                   (fun (y17_0, y17_1) =>
                     bif Decidable.decide ((b2_7.length + y17_1.length) * (1 : Nat) ≤ (140737488355328 : Nat) ∧ b2_7.length + y17_1.length ≤ (140737488355328 : Nat)) then
                     (f136_35f (b2_2) (b2_7 ++ y17_1)
                        (fun y22 =>
                          (f136_35f ((↑b2_5.length : Int)) (y22)
                            (fun y26 =>
                              k0 ((0 : Int), y26)))))
                     else none))))
            else none
           else
            bif Decidable.decide ((y7.length + [Go.IntKind.u8.wrap (Go.IntKind.i64.wrap (x1 + (16 : Int)))].length) * (1 : Nat) ≤ (140737488355328 : Nat) ∧ y7.length + [Go.IntKind.u8.wrap (Go.IntKind.i64.wrap (x1 + (16 : Int)))].length ≤ (140737488355328 : Nat)) then
            (f136_35f ((↑x3.length : Int)) (y7 ++ [Go.IntKind.u8.wrap (Go.IntKind.i64.wrap (x1 + (16 : Int)))])
               (fun y13 =>
                 (L_segment_Header_0 fuel (x3, (↑x3.length : Int), (0 : Int), x0, x1, x2, x3, x4, x5, y13)
                   (fun (b0_0, b0_1, b0_2, b0_3, b0_4, b0_5, b0_6) =>
                     (L_segment_Header_2 fuel (b0_4, (↑b0_4.length : Int), (0 : Int), b0_0, b0_1, b0_2, b0_3, b0_4, b0_5, [], b0_6)
                       (fun (b2_0, b2_1, b2_2, b2_3, b2_4, b2_5, b2_6, b2_7) =>
                         (f139 (b2_6)
                           (fun (y25_0, y25_1) =>
                             bif Decidable.decide ((b2_7.length + y25_1.length) * (1 : Nat) ≤ (140737488355328 : Nat) ∧ b2_7.length + y25_1.length ≤ (140737488355328 : Nat)) then
                             (f136_35f (b2_2) (b2_7 ++ y25_1)
                                (fun y30 =>
                                  (f136_35f ((↑b2_5.length : Int)) (y30)
                                    (fun y34 =>
                                      k0 ((0 : Int), y34)))))
                             else none))))))))
            else none))))) (fun r => match r with | (r0, r1) => k (.tup [(false, [.own 0]), (false, [.int .i64 r0])], [.vec 5 (.int .u8) r1 true])) := by
  kernel_rfl
theorem F63_eq (fuel : Nat) (x0 : Int) (x1 : Int) (x2 : Int) (x3 : (List Int)) (x4 : (List Bool)) (x5 : (List Int)) (k : Ev.Cont) : evalFn tab (G63 fuel) (J63 fuel) kp63 fuel Try.f63 [.agg [.int .i64 x0, .int .i64 x1, .int .i64 x2, .sl (.int .i64) x3, .sl .bool x4, .sl (.int .u8) x5]] [] k = F_segment_Header fuel x0 x1 x2 x3 x4 x5 (fun r => match r with | (r0, r1) => k (.tup [(false, [.own 0]), (false, [.int .i64 r0])], [.vec 5 (.int .u8) r1 true])) :=
  F63_eqg fuel (F_segment_Valid fuel) (F_segment_Header_1_35f fuel) (F_segment_flag fuel) (F_bits_Pack fuel) x0 x1 x2 x3 x4 x5 k
theorem hG63 (fuel : Nat) : GOK Try.prog (G63 fuel) :=
  gok_cons ⟨ok59 fuel, enters_of Try.func59 (by kernel_rfl) rfl⟩ <|
  gok_cons ⟨ok136_35f fuel, enters_of Try.func136 (by kernel_rfl) rfl⟩ <|
  gok_cons ⟨ok138 fuel, enters_of Try.func138 (by kernel_rfl) rfl⟩ <|
  gok_cons ⟨ok139 fuel, enters_of Try.func139 (by kernel_rfl) rfl⟩ <|
  gok_nil
theorem B63_2_blk (fuel : Nat) : BlkOK Try.prog Try.f63.ntmps (.block 2 (.loop (bodyOf 2 Try.f63))) (B63_2 fuel) :=
  blk_of (blk_of_code tab_ok (hG63 fuel) mixed (J := J63_2 fuel) (kp := kp63) (fuel := fuel) (by kernel_rfl) (fun q hq => by
    rw [(by kernel_rfl : obl (J63_2 fuel) (.block 2 (.loop (bodyOf 2 Try.f63))) = [])] at hq
    cases hq)) (B63_2_ok fuel)
theorem B63_0_blk (fuel : Nat) : BlkOK Try.prog Try.f63.ntmps (.block 0 (.loop (bodyOf 0 Try.f63))) (B63_0 fuel) :=
  blk_of (blk_of_code tab_ok (hG63 fuel) mixed (J := J63_0 fuel) (kp := kp63) (fuel := fuel) (by kernel_rfl) (fun q hq => by
    rw [(by kernel_rfl : obl (J63_0 fuel) (.block 0 (.loop (bodyOf 0 Try.f63))) = [])] at hq
    cases hq)) (B63_0_ok fuel)
theorem fok63 (fuel : Nat) : FnOK Try.prog 63 (evalFn tab (G63 fuel) (J63 fuel) kp63 fuel Try.f63) :=
  fn_ok tab_ok (hG63 fuel) mixed Try.func63 (c := (Try.f63.body).getD .skip) rfl (fun q hq => by
    rw [(by kernel_rfl : obl (J63 fuel) ((Try.f63.body).getD .skip) = [(.block 0 (.loop (bodyOf 0 Try.f63)), B63_0 fuel), (.block 2 (.loop (bodyOf 2 Try.f63)), B63_2 fuel)])] at hq
    simp only [List.mem_cons, List.not_mem_nil, or_false] at hq
    rcases hq with rfl | rfl
    · exact B63_0_blk fuel
    · exact B63_2_blk fuel)
noncomputable def mt63 : List Ev.SV → List Ev.Ob → Bool := fun args objs => match args, objs with
  | [.agg [.int .i64 _, .int .i64 _, .int .i64 _, .sl (.int .i64) _, .sl .bool _, .sl (.int .u8) _]], [] => true
  | _, _ => false
noncomputable def spg63 (F : YF63) : Ev.Spec := fun args objs k => match args, objs with
  | [.agg [.int .i64 x0, .int .i64 x1, .int .i64 x2, .sl (.int .i64) x3, .sl .bool x4, .sl (.int .u8) x5]], [] => bif true then F x0 x1 x2 x3 x4 x5 (fun r => match r with | (r0, r1) => k (.tup [(false, [.own 0]), (false, [.int .i64 r0])], [.vec 5 (.int .u8) r1 true])) else none
  | _, _ => none
noncomputable def spec63 (fuel : Nat) : Ev.Spec := spg63 (F_segment_Header fuel)
theorem ok63 (fuel : Nat) : FnOK Try.prog 63 (spec63 fuel) := by
  intro args objs kk r h
  unfold spec63 spg63 at h
  split at h
  · skip
    obtain ⟨hb, h⟩ := cond_some' h
    simp only [Bool.and_eq_true, Nat.beq_eq, decide_eq_true_eq] at hb
    clear hb
    exact fok63 fuel _ _ kk r ((F63_eq fuel _ _ _ _ _ _ kk).trans h)
  · cases h
end Go.Proofs.Ytihfgpfofmjbaaa

set_option linter.unusedVariables false
set_option linter.unusedSimpArgs false
set_option maxRecDepth 100000
set_option maxHeartbeats 2000000
namespace Go.Proofs.Ytihfgpfofmjbaaa
open Go Ev
def kp62 (i : Nat) : Option (List Nat) := Ev.look i [(3, [3, 8, 9, 10]), (100000, [3]), (400000, [2])]
noncomputable def Gg62 (f63 : YF63) (f : Nat) : Option Ev.Spec := Ev.look f [(63, spg63 f63)]
noncomputable def G62 (fuel : Nat) : Nat → Option Ev.Spec := Gg62 (F_segment_Header fuel)
noncomputable def S_file_size_0 (fuel : Nat) (v : Int × (List (Int × (Int × (Int × ((List Int) × ((List Bool) × (List Int))))))) × Int × Int) (c : (Int × (List (Int × (Int × (Int × ((List Int) × ((List Bool) × (List Int))))))) × Int × Int) → Option Ans) (B : (Int → Option Ans)) : Option Ans := match v, B with
  | (x0, x1, x2, x3), b =>
   bif Decidable.decide (x3 < x2) then
      bif Decidable.decide ((0 : Int) ≤ x3 ∧ x3 < (↑x1.length : Int)) then
      (F_segment_Header fuel ((x1.getD x3.toNat ((0 : Int), (0 : Int), (0 : Int), [], [], [])).fst) ((x1.getD x3.toNat ((0 : Int), (0 : Int), (0 : Int), [], [], [])).snd.fst) ((x1.getD x3.toNat ((0 : Int), (0 : Int), (0 : Int), [], [], [])).snd.snd.fst) ((x1.getD x3.toNat ((0 : Int), (0 : Int), (0 : Int), [], [], [])).snd.snd.snd.fst) ((x1.getD x3.toNat ((0 : Int), (0 : Int), (0 : Int), [], [], [])).snd.snd.snd.snd.fst) ((x1.getD x3.toNat ((0 : Int), (0 : Int), (0 : Int), [], [], [])).snd.snd.snd.snd.snd)
         (fun (y4_0, y4_1) =>
           c (Go.IntKind.i64.wrap (x0 + Go.IntKind.i64.wrap ((↑y4_1.length : Int) + (↑(List.length (x1.getD x3.toNat ((0 : Int), (0 : Int), (0 : Int), [], [], [])).snd.snd.snd.snd.snd) : Int))), x1, x2, Go.IntKind.i64.wrap (x3 + (1 : Int)))))
      else none
     else
      b x0
noncomputable def L_file_size_0 (fuel : Nat) (v : Int × (List (Int × (Int × (Int × ((List Int) × ((List Bool) × (List Int))))))) × Int × Int) (b : (Int → Option Ans)) : Option Ans := iter (S_file_size_0 fuel) fuel v b
noncomputable def J62_0 (fuel : Nat) (i : Nat) : Option Ev.Blk := Ev.look i []
noncomputable def T62_0 (v : Int × (List (Int × (Int × (Int × ((List Int) × ((List Bool) × (List Int))))))) × Int × Int) : Ev.St := match v with | (x0, x1, x2, x3) => ⟨[(3, .c (.int .i64 x0)), (8, .c (.sl (.pair (.int .i64) (.pair (.int .i64) (.pair (.int .i64) (.pair (.sl (.int .i64)) (.pair (.sl .bool) (.sl (.int .u8))))))) x1)), (9, .c (.int .i64 x2)), (10, .c (.int .i64 x3))], [], 0, 0⟩
noncomputable def E62_0 (K : Ev.Ex → Ev.St → Option Ans) : (Int → Option Ans) := (fun v => match v with | x0 => K .normal ⟨[(3, .c (.int .i64 x0))], [], 0, 0⟩)
theorem S62_0_okg (fuel : Nat) (f63 : YF63) (R : Ev.St → Option Ans) (K : Ev.Ex → Ev.St → Option Ans) (x0 : Int) (x1 : (List (Int × (Int × (Int × ((List Int) × ((List Bool) × (List Int)))))))) (x2 : Int) (x3 : Int) : evalCode tab (Gg62 f63) (J62_0 fuel) kp62 fuel (bodyOf 0 Try.f62) (T62_0 (x0, x1, x2, x3)) (lc kp62 3 0 R K) = (fun (c : (Int × (List (Int × (Int × (Int × ((List Int) × ((List Bool) × (List Int))))))) × Int × Int) → Option Ans) (B : (Int → Option Ans)) => match B with
  | b =>
   bif Decidable.decide (x3 < x2) then
      bif Decidable.decide ((0 : Int) ≤ x3 ∧ x3 < (↑x1.length : Int)) then
      (f63 ((x1.getD x3.toNat ((0 : Int), (0 : Int), (0 : Int), [], [], [])).fst) ((x1.getD x3.toNat ((0 : Int), (0 : Int), (0 : Int), [], [], [])).snd.fst) ((x1.getD x3.toNat ((0 : Int), (0 : Int), (0 : Int), [], [], [])).snd.snd.fst) ((x1.getD x3.toNat ((0 : Int), (0 : Int), (0 : Int), [], [], [])).snd.snd.snd.fst) ((x1.getD x3.toNat ((0 : Int), (0 : Int), (0 : Int), [], [], [])).snd.snd.snd.snd.fst) ((x1.getD x3.toNat ((0 : Int), (0 : Int), (0 : Int), [], [], [])).snd.snd.snd.snd.snd)
         (fun (y4_0, y4_1) =>
           c (Go.IntKind.i64.wrap (x0 + Go.IntKind.i64.wrap ((↑y4_1.length : Int) + (↑(List.length (x1.getD x3.toNat ((0 : Int), (0 : Int), (0 : Int), [], [], [])).snd.snd.snd.snd.snd) : Int))), x1, x2, Go.IntKind.i64.wrap (x3 + (1 : Int)))))
      else none
     else
      b x0) (fun v => R (T62_0 v)) (E62_0 K) := by
  kernel_rfl
theorem S62_0_ok (fuel : Nat) (R : Ev.St → Option Ans) (K : Ev.Ex → Ev.St → Option Ans) (x0 : Int) (x1 : (List (Int × (Int × (Int × ((List Int) × ((List Bool) × (List Int)))))))) (x2 : Int) (x3 : Int) : evalCode tab (G62 fuel) (J62_0 fuel) kp62 fuel (bodyOf 0 Try.f62) (T62_0 (x0, x1, x2, x3)) (lc kp62 3 0 R K) = S_file_size_0 fuel (x0, x1, x2, x3) (fun v => R (T62_0 v)) (E62_0 K) :=
  S62_0_okg fuel (F_segment_Header fuel) R K x0 x1 x2 x3
noncomputable def B62_0 (fuel : Nat) : Ev.Blk := fun st K => match canonO (kp62 3) st with
  | some s => (match s with
    | ⟨[(q0, .c (.int .i64 x0)), (q1, .c (.sl (.pair (.int .i64) (.pair (.int .i64) (.pair (.int .i64) (.pair (.sl (.int .i64)) (.pair (.sl .bool) (.sl (.int .u8))))))) x1)), (q2, .c (.int .i64 x2)), (q3, .c (.int .i64 x3))], [], q4, q5⟩ => bif Nat.beq q0 3 && Nat.beq q1 8 && Nat.beq q2 9 && Nat.beq q3 10 && Nat.beq q4 0 && Nat.beq q5 0 then iter (S_file_size_0 fuel) fuel (x0, x1, x2, x3) (E62_0 K) else none
    | _ => none)
  | none => none
theorem B62_0_ok (fuel : Nat) (st : Ev.St) (K : Ev.Ex → Ev.St → Option Ans) (r : Ans) (h : B62_0 fuel st K = some r) : evalCode tab (G62 fuel) (J62_0 fuel) kp62 fuel (.block 0 (.loop (bodyOf 0 Try.f62))) st K = some r := by
  unfold B62_0 at h
  split at h
  · rename_i s hs
    split at h
    · skip
      obtain ⟨hb, h⟩ := cond_some' h
      simp only [Bool.and_eq_true, Nat.beq_eq, decide_eq_true_eq] at hb
      obtain ⟨⟨⟨⟨⟨rfl, rfl⟩, rfl⟩, rfl⟩, rfl⟩, rfl⟩ := hb
      exact blk_loop (S := T62_0) (ks := E62_0) (step := S_file_size_0 fuel) (v := (_, _, _, _)) (by kernel_rfl) (by kernel_rfl) (fun R K v => by obtain ⟨x0, x1, x2, x3⟩ := v; exact S62_0_ok fuel R K x0 x1 x2 x3) hs h
    · cases h
  · cases h
noncomputable def J62 (fuel : Nat) (i : Nat) : Option Ev.Blk := Ev.look i [(100000, B62_0 fuel)]
noncomputable def F_file_size (fuel : Nat) (x0 : (List (Int × Int × Int × (List Int) × (List Bool) × (List Int)))) (k0 : (Int) → Option Ans) : Option Ans :=
  (L_file_size_0 fuel ((0 : Int), x0, (↑x0.length : Int), (0 : Int))
    (fun b0_0 =>
      k0 b0_0))
abbrev YF62 : Type := ((List (Int × Int × Int × (List Int) × (List Bool) × (List Int)))) → ((Int) → Option Ans) → Option Ans
theorem F62_eqg (fuel : Nat) (f63 : YF63) (x0 : (List (Int × Int × Int × (List Int) × (List Bool) × (List Int)))) (k : Ev.Cont) : evalFn tab (Gg62 f63) (J62 fuel) kp62 fuel Try.f62 [.c (.sl (.pair (.int .i64) (.pair (.int .i64) (.pair (.int .i64) (.pair (.sl (.int .i64)) (.pair (.sl .bool) (.sl (.int .u8))))))) x0)] [] k = (fun  (k0 : (Int) → Option Ans) =>
  (L_file_size_0 fuel ((0 : Int), x0, (↑x0.length : Int), (0 : Int))
    (fun b0_0 =>
      k0 b0_0))) (fun r => match r with | r0 => k (.c (.int .i64 r0), [])) := by
  kernel_rfl
theorem F62_eq (fuel : Nat) (x0 : (List (Int × Int × Int × (List Int) × (List Bool) × (List Int)))) (k : Ev.Cont) : evalFn tab (G62 fuel) (J62 fuel) kp62 fuel Try.f62 [.c (.sl (.pair (.int .i64) (.pair (.int .i64) (.pair (.int .i64) (.pair (.sl (.int .i64)) (.pair (.sl .bool) (.sl (.int .u8))))))) x0)] [] k = F_file_size fuel x0 (fun r => match r with | r0 => k (.c (.int .i64 r0), [])) :=
  F62_eqg fuel (F_segment_Header fuel) x0 k
theorem hG62 (fuel : Nat) : GOK Try.prog (G62 fuel) :=
  gok_cons ⟨ok63 fuel, enters_of Try.func63 (by kernel_rfl) rfl⟩ <|
  gok_nil
theorem B62_0_blk (fuel : Nat) : BlkOK Try.prog Try.f62.ntmps (.block 0 (.loop (bodyOf 0 Try.f62))) (B62_0 fuel) :=
  blk_of (blk_of_code tab_ok (hG62 fuel) mixed (J := J62_0 fuel) (kp := kp62) (fuel := fuel) (by kernel_rfl) (fun q hq => by
    rw [(by kernel_rfl : obl (J62_0 fuel) (.block 0 (.loop (bodyOf 0 Try.f62))) = [])] at hq
    cases hq)) (B62_0_ok fuel)
theorem fok62 (fuel : Nat) : FnOK Try.prog 62 (evalFn tab (G62 fuel) (J62 fuel) kp62 fuel Try.f62) :=
  fn_ok tab_ok (hG62 fuel) mixed Try.func62 (c := (Try.f62.body).getD .skip) rfl (fun q hq => by
    rw [(by kernel_rfl : obl (J62 fuel) ((Try.f62.body).getD .skip) = [(.block 0 (.loop (bodyOf 0 Try.f62)), B62_0 fuel)])] at hq
    simp only [List.mem_cons, List.not_mem_nil, or_false] at hq
    subst hq
    · exact B62_0_blk fuel)
noncomputable def mt62 : List Ev.SV → List Ev.Ob → Bool := fun args objs => match args, objs with
  | [.c (.sl (.pair (.int .i64) (.pair (.int .i64) (.pair (.int .i64) (.pair (.sl (.int .i64)) (.pair (.sl .bool) (.sl (.int .u8))))))) _)], [] => true
  | _, _ => false
noncomputable def spg62 (F : YF62) : Ev.Spec := fun args objs k => match args, objs with
  | [.c (.sl (.pair (.int .i64) (.pair (.int .i64) (.pair (.int .i64) (.pair (.sl (.int .i64)) (.pair (.sl .bool) (.sl (.int .u8))))))) x0)], [] => bif true then F x0 (fun r => match r with | r0 => k (.c (.int .i64 r0), [])) else none
  | _, _ => none
noncomputable def spec62 (fuel : Nat) : Ev.Spec := spg62 (F_file_size fuel)
theorem ok62 (fuel : Nat) : FnOK Try.prog 62 (spec62 fuel) := by
  intro args objs kk r h
  unfold spec62 spg62 at h
  split at h
  · skip
    obtain ⟨hb, h⟩ := cond_some' h
    simp only [Bool.and_eq_true, Nat.beq_eq, decide_eq_true_eq] at hb
    clear hb
    exact fok62 fuel _ _ kk r ((F62_eq fuel _ kk).trans h)
  · cases h
end Go.Proofs.Ytihfgpfofmjbaaa

set_option linter.unusedVariables false
set_option linter.unusedSimpArgs false
set_option maxRecDepth 100000
set_option maxHeartbeats 2000000
namespace Go.Proofs.Ytihfgpfofmjbaaa
open Go Ev
def kp58 (i : Nat) : Option (List Nat) := Ev.look i []
noncomputable def Gg58 (f59 : YF59) (f : Nat) : Option Ev.Spec := Ev.look f [(59, spg59 f59)]
noncomputable def G58 (fuel : Nat) : Nat → Option Ev.Spec := Gg58 (F_segment_Valid fuel)
noncomputable def J58 (fuel : Nat) (i : Nat) : Option Ev.Blk := Ev.look i []
noncomputable def F_file_Write_1 (fuel : Nat) (x0 : Int) (x1 : Int) (x2 : Int) (x3 : (List Int)) (x4 : (List Bool)) (x5 : (List Int)) (k0 : (Bool) → Option Ans) : Option Ans :=
  (F_segment_Valid fuel (x0) (x1) (x2) (x3) (x4) (x5)
    (fun y2 =>
      k0 !y2))
abbrev YF58 : Type := (Int) → (Int) → (Int) → ((List Int)) → ((List Bool)) → ((List Int)) → ((Bool) → Option Ans) → Option Ans
theorem F58_eqg (fuel : Nat) (f59 : YF59) (x0 : Int) (x1 : Int) (x2 : Int) (x3 : (List Int)) (x4 : (List Bool)) (x5 : (List Int)) (k : Ev.Cont) : evalFn tab (Gg58 f59) (J58 fuel) kp58 fuel Try.f58 [.agg [.int .i64 x0, .int .i64 x1, .int .i64 x2, .sl (.int .i64) x3, .sl .bool x4, .sl (.int .u8) x5]] [] k = (fun  (k0 : (Bool) → Option Ans) =>
  (f59 (x0) (x1) (x2) (x3) (x4) (x5)
    (fun y2 =>
      k0 !y2))) (fun r => match r with | r0 => k (.c (.bool r0), [])) := by
  kernel_rfl
theorem F58_eq (fuel : Nat) (x0 : Int) (x1 : Int) (x2 : Int) (x3 : (List Int)) (x4 : (List Bool)) (x5 : (List Int)) (k : Ev.Cont) : evalFn tab (G58 fuel) (J58 fuel) kp58 fuel Try.f58 [.agg [.int .i64 x0, .int .i64 x1, .int .i64 x2, .sl (.int .i64) x3, .sl .bool x4, .sl (.int .u8) x5]] [] k = F_file_Write_1 fuel x0 x1 x2 x3 x4 x5 (fun r => match r with | r0 => k (.c (.bool r0), [])) :=
  F58_eqg fuel (F_segment_Valid fuel) x0 x1 x2 x3 x4 x5 k
theorem hG58 (fuel : Nat) : GOK Try.prog (G58 fuel) :=
  gok_cons ⟨ok59 fuel, enters_of Try.func59 (by kernel_rfl) rfl⟩ <|
  gok_nil
theorem fok58 (fuel : Nat) : FnOK Try.prog 58 (evalFn tab (G58 fuel) (J58 fuel) kp58 fuel Try.f58) :=
  fn_ok tab_ok (hG58 fuel) mixed Try.func58 (c := (Try.f58.body).getD .skip) rfl (fun q hq => by
    rw [(by kernel_rfl : obl (J58 fuel) ((Try.f58.body).getD .skip) = [])] at hq
    cases hq)
noncomputable def mt58 : List Ev.SV → List Ev.Ob → Bool := fun args objs => match args, objs with
  | [.agg [.int .i64 _, .int .i64 _, .int .i64 _, .sl (.int .i64) _, .sl .bool _, .sl (.int .u8) _]], [] => true
  | _, _ => false
noncomputable def spg58 (F : YF58) : Ev.Spec := fun args objs k => match args, objs with
  | [.agg [.int .i64 x0, .int .i64 x1, .int .i64 x2, .sl (.int .i64) x3, .sl .bool x4, .sl (.int .u8) x5]], [] => bif true then F x0 x1 x2 x3 x4 x5 (fun r => match r with | r0 => k (.c (.bool r0), [])) else none
  | _, _ => none
noncomputable def spec58 (fuel : Nat) : Ev.Spec := spg58 (F_file_Write_1 fuel)
theorem ok58 (fuel : Nat) : FnOK Try.prog 58 (spec58 fuel) := by
  intro args objs kk r h
  unfold spec58 spg58 at h
  split at h
  · skip
    obtain ⟨hb, h⟩ := cond_some' h
    simp only [Bool.and_eq_true, Nat.beq_eq, decide_eq_true_eq] at hb
    clear hb
    exact fok58 fuel _ _ kk r ((F58_eq fuel _ _ _ _ _ _ kk).trans h)
  · cases h
end Go.Proofs.Ytihfgpfofmjbaaa

set_option linter.unusedVariables false
set_option linter.unusedSimpArgs false
set_option maxRecDepth 100000
set_option maxHeartbeats 2000000
namespace Go.Proofs.Ytihfgpfofmjbaaa
open Go Ev
def kp133_ac5 (i : Nat) : Option (List Nat) := Ev.look i [(2, [0, 1, 7, 8]), (100000, []), (400000, [4])]
noncomputable def Gg133_ac5 (f58 : YF58) (f : Nat) : Option Ev.Spec := Ev.look f [(58, spg58 f58)]
noncomputable def G133_ac5 (fuel : Nat) : Nat → Option Ev.Spec := Gg133_ac5 (F_file_Write_1 fuel)
noncomputable def S_slices_IndexFunc_api_Segment_api_Segment_ac5_0 (fuel : Nat) (v : (List (Int × (Int × (Int × ((List Int) × ((List Bool) × (List Int))))))) × Int × Int) (c : ((List (Int × (Int × (Int × ((List Int) × ((List Bool) × (List Int))))))) × Int × Int) → Option Ans) (B : (Int → Option Ans) × (Unit → Option Ans)) : Option Ans := match v, B with
  | (x0, x1, x2), (ret, b) =>
   bif Decidable.decide (x2 < x1) then
      bif Decidable.decide ((0 : Int) ≤ x2 ∧ x2 < (↑x0.length : Int)) then
      (F_file_Write_1 fuel ((x0.getD x2.toNat ((0 : Int), (0 : Int), (0 : Int), [], [], [])).fst) ((x0.getD x2.toNat ((0 : Int), (0 : Int), (0 : Int), [], [], [])).snd.fst) ((x0.getD x2.toNat ((0 : Int), (0 : Int), (0 : Int), [], [], [])).snd.snd.fst) ((x0.getD x2.toNat ((0 : Int), (0 : Int), (0 : Int), [], [], [])).snd.snd.snd.fst) ((x0.getD x2.toNat ((0 : Int), (0 : Int), (0 : Int), [], [], [])).snd.snd.snd.snd.fst) ((x0.getD x2.toNat ((0 : Int), (0 : Int), (0 : Int), [], [], [])).snd.snd.snd.snd.snd)
         (fun y4 =>
           bif y4 then
            ret x2
           else
            c (x0, x1, Go.IntKind.i64.wrap (x2 + (1 : Int)))))
      else none
     else
      b ()
noncomputable def L_slices_IndexFunc_api_Segment_api_Segment_ac5_0 (fuel : Nat) (v : (List (Int × (Int × (Int × ((List Int) × ((List Bool) × (List Int))))))) × Int × Int) (ret : (Int → Option Ans)) (b : (Unit → Option Ans)) : Option Ans := iter (S_slices_IndexFunc_api_Segment_api_Segment_ac5_0 fuel) fuel v (ret, b)
noncomputable def J133_ac5_0 (fuel : Nat) (i : Nat) : Option Ev.Blk := Ev.look i []
noncomputable def T133_ac5_0 (v : (List (Int × (Int × (Int × ((List Int) × ((List Bool) × (List Int))))))) × Int × Int) : Ev.St := match v with | (x0, x1, x2) => ⟨[(0, .c (.sl (.pair (.int .i64) (.pair (.int .i64) (.pair (.int .i64) (.pair (.sl (.int .i64)) (.pair (.sl .bool) (.sl (.int .u8))))))) x0)), (1, .c (.clo 58 [])), (7, .c (.int .i64 x1)), (8, .c (.int .i64 x2))], [], 0, 0⟩
noncomputable def E133_ac5_0 (K : Ev.Ex → Ev.St → Option Ans) : (Int → Option Ans) × (Unit → Option Ans) := ((fun v => match v with | x0 => K .ret ⟨[(4, .c (.int .i64 x0))], [], 0, 0⟩), (fun v => match v with | () => K .normal ⟨[], [], 0, 0⟩))
theorem S133_ac5_0_okg (fuel : Nat) (f58 : YF58) (R : Ev.St → Option Ans) (K : Ev.Ex → Ev.St → Option Ans) (x0 : (List (Int × (Int × (Int × ((List Int) × ((List Bool) × (List Int)))))))) (x1 : Int) (x2 : Int) : evalCode tab (Gg133_ac5 f58) (J133_ac5_0 fuel) kp133_ac5 fuel (bodyOf 0 Try.f133) (T133_ac5_0 (x0, x1, x2)) (lc kp133_ac5 2 0 R K) = (fun (c : ((List (Int × (Int × (Int × ((List Int) × ((List Bool) × (List Int))))))) × Int × Int) → Option Ans) (B : (Int → Option Ans) × (Unit → Option Ans)) => match B with
  | (ret, b) =>
   bif Decidable.decide (x2 < x1) then
      bif Decidable.decide ((0 : Int) ≤ x2 ∧ x2 < (↑x0.length : Int)) then
      (f58 ((x0.getD x2.toNat ((0 : Int), (0 : Int), (0 : Int), [], [], [])).fst) ((x0.getD x2.toNat ((0 : Int), (0 : Int), (0 : Int), [], [], [])).snd.fst) ((x0.getD x2.toNat ((0 : Int), (0 : Int), (0 : Int), [], [], [])).snd.snd.fst) ((x0.getD x2.toNat ((0 : Int), (0 : Int), (0 : Int), [], [], [])).snd.snd.snd.fst) ((x0.getD x2.toNat ((0 : Int), (0 : Int), (0 : Int), [], [], [])).snd.snd.snd.snd.fst) ((x0.getD x2.toNat ((0 : Int), (0 : Int), (0 : Int), [], [], [])).snd.snd.snd.snd.snd)
         (fun y4 =>
           bif y4 then
            ret x2
           else
            c (x0, x1, Go.IntKind.i64.wrap (x2 + (1 : Int)))))
      else none
     else
      b ()) (fun v => R (T133_ac5_0 v)) (E133_ac5_0 K) := by
  kernel_rfl
theorem S133_ac5_0_ok (fuel : Nat) (R : Ev.St → Option Ans) (K : Ev.Ex → Ev.St → Option Ans) (x0 : (List (Int × (Int × (Int × ((List Int) × ((List Bool) × (List Int)))))))) (x1 : Int) (x2 : Int) : evalCode tab (G133_ac5 fuel) (J133_ac5_0 fuel) kp133_ac5 fuel (bodyOf 0 Try.f133) (T133_ac5_0 (x0, x1, x2)) (lc kp133_ac5 2 0 R K) = S_slices_IndexFunc_api_Segment_api_Segment_ac5_0 fuel (x0, x1, x2) (fun v => R (T133_ac5_0 v)) (E133_ac5_0 K) :=
  S133_ac5_0_okg fuel (F_file_Write_1 fuel) R K x0 x1 x2
noncomputable def B133_ac5_0 (fuel : Nat) : Ev.Blk := fun st K => match canonO (kp133_ac5 2) st with
  | some s => (match s with
    | ⟨[(q0, .c (.sl (.pair (.int .i64) (.pair (.int .i64) (.pair (.int .i64) (.pair (.sl (.int .i64)) (.pair (.sl .bool) (.sl (.int .u8))))))) x0)), (q1, .c (.clo q2 [])), (q3, .c (.int .i64 x1)), (q4, .c (.int .i64 x2))], [], q5, q6⟩ => bif Nat.beq q0 0 && Nat.beq q1 1 && Nat.beq q2 58 && Nat.beq q3 7 && Nat.beq q4 8 && Nat.beq q5 0 && Nat.beq q6 0 then iter (S_slices_IndexFunc_api_Segment_api_Segment_ac5_0 fuel) fuel (x0, x1, x2) (E133_ac5_0 K) else none
    | _ => none)
  | none => none
theorem B133_ac5_0_ok (fuel : Nat) (st : Ev.St) (K : Ev.Ex → Ev.St → Option Ans) (r : Ans) (h : B133_ac5_0 fuel st K = some r) : evalCode tab (G133_ac5 fuel) (J133_ac5_0 fuel) kp133_ac5 fuel (.block 0 (.loop (bodyOf 0 Try.f133))) st K = some r := by
  unfold B133_ac5_0 at h
  split at h
  · rename_i s hs
    split at h
    · skip
      obtain ⟨hb, h⟩ := cond_some' h
      simp only [Bool.and_eq_true, Nat.beq_eq, decide_eq_true_eq] at hb
      obtain ⟨⟨⟨⟨⟨⟨rfl, rfl⟩, rfl⟩, rfl⟩, rfl⟩, rfl⟩, rfl⟩ := hb
      exact blk_loop (S := T133_ac5_0) (ks := E133_ac5_0) (step := S_slices_IndexFunc_api_Segment_api_Segment_ac5_0 fuel) (v := (_, _, _)) (by kernel_rfl) (by kernel_rfl) (fun R K v => by obtain ⟨x0, x1, x2⟩ := v; exact S133_ac5_0_ok fuel R K x0 x1 x2) hs h
    · cases h
  · cases h
noncomputable def J133_ac5 (fuel : Nat) (i : Nat) : Option Ev.Blk := Ev.look i [(100000, B133_ac5_0 fuel)]
noncomputable def F_slices_IndexFunc_api_Segment_api_Segment_ac5 (fuel : Nat) (x0 : (List (Int × (Int × (Int × ((List Int) × ((List Bool) × (List Int)))))))) (k0 : (Int) → Option Ans) : Option Ans :=
  (L_slices_IndexFunc_api_Segment_api_Segment_ac5_0 fuel (x0, (↑x0.length : Int), (0 : Int))
    (fun ret0_0 =>
      k0 ret0_0)
    (fun () =>
      k0 ((-1 : Int))))
abbrev YF133_ac5 : Type := ((List (Int × (Int × (Int × ((List Int) × ((List Bool) × (List Int)))))))) → ((Int) → Option Ans) → Option Ans
theorem F133_ac5_eqg (fuel : Nat) (f58 : YF58) (x0 : (List (Int × (Int × (Int × ((List Int) × ((List Bool) × (List Int)))))))) (k : Ev.Cont) : evalFn tab (Gg133_ac5 f58) (J133_ac5 fuel) kp133_ac5 fuel Try.f133 [.c (.sl (.pair (.int .i64) (.pair (.int .i64) (.pair (.int .i64) (.pair (.sl (.int .i64)) (.pair (.sl .bool) (.sl (.int .u8))))))) x0), .c (.clo 58 [])] [] k = (fun  (k0 : (Int) → Option Ans) =>
  (L_slices_IndexFunc_api_Segment_api_Segment_ac5_0 fuel (x0, (↑x0.length : Int), (0 : Int))
    (fun ret0_0 =>
      k0 ret0_0)
    (fun () =>
      k0 ((-1 : Int))))) (fun r => match r with | r0 => k (.c (.int .i64 r0), [])) := by
  kernel_rfl
theorem F133_ac5_eq (fuel : Nat) (x0 : (List (Int × (Int × (Int × ((List Int) × ((List Bool) × (List Int)))))))) (k : Ev.Cont) : evalFn tab (G133_ac5 fuel) (J133_ac5 fuel) kp133_ac5 fuel Try.f133 [.c (.sl (.pair (.int .i64) (.pair (.int .i64) (.pair (.int .i64) (.pair (.sl (.int .i64)) (.pair (.sl .bool) (.sl (.int .u8))))))) x0), .c (.clo 58 [])] [] k = F_slices_IndexFunc_api_Segment_api_Segment_ac5 fuel x0 (fun r => match r with | r0 => k (.c (.int .i64 r0), [])) :=
  F133_ac5_eqg fuel (F_file_Write_1 fuel) x0 k
theorem hG133_ac5 (fuel : Nat) : GOK Try.prog (G133_ac5 fuel) :=
  gok_cons ⟨ok58 fuel, enters_of Try.func58 (by kernel_rfl) rfl⟩ <|
  gok_nil
theorem B133_ac5_0_blk (fuel : Nat) : BlkOK Try.prog Try.f133.ntmps (.block 0 (.loop (bodyOf 0 Try.f133))) (B133_ac5_0 fuel) :=
  blk_of (blk_of_code tab_ok (hG133_ac5 fuel) mixed (J := J133_ac5_0 fuel) (kp := kp133_ac5) (fuel := fuel) (by kernel_rfl) (fun q hq => by
    rw [(by kernel_rfl : obl (J133_ac5_0 fuel) (.block 0 (.loop (bodyOf 0 Try.f133))) = [])] at hq
    cases hq)) (B133_ac5_0_ok fuel)
theorem fok133_ac5 (fuel : Nat) : FnOK Try.prog 133 (evalFn tab (G133_ac5 fuel) (J133_ac5 fuel) kp133_ac5 fuel Try.f133) :=
  fn_ok tab_ok (hG133_ac5 fuel) mixed Try.func133 (c := (Try.f133.body).getD .skip) rfl (fun q hq => by
    rw [(by kernel_rfl : obl (J133_ac5 fuel) ((Try.f133.body).getD .skip) = [(.block 0 (.loop (bodyOf 0 Try.f133)), B133_ac5_0 fuel)])] at hq
    simp only [List.mem_cons, List.not_mem_nil, or_false] at hq
    subst hq
    · exact B133_ac5_0_blk fuel)
noncomputable def mt133_ac5 : List Ev.SV → List Ev.Ob → Bool := fun args objs => match args, objs with
  | [.c (.sl (.pair (.int .i64) (.pair (.int .i64) (.pair (.int .i64) (.pair (.sl (.int .i64)) (.pair (.sl .bool) (.sl (.int .u8))))))) _), .c (.clo q0 [])], [] => Nat.beq q0 58
  | _, _ => false
noncomputable def spg133_ac5 (F : YF133_ac5) : Ev.Spec := fun args objs k => match args, objs with
  | [.c (.sl (.pair (.int .i64) (.pair (.int .i64) (.pair (.int .i64) (.pair (.sl (.int .i64)) (.pair (.sl .bool) (.sl (.int .u8))))))) x0), .c (.clo q0 [])], [] => bif Nat.beq q0 58 then F x0 (fun r => match r with | r0 => k (.c (.int .i64 r0), [])) else none
  | _, _ => none
noncomputable def spec133_ac5 (fuel : Nat) : Ev.Spec := spg133_ac5 (F_slices_IndexFunc_api_Segment_api_Segment_ac5 fuel)
theorem ok133_ac5 (fuel : Nat) : FnOK Try.prog 133 (spec133_ac5 fuel) := by
  intro args objs kk r h
  unfold spec133_ac5 spg133_ac5 at h
  split at h
  · skip
    obtain ⟨hb, h⟩ := cond_some' h
    simp only [Bool.and_eq_true, Nat.beq_eq, decide_eq_true_eq] at hb
    obtain rfl := hb
    exact fok133_ac5 fuel _ _ kk r ((F133_ac5_eq fuel _ kk).trans h)
  · cases h
end Go.Proofs.Ytihfgpfofmjbaaa

set_option linter.unusedVariables false
set_option linter.unusedSimpArgs false
set_option maxRecDepth 100000
set_option maxHeartbeats 2000000
namespace Go.Proofs.Ytihfgpfofmjbaaa
open Go Ev
def kp57_ac5 (i : Nat) : Option (List Nat) := Ev.look i []
noncomputable def Gg57_ac5 (f133_ac5 : YF133_ac5) (f : Nat) : Option Ev.Spec := Ev.look f [(133, spg133_ac5 f133_ac5)]
noncomputable def G57_ac5 (fuel : Nat) : Nat → Option Ev.Spec := Gg57_ac5 (F_slices_IndexFunc_api_Segment_api_Segment_ac5 fuel)
noncomputable def J57_ac5 (fuel : Nat) (i : Nat) : Option Ev.Blk := Ev.look i []
noncomputable def F_slices_ContainsFunc_api_Segment_api_Segment_ac5 (fuel : Nat) (x0 : (List (Int × (Int × (Int × ((List Int) × ((List Bool) × (List Int)))))))) (k0 : (Bool) → Option Ans) : Option Ans :=
  (F_slices_IndexFunc_api_Segment_api_Segment_ac5 fuel (x0)
    (fun y2 =>
      k0 (Decidable.decide (y2 ≥ (0 : Int)))))
abbrev YF57_ac5 : Type := ((List (Int × (Int × (Int × ((List Int) × ((List Bool) × (List Int)))))))) → ((Bool) → Option Ans) → Option Ans
theorem F57_ac5_eqg (fuel : Nat) (f133_ac5 : YF133_ac5) (x0 : (List (Int × (Int × (Int × ((List Int) × ((List Bool) × (List Int)))))))) (k : Ev.Cont) : evalFn tab (Gg57_ac5 f133_ac5) (J57_ac5 fuel) kp57_ac5 fuel Try.f57 [.c (.sl (.pair (.int .i64) (.pair (.int .i64) (.pair (.int .i64) (.pair (.sl (.int .i64)) (.pair (.sl .bool) (.sl (.int .u8))))))) x0), .c (.clo 58 [])] [] k = (fun  (k0 : (Bool) → Option Ans) =>
  (f133_ac5 (x0)
    (fun y2 =>
      k0 (Decidable.decide (y2 ≥ (0 : Int)))))) (fun r => match r with | r0 => k (.c (.bool r0), [])) := by
  kernel_rfl
theorem F57_ac5_eq (fuel : Nat) (x0 : (List (Int × (Int × (Int × ((List Int) × ((List Bool) × (List Int)))))))) (k : Ev.Cont) : evalFn tab (G57_ac5 fuel) (J57_ac5 fuel) kp57_ac5 fuel Try.f57 [.c (.sl (.pair (.int .i64) (.pair (.int .i64) (.pair (.int .i64) (.pair (.sl (.int .i64)) (.pair (.sl .bool) (.sl (.int .u8))))))) x0), .c (.clo 58 [])] [] k = F_slices_ContainsFunc_api_Segment_api_Segment_ac5 fuel x0 (fun r => match r with | r0 => k (.c (.bool r0), [])) :=
  F57_ac5_eqg fuel (F_slices_IndexFunc_api_Segment_api_Segment_ac5 fuel) x0 k
theorem hG57_ac5 (fuel : Nat) : GOK Try.prog (G57_ac5 fuel) :=
  gok_cons ⟨ok133_ac5 fuel, enters_of Try.func133 (by kernel_rfl) rfl⟩ <|
  gok_nil
theorem fok57_ac5 (fuel : Nat) : FnOK Try.prog 57 (evalFn tab (G57_ac5 fuel) (J57_ac5 fuel) kp57_ac5 fuel Try.f57) :=
  fn_ok tab_ok (hG57_ac5 fuel) mixed Try.func57 (c := (Try.f57.body).getD .skip) rfl (fun q hq => by
    rw [(by kernel_rfl : obl (J57_ac5 fuel) ((Try.f57.body).getD .skip) = [])] at hq
    cases hq)
noncomputable def mt57_ac5 : List Ev.SV → List Ev.Ob → Bool := fun args objs => match args, objs with
  | [.c (.sl (.pair (.int .i64) (.pair (.int .i64) (.pair (.int .i64) (.pair (.sl (.int .i64)) (.pair (.sl .bool) (.sl (.int .u8))))))) _), .c (.clo q0 [])], [] => Nat.beq q0 58
  | _, _ => false
noncomputable def spg57_ac5 (F : YF57_ac5) : Ev.Spec := fun args objs k => match args, objs with
  | [.c (.sl (.pair (.int .i64) (.pair (.int .i64) (.pair (.int .i64) (.pair (.sl (.int .i64)) (.pair (.sl .bool) (.sl (.int .u8))))))) x0), .c (.clo q0 [])], [] => bif Nat.beq q0 58 then F x0 (fun r => match r with | r0 => k (.c (.bool r0), [])) else none
  | _, _ => none
noncomputable def spec57_ac5 (fuel : Nat) : Ev.Spec := spg57_ac5 (F_slices_ContainsFunc_api_Segment_api_Segment_ac5 fuel)
theorem ok57_ac5 (fuel : Nat) : FnOK Try.prog 57 (spec57_ac5 fuel) := by
  intro args objs kk r h
  unfold spec57_ac5 spg57_ac5 at h
  split at h
  · skip
    obtain ⟨hb, h⟩ := cond_some' h
    simp only [Bool.and_eq_true, Nat.beq_eq, decide_eq_true_eq] at hb
    obtain rfl := hb
    exact fok57_ac5 fuel _ _ kk r ((F57_ac5_eq fuel _ kk).trans h)
  · cases h
end Go.Proofs.Ytihfgpfofmjbaaa

set_option linter.unusedVariables false
set_option linter.unusedSimpArgs false
set_option maxRecDepth 100000
set_option maxHeartbeats 2000000
namespace Go.Proofs.Ytihfgpfofmjbaaa
open Go Ev
def kp17 (i : Nat) : Option (List Nat) := Ev.look i [(15, [0, 8, 9, 55, 56, 57]), (100000, [8, 9]), (400000, [4, 5])]
noncomputable def Gg17 (f57_ac5 : YF57_ac5) (f60 : YF60) (f61 : YF61) (f62 : YF62) (f63 : YF63) (f : Nat) : Option Ev.Spec := Ev.look f [(57, spg57_ac5 f57_ac5), (60, spg60 f60), (61, spg61 f61), (62, spg62 f62), (63, spg63 f63)]
noncomputable def G17 (fuel : Nat) : Nat → Option Ev.Spec := Gg17 (F_slices_ContainsFunc_api_Segment_api_Segment_ac5 fuel) (F_segment_InOrder fuel) (F_file_rightEnd fuel) (F_file_size fuel) (F_segment_Header fuel)
noncomputable def S_file_Write_0 (fuel : Nat) (v : Int × (List (Int × (Int × (Int × ((List Int) × ((List Bool) × (List Int))))))) × Int × Int × (List Int) × (List Int)) (c : (Int × (List (Int × (Int × (Int × ((List Int) × ((List Bool) × (List Int))))))) × Int × Int × (List Int) × (List Int)) → Option Ans) (B : ((List Int) × (List Int) → Option Ans)) : Option Ans := match v, B with
  | (x0, x1, x2, x3, x4, x5), b =>
   bif Decidable.decide (x3 < x2) then
      bif Decidable.decide ((0 : Int) ≤ x3 ∧ x3 < (↑x1.length : Int)) then
      (F_segment_Header fuel ((x1.getD x3.toNat ((0 : Int), (0 : Int), (0 : Int), [], [], [])).fst) ((x1.getD x3.toNat ((0 : Int), (0 : Int), (0 : Int), [], [], [])).snd.fst) ((x1.getD x3.toNat ((0 : Int), (0 : Int), (0 : Int), [], [], [])).snd.snd.fst) ((x1.getD x3.toNat ((0 : Int), (0 : Int), (0 : Int), [], [], [])).snd.snd.snd.fst) ((x1.getD x3.toNat ((0 : Int), (0 : Int), (0 : Int), [], [], [])).snd.snd.snd.snd.fst) ((x1.getD x3.toNat ((0 : Int), (0 : Int), (0 : Int), [], [], [])).snd.snd.snd.snd.snd)
         (fun (y4_0, y4_1) =>
           bif Decidable.decide ((x4.length + y4_1.length) * (1 : Nat) ≤ (140737488355328 : Nat) ∧ x4.length + y4_1.length ≤ (140737488355328 : Nat)) then
           bif x0 == (1 : Int) then
             bif Decidable.decide ((x5.length + List.length (x1.getD x3.toNat ((0 : Int), (0 : Int), (0 : Int), [], [], [])).snd.snd.snd.snd.snd) * (1 : Nat) ≤ (140737488355328 : Nat) ∧ x5.length + List.length (x1.getD x3.toNat ((0 : Int), (0 : Int), (0 : Int), [], [], [])).snd.snd.snd.snd.snd ≤ (140737488355328 : Nat)) then
             c (x0, x1, x2, Go.IntKind.i64.wrap (x3 + (1 : Int)), x4 ++ y4_1, x5 ++ (x1.getD x3.toNat ((0 : Int), (0 : Int), (0 : Int), [], [], [])).snd.snd.snd.snd.snd)
             else none
            else
             bif Decidable.decide (((x4 ++ y4_1).length + List.length (x1.getD x3.toNat ((0 : Int), (0 : Int), (0 : Int), [], [], [])).snd.snd.snd.snd.snd) * (1 : Nat) ≤ (140737488355328 : Nat) ∧ (x4 ++ y4_1).length + List.length (x1.getD x3.toNat ((0 : Int), (0 : Int), (0 : Int), [], [], [])).snd.snd.snd.snd.snd ≤ (140737488355328 : Nat)) then
             c (x0, x1, x2, Go.IntKind.i64.wrap (x3 + (1 : Int)), x4 ++ y4_1 ++ (x1.getD x3.toNat ((0 : Int), (0 : Int), (0 : Int), [], [], [])).snd.snd.snd.snd.snd, x5)
             else none
           else none))
      else none
     else
      b (x4, x5)
noncomputable def L_file_Write_0 (fuel : Nat) (v : Int × (List (Int × (Int × (Int × ((List Int) × ((List Bool) × (List Int))))))) × Int × Int × (List Int) × (List Int)) (b : ((List Int) × (List Int) → Option Ans)) : Option Ans := iter (S_file_Write_0 fuel) fuel v b
noncomputable def J17_0 (fuel : Nat) (i : Nat) : Option Ev.Blk := Ev.look i []
noncomputable def T17_0 (v : Int × (List (Int × (Int × (Int × ((List Int) × ((List Bool) × (List Int))))))) × Int × Int × (List Int) × (List Int)) : Ev.St := match v with | (x0, x1, x2, x3, x4, x5) => ⟨[(0, .c (.int .i64 x0)), (8, .c (.own 0)), (9, .c (.own 1)), (55, .c (.sl (.pair (.int .i64) (.pair (.int .i64) (.pair (.int .i64) (.pair (.sl (.int .i64)) (.pair (.sl .bool) (.sl (.int .u8))))))) x1)), (56, .c (.int .i64 x2)), (57, .c (.int .i64 x3))], [(0, .vec 5 (.int .u8) x4 true), (1, .vec 5 (.int .u8) x5 true)], 2, 0⟩
noncomputable def E17_0 (K : Ev.Ex → Ev.St → Option Ans) : ((List Int) × (List Int) → Option Ans) := (fun v => match v with | (x0, x1) => K .normal ⟨[(8, .c (.own 0)), (9, .c (.own 1))], [(0, .vec 5 (.int .u8) x0 true), (1, .vec 5 (.int .u8) x1 true)], 2, 0⟩)
theorem S17_0_okg (fuel : Nat) (f57_ac5 : YF57_ac5) (f60 : YF60) (f61 : YF61) (f62 : YF62) (f63 : YF63) (R : Ev.St → Option Ans) (K : Ev.Ex → Ev.St → Option Ans) (x0 : Int) (x1 : (List (Int × (Int × (Int × ((List Int) × ((List Bool) × (List Int)))))))) (x2 : Int) (x3 : Int) (x4 : (List Int)) (x5 : (List Int)) : evalCode tab (Gg17 f57_ac5 f60 f61 f62 f63) (J17_0 fuel) kp17 fuel (bodyOf 0 Try.f17) (T17_0 (x0, x1, x2, x3, x4, x5)) (lc kp17 15 0 R K) = (fun (c : (Int × (List (Int × (Int × (Int × ((List Int) × ((List Bool) × (List Int))))))) × Int × Int × (List Int) × (List Int)) → Option Ans) (B : ((List Int) × (List Int) → Option Ans)) => match B with
  | b =>
   bif Decidable.decide (x3 < x2) then
      bif Decidable.decide ((0 : Int) ≤ x3 ∧ x3 < (↑x1.length : Int)) then
      (f63 ((x1.getD x3.toNat ((0 : Int), (0 : Int), (0 : Int), [], [], [])).fst) ((x1.getD x3.toNat ((0 : Int), (0 : Int), (0 : Int), [], [], [])).snd.fst) ((x1.getD x3.toNat ((0 : Int), (0 : Int), (0 : Int), [], [], [])).snd.snd.fst) ((x1.getD x3.toNat ((0 : Int), (0 : Int), (0 : Int), [], [], [])).snd.snd.snd.fst) ((x1.getD x3.toNat ((0 : Int), (0 : Int), (0 : Int), [], [], [])).snd.snd.snd.snd.fst) ((x1.getD x3.toNat ((0 : Int), (0 : Int), (0 : Int), [], [], [])).snd.snd.snd.snd.snd)
         (fun (y4_0, y4_1) =>
           bif Decidable.decide ((x4.length + y4_1.length) * (1 : Nat) ≤ (140737488355328 : Nat) ∧ x4.length + y4_1.length ≤ (140737488355328 : Nat)) then
           bif x0 == (1 : Int) then
             bif Decidable.decide ((x5.length + List.length (x1.getD x3.toNat ((0 : Int), (0 : Int), (0 : Int), [], [], [])).snd.snd.snd.snd.snd) * (1 : Nat) ≤ (140737488355328 : Nat) ∧ x5.length + List.length (x1.getD x3.toNat ((0 : Int), (0 : Int), (0 : Int), [], [], [])).snd.snd.snd.snd.snd ≤ (140737488355328 : Nat)) then
             c (x0, x1, x2, Go.IntKind.i64.wrap (x3 + (1 : Int)), x4 ++ y4_1, x5 ++ (x1.getD x3.toNat ((0 : Int), (0 : Int), (0 : Int), [], [], [])).snd.snd.snd.snd.snd)
             else none
            else
             bif Decidable.decide (((x4 ++ y4_1).length + List.length (x1.getD x3.toNat ((0 : Int), (0 : Int), (0 : Int), [], [], [])).snd.snd.snd.snd.snd) * (1 : Nat) ≤ (140737488355328 : Nat) ∧ (x4 ++ y4_1).length + List.length (x1.getD x3.toNat ((0 : Int), (0 : Int), (0 : Int), [], [], [])).snd.snd.snd.snd.snd ≤ (140737488355328 : Nat)) then
             c (x0, x1, x2, Go.IntKind.i64.wrap (x3 + (1 : Int)), x4 ++ y4_1 ++ (x1.getD x3.toNat ((0 : Int), (0 : Int), (0 : Int), [], [], [])).snd.snd.snd.snd.snd, x5)
             else none
           else none))
      else none
     else
      b (x4, x5)) (fun v => R (T17_0 v)) (E17_0 K) := by
  kernel_rfl
theorem S17_0_ok (fuel : Nat) (R : Ev.St → Option Ans) (K : Ev.Ex → Ev.St → Option Ans) (x0 : Int) (x1 : (List (Int × (Int × (Int × ((List Int) × ((List Bool) × (List Int)))))))) (x2 : Int) (x3 : Int) (x4 : (List Int)) (x5 : (List Int)) : evalCode tab (G17 fuel) (J17_0 fuel) kp17 fuel (bodyOf 0 Try.f17) (T17_0 (x0, x1, x2, x3, x4, x5)) (lc kp17 15 0 R K) = S_file_Write_0 fuel (x0, x1, x2, x3, x4, x5) (fun v => R (T17_0 v)) (E17_0 K) :=
  S17_0_okg fuel (F_slices_ContainsFunc_api_Segment_api_Segment_ac5 fuel) (F_segment_InOrder fuel) (F_file_rightEnd fuel) (F_file_size fuel) (F_segment_Header fuel) R K x0 x1 x2 x3 x4 x5
noncomputable def B17_0 (fuel : Nat) : Ev.Blk := fun st K => match canonO (kp17 15) st with
  | some s => (match s with
    | ⟨[(q0, .c (.int .i64 x0)), (q1, .c (.own q2)), (q3, .c (.own q4)), (q5, .c (.sl (.pair (.int .i64) (.pair (.int .i64) (.pair (.int .i64) (.pair (.sl (.int .i64)) (.pair (.sl .bool) (.sl (.int .u8))))))) x1)), (q6, .c (.int .i64 x2)), (q7, .c (.int .i64 x3))], [(q8, .vec q9 (.int .u8) x4 true), (q10, .vec q11 (.int .u8) x5 true)], q12, q13⟩ => bif Nat.beq q0 0 && Nat.beq q1 8 && Nat.beq q2 0 && Nat.beq q3 9 && Nat.beq q4 1 && Nat.beq q5 55 && Nat.beq q6 56 && Nat.beq q7 57 && Nat.beq q8 0 && Nat.beq q9 5 && Nat.beq q10 1 && Nat.beq q11 5 && Nat.beq q12 2 && Nat.beq q13 0 then iter (S_file_Write_0 fuel) fuel (x0, x1, x2, x3, x4, x5) (E17_0 K) else none
    | _ => none)
  | none => none
theorem B17_0_ok (fuel : Nat) (st : Ev.St) (K : Ev.Ex → Ev.St → Option Ans) (r : Ans) (h : B17_0 fuel st K = some r) : evalCode tab (G17 fuel) (J17_0 fuel) kp17 fuel (.block 0 (.loop (bodyOf 0 Try.f17))) st K = some r := by
  unfold B17_0 at h
  split at h
  · rename_i s hs
    split at h
    · skip
      obtain ⟨hb, h⟩ := cond_some' h
      simp only [Bool.and_eq_true, Nat.beq_eq, decide_eq_true_eq] at hb
      obtain ⟨⟨⟨⟨⟨⟨⟨⟨⟨⟨⟨⟨⟨rfl, rfl⟩, rfl⟩, rfl⟩, rfl⟩, rfl⟩, rfl⟩, rfl⟩, rfl⟩, rfl⟩, rfl⟩, rfl⟩, rfl⟩, rfl⟩ := hb
      exact blk_loop (S := T17_0) (ks := E17_0) (step := S_file_Write_0 fuel) (v := (_, _, _, _, _, _)) (by kernel_rfl) (by kernel_rfl) (fun R K v => by obtain ⟨x0, x1, x2, x3, x4, x5⟩ := v; exact S17_0_ok fuel R K x0 x1 x2 x3 x4 x5) hs h
    · cases h
  · cases h
noncomputable def J17 (fuel : Nat) (i : Nat) : Option Ev.Blk := Ev.look i [(100000, B17_0 fuel)]
noncomputable def F_file_Write (fuel : Nat) (x0 : Int) (x1 : (List (Int × Int × Int × (List Int) × (List Bool) × (List Int)))) (k0 : (Int × (List Int)) → Option Ans) : Option Ans :=
  bif Decidable.decide (x0 < (0 : Int)) then
   k0 ((2 : Int), [])
  else
   bif Decidable.decide (x0 > (2 : Int)) then
    k0 ((2 : Int), [])
   else
    (F_slices_ContainsFunc_api_Segment_api_Segment_ac5 fuel (x1)
      (fun y4 =>
        bif y4 then
         k0 ((2 : Int), [])
        else
         (F_segment_InOrder fuel (x1)
           (fun (y9_0, y9_1) =>
             bif y9_1 != (0 : Int) then
              k0 (y9_1, [])
             else
              (F_file_rightEnd fuel (x0) (x1)
                (fun y14 =>
                  bif !y14 then
                   k0 ((60 : Int), [])
                  else
                   bif x0 != (2 : Int) then
                    (F_file_size fuel (x1)
                      (fun y20 =>
                        bif Decidable.decide (Go.IntKind.i64.wrap ((↑([(73 : Int), (78 : Int), (67 : Int), (49 : Int)] ++ [Go.IntKind.u8.wrap x0]).length : Int) + y20) > (40000 : Int)) then
                         k0 ((4 : Int), [])
                        else
                         bif Decidable.decide ((↑x1.length : Int) > (100 : Int)) then
                          k0 ((4 : Int), [])
                         else
                          (L_file_Write_0 fuel (x0, x1, (↑x1.length : Int), (0 : Int), [(73 : Int), (78 : Int), (67 : Int), (49 : Int)] ++ [Go.IntKind.u8.wrap x0], [])
                            (fun (b0_0, b0_1) =>
                              bif Decidable.decide ((b0_0.length + b0_1.length) * (1 : Nat) ≤ (140737488355328 : Nat) ∧ b0_0.length + b0_1.length ≤ (140737488355328 : Nat)) then
                              k0 ((0 : Int), b0_0 ++ b0_1)
                              else none))))
                   else
                    (F_file_size fuel (x1)
                      (fun y20 =>
                        bif Decidable.decide (Go.IntKind.i64.wrap ((↑(0 : Nat) : Int) + y20) > (40000 : Int)) then
                         k0 ((4 : Int), [])
                        else
                         bif Decidable.decide ((↑x1.length : Int) > (100 : Int)) then
                          k0 ((4 : Int), [])
                         else
                          (L_file_Write_0 fuel (x0, x1, (↑x1.length : Int), (0 : Int), [], [])
                            (fun (b0_0, b0_1) =>
                              bif Decidable.decide ((b0_0.length + b0_1.length) * (1 : Nat) ≤ (140737488355328 : Nat) ∧ b0_0.length + b0_1.length ≤ (140737488355328 : Nat)) then
                              k0 ((0 : Int), b0_0 ++ b0_1)
                              else none))))))))))
abbrev YF17 : Type := (Int) → ((List (Int × Int × Int × (List Int) × (List Bool) × (List Int)))) → ((Int × (List Int)) → Option Ans) → Option Ans
theorem F17_eqg (fuel : Nat) (f57_ac5 : YF57_ac5) (f60 : YF60) (f61 : YF61) (f62 : YF62) (f63 : YF63) (x0 : Int) (x1 : (List (Int × Int × Int × (List Int) × (List Bool) × (List Int)))) (k : Ev.Cont) : evalFn tab (Gg17 f57_ac5 f60 f61 f62 f63) (J17 fuel) kp17 fuel Try.f17 [.c (.int .i64 x0), .c (.sl (.pair (.int .i64) (.pair (.int .i64) (.pair (.int .i64) (.pair (.sl (.int .i64)) (.pair (.sl .bool) (.sl (.int .u8))))))) x1)] [] k = (fun  (k0 : (Int × (List Int)) → Option Ans) =>
  bif Decidable.decide (x0 < (0 : Int)) then
   k0 ((2 : Int), [])
  else
   bif Decidable.decide (x0 > (2 : Int)) then
    k0 ((2 : Int), [])
   else
    (f57_ac5 (x1)
      (fun y4 =>
        bif y4 then
         k0 ((2 : Int), [])
        else
         (f60 (x1)
           (fun (y9_0, y9_1) =>
             bif y9_1 != (0 : Int) then
              k0 (y9_1, [])
             else
              (f61 (x0) (x1)
                (fun y14 =>
                  bif !y14 then
                   k0 ((60 : Int), [])
                  else
                   bif x0 != (2 : Int) then
                    (f62 (x1)
                      (fun y20 =>
                        bif Decidable.decide (Go.IntKind.i64.wrap ((↑([(73 : Int), (78 : Int), (67 : Int), (49 : Int)] ++ [Go.IntKind.u8.wrap x0]).length : Int) + y20) > (40000 : Int)) then
                         k0 ((4 : Int), [])
                        else
                         bif Decidable.decide ((↑x1.length : Int) > (100 : Int)) then
                          k0 ((4 : Int), [])
                         else
                          (L_file_Write_0 fuel (x0, x1, (↑x1.length : Int), (0 : Int), [(73 : Int), (78 : Int), (67 : Int), (49 : Int)] ++ [Go.IntKind.u8.wrap x0], [])
                            (fun (b0_0, b0_1) =>
                              bif Decidable.decide ((b0_0.length + b0_1.length) * (1 : Nat) ≤ (140737488355328 : Nat) ∧ b0_0.length + b0_1.length ≤ (140737488355328 : Nat)) then
                              k0 ((0 : Int), b0_0 ++ b0_1)
                              else none))))
                   else
                    (f62 (x1)
                      (fun y20 =>
                        bif Decidable.decide (Go.IntKind.i64.wrap ((↑(0 : Nat) : Int) + y20) > (40000 : Int)) then
                         k0 ((4 : Int), [])
                        else
                         bif Decidable.decide ((↑x1.length : Int) > (100 : Int)) then
                          k0 ((4 : Int), [])
                         else
                          (L_file_Write_0 fuel (x0, x1, (↑x1.length : Int), (0 : Int), [], [])
                            (fun (b0_0, b0_1) =>
                              bif Decidable.decide ((b0_0.length + b0_1.length) * (1 : Nat) ≤ (140737488355328 : Nat) ∧ b0_0.length + b0_1.length ≤ (140737488355328 : Nat)) then
                              k0 ((0 : Int), b0_0 ++ b0_1)
                              else none))))))))))) (fun r => match r with | (r0, r1) => k (.tup [(false, [.own 0]), (false, [.int .i64 r0])], [.vec 5 (.int .u8) r1 true])) := by
  kernel_rfl
theorem F17_eq (fuel : Nat) (x0 : Int) (x1 : (List (Int × Int × Int × (List Int) × (List Bool) × (List Int)))) (k : Ev.Cont) : evalFn tab (G17 fuel) (J17 fuel) kp17 fuel Try.f17 [.c (.int .i64 x0), .c (.sl (.pair (.int .i64) (.pair (.int .i64) (.pair (.int .i64) (.pair (.sl (.int .i64)) (.pair (.sl .bool) (.sl (.int .u8))))))) x1)] [] k = F_file_Write fuel x0 x1 (fun r => match r with | (r0, r1) => k (.tup [(false, [.own 0]), (false, [.int .i64 r0])], [.vec 5 (.int .u8) r1 true])) :=
  F17_eqg fuel (F_slices_ContainsFunc_api_Segment_api_Segment_ac5 fuel) (F_segment_InOrder fuel) (F_file_rightEnd fuel) (F_file_size fuel) (F_segment_Header fuel) x0 x1 k
theorem hG17 (fuel : Nat) : GOK Try.prog (G17 fuel) :=
  gok_cons ⟨ok57_ac5 fuel, enters_of Try.func57 (by kernel_rfl) rfl⟩ <|
  gok_cons ⟨ok60 fuel, enters_of Try.func60 (by kernel_rfl) rfl⟩ <|
  gok_cons ⟨ok61 fuel, enters_of Try.func61 (by kernel_rfl) rfl⟩ <|
  gok_cons ⟨ok62 fuel, enters_of Try.func62 (by kernel_rfl) rfl⟩ <|
  gok_cons ⟨ok63 fuel, enters_of Try.func63 (by kernel_rfl) rfl⟩ <|
  gok_nil
theorem B17_0_blk (fuel : Nat) : BlkOK Try.prog Try.f17.ntmps (.block 0 (.loop (bodyOf 0 Try.f17))) (B17_0 fuel) :=
  blk_of (blk_of_code tab_ok (hG17 fuel) mixed (J := J17_0 fuel) (kp := kp17) (fuel := fuel) (by kernel_rfl) (fun q hq => by
    rw [(by kernel_rfl : obl (J17_0 fuel) (.block 0 (.loop (bodyOf 0 Try.f17))) = [])] at hq
    cases hq)) (B17_0_ok fuel)
theorem fok17 (fuel : Nat) : FnOK Try.prog 17 (evalFn tab (G17 fuel) (J17 fuel) kp17 fuel Try.f17) :=
  fn_ok tab_ok (hG17 fuel) mixed Try.func17 (c := (Try.f17.body).getD .skip) rfl (fun q hq => by
    rw [(by kernel_rfl : obl (J17 fuel) ((Try.f17.body).getD .skip) = [(.block 0 (.loop (bodyOf 0 Try.f17)), B17_0 fuel)])] at hq
    simp only [List.mem_cons, List.not_mem_nil, or_false] at hq
    subst hq
    · exact B17_0_blk fuel)
noncomputable def mt17 : List Ev.SV → List Ev.Ob → Bool := fun args objs => match args, objs with
  | [.c (.int .i64 _), .c (.sl (.pair (.int .i64) (.pair (.int .i64) (.pair (.int .i64) (.pair (.sl (.int .i64)) (.pair (.sl .bool) (.sl (.int .u8))))))) _)], [] => true
  | _, _ => false
noncomputable def spg17 (F : YF17) : Ev.Spec := fun args objs k => match args, objs with
  | [.c (.int .i64 x0), .c (.sl (.pair (.int .i64) (.pair (.int .i64) (.pair (.int .i64) (.pair (.sl (.int .i64)) (.pair (.sl .bool) (.sl (.int .u8))))))) x1)], [] => bif true then F x0 x1 (fun r => match r with | (r0, r1) => k (.tup [(false, [.own 0]), (false, [.int .i64 r0])], [.vec 5 (.int .u8) r1 true])) else none
  | _, _ => none
noncomputable def spec17 (fuel : Nat) : Ev.Spec := spg17 (F_file_Write fuel)
theorem ok17 (fuel : Nat) : FnOK Try.prog 17 (spec17 fuel) := by
  intro args objs kk r h
  unfold spec17 spg17 at h
  split at h
  · skip
    obtain ⟨hb, h⟩ := cond_some' h
    simp only [Bool.and_eq_true, Nat.beq_eq, decide_eq_true_eq] at hb
    clear hb
    exact fok17 fuel _ _ kk r ((F17_eq fuel _ _ kk).trans h)
  · cases h
end Go.Proofs.Ytihfgpfofmjbaaa

set_option linter.unusedVariables false
set_option linter.unusedSimpArgs false
set_option maxRecDepth 100000
set_option maxHeartbeats 2000000
namespace Go.Proofs.Ytihfgpfofmjbaaa
open Go Ev
def kp16 (i : Nat) : Option (List Nat) := Ev.look i []
noncomputable def Gg16 (f17 : YF17) (f : Nat) : Option Ev.Spec := Ev.look f [(17, spg17 f17)]
noncomputable def G16 (fuel : Nat) : Nat → Option Ev.Spec := Gg16 (F_file_Write fuel)
noncomputable def J16 (fuel : Nat) (i : Nat) : Option Ev.Blk := Ev.look i []
noncomputable def F_law14_Awake (fuel : Nat)  (k0 : (Bool) → Option Ans) : Option Ans :=
  (F_file_Write fuel ((0 : Int)) ([((0 : Int), (9 : Int), (0 : Int), [], [Bool.false], [])])
    (fun (y2_0, y2_1) =>
      bif y2_0 == (0 : Int) then
       k0 ((Go.strOfNums y2_1).toList == (ByteArray.mk #[(73 : UInt8), (78 : UInt8), (67 : UInt8), (49 : UInt8), (0 : UInt8), (0 : UInt8), (9 : UInt8), (0 : UInt8), (0 : UInt8), (0 : UInt8)]).toList)
      else
       k0 Bool.false))
abbrev YF16 : Type := ((Bool) → Option Ans) → Option Ans
theorem F16_eqg (fuel : Nat) (f17 : YF17)  (k : Ev.Cont) : evalFn tab (Gg16 f17) (J16 fuel) kp16 fuel Try.f16 [] [] k = (fun  (k0 : (Bool) → Option Ans) =>
  (f17 ((0 : Int)) ([((0 : Int), (9 : Int), (0 : Int), [], [Bool.false], [])])
    (fun (y2_0, y2_1) =>
      bif y2_0 == (0 : Int) then
       k0 ((Go.strOfNums y2_1).toList == (ByteArray.mk #[(73 : UInt8), (78 : UInt8), (67 : UInt8), (49 : UInt8), (0 : UInt8), (0 : UInt8), (9 : UInt8), (0 : UInt8), (0 : UInt8), (0 : UInt8)]).toList)
      else
       k0 Bool.false))) (fun r => match r with | r0 => k (.c (.bool r0), [])) := by
  kernel_rfl
theorem F16_eq (fuel : Nat)  (k : Ev.Cont) : evalFn tab (G16 fuel) (J16 fuel) kp16 fuel Try.f16 [] [] k = F_law14_Awake fuel  (fun r => match r with | r0 => k (.c (.bool r0), [])) :=
  F16_eqg fuel (F_file_Write fuel)  k
theorem hG16 (fuel : Nat) : GOK Try.prog (G16 fuel) :=
  gok_cons ⟨ok17 fuel, enters_of Try.func17 (by kernel_rfl) rfl⟩ <|
  gok_nil
theorem fok16 (fuel : Nat) : FnOK Try.prog 16 (evalFn tab (G16 fuel) (J16 fuel) kp16 fuel Try.f16) :=
  fn_ok tab_ok (hG16 fuel) mixed Try.func16 (c := (Try.f16.body).getD .skip) rfl (fun q hq => by
    rw [(by kernel_rfl : obl (J16 fuel) ((Try.f16.body).getD .skip) = [])] at hq
    cases hq)
noncomputable def mt16 : List Ev.SV → List Ev.Ob → Bool := fun args objs => match args, objs with
  | [], [] => true
  | _, _ => false
noncomputable def spg16 (F : YF16) : Ev.Spec := fun args objs k => match args, objs with
  | [], [] => bif true then F  (fun r => match r with | r0 => k (.c (.bool r0), [])) else none
  | _, _ => none
noncomputable def spec16 (fuel : Nat) : Ev.Spec := spg16 (F_law14_Awake fuel)
theorem ok16 (fuel : Nat) : FnOK Try.prog 16 (spec16 fuel) := by
  intro args objs kk r h
  unfold spec16 spg16 at h
  split at h
  · skip
    obtain ⟨hb, h⟩ := cond_some' h
    simp only [Bool.and_eq_true, Nat.beq_eq, decide_eq_true_eq] at hb
    clear hb
    exact fok16 fuel _ _ kk r ((F16_eq fuel kk).trans h)
  · cases h
end Go.Proofs.Ytihfgpfofmjbaaa

set_option linter.unusedVariables false
set_option linter.unusedSimpArgs false
set_option maxRecDepth 100000
set_option maxHeartbeats 2000000
namespace Go.Proofs.Ytihfgpfofmjbaaa
open Go Ev
def kp105 (i : Nat) : Option (List Nat) := Ev.look i [(4, [2, 3, 55, 56]), (10, [2, 3, 73, 74]), (100000, [2, 3]), (100002, []), (200006, [2, 3]), (200012, [2, 3]), (400000, [4]), (400002, [4])]
noncomputable def Gg105 (f : Nat) : Option Ev.Spec := Ev.look f []
noncomputable def G105 (fuel : Nat) : Nat → Option Ev.Spec := Gg105
noncomputable def S_ref12_Same_0 (fuel : Nat) (v : Int × Int × Int × Int × Int × (List Int) × (List Bool) × (List Int) × Int × Int × Int × (List Int) × (List Bool) × (List Int)) (c : (Int × Int × Int × Int × Int × (List Int) × (List Bool) × (List Int) × Int × Int × Int × (List Int) × (List Bool) × (List Int)) → Option Ans) (B : (Bool → Option Ans) × (Int × Int × Int × (List Int) × (List Bool) × (List Int) × Int × Int × Int × (List Int) × (List Bool) × (List Int) → Option Ans)) : Option Ans := match v, B with
  | (x0, x1, x2, x3, x4, x5, x6, x7, x8, x9, x10, x11, x12, x13), (ret, b) =>
   bif Decidable.decide (x1 < x0) then
      bif Decidable.decide ((0 : Int) ≤ x1 ∧ x1 < (↑x5.length : Int)) then
      bif Decidable.decide ((0 : Int) ≤ x1 ∧ x1 < (↑x11.length : Int)) then
       bif x5.getD x1.toNat (0 : Int) != x11.getD x1.toNat (0 : Int) then
         ret Bool.false
        else
         c (x0, Go.IntKind.i64.wrap (x1 + (1 : Int)), x2, x3, x4, x5, x6, x7, x8, x9, x10, x11, x12, x13)
       else none
      else none
     else
      b (x2, x3, x4, x5, x6, x7, x8, x9, x10, x11, x12, x13)
noncomputable def L_ref12_Same_0 (fuel : Nat) (v : Int × Int × Int × Int × Int × (List Int) × (List Bool) × (List Int) × Int × Int × Int × (List Int) × (List Bool) × (List Int)) (ret : (Bool → Option Ans)) (b : (Int × Int × Int × (List Int) × (List Bool) × (List Int) × Int × Int × Int × (List Int) × (List Bool) × (List Int) → Option Ans)) : Option Ans := iter (S_ref12_Same_0 fuel) fuel v (ret, b)
noncomputable def J105_0 (fuel : Nat) (i : Nat) : Option Ev.Blk := Ev.look i []
noncomputable def T105_0 (v : Int × Int × Int × Int × Int × (List Int) × (List Bool) × (List Int) × Int × Int × Int × (List Int) × (List Bool) × (List Int)) : Ev.St := match v with | (x0, x1, x2, x3, x4, x5, x6, x7, x8, x9, x10, x11, x12, x13) => ⟨[(2, .c (.ptr 0 0)), (3, .c (.ptr 1 0)), (55, .c (.int .i64 x0)), (56, .c (.int .i64 x1))], [(0, .cells 103 [.int .i64 x2, .int .i64 x3, .int .i64 x4, .sl (.int .i64) x5, .sl .bool x6, .sl (.int .u8) x7]), (1, .cells 103 [.int .i64 x8, .int .i64 x9, .int .i64 x10, .sl (.int .i64) x11, .sl .bool x12, .sl (.int .u8) x13])], 2, 0⟩
noncomputable def E105_0 (K : Ev.Ex → Ev.St → Option Ans) : (Bool → Option Ans) × (Int × Int × Int × (List Int) × (List Bool) × (List Int) × Int × Int × Int × (List Int) × (List Bool) × (List Int) → Option Ans) := ((fun v => match v with | x0 => K .ret ⟨[(4, .c (.bool x0))], [], 0, 0⟩), (fun v => match v with | (x0, x1, x2, x3, x4, x5, x6, x7, x8, x9, x10, x11) => K .normal ⟨[(2, .c (.ptr 0 0)), (3, .c (.ptr 1 0))], [(0, .cells 103 [.int .i64 x0, .int .i64 x1, .int .i64 x2, .sl (.int .i64) x3, .sl .bool x4, .sl (.int .u8) x5]), (1, .cells 103 [.int .i64 x6, .int .i64 x7, .int .i64 x8, .sl (.int .i64) x9, .sl .bool x10, .sl (.int .u8) x11])], 2, 0⟩))
theorem S105_0_ok (fuel : Nat) (R : Ev.St → Option Ans) (K : Ev.Ex → Ev.St → Option Ans) (x0 : Int) (x1 : Int) (x2 : Int) (x3 : Int) (x4 : Int) (x5 : (List Int)) (x6 : (List Bool)) (x7 : (List Int)) (x8 : Int) (x9 : Int) (x10 : Int) (x11 : (List Int)) (x12 : (List Bool)) (x13 : (List Int)) : evalCode tab (G105 fuel) (J105_0 fuel) kp105 fuel (bodyOf 0 Try.f105) (T105_0 (x0, x1, x2, x3, x4, x5, x6, x7, x8, x9, x10, x11, x12, x13)) (lc kp105 4 0 R K) = S_ref12_Same_0 fuel (x0, x1, x2, x3, x4, x5, x6, x7, x8, x9, x10, x11, x12, x13) (fun v => R (T105_0 v)) (E105_0 K) := by
  kernel_rfl
noncomputable def B105_0 (fuel : Nat) : Ev.Blk := fun st K => match canonO (kp105 4) st with
  | some s => (match s with
    | ⟨[(q0, .c (.ptr q1 q2)), (q3, .c (.ptr q4 q5)), (q6, .c (.int .i64 x0)), (q7, .c (.int .i64 x1))], [(q8, .cells q9 [.int .i64 x2, .int .i64 x3, .int .i64 x4, .sl (.int .i64) x5, .sl .bool x6, .sl (.int .u8) x7]), (q10, .cells q11 [.int .i64 x8, .int .i64 x9, .int .i64 x10, .sl (.int .i64) x11, .sl .bool x12, .sl (.int .u8) x13])], q12, q13⟩ => bif Nat.beq q0 2 && Nat.beq q1 0 && Nat.beq q2 0 && Nat.beq q3 3 && Nat.beq q4 1 && Nat.beq q5 0 && Nat.beq q6 55 && Nat.beq q7 56 && Nat.beq q8 0 && Nat.beq q9 103 && Nat.beq q10 1 && Nat.beq q11 103 && Nat.beq q12 2 && Nat.beq q13 0 then iter (S_ref12_Same_0 fuel) fuel (x0, x1, x2, x3, x4, x5, x6, x7, x8, x9, x10, x11, x12, x13) (E105_0 K) else none
    | _ => none)
  | none => none
theorem B105_0_ok (fuel : Nat) (st : Ev.St) (K : Ev.Ex → Ev.St → Option Ans) (r : Ans) (h : B105_0 fuel st K = some r) : evalCode tab (G105 fuel) (J105_0 fuel) kp105 fuel (.block 0 (.loop (bodyOf 0 Try.f105))) st K = some r := by
  unfold B105_0 at h
  split at h
  · rename_i s hs
    split at h
    · skip
      obtain ⟨hb, h⟩ := cond_some' h
      simp only [Bool.and_eq_true, Nat.beq_eq, decide_eq_true_eq] at hb
      obtain ⟨⟨⟨⟨⟨⟨⟨⟨⟨⟨⟨⟨⟨rfl, rfl⟩, rfl⟩, rfl⟩, rfl⟩, rfl⟩, rfl⟩, rfl⟩, rfl⟩, rfl⟩, rfl⟩, rfl⟩, rfl⟩, rfl⟩ := hb
      exact blk_loop (S := T105_0) (ks := E105_0) (step := S_ref12_Same_0 fuel) (v := (_, _, _, _, _, _, _, _, _, _, _, _, _, _)) (by kernel_rfl) (by kernel_rfl) (fun R K v => by obtain ⟨x0, x1, x2, x3, x4, x5, x6, x7, x8, x9, x10, x11, x12, x13⟩ := v; exact S105_0_ok fuel R K x0 x1 x2 x3 x4 x5 x6 x7 x8 x9 x10 x11 x12 x13) hs h
    · cases h
  · cases h
noncomputable def S_ref12_Same_2 (fuel : Nat) (v : Int × Int × Int × Int × Int × (List Int) × (List Bool) × (List Int) × Int × Int × Int × (List Int) × (List Bool) × (List Int)) (c : (Int × Int × Int × Int × Int × (List Int) × (List Bool) × (List Int) × Int × Int × Int × (List Int) × (List Bool) × (List Int)) → Option Ans) (B : (Bool → Option Ans) × (Unit → Option Ans)) : Option Ans := match v, B with
  | (x0, x1, x2, x3, x4, x5, x6, x7, x8, x9, x10, x11, x12, x13), (ret, b) =>
   bif Decidable.decide (x1 < x0) then
      bif Decidable.decide ((0 : Int) ≤ x1 ∧ x1 < (↑x6.length : Int)) then
      bif Decidable.decide ((0 : Int) ≤ x1 ∧ x1 < (↑x12.length : Int)) then
       bif !x6.getD x1.toNat Bool.false == x12.getD x1.toNat Bool.false then
         ret Bool.false
        else
         c (x0, Go.IntKind.i64.wrap (x1 + (1 : Int)), x2, x3, x4, x5, x6, x7, x8, x9, x10, x11, x12, x13)
       else none
      else none
     else
      b ()
noncomputable def L_ref12_Same_2 (fuel : Nat) (v : Int × Int × Int × Int × Int × (List Int) × (List Bool) × (List Int) × Int × Int × Int × (List Int) × (List Bool) × (List Int)) (ret : (Bool → Option Ans)) (b : (Unit → Option Ans)) : Option Ans := iter (S_ref12_Same_2 fuel) fuel v (ret, b)
noncomputable def J105_2 (fuel : Nat) (i : Nat) : Option Ev.Blk := Ev.look i [(100000, B105_0 fuel)]
noncomputable def T105_2 (v : Int × Int × Int × Int × Int × (List Int) × (List Bool) × (List Int) × Int × Int × Int × (List Int) × (List Bool) × (List Int)) : Ev.St := match v with | (x0, x1, x2, x3, x4, x5, x6, x7, x8, x9, x10, x11, x12, x13) => ⟨[(2, .c (.ptr 0 0)), (3, .c (.ptr 1 0)), (73, .c (.int .i64 x0)), (74, .c (.int .i64 x1))], [(0, .cells 103 [.int .i64 x2, .int .i64 x3, .int .i64 x4, .sl (.int .i64) x5, .sl .bool x6, .sl (.int .u8) x7]), (1, .cells 103 [.int .i64 x8, .int .i64 x9, .int .i64 x10, .sl (.int .i64) x11, .sl .bool x12, .sl (.int .u8) x13])], 2, 0⟩
noncomputable def E105_2 (K : Ev.Ex → Ev.St → Option Ans) : (Bool → Option Ans) × (Unit → Option Ans) := ((fun v => match v with | x0 => K .ret ⟨[(4, .c (.bool x0))], [], 0, 0⟩), (fun v => match v with | () => K .normal ⟨[], [], 0, 0⟩))
theorem S105_2_ok (fuel : Nat) (R : Ev.St → Option Ans) (K : Ev.Ex → Ev.St → Option Ans) (x0 : Int) (x1 : Int) (x2 : Int) (x3 : Int) (x4 : Int) (x5 : (List Int)) (x6 : (List Bool)) (x7 : (List Int)) (x8 : Int) (x9 : Int) (x10 : Int) (x11 : (List Int)) (x12 : (List Bool)) (x13 : (List Int)) : evalCode tab (G105 fuel) (J105_2 fuel) kp105 fuel (bodyOf 2 Try.f105) (T105_2 (x0, x1, x2, x3, x4, x5, x6, x7, x8, x9, x10, x11, x12, x13)) (lc kp105 10 2 R K) = S_ref12_Same_2 fuel (x0, x1, x2, x3, x4, x5, x6, x7, x8, x9, x10, x11, x12, x13) (fun v => R (T105_2 v)) (E105_2 K) := by
  kernel_rfl
noncomputable def B105_2 (fuel : Nat) : Ev.Blk := fun st K => match canonO (kp105 10) st with
  | some s => (match s with
    | ⟨[(q0, .c (.ptr q1 q2)), (q3, .c (.ptr q4 q5)), (q6, .c (.int .i64 x0)), (q7, .c (.int .i64 x1))], [(q8, .cells q9 [.int .i64 x2, .int .i64 x3, .int .i64 x4, .sl (.int .i64) x5, .sl .bool x6, .sl (.int .u8) x7]), (q10, .cells q11 [.int .i64 x8, .int .i64 x9, .int .i64 x10, .sl (.int .i64) x11, .sl .bool x12, .sl (.int .u8) x13])], q12, q13⟩ => bif Nat.beq q0 2 && Nat.beq q1 0 && Nat.beq q2 0 && Nat.beq q3 3 && Nat.beq q4 1 && Nat.beq q5 0 && Nat.beq q6 73 && Nat.beq q7 74 && Nat.beq q8 0 && Nat.beq q9 103 && Nat.beq q10 1 && Nat.beq q11 103 && Nat.beq q12 2 && Nat.beq q13 0 then iter (S_ref12_Same_2 fuel) fuel (x0, x1, x2, x3, x4, x5, x6, x7, x8, x9, x10, x11, x12, x13) (E105_2 K) else none
    | _ => none)
  | none => none
theorem B105_2_ok (fuel : Nat) (st : Ev.St) (K : Ev.Ex → Ev.St → Option Ans) (r : Ans) (h : B105_2 fuel st K = some r) : evalCode tab (G105 fuel) (J105_2 fuel) kp105 fuel (.block 2 (.loop (bodyOf 2 Try.f105))) st K = some r := by
  unfold B105_2 at h
  split at h
  · rename_i s hs
    split at h
    · skip
      obtain ⟨hb, h⟩ := cond_some' h
      simp only [Bool.and_eq_true, Nat.beq_eq, decide_eq_true_eq] at hb
      obtain ⟨⟨⟨⟨⟨⟨⟨⟨⟨⟨⟨⟨⟨rfl, rfl⟩, rfl⟩, rfl⟩, rfl⟩, rfl⟩, rfl⟩, rfl⟩, rfl⟩, rfl⟩, rfl⟩, rfl⟩, rfl⟩, rfl⟩ := hb
      exact blk_loop (S := T105_2) (ks := E105_2) (step := S_ref12_Same_2 fuel) (v := (_, _, _, _, _, _, _, _, _, _, _, _, _, _)) (by kernel_rfl) (by kernel_rfl) (fun R K v => by obtain ⟨x0, x1, x2, x3, x4, x5, x6, x7, x8, x9, x10, x11, x12, x13⟩ := v; exact S105_2_ok fuel R K x0 x1 x2 x3 x4 x5 x6 x7 x8 x9 x10 x11 x12 x13) hs h
    · cases h
  · cases h
noncomputable def J105 (fuel : Nat) (i : Nat) : Option Ev.Blk := Ev.look i [(100000, B105_0 fuel), (100002, B105_2 fuel)]
noncomputable def F_ref12_Same (fuel : Nat) (x0 : Int) (x1 : Int) (x2 : Int) (x3 : (List Int)) (x4 : (List Bool)) (x5 : (List Int)) (x6 : Int) (x7 : Int) (x8 : Int) (x9 : (List Int)) (x10 : (List Bool)) (x11 : (List Int)) (k0 : (Bool) → Option Ans) : Option Ans :=
  bif x0 != x6 then
   k0 Bool.false
  else
   bif x1 != x7 then
    k0 Bool.false
   else
    bif x2 != x8 then
     k0 Bool.false
    else
     bif (↑x3.length : Int) != (↑x9.length : Int) then
      k0 Bool.false
     else
      bif (↑x4.length : Int) != (↑x10.length : Int) then
       k0 Bool.false
      else
       bif !(Go.strOfNums x5).toList == (Go.strOfNums x11).toList then
        k0 Bool.false
       else
        (L_ref12_Same_0 fuel ((↑x3.length : Int), (0 : Int), x0, x1, x2, x3, x4, x5, x6, x7, x8, x9, x10, x11)
          (fun ret0_0 =>
            k0 ret0_0)
          (fun (b0_0, b0_1, b0_2, b0_3, b0_4, b0_5, b0_6, b0_7, b0_8, b0_9, b0_10, b0_11) =>
            (L_ref12_Same_2 fuel ((↑b0_4.length : Int), (0 : Int), b0_0, b0_1, b0_2, b0_3, b0_4, b0_5, b0_6, b0_7, b0_8, b0_9, b0_10, b0_11)
              (fun ret2_0 =>
                k0 ret2_0)
              (fun () =>
                k0 Bool.true))))
abbrev YF105 : Type := (Int) → (Int) → (Int) → ((List Int)) → ((List Bool)) → ((List Int)) → (Int) → (Int) → (Int) → ((List Int)) → ((List Bool)) → ((List Int)) → ((Bool) → Option Ans) → Option Ans
theorem F105_eq (fuel : Nat) (x0 : Int) (x1 : Int) (x2 : Int) (x3 : (List Int)) (x4 : (List Bool)) (x5 : (List Int)) (x6 : Int) (x7 : Int) (x8 : Int) (x9 : (List Int)) (x10 : (List Bool)) (x11 : (List Int)) (k : Ev.Cont) : evalFn tab (G105 fuel) (J105 fuel) kp105 fuel Try.f105 [.agg [.int .i64 x0, .int .i64 x1, .int .i64 x2, .sl (.int .i64) x3, .sl .bool x4, .sl (.int .u8) x5], .agg [.int .i64 x6, .int .i64 x7, .int .i64 x8, .sl (.int .i64) x9, .sl .bool x10, .sl (.int .u8) x11]] [] k = F_ref12_Same fuel x0 x1 x2 x3 x4 x5 x6 x7 x8 x9 x10 x11 (fun r => match r with | r0 => k (.c (.bool r0), [])) := by
  kernel_rfl
theorem hG105 (fuel : Nat) : GOK Try.prog (G105 fuel) :=
  gok_nil
theorem B105_0_blk (fuel : Nat) : BlkOK Try.prog Try.f105.ntmps (.block 0 (.loop (bodyOf 0 Try.f105))) (B105_0 fuel) :=
  blk_of (blk_of_code tab_ok (hG105 fuel) mixed (J := J105_0 fuel) (kp := kp105) (fuel := fuel) (by kernel_rfl) (fun q hq => by
    rw [(by kernel_rfl : obl (J105_0 fuel) (.block 0 (.loop (bodyOf 0 Try.f105))) = [])] at hq
    cases hq)) (B105_0_ok fuel)
theorem B105_2_blk (fuel : Nat) : BlkOK Try.prog Try.f105.ntmps (.block 2 (.loop (bodyOf 2 Try.f105))) (B105_2 fuel) :=
  blk_of (blk_of_code tab_ok (hG105 fuel) mixed (J := J105_2 fuel) (kp := kp105) (fuel := fuel) (by kernel_rfl) (fun q hq => by
    rw [(by kernel_rfl : obl (J105_2 fuel) (.block 2 (.loop (bodyOf 2 Try.f105))) = [])] at hq
    cases hq)) (B105_2_ok fuel)
theorem fok105 (fuel : Nat) : FnOK Try.prog 105 (evalFn tab (G105 fuel) (J105 fuel) kp105 fuel Try.f105) :=
  fn_ok tab_ok (hG105 fuel) mixed Try.func105 (c := (Try.f105.body).getD .skip) rfl (fun q hq => by
    rw [(by kernel_rfl : obl (J105 fuel) ((Try.f105.body).getD .skip) = [(.block 0 (.loop (bodyOf 0 Try.f105)), B105_0 fuel), (.block 2 (.loop (bodyOf 2 Try.f105)), B105_2 fuel)])] at hq
    simp only [List.mem_cons, List.not_mem_nil, or_false] at hq
    rcases hq with rfl | rfl
    · exact B105_0_blk fuel
    · exact B105_2_blk fuel)
noncomputable def mt105 : List Ev.SV → List Ev.Ob → Bool := fun args objs => match args, objs with
  | [.agg [.int .i64 _, .int .i64 _, .int .i64 _, .sl (.int .i64) _, .sl .bool _, .sl (.int .u8) _], .agg [.int .i64 _, .int .i64 _, .int .i64 _, .sl (.int .i64) _, .sl .bool _, .sl (.int .u8) _]], [] => true
  | _, _ => false
noncomputable def spg105 (F : YF105) : Ev.Spec := fun args objs k => match args, objs with
  | [.agg [.int .i64 x0, .int .i64 x1, .int .i64 x2, .sl (.int .i64) x3, .sl .bool x4, .sl (.int .u8) x5], .agg [.int .i64 x6, .int .i64 x7, .int .i64 x8, .sl (.int .i64) x9, .sl .bool x10, .sl (.int .u8) x11]], [] => bif true then F x0 x1 x2 x3 x4 x5 x6 x7 x8 x9 x10 x11 (fun r => match r with | r0 => k (.c (.bool r0), [])) else none
  | _, _ => none
noncomputable def spec105 (fuel : Nat) : Ev.Spec := spg105 (F_ref12_Same fuel)
theorem ok105 (fuel : Nat) : FnOK Try.prog 105 (spec105 fuel) := by
  intro args objs kk r h
  unfold spec105 spg105 at h
  split at h
  · skip
    obtain ⟨hb, h⟩ := cond_some' h
    simp only [Bool.and_eq_true, Nat.beq_eq, decide_eq_true_eq] at hb
    clear hb
    exact fok105 fuel _ _ kk r ((F105_eq fuel _ _ _ _ _ _ _ _ _ _ _ _ kk).trans h)
  · cases h
end Go.Proofs.Ytihfgpfofmjbaaa

set_option linter.unusedVariables false
set_option linter.unusedSimpArgs false
set_option maxRecDepth 100000
set_option maxHeartbeats 2000000
namespace Go.Proofs.Ytihfgpfofmjbaaa
open Go Ev
def kp36 (i : Nat) : Option (List Nat) := Ev.look i [(4, [0, 1, 12, 13]), (100000, []), (200006, [0, 1]), (400000, [4])]
noncomputable def Gg36 (f105 : YF105) (f : Nat) : Option Ev.Spec := Ev.look f [(105, spg105 f105)]
noncomputable def G36 (fuel : Nat) : Nat → Option Ev.Spec := Gg36 (F_ref12_Same fuel)
noncomputable def S_ref12_SameList_0 (fuel : Nat) (v : (List (Int × (Int × (Int × ((List Int) × ((List Bool) × (List Int))))))) × (List (Int × (Int × (Int × ((List Int) × ((List Bool) × (List Int))))))) × Int × Int) (c : ((List (Int × (Int × (Int × ((List Int) × ((List Bool) × (List Int))))))) × (List (Int × (Int × (Int × ((List Int) × ((List Bool) × (List Int))))))) × Int × Int) → Option Ans) (B : (Bool → Option Ans) × (Unit → Option Ans)) : Option Ans := match v, B with
  | (x0, x1, x2, x3), (ret, b) =>
   bif Decidable.decide (x3 < x2) then
      bif Decidable.decide ((0 : Int) ≤ x3 ∧ x3 < (↑x0.length : Int)) then
      bif Decidable.decide ((0 : Int) ≤ x3 ∧ x3 < (↑x1.length : Int)) then
       (F_ref12_Same fuel ((x0.getD x3.toNat ((0 : Int), (0 : Int), (0 : Int), [], [], [])).fst) ((x0.getD x3.toNat ((0 : Int), (0 : Int), (0 : Int), [], [], [])).snd.fst) ((x0.getD x3.toNat ((0 : Int), (0 : Int), (0 : Int), [], [], [])).snd.snd.fst) ((x0.getD x3.toNat ((0 : Int), (0 : Int), (0 : Int), [], [], [])).snd.snd.snd.fst) ((x0.getD x3.toNat ((0 : Int), (0 : Int), (0 : Int), [], [], [])).snd.snd.snd.snd.fst) ((x0.getD x3.toNat ((0 : Int), (0 : Int), (0 : Int), [], [], [])).snd.snd.snd.snd.snd) ((x1.getD x3.toNat ((0 : Int), (0 : Int), (0 : Int), [], [], [])).fst) ((x1.getD x3.toNat ((0 : Int), (0 : Int), (0 : Int), [], [], [])).snd.fst) ((x1.getD x3.toNat ((0 : Int), (0 : Int), (0 : Int), [], [], [])).snd.snd.fst) ((x1.getD x3.toNat ((0 : Int), (0 : Int), (0 : Int), [], [], [])).snd.snd.snd.fst) ((x1.getD x3.toNat ((0 : Int), (0 : Int), (0 : Int), [], [], [])).snd.snd.snd.snd.fst) ((x1.getD x3.toNat ((0 : Int), (0 : Int), (0 : Int), [], [], [])).snd.snd.snd.snd.snd)
          (fun y5 =>
            bif !y5 then
             ret Bool.false
            else
             c (x0, x1, x2, Go.IntKind.i64.wrap (x3 + (1 : Int)))))
       else none
      else none
     else
      b ()
noncomputable def L_ref12_SameList_0 (fuel : Nat) (v : (List (Int × (Int × (Int × ((List Int) × ((List Bool) × (List Int))))))) × (List (Int × (Int × (Int × ((List Int) × ((List Bool) × (List Int))))))) × Int × Int) (ret : (Bool → Option Ans)) (b : (Unit → Option Ans)) : Option Ans := iter (S_ref12_SameList_0 fuel) fuel v (ret, b)
noncomputable def J36_0 (fuel : Nat) (i : Nat) : Option Ev.Blk := Ev.look i []
noncomputable def T36_0 (v : (List (Int × (Int × (Int × ((List Int) × ((List Bool) × (List Int))))))) × (List (Int × (Int × (Int × ((List Int) × ((List Bool) × (List Int))))))) × Int × Int) : Ev.St := match v with | (x0, x1, x2, x3) => ⟨[(0, .c (.sl (.pair (.int .i64) (.pair (.int .i64) (.pair (.int .i64) (.pair (.sl (.int .i64)) (.pair (.sl .bool) (.sl (.int .u8))))))) x0)), (1, .c (.sl (.pair (.int .i64) (.pair (.int .i64) (.pair (.int .i64) (.pair (.sl (.int .i64)) (.pair (.sl .bool) (.sl (.int .u8))))))) x1)), (12, .c (.int .i64 x2)), (13, .c (.int .i64 x3))], [], 0, 0⟩
noncomputable def E36_0 (K : Ev.Ex → Ev.St → Option Ans) : (Bool → Option Ans) × (Unit → Option Ans) := ((fun v => match v with | x0 => K .ret ⟨[(4, .c (.bool x0))], [], 0, 0⟩), (fun v => match v with | () => K .normal ⟨[], [], 0, 0⟩))
theorem S36_0_okg (fuel : Nat) (f105 : YF105) (R : Ev.St → Option Ans) (K : Ev.Ex → Ev.St → Option Ans) (x0 : (List (Int × (Int × (Int × ((List Int) × ((List Bool) × (List Int)))))))) (x1 : (List (Int × (Int × (Int × ((List Int) × ((List Bool) × (List Int)))))))) (x2 : Int) (x3 : Int) : evalCode tab (Gg36 f105) (J36_0 fuel) kp36 fuel (bodyOf 0 Try.f36) (T36_0 (x0, x1, x2, x3)) (lc kp36 4 0 R K) = (fun (c : ((List (Int × (Int × (Int × ((List Int) × ((List Bool) × (List Int))))))) × (List (Int × (Int × (Int × ((List Int) × ((List Bool) × (List Int))))))) × Int × Int) → Option Ans) (B : (Bool → Option Ans) × (Unit → Option Ans)) => match B with
  | (ret, b) =>
   bif Decidable.decide (x3 < x2) then
      bif Decidable.decide ((0 : Int) ≤ x3 ∧ x3 < (↑x0.length : Int)) then
      bif Decidable.decide ((0 : Int) ≤ x3 ∧ x3 < (↑x1.length : Int)) then
       (f105 ((x0.getD x3.toNat ((0 : Int), (0 : Int), (0 : Int), [], [], [])).fst) ((x0.getD x3.toNat ((0 : Int), (0 : Int), (0 : Int), [], [], [])).snd.fst) ((x0.getD x3.toNat ((0 : Int), (0 : Int), (0 : Int), [], [], [])).snd.snd.fst) ((x0.getD x3.toNat ((0 : Int), (0 : Int), (0 : Int), [], [], [])).snd.snd.snd.fst) ((x0.getD x3.toNat ((0 : Int), (0 : Int), (0 : Int), [], [], [])).snd.snd.snd.snd.fst) ((x0.getD x3.toNat ((0 : Int), (0 : Int), (0 : Int), [], [], [])).snd.snd.snd.snd.snd) ((x1.getD x3.toNat ((0 : Int), (0 : Int), (0 : Int), [], [], [])).fst) ((x1.getD x3.toNat ((0 : Int), (0 : Int), (0 : Int), [], [], [])).snd.fst) ((x1.getD x3.toNat ((0 : Int), (0 : Int), (0 : Int), [], [], [])).snd.snd.fst) ((x1.getD x3.toNat ((0 : Int), (0 : Int), (0 : Int), [], [], [])).snd.snd.snd.fst) ((x1.getD x3.toNat ((0 : Int), (0 : Int), (0 : Int), [], [], [])).snd.snd.snd.snd.fst) ((x1.getD x3.toNat ((0 : Int), (0 : Int), (0 : Int), [], [], [])).snd.snd.snd.snd.snd)
          (fun y5 =>
            bif !y5 then
             ret Bool.false
            else
             c (x0, x1, x2, Go.IntKind.i64.wrap (x3 + (1 : Int)))))
       else none
      else none
     else
      b ()) (fun v => R (T36_0 v)) (E36_0 K) := by
  kernel_rfl
theorem S36_0_ok (fuel : Nat) (R : Ev.St → Option Ans) (K : Ev.Ex → Ev.St → Option Ans) (x0 : (List (Int × (Int × (Int × ((List Int) × ((List Bool) × (List Int)))))))) (x1 : (List (Int × (Int × (Int × ((List Int) × ((List Bool) × (List Int)))))))) (x2 : Int) (x3 : Int) : evalCode tab (G36 fuel) (J36_0 fuel) kp36 fuel (bodyOf 0 Try.f36) (T36_0 (x0, x1, x2, x3)) (lc kp36 4 0 R K) = S_ref12_SameList_0 fuel (x0, x1, x2, x3) (fun v => R (T36_0 v)) (E36_0 K) :=
  S36_0_okg fuel (F_ref12_Same fuel) R K x0 x1 x2 x3
noncomputable def B36_0 (fuel : Nat) : Ev.Blk := fun st K => match canonO (kp36 4) st with
  | some s => (match s with
    | ⟨[(q0, .c (.sl (.pair (.int .i64) (.pair (.int .i64) (.pair (.int .i64) (.pair (.sl (.int .i64)) (.pair (.sl .bool) (.sl (.int .u8))))))) x0)), (q1, .c (.sl (.pair (.int .i64) (.pair (.int .i64) (.pair (.int .i64) (.pair (.sl (.int .i64)) (.pair (.sl .bool) (.sl (.int .u8))))))) x1)), (q2, .c (.int .i64 x2)), (q3, .c (.int .i64 x3))], [], q4, q5⟩ => bif Nat.beq q0 0 && Nat.beq q1 1 && Nat.beq q2 12 && Nat.beq q3 13 && Nat.beq q4 0 && Nat.beq q5 0 then iter (S_ref12_SameList_0 fuel) fuel (x0, x1, x2, x3) (E36_0 K) else none
    | _ => none)
  | none => none
theorem B36_0_ok (fuel : Nat) (st : Ev.St) (K : Ev.Ex → Ev.St → Option Ans) (r : Ans) (h : B36_0 fuel st K = some r) : evalCode tab (G36 fuel) (J36_0 fuel) kp36 fuel (.block 0 (.loop (bodyOf 0 Try.f36))) st K = some r := by
  unfold B36_0 at h
  split at h
  · rename_i s hs
    split at h
    · skip
      obtain ⟨hb, h⟩ := cond_some' h
      simp only [Bool.and_eq_true, Nat.beq_eq, decide_eq_true_eq] at hb
      obtain ⟨⟨⟨⟨⟨rfl, rfl⟩, rfl⟩, rfl⟩, rfl⟩, rfl⟩ := hb
      exact blk_loop (S := T36_0) (ks := E36_0) (step := S_ref12_SameList_0 fuel) (v := (_, _, _, _)) (by kernel_rfl) (by kernel_rfl) (fun R K v => by obtain ⟨x0, x1, x2, x3⟩ := v; exact S36_0_ok fuel R K x0 x1 x2 x3) hs h
    · cases h
  · cases h
noncomputable def J36 (fuel : Nat) (i : Nat) : Option Ev.Blk := Ev.look i [(100000, B36_0 fuel)]
noncomputable def F_ref12_SameList (fuel : Nat) (x0 : (List (Int × Int × Int × (List Int) × (List Bool) × (List Int)))) (x1 : (List (Int × Int × Int × (List Int) × (List Bool) × (List Int)))) (k0 : (Bool) → Option Ans) : Option Ans :=
  bif (↑x0.length : Int) != (↑x1.length : Int) then
   k0 Bool.false
  else
   (L_ref12_SameList_0 fuel (x0, x1, (↑x0.length : Int), (0 : Int))
     (fun ret0_0 =>
       k0 ret0_0)
     (fun () =>
       k0 Bool.true))
abbrev YF36 : Type := ((List (Int × Int × Int × (List Int) × (List Bool) × (List Int)))) → ((List (Int × Int × Int × (List Int) × (List Bool) × (List Int)))) → ((Bool) → Option Ans) → Option Ans
theorem F36_eqg (fuel : Nat) (f105 : YF105) (x0 : (List (Int × Int × Int × (List Int) × (List Bool) × (List Int)))) (x1 : (List (Int × Int × Int × (List Int) × (List Bool) × (List Int)))) (k : Ev.Cont) : evalFn tab (Gg36 f105) (J36 fuel) kp36 fuel Try.f36 [.c (.sl (.pair (.int .i64) (.pair (.int .i64) (.pair (.int .i64) (.pair (.sl (.int .i64)) (.pair (.sl .bool) (.sl (.int .u8))))))) x0), .c (.sl (.pair (.int .i64) (.pair (.int .i64) (.pair (.int .i64) (.pair (.sl (.int .i64)) (.pair (.sl .bool) (.sl (.int .u8))))))) x1)] [] k = (fun  (k0 : (Bool) → Option Ans) =>
  bif (↑x0.length : Int) != (↑x1.length : Int) then
   k0 Bool.false
  else
   (L_ref12_SameList_0 fuel (x0, x1, (↑x0.length : Int), (0 : Int))
     (fun ret0_0 =>
       k0 ret0_0)
     (fun () =>
       k0 Bool.true))) (fun r => match r with | r0 => k (.c (.bool r0), [])) := by
  kernel_rfl
theorem F36_eq (fuel : Nat) (x0 : (List (Int × Int × Int × (List Int) × (List Bool) × (List Int)))) (x1 : (List (Int × Int × Int × (List Int) × (List Bool) × (List Int)))) (k : Ev.Cont) : evalFn tab (G36 fuel) (J36 fuel) kp36 fuel Try.f36 [.c (.sl (.pair (.int .i64) (.pair (.int .i64) (.pair (.int .i64) (.pair (.sl (.int .i64)) (.pair (.sl .bool) (.sl (.int .u8))))))) x0), .c (.sl (.pair (.int .i64) (.pair (.int .i64) (.pair (.int .i64) (.pair (.sl (.int .i64)) (.pair (.sl .bool) (.sl (.int .u8))))))) x1)] [] k = F_ref12_SameList fuel x0 x1 (fun r => match r with | r0 => k (.c (.bool r0), [])) :=
  F36_eqg fuel (F_ref12_Same fuel) x0 x1 k
theorem hG36 (fuel : Nat) : GOK Try.prog (G36 fuel) :=
  gok_cons ⟨ok105 fuel, enters_of Try.func105 (by kernel_rfl) rfl⟩ <|
  gok_nil
theorem B36_0_blk (fuel : Nat) : BlkOK Try.prog Try.f36.ntmps (.block 0 (.loop (bodyOf 0 Try.f36))) (B36_0 fuel) :=
  blk_of (blk_of_code tab_ok (hG36 fuel) mixed (J := J36_0 fuel) (kp := kp36) (fuel := fuel) (by kernel_rfl) (fun q hq => by
    rw [(by kernel_rfl : obl (J36_0 fuel) (.block 0 (.loop (bodyOf 0 Try.f36))) = [])] at hq
    cases hq)) (B36_0_ok fuel)
theorem fok36 (fuel : Nat) : FnOK Try.prog 36 (evalFn tab (G36 fuel) (J36 fuel) kp36 fuel Try.f36) :=
  fn_ok tab_ok (hG36 fuel) mixed Try.func36 (c := (Try.f36.body).getD .skip) rfl (fun q hq => by
    rw [(by kernel_rfl : obl (J36 fuel) ((Try.f36.body).getD .skip) = [(.block 0 (.loop (bodyOf 0 Try.f36)), B36_0 fuel)])] at hq
    simp only [List.mem_cons, List.not_mem_nil, or_false] at hq
    subst hq
    · exact B36_0_blk fuel)
noncomputable def mt36 : List Ev.SV → List Ev.Ob → Bool := fun args objs => match args, objs with
  | [.c (.sl (.pair (.int .i64) (.pair (.int .i64) (.pair (.int .i64) (.pair (.sl (.int .i64)) (.pair (.sl .bool) (.sl (.int .u8))))))) _), .c (.sl (.pair (.int .i64) (.pair (.int .i64) (.pair (.int .i64) (.pair (.sl (.int .i64)) (.pair (.sl .bool) (.sl (.int .u8))))))) _)], [] => true
  | _, _ => false
noncomputable def spg36 (F : YF36) : Ev.Spec := fun args objs k => match args, objs with
  | [.c (.sl (.pair (.int .i64) (.pair (.int .i64) (.pair (.int .i64) (.pair (.sl (.int .i64)) (.pair (.sl .bool) (.sl (.int .u8))))))) x0), .c (.sl (.pair (.int .i64) (.pair (.int .i64) (.pair (.int .i64) (.pair (.sl (.int .i64)) (.pair (.sl .bool) (.sl (.int .u8))))))) x1)], [] => bif true then F x0 x1 (fun r => match r with | r0 => k (.c (.bool r0), [])) else none
  | _, _ => none
noncomputable def spec36 (fuel : Nat) : Ev.Spec := spg36 (F_ref12_SameList fuel)
theorem ok36 (fuel : Nat) : FnOK Try.prog 36 (spec36 fuel) := by
  intro args objs kk r h
  unfold spec36 spg36 at h
  split at h
  · skip
    obtain ⟨hb, h⟩ := cond_some' h
    simp only [Bool.and_eq_true, Nat.beq_eq, decide_eq_true_eq] at hb
    clear hb
    exact fok36 fuel _ _ kk r ((F36_eq fuel _ _ kk).trans h)
  · cases h
end Go.Proofs.Ytihfgpfofmjbaaa

set_option linter.unusedVariables false
set_option linter.unusedSimpArgs false
set_option maxRecDepth 100000
set_option maxHeartbeats 2000000
namespace Go.Proofs.Ytihfgpfofmjbaaa
open Go Ev
def kp174_6fe (i : Nat) : Option (List Nat) := Ev.look i []
noncomputable def Gg174_6fe (f : Nat) : Option Ev.Spec := Ev.look f []
noncomputable def G174_6fe (fuel : Nat) : Nat → Option Ev.Spec := Gg174_6fe
noncomputable def J174_6fe (fuel : Nat) (i : Nat) : Option Ev.Blk := Ev.look i []
noncomputable def F_ref14_Parsed_failed_6fe (fuel : Nat) (x0 : Int) (x1 : Int) (x2 : Int) (x3 : Int) (x4 : Int) (x5 : (List (Int × (Int × (Int × ((List Int) × ((List Bool) × (List Int)))))))) (x6 : (List Int)) (x7 : (List (Int × Int))) (k0 : (Int × Int × Int × (List (Int × (Int × (Int × ((List Int) × ((List Bool) × (List Int))))))) × (List Int) × (List (Int × Int))) → Option Ans) : Option Ans :=
  k0 (x2, x1, x0, x5, x6, x7)
abbrev YF174_6fe : Type := (Int) → (Int) → (Int) → (Int) → (Int) → ((List (Int × (Int × (Int × ((List Int) × ((List Bool) × (List Int)))))))) → ((List Int)) → ((List (Int × Int))) → ((Int × Int × Int × (List (Int × (Int × (Int × ((List Int) × ((List Bool) × (List Int))))))) × (List Int) × (List (Int × Int))) → Option Ans) → Option Ans
theorem F174_6fe_eq (fuel : Nat) (x0 : Int) (x1 : Int) (x2 : Int) (x3 : Int) (x4 : Int) (x5 : (List (Int × (Int × (Int × ((List Int) × ((List Bool) × (List Int)))))))) (x6 : (List Int)) (x7 : (List (Int × Int))) (k : Ev.Cont) : evalFn tab (G174_6fe fuel) (J174_6fe fuel) kp174_6fe fuel Try.f174 [.c (.ptr 0 0), .c (.int .i64 x0), .c (.int .i64 x1)] [.cells 145 [.int .i64 x2, .own 1, .own 2, .own 3, .int .i64 x3, .int .i64 x4], .vec 103 (.pair (.int .i64) (.pair (.int .i64) (.pair (.int .i64) (.pair (.sl (.int .i64)) (.pair (.sl .bool) (.sl (.int .u8))))))) x5 false, .vec 3 (.int .i64) x6 false, .vec 44 (.pair (.int .i64) (.int .i64)) x7 false] k = F_ref14_Parsed_failed_6fe fuel x0 x1 x2 x3 x4 x5 x6 x7 (fun r => match r with | (r0, r1, r2, r3, r4, r5) => k (.c (.ptr 0 0), [.cells 145 [.int .i64 r0, .own 1, .own 2, .own 3, .int .i64 r1, .int .i64 r2], .vec 103 (.pair (.int .i64) (.pair (.int .i64) (.pair (.int .i64) (.pair (.sl (.int .i64)) (.pair (.sl .bool) (.sl (.int .u8))))))) r3 false, .vec 3 (.int .i64) r4 false, .vec 44 (.pair (.int .i64) (.int .i64)) r5 false])) := by
  kernel_rfl
theorem hG174_6fe (fuel : Nat) : GOK Try.prog (G174_6fe fuel) :=
  gok_nil
theorem fok174_6fe (fuel : Nat) : FnOK Try.prog 174 (evalFn tab (G174_6fe fuel) (J174_6fe fuel) kp174_6fe fuel Try.f174) :=
  fn_ok tab_ok (hG174_6fe fuel) mixed Try.func174 (c := (Try.f174.body).getD .skip) rfl (fun q hq => by
    rw [(by kernel_rfl : obl (J174_6fe fuel) ((Try.f174.body).getD .skip) = [])] at hq
    cases hq)
noncomputable def mt174_6fe : List Ev.SV → List Ev.Ob → Bool := fun args objs => match args, objs with
  | [.c (.ptr q0 q1), .c (.int .i64 _), .c (.int .i64 _)], [.cells q2 [.int .i64 _, .own q3, .own q4, .own q5, .int .i64 _, .int .i64 _], .vec q6 (.pair (.int .i64) (.pair (.int .i64) (.pair (.int .i64) (.pair (.sl (.int .i64)) (.pair (.sl .bool) (.sl (.int .u8))))))) _ false, .vec q7 (.int .i64) _ false, .vec q8 (.pair (.int .i64) (.int .i64)) _ false] => Nat.beq q0 0 && Nat.beq q1 0 && Nat.beq q2 145 && Nat.beq q3 1 && Nat.beq q4 2 && Nat.beq q5 3 && Nat.beq q6 103 && Nat.beq q7 3 && Nat.beq q8 44
  | _, _ => false
noncomputable def spg174_6fe (F : YF174_6fe) : Ev.Spec := fun args objs k => match args, objs with
  | [.c (.ptr q0 q1), .c (.int .i64 x0), .c (.int .i64 x1)], [.cells q2 [.int .i64 x2, .own q3, .own q4, .own q5, .int .i64 x3, .int .i64 x4], .vec q6 (.pair (.int .i64) (.pair (.int .i64) (.pair (.int .i64) (.pair (.sl (.int .i64)) (.pair (.sl .bool) (.sl (.int .u8))))))) x5 false, .vec q7 (.int .i64) x6 false, .vec q8 (.pair (.int .i64) (.int .i64)) x7 false] => bif Nat.beq q0 0 && Nat.beq q1 0 && Nat.beq q2 145 && Nat.beq q3 1 && Nat.beq q4 2 && Nat.beq q5 3 && Nat.beq q6 103 && Nat.beq q7 3 && Nat.beq q8 44 then F x0 x1 x2 x3 x4 x5 x6 x7 (fun r => match r with | (r0, r1, r2, r3, r4, r5) => k (.c (.ptr 0 0), [.cells 145 [.int .i64 r0, .own 1, .own 2, .own 3, .int .i64 r1, .int .i64 r2], .vec 103 (.pair (.int .i64) (.pair (.int .i64) (.pair (.int .i64) (.pair (.sl (.int .i64)) (.pair (.sl .bool) (.sl (.int .u8))))))) r3 false, .vec 3 (.int .i64) r4 false, .vec 44 (.pair (.int .i64) (.int .i64)) r5 false])) else none
  | _, _ => none
noncomputable def spec174_6fe (fuel : Nat) : Ev.Spec := spg174_6fe (F_ref14_Parsed_failed_6fe fuel)
theorem ok174_6fe (fuel : Nat) : FnOK Try.prog 174 (spec174_6fe fuel) := by
  intro args objs kk r h
  unfold spec174_6fe spg174_6fe at h
  split at h
  · skip
    obtain ⟨hb, h⟩ := cond_some' h
    simp only [Bool.and_eq_true, Nat.beq_eq, decide_eq_true_eq] at hb
    obtain ⟨⟨⟨⟨⟨⟨⟨⟨rfl, rfl⟩, rfl⟩, rfl⟩, rfl⟩, rfl⟩, rfl⟩, rfl⟩, rfl⟩ := hb
    exact fok174_6fe fuel _ _ kk r ((F174_6fe_eq fuel _ _ _ _ _ _ _ _ kk).trans h)
  · cases h
end Go.Proofs.Ytihfgpfofmjbaaa

set_option linter.unusedVariables false
set_option linter.unusedSimpArgs false
set_option maxRecDepth 100000
set_option maxHeartbeats 2000000
namespace Go.Proofs.Ytihfgpfofmjbaaa
open Go Ev
def kp176_4ba (i : Nat) : Option (List Nat) := Ev.look i [(200006, [0])]
noncomputable def Gg176_4ba (f174_6fe : YF174_6fe) (f : Nat) : Option Ev.Spec := Ev.look f [(174, spg174_6fe f174_6fe)]
noncomputable def G176_4ba (fuel : Nat) : Nat → Option Ev.Spec := Gg176_4ba (F_ref14_Parsed_failed_6fe fuel)
noncomputable def J176_4ba (fuel : Nat) (i : Nat) : Option Ev.Blk := Ev.look i []
noncomputable def F_ref14_Parsed_data_4ba (fuel : Nat) (x0 : (List Int)) (x1 : Int) (x2 : Int) (x3 : Int) (x4 : Int) (x5 : Int) (x6 : (List (Int × (Int × (Int × ((List Int) × ((List Bool) × (List Int)))))))) (x7 : (List Int)) (x8 : (List (Int × Int))) (k0 : (Int × Bool × Int × Int × Int × (List (Int × (Int × (Int × ((List Int) × ((List Bool) × (List Int))))))) × (List Int) × (List (Int × Int))) → Option Ans) : Option Ans :=
  bif Decidable.decide ((0 : Int) ≤ x1 ∧ x1 < (↑x8.length : Int)) then
  bif Decidable.decide ((x8.getD x1.toNat ((0 : Int), (0 : Int))).snd > Go.IntKind.i64.wrap ((↑x0.length : Int) - x2)) then
    (F_ref14_Parsed_failed_6fe fuel (x2) ((6 : Int)) (x3) (x4) (x5) (x6) (x7) (x8)
      (fun (y4_0, y4_1, y4_2, y4_3, y4_4, y4_5) =>
        k0 ((0 : Int), Bool.false, y4_0, y4_1, y4_2, y4_3, y4_4, y4_5)))
   else
    bif Decidable.decide ((0 : Int) ≤ x1 ∧ x1 < (↑x8.length : Int)) then
    bif Decidable.decide ((0 : Int) ≤ Ev.loOf (Option.some x2) ∧ Ev.loOf (Option.some x2) ≤ Ev.hiOf (Option.some (Go.IntKind.i64.wrap (x2 + (x8.getD x1.toNat ((0 : Int), (0 : Int))).snd))) (↑x0.length : Int) ∧ Ev.hiOf (Option.some (Go.IntKind.i64.wrap (x2 + (x8.getD x1.toNat ((0 : Int), (0 : Int))).snd))) (↑x0.length : Int) ≤ (↑x0.length : Int)) then
     bif Decidable.decide (((0 : Nat) + (List.take (Ev.hiOf (Option.some (Go.IntKind.i64.wrap (x2 + (x8.getD x1.toNat ((0 : Int), (0 : Int))).snd))) (↑x0.length : Int) - Ev.loOf (Option.some x2)).toNat (List.drop (Ev.loOf (Option.some x2)).toNat x0)).length) * (1 : Nat) ≤ (140737488355328 : Nat) ∧ (0 : Nat) + (List.take (Ev.hiOf (Option.some (Go.IntKind.i64.wrap (x2 + (x8.getD x1.toNat ((0 : Int), (0 : Int))).snd))) (↑x0.length : Int) - Ev.loOf (Option.some x2)).toNat (List.drop (Ev.loOf (Option.some x2)).toNat x0)).length ≤ (140737488355328 : Nat)) then
      bif Decidable.decide ((0 : Int) ≤ x1 ∧ x1 < (↑x6.length : Int)) then
       k0 (Go.IntKind.i64.wrap (x2 + (x8.getD x1.toNat ((0 : Int), (0 : Int))).snd), Bool.true, x3, x4, x5, x6.set x1.toNat ((x6.getD x1.toNat ((0 : Int), (0 : Int), (0 : Int), [], [], [])).fst, (x6.getD x1.toNat ((0 : Int), (0 : Int), (0 : Int), [], [], [])).snd.fst, (x6.getD x1.toNat ((0 : Int), (0 : Int), (0 : Int), [], [], [])).snd.snd.fst, (x6.getD x1.toNat ((0 : Int), (0 : Int), (0 : Int), [], [], [])).snd.snd.snd.fst, (x6.getD x1.toNat ((0 : Int), (0 : Int), (0 : Int), [], [], [])).snd.snd.snd.snd.fst, [] ++ List.take (Ev.hiOf (Option.some (Go.IntKind.i64.wrap (x2 + (x8.getD x1.toNat ((0 : Int), (0 : Int))).snd))) (↑x0.length : Int) - Ev.loOf (Option.some x2)).toNat (List.drop (Ev.loOf (Option.some x2)).toNat x0)), x7, x8.set x1.toNat (x2, (x8.getD x1.toNat ((0 : Int), (0 : Int))).snd))
       else none
      else none
     else none
    else none
  else none
abbrev YF176_4ba : Type := ((List Int)) → (Int) → (Int) → (Int) → (Int) → (Int) → ((List (Int × (Int × (Int × ((List Int) × ((List Bool) × (List Int)))))))) → ((List Int)) → ((List (Int × Int))) → ((Int × Bool × Int × Int × Int × (List (Int × (Int × (Int × ((List Int) × ((List Bool) × (List Int))))))) × (List Int) × (List (Int × Int))) → Option Ans) → Option Ans
theorem F176_4ba_eqg (fuel : Nat) (f174_6fe : YF174_6fe) (x0 : (List Int)) (x1 : Int) (x2 : Int) (x3 : Int) (x4 : Int) (x5 : Int) (x6 : (List (Int × (Int × (Int × ((List Int) × ((List Bool) × (List Int)))))))) (x7 : (List Int)) (x8 : (List (Int × Int))) (k : Ev.Cont) : evalFn tab (Gg176_4ba f174_6fe) (J176_4ba fuel) kp176_4ba fuel Try.f176 [.c (.ptr 0 0), .c (.sl (.int .u8) x0), .c (.int .i64 x1), .c (.int .i64 x2)] [.cells 145 [.int .i64 x3, .own 1, .own 2, .own 3, .int .i64 x4, .int .i64 x5], .vec 103 (.pair (.int .i64) (.pair (.int .i64) (.pair (.int .i64) (.pair (.sl (.int .i64)) (.pair (.sl .bool) (.sl (.int .u8))))))) x6 false, .vec 3 (.int .i64) x7 false, .vec 44 (.pair (.int .i64) (.int .i64)) x8 false] k = (fun  (k0 : (Int × Bool × Int × Int × Int × (List (Int × (Int × (Int × ((List Int) × ((List Bool) × (List Int))))))) × (List Int) × (List (Int × Int))) → Option Ans) =>
  bif Decidable.decide ((0 : Int) ≤ x1 ∧ x1 < (↑x8.length : Int)) then
  bif Decidable.decide ((x8.getD x1.toNat ((0 : Int), (0 : Int))).snd > Go.IntKind.i64.wrap ((↑x0.length : Int) - x2)) then
    (f174_6fe (x2) ((6 : Int)) (x3) (x4) (x5) (x6) (x7) (x8)
      (fun (y4_0, y4_1, y4_2, y4_3, y4_4, y4_5) =>
        k0 ((0 : Int), Bool.false, y4_0, y4_1, y4_2, y4_3, y4_4, y4_5)))
   else
    bif Decidable.decide ((0 : Int) ≤ x1 ∧ x1 < (↑x8.length : Int)) then
    bif Decidable.decide ((0 : Int) ≤ Ev.loOf (Option.some x2) ∧ Ev.loOf (Option.some x2) ≤ Ev.hiOf (Option.some (Go.IntKind.i64.wrap (x2 + (x8.getD x1.toNat ((0 : Int), (0 : Int))).snd))) (↑x0.length : Int) ∧ Ev.hiOf (Option.some (Go.IntKind.i64.wrap (x2 + (x8.getD x1.toNat ((0 : Int), (0 : Int))).snd))) (↑x0.length : Int) ≤ (↑x0.length : Int)) then
     bif Decidable.decide (((0 : Nat) + (List.take (Ev.hiOf (Option.some (Go.IntKind.i64.wrap (x2 + (x8.getD x1.toNat ((0 : Int), (0 : Int))).snd))) (↑x0.length : Int) - Ev.loOf (Option.some x2)).toNat (List.drop (Ev.loOf (Option.some x2)).toNat x0)).length) * (1 : Nat) ≤ (140737488355328 : Nat) ∧ (0 : Nat) + (List.take (Ev.hiOf (Option.some (Go.IntKind.i64.wrap (x2 + (x8.getD x1.toNat ((0 : Int), (0 : Int))).snd))) (↑x0.length : Int) - Ev.loOf (Option.some x2)).toNat (List.drop (Ev.loOf (Option.some x2)).toNat x0)).length ≤ (140737488355328 : Nat)) then
      bif Decidable.decide ((0 : Int) ≤ x1 ∧ x1 < (↑x6.length : Int)) then
       k0 (Go.IntKind.i64.wrap (x2 + (x8.getD x1.toNat ((0 : Int), (0 : Int))).snd), Bool.true, x3, x4, x5, x6.set x1.toNat ((x6.getD x1.toNat ((0 : Int), (0 : Int), (0 : Int), [], [], [])).fst, (x6.getD x1.toNat ((0 : Int), (0 : Int), (0 : Int), [], [], [])).snd.fst, (x6.getD x1.toNat ((0 : Int), (0 : Int), (0 : Int), [], [], [])).snd.snd.fst, (x6.getD x1.toNat ((0 : Int), (0 : Int), (0 : Int), [], [], [])).snd.snd.snd.fst, (x6.getD x1.toNat ((0 : Int), (0 : Int), (0 : Int), [], [], [])).snd.snd.snd.snd.fst, [] ++ List.take (Ev.hiOf (Option.some (Go.IntKind.i64.wrap (x2 + (x8.getD x1.toNat ((0 : Int), (0 : Int))).snd))) (↑x0.length : Int) - Ev.loOf (Option.some x2)).toNat (List.drop (Ev.loOf (Option.some x2)).toNat x0)), x7, x8.set x1.toNat (x2, (x8.getD x1.toNat ((0 : Int), (0 : Int))).snd))
       else none
      else none
     else none
    else none
  else none) (fun r => match r with | (r0, r1, r2, r3, r4, r5, r6, r7) => k (.tup [(false, [.int .i64 r0]), (false, [.bool r1])], [.cells 145 [.int .i64 r2, .own 1, .own 2, .own 3, .int .i64 r3, .int .i64 r4], .vec 103 (.pair (.int .i64) (.pair (.int .i64) (.pair (.int .i64) (.pair (.sl (.int .i64)) (.pair (.sl .bool) (.sl (.int .u8))))))) r5 false, .vec 3 (.int .i64) r6 false, .vec 44 (.pair (.int .i64) (.int .i64)) r7 false])) := by
  kernel_rfl
theorem F176_4ba_eq (fuel : Nat) (x0 : (List Int)) (x1 : Int) (x2 : Int) (x3 : Int) (x4 : Int) (x5 : Int) (x6 : (List (Int × (Int × (Int × ((List Int) × ((List Bool) × (List Int)))))))) (x7 : (List Int)) (x8 : (List (Int × Int))) (k : Ev.Cont) : evalFn tab (G176_4ba fuel) (J176_4ba fuel) kp176_4ba fuel Try.f176 [.c (.ptr 0 0), .c (.sl (.int .u8) x0), .c (.int .i64 x1), .c (.int .i64 x2)] [.cells 145 [.int .i64 x3, .own 1, .own 2, .own 3, .int .i64 x4, .int .i64 x5], .vec 103 (.pair (.int .i64) (.pair (.int .i64) (.pair (.int .i64) (.pair (.sl (.int .i64)) (.pair (.sl .bool) (.sl (.int .u8))))))) x6 false, .vec 3 (.int .i64) x7 false, .vec 44 (.pair (.int .i64) (.int .i64)) x8 false] k = F_ref14_Parsed_data_4ba fuel x0 x1 x2 x3 x4 x5 x6 x7 x8 (fun r => match r with | (r0, r1, r2, r3, r4, r5, r6, r7) => k (.tup [(false, [.int .i64 r0]), (false, [.bool r1])], [.cells 145 [.int .i64 r2, .own 1, .own 2, .own 3, .int .i64 r3, .int .i64 r4], .vec 103 (.pair (.int .i64) (.pair (.int .i64) (.pair (.int .i64) (.pair (.sl (.int .i64)) (.pair (.sl .bool) (.sl (.int .u8))))))) r5 false, .vec 3 (.int .i64) r6 false, .vec 44 (.pair (.int .i64) (.int .i64)) r7 false])) :=
  F176_4ba_eqg fuel (F_ref14_Parsed_failed_6fe fuel) x0 x1 x2 x3 x4 x5 x6 x7 x8 k
theorem hG176_4ba (fuel : Nat) : GOK Try.prog (G176_4ba fuel) :=
  gok_cons ⟨ok174_6fe fuel, enters_of Try.func174 (by kernel_rfl) rfl⟩ <|
  gok_nil
theorem fok176_4ba (fuel : Nat) : FnOK Try.prog 176 (evalFn tab (G176_4ba fuel) (J176_4ba fuel) kp176_4ba fuel Try.f176) :=
  fn_ok tab_ok (hG176_4ba fuel) mixed Try.func176 (c := (Try.f176.body).getD .skip) rfl (fun q hq => by
    rw [(by kernel_rfl : obl (J176_4ba fuel) ((Try.f176.body).getD .skip) = [])] at hq
    cases hq)
noncomputable def mt176_4ba : List Ev.SV → List Ev.Ob → Bool := fun args objs => match args, objs with
  | [.c (.ptr q0 q1), .c (.sl (.int .u8) _), .c (.int .i64 _), .c (.int .i64 _)], [.cells q2 [.int .i64 _, .own q3, .own q4, .own q5, .int .i64 _, .int .i64 _], .vec q6 (.pair (.int .i64) (.pair (.int .i64) (.pair (.int .i64) (.pair (.sl (.int .i64)) (.pair (.sl .bool) (.sl (.int .u8))))))) _ false, .vec q7 (.int .i64) _ false, .vec q8 (.pair (.int .i64) (.int .i64)) _ false] => Nat.beq q0 0 && Nat.beq q1 0 && Nat.beq q2 145 && Nat.beq q3 1 && Nat.beq q4 2 && Nat.beq q5 3 && Nat.beq q6 103 && Nat.beq q7 3 && Nat.beq q8 44
  | _, _ => false
noncomputable def spg176_4ba (F : YF176_4ba) : Ev.Spec := fun args objs k => match args, objs with
  | [.c (.ptr q0 q1), .c (.sl (.int .u8) x0), .c (.int .i64 x1), .c (.int .i64 x2)], [.cells q2 [.int .i64 x3, .own q3, .own q4, .own q5, .int .i64 x4, .int .i64 x5], .vec q6 (.pair (.int .i64) (.pair (.int .i64) (.pair (.int .i64) (.pair (.sl (.int .i64)) (.pair (.sl .bool) (.sl (.int .u8))))))) x6 false, .vec q7 (.int .i64) x7 false, .vec q8 (.pair (.int .i64) (.int .i64)) x8 false] => bif Nat.beq q0 0 && Nat.beq q1 0 && Nat.beq q2 145 && Nat.beq q3 1 && Nat.beq q4 2 && Nat.beq q5 3 && Nat.beq q6 103 && Nat.beq q7 3 && Nat.beq q8 44 then F x0 x1 x2 x3 x4 x5 x6 x7 x8 (fun r => match r with | (r0, r1, r2, r3, r4, r5, r6, r7) => k (.tup [(false, [.int .i64 r0]), (false, [.bool r1])], [.cells 145 [.int .i64 r2, .own 1, .own 2, .own 3, .int .i64 r3, .int .i64 r4], .vec 103 (.pair (.int .i64) (.pair (.int .i64) (.pair (.int .i64) (.pair (.sl (.int .i64)) (.pair (.sl .bool) (.sl (.int .u8))))))) r5 false, .vec 3 (.int .i64) r6 false, .vec 44 (.pair (.int .i64) (.int .i64)) r7 false])) else none
  | _, _ => none
noncomputable def spec176_4ba (fuel : Nat) : Ev.Spec := spg176_4ba (F_ref14_Parsed_data_4ba fuel)
theorem ok176_4ba (fuel : Nat) : FnOK Try.prog 176 (spec176_4ba fuel) := by
  intro args objs kk r h
  unfold spec176_4ba spg176_4ba at h
  split at h
  · skip
    obtain ⟨hb, h⟩ := cond_some' h
    simp only [Bool.and_eq_true, Nat.beq_eq, decide_eq_true_eq] at hb
    obtain ⟨⟨⟨⟨⟨⟨⟨⟨rfl, rfl⟩, rfl⟩, rfl⟩, rfl⟩, rfl⟩, rfl⟩, rfl⟩, rfl⟩ := hb
    exact fok176_4ba fuel _ _ kk r ((F176_4ba_eq fuel _ _ _ _ _ _ _ _ _ kk).trans h)
  · cases h
end Go.Proofs.Ytihfgpfofmjbaaa

set_option linter.unusedVariables false
set_option linter.unusedSimpArgs false
set_option maxRecDepth 100000
set_option maxHeartbeats 2000000
namespace Go.Proofs.Ytihfgpfofmjbaaa
open Go Ev
def kp218 (i : Nat) : Option (List Nat) := Ev.look i [(6, [0, 1, 2, 9, 10, 11]), (100000, [1, 9, 10]), (200008, [0]), (400000, [6, 7, 8])]
noncomputable def Gg218 (f : Nat) : Option Ev.Spec := Ev.look f []
noncomputable def G218 (fuel : Nat) : Nat → Option Ev.Spec := Gg218
noncomputable def S_ref12_keeps_0 (fuel : Nat) (v : (List Int) × Int × Int × Int × Int × (List Bool)) (c : ((List Int) × Int × Int × Int × Int × (List Bool)) → Option Ans) (B : (Int × Int × (List Bool) → Option Ans) × (Int × Int × (List Bool) → Option Ans)) : Option Ans := match v, B with
  | (x0, x1, x2, x3, x4, x5), (ret, b) =>
   bif Decidable.decide (x4 < Go.IntKind.i64.wrap ((8 : Int) * x3)) then
      bif Decidable.decide ((0 : Int) ≤ Go.IntKind.i64.wrap (x1 + Go.IntKind.i64.wrap (x4.tdiv (8 : Int))) ∧ Go.IntKind.i64.wrap (x1 + Go.IntKind.i64.wrap (x4.tdiv (8 : Int))) < (↑x0.length : Int)) then
      bif Decidable.decide (x4.tmod (8 : Int) < (0 : Int)) then
        none
       else
        bif Decidable.decide (x4 < x2) then
         bif Decidable.decide ((x5.length + [Decidable.decide (Ev.iand Go.IntKind.u8 (x0.getD (Go.IntKind.i64.wrap (x1 + Go.IntKind.i64.wrap (x4.tdiv (8 : Int)))).toNat (0 : Int)) (Ev.ishr Go.IntKind.u8 (128 : Int) (x4.tmod (8 : Int))) > (0 : Int))].length) * (1 : Nat) ≤ (140737488355328 : Nat) ∧ x5.length + [Decidable.decide (Ev.iand Go.IntKind.u8 (x0.getD (Go.IntKind.i64.wrap (x1 + Go.IntKind.i64.wrap (x4.tdiv (8 : Int)))).toNat (0 : Int)) (Ev.ishr Go.IntKind.u8 (128 : Int) (x4.tmod (8 : Int))) > (0 : Int))].length ≤ (140737488355328 : Nat)) then
         c (x0, x1, x2, x3, Go.IntKind.i64.wrap (x4 + (1 : Int)), x5 ++ [Decidable.decide (Ev.iand Go.IntKind.u8 (x0.getD (Go.IntKind.i64.wrap (x1 + Go.IntKind.i64.wrap (x4.tdiv (8 : Int)))).toNat (0 : Int)) (Ev.ishr Go.IntKind.u8 (128 : Int) (x4.tmod (8 : Int))) > (0 : Int))])
         else none
        else
         bif Decidable.decide (Ev.iand Go.IntKind.u8 (x0.getD (Go.IntKind.i64.wrap (x1 + Go.IntKind.i64.wrap (x4.tdiv (8 : Int)))).toNat (0 : Int)) (Ev.ishr Go.IntKind.u8 (128 : Int) (x4.tmod (8 : Int))) > (0 : Int)) then
          ret ((0 : Int), (3 : Int), [])
         else
          c (x0, x1, x2, x3, Go.IntKind.i64.wrap (x4 + (1 : Int)), x5)
      else none
     else
      b (x1, x3, x5)
noncomputable def L_ref12_keeps_0 (fuel : Nat) (v : (List Int) × Int × Int × Int × Int × (List Bool)) (ret : (Int × Int × (List Bool) → Option Ans)) (b : (Int × Int × (List Bool) → Option Ans)) : Option Ans := iter (S_ref12_keeps_0 fuel) fuel v (ret, b)
noncomputable def J218_0 (fuel : Nat) (i : Nat) : Option Ev.Blk := Ev.look i []
noncomputable def T218_0 (v : (List Int) × Int × Int × Int × Int × (List Bool)) : Ev.St := match v with | (x0, x1, x2, x3, x4, x5) => ⟨[(0, .c (.sl (.int .u8) x0)), (1, .c (.int .i64 x1)), (2, .c (.int .i64 x2)), (9, .c (.int .i64 x3)), (10, .c (.own 0)), (11, .c (.int .i64 x4))], [(0, .vec 4 .bool x5 true)], 1, 0⟩
noncomputable def E218_0 (K : Ev.Ex → Ev.St → Option Ans) : (Int × Int × (List Bool) → Option Ans) × (Int × Int × (List Bool) → Option Ans) := ((fun v => match v with | (x0, x1, x2) => K .ret ⟨[(6, .c (.own 0)), (7, .c (.int .i64 x0)), (8, .c (.int .i64 x1))], [(0, .vec 4 .bool x2 true)], 1, 0⟩), (fun v => match v with | (x0, x1, x2) => K .normal ⟨[(1, .c (.int .i64 x0)), (9, .c (.int .i64 x1)), (10, .c (.own 0))], [(0, .vec 4 .bool x2 true)], 1, 0⟩))
theorem S218_0_ok (fuel : Nat) (R : Ev.St → Option Ans) (K : Ev.Ex → Ev.St → Option Ans) (x0 : (List Int)) (x1 : Int) (x2 : Int) (x3 : Int) (x4 : Int) (x5 : (List Bool)) : evalCode tab (G218 fuel) (J218_0 fuel) kp218 fuel (bodyOf 0 Try.f218) (T218_0 (x0, x1, x2, x3, x4, x5)) (lc kp218 6 0 R K) = S_ref12_keeps_0 fuel (x0, x1, x2, x3, x4, x5) (fun v => R (T218_0 v)) (E218_0 K) := by
  kernel_rfl
noncomputable def B218_0 (fuel : Nat) : Ev.Blk := fun st K => match canonO (kp218 6) st with
  | some s => (match s with
    | ⟨[(q0, .c (.sl (.int .u8) x0)), (q1, .c (.int .i64 x1)), (q2, .c (.int .i64 x2)), (q3, .c (.int .i64 x3)), (q4, .c (.own q5)), (q6, .c (.int .i64 x4))], [(q7, .vec q8 .bool x5 true)], q9, q10⟩ => bif Nat.beq q0 0 && Nat.beq q1 1 && Nat.beq q2 2 && Nat.beq q3 9 && Nat.beq q4 10 && Nat.beq q5 0 && Nat.beq q6 11 && Nat.beq q7 0 && Nat.beq q8 4 && Nat.beq q9 1 && Nat.beq q10 0 then iter (S_ref12_keeps_0 fuel) fuel (x0, x1, x2, x3, x4, x5) (E218_0 K) else none
    | _ => none)
  | none => none
theorem B218_0_ok (fuel : Nat) (st : Ev.St) (K : Ev.Ex → Ev.St → Option Ans) (r : Ans) (h : B218_0 fuel st K = some r) : evalCode tab (G218 fuel) (J218_0 fuel) kp218 fuel (.block 0 (.loop (bodyOf 0 Try.f218))) st K = some r := by
  unfold B218_0 at h
  split at h
  · rename_i s hs
    split at h
    · skip
      obtain ⟨hb, h⟩ := cond_some' h
      simp only [Bool.and_eq_true, Nat.beq_eq, decide_eq_true_eq] at hb
      obtain ⟨⟨⟨⟨⟨⟨⟨⟨⟨⟨rfl, rfl⟩, rfl⟩, rfl⟩, rfl⟩, rfl⟩, rfl⟩, rfl⟩, rfl⟩, rfl⟩, rfl⟩ := hb
      exact blk_loop (S := T218_0) (ks := E218_0) (step := S_ref12_keeps_0 fuel) (v := (_, _, _, _, _, _)) (by kernel_rfl) (by kernel_rfl) (fun R K v => by obtain ⟨x0, x1, x2, x3, x4, x5⟩ := v; exact S218_0_ok fuel R K x0 x1 x2 x3 x4 x5) hs h
    · cases h
  · cases h
noncomputable def J218 (fuel : Nat) (i : Nat) : Option Ev.Blk := Ev.look i [(100000, B218_0 fuel)]
noncomputable def F_ref12_keeps (fuel : Nat) (x0 : (List Int)) (x1 : Int) (x2 : Int) (k0 : (Int × Int × (List Bool)) → Option Ans) : Option Ans :=
  bif Decidable.decide (Go.IntKind.i64.wrap (x1 + Go.IntKind.i64.wrap ((Go.IntKind.i64.wrap (x2 + (7 : Int))).tdiv (8 : Int))) > (↑x0.length : Int)) then
   k0 ((0 : Int), (6 : Int), [])
  else
   (L_ref12_keeps_0 fuel (x0, x1, x2, Go.IntKind.i64.wrap ((Go.IntKind.i64.wrap (x2 + (7 : Int))).tdiv (8 : Int)), (0 : Int), [])
     (fun (ret0_0, ret0_1, ret0_2) =>
       k0 (ret0_0, ret0_1, ret0_2))
     (fun (b0_0, b0_1, b0_2) =>
       k0 (Go.IntKind.i64.wrap (b0_0 + b0_1), (0 : Int), b0_2)))
abbrev YF218 : Type := ((List Int)) → (Int) → (Int) → ((Int × Int × (List Bool)) → Option Ans) → Option Ans
theorem F218_eq (fuel : Nat) (x0 : (List Int)) (x1 : Int) (x2 : Int) (k : Ev.Cont) : evalFn tab (G218 fuel) (J218 fuel) kp218 fuel Try.f218 [.c (.sl (.int .u8) x0), .c (.int .i64 x1), .c (.int .i64 x2)] [] k = F_ref12_keeps fuel x0 x1 x2 (fun r => match r with | (r0, r1, r2) => k (.tup [(false, [.own 0]), (false, [.int .i64 r0]), (false, [.int .i64 r1])], [.vec 4 .bool r2 true])) := by
  kernel_rfl
theorem hG218 (fuel : Nat) : GOK Try.prog (G218 fuel) :=
  gok_nil
theorem B218_0_blk (fuel : Nat) : BlkOK Try.prog Try.f218.ntmps (.block 0 (.loop (bodyOf 0 Try.f218))) (B218_0 fuel) :=
  blk_of (blk_of_code tab_ok (hG218 fuel) mixed (J := J218_0 fuel) (kp := kp218) (fuel := fuel) (by kernel_rfl) (fun q hq => by
    rw [(by kernel_rfl : obl (J218_0 fuel) (.block 0 (.loop (bodyOf 0 Try.f218))) = [])] at hq
    cases hq)) (B218_0_ok fuel)
theorem fok218 (fuel : Nat) : FnOK Try.prog 218 (evalFn tab (G218 fuel) (J218 fuel) kp218 fuel Try.f218) :=
  fn_ok tab_ok (hG218 fuel) mixed Try.func218 (c := (Try.f218.body).getD .skip) rfl (fun q hq => by
    rw [(by kernel_rfl : obl (J218 fuel) ((Try.f218.body).getD .skip) = [(.block 0 (.loop (bodyOf 0 Try.f218)), B218_0 fuel)])] at hq
    simp only [List.mem_cons, List.not_mem_nil, or_false] at hq
    subst hq
    · exact B218_0_blk fuel)
noncomputable def mt218 : List Ev.SV → List Ev.Ob → Bool := fun args objs => match args, objs with
  | [.c (.sl (.int .u8) _), .c (.int .i64 _), .c (.int .i64 _)], [] => true
  | _, _ => false
noncomputable def spg218 (F : YF218) : Ev.Spec := fun args objs k => match args, objs with
  | [.c (.sl (.int .u8) x0), .c (.int .i64 x1), .c (.int .i64 x2)], [] => bif true then F x0 x1 x2 (fun r => match r with | (r0, r1, r2) => k (.tup [(false, [.own 0]), (false, [.int .i64 r0]), (false, [.int .i64 r1])], [.vec 4 .bool r2 true])) else none
  | _, _ => none
noncomputable def spec218 (fuel : Nat) : Ev.Spec := spg218 (F_ref12_keeps fuel)
theorem ok218 (fuel : Nat) : FnOK Try.prog 218 (spec218 fuel) := by
  intro args objs kk r h
  unfold spec218 spg218 at h
  split at h
  · skip
    obtain ⟨hb, h⟩ := cond_some' h
    simp only [Bool.and_eq_true, Nat.beq_eq, decide_eq_true_eq] at hb
    clear hb
    exact fok218 fuel _ _ kk r ((F218_eq fuel _ _ _ kk).trans h)
  · cases h
end Go.Proofs.Ytihfgpfofmjbaaa

set_option linter.unusedVariables false
set_option linter.unusedSimpArgs false
set_option maxRecDepth 100000
set_option maxHeartbeats 2000000
namespace Go.Proofs.Ytihfgpfofmjbaaa
open Go Ev
def kp219 (i : Nat) : Option (List Nat) := Ev.look i [(5, [0, 1, 7, 8]), (100000, []), (400000, [4, 5, 6])]
noncomputable def Gg219 (f : Nat) : Option Ev.Spec := Ev.look f []
noncomputable def G219 (fuel : Nat) : Nat → Option Ev.Spec := Gg219
noncomputable def S_ref01_GetSize_0 (fuel : Nat) (v : (List Int) × Int × Int × Int) (c : ((List Int) × Int × Int × Int) → Option Ans) (B : (Int × Int × Int → Option Ans) × (Unit → Option Ans)) : Option Ans := match v, B with
  | (x0, x1, x2, x3), (ret, b) =>
   bif Decidable.decide (x3 < (5 : Int)) then
      bif Decidable.decide (Go.IntKind.i64.wrap (x1 + x3) ≥ (↑x0.length : Int)) then
       ret ((0 : Int), (0 : Int), (6 : Int))
      else
       bif Decidable.decide ((0 : Int) ≤ Go.IntKind.i64.wrap (x1 + x3) ∧ Go.IntKind.i64.wrap (x1 + x3) < (↑x0.length : Int)) then
       bif Decidable.decide (Go.IntKind.i64.wrap (x0.getD (Go.IntKind.i64.wrap (x1 + x3)).toNat (0 : Int)) < (128 : Int)) then
         bif Decidable.decide (Go.IntKind.i64.wrap (Go.IntKind.i64.wrap ((128 : Int) * x2) + (Go.IntKind.i64.wrap (x0.getD (Go.IntKind.i64.wrap (x1 + x3)).toNat (0 : Int))).tmod (128 : Int)) > (2147483647 : Int)) then
          ret ((0 : Int), (0 : Int), (3 : Int))
         else
          bif Decidable.decide (x3 > (0 : Int)) then
           bif Decidable.decide ((0 : Int) ≤ x1 ∧ x1 < (↑x0.length : Int)) then
           bif x0.getD x1.toNat (0 : Int) == (128 : Int) then
             ret ((0 : Int), (0 : Int), (3 : Int))
            else
             ret (Go.IntKind.i64.wrap (Go.IntKind.i64.wrap ((128 : Int) * x2) + (Go.IntKind.i64.wrap (x0.getD (Go.IntKind.i64.wrap (x1 + x3)).toNat (0 : Int))).tmod (128 : Int)), Go.IntKind.i64.wrap (Go.IntKind.i64.wrap (x1 + x3) + (1 : Int)), (0 : Int))
           else none
          else
           ret (Go.IntKind.i64.wrap (Go.IntKind.i64.wrap ((128 : Int) * x2) + (Go.IntKind.i64.wrap (x0.getD (Go.IntKind.i64.wrap (x1 + x3)).toNat (0 : Int))).tmod (128 : Int)), Go.IntKind.i64.wrap (Go.IntKind.i64.wrap (x1 + x3) + (1 : Int)), (0 : Int))
        else
         c (x0, x1, Go.IntKind.i64.wrap (Go.IntKind.i64.wrap ((128 : Int) * x2) + (Go.IntKind.i64.wrap (x0.getD (Go.IntKind.i64.wrap (x1 + x3)).toNat (0 : Int))).tmod (128 : Int)), Go.IntKind.i64.wrap (x3 + (1 : Int)))
       else none
     else
      b ()
noncomputable def L_ref01_GetSize_0 (fuel : Nat) (v : (List Int) × Int × Int × Int) (ret : (Int × Int × Int → Option Ans)) (b : (Unit → Option Ans)) : Option Ans := iter (S_ref01_GetSize_0 fuel) fuel v (ret, b)
noncomputable def J219_0 (fuel : Nat) (i : Nat) : Option Ev.Blk := Ev.look i []
noncomputable def T219_0 (v : (List Int) × Int × Int × Int) : Ev.St := match v with | (x0, x1, x2, x3) => ⟨[(0, .c (.sl (.int .u8) x0)), (1, .c (.int .i64 x1)), (7, .c (.int .i64 x2)), (8, .c (.int .i64 x3))], [], 0, 0⟩
noncomputable def E219_0 (K : Ev.Ex → Ev.St → Option Ans) : (Int × Int × Int → Option Ans) × (Unit → Option Ans) := ((fun v => match v with | (x0, x1, x2) => K .ret ⟨[(4, .c (.int .i64 x0)), (5, .c (.int .i64 x1)), (6, .c (.int .i64 x2))], [], 0, 0⟩), (fun v => match v with | () => K .normal ⟨[], [], 0, 0⟩))
theorem S219_0_ok (fuel : Nat) (R : Ev.St → Option Ans) (K : Ev.Ex → Ev.St → Option Ans) (x0 : (List Int)) (x1 : Int) (x2 : Int) (x3 : Int) : evalCode tab (G219 fuel) (J219_0 fuel) kp219 fuel (bodyOf 0 Try.f219) (T219_0 (x0, x1, x2, x3)) (lc kp219 5 0 R K) = S_ref01_GetSize_0 fuel (x0, x1, x2, x3) (fun v => R (T219_0 v)) (E219_0 K) := by
  kernel_rfl
noncomputable def B219_0 (fuel : Nat) : Ev.Blk := fun st K => match canonO (kp219 5) st with
  | some s => (match s with
    | ⟨[(q0, .c (.sl (.int .u8) x0)), (q1, .c (.int .i64 x1)), (q2, .c (.int .i64 x2)), (q3, .c (.int .i64 x3))], [], q4, q5⟩ => bif Nat.beq q0 0 && Nat.beq q1 1 && Nat.beq q2 7 && Nat.beq q3 8 && Nat.beq q4 0 && Nat.beq q5 0 then iter (S_ref01_GetSize_0 fuel) fuel (x0, x1, x2, x3) (E219_0 K) else none
    | _ => none)
  | none => none
theorem B219_0_ok (fuel : Nat) (st : Ev.St) (K : Ev.Ex → Ev.St → Option Ans) (r : Ans) (h : B219_0 fuel st K = some r) : evalCode tab (G219 fuel) (J219_0 fuel) kp219 fuel (.block 0 (.loop (bodyOf 0 Try.f219))) st K = some r := by
  unfold B219_0 at h
  split at h
  · rename_i s hs
    split at h
    · skip
      obtain ⟨hb, h⟩ := cond_some' h
      simp only [Bool.and_eq_true, Nat.beq_eq, decide_eq_true_eq] at hb
      obtain ⟨⟨⟨⟨⟨rfl, rfl⟩, rfl⟩, rfl⟩, rfl⟩, rfl⟩ := hb
      exact blk_loop (S := T219_0) (ks := E219_0) (step := S_ref01_GetSize_0 fuel) (v := (_, _, _, _)) (by kernel_rfl) (by kernel_rfl) (fun R K v => by obtain ⟨x0, x1, x2, x3⟩ := v; exact S219_0_ok fuel R K x0 x1 x2 x3) hs h
    · cases h
  · cases h
noncomputable def J219 (fuel : Nat) (i : Nat) : Option Ev.Blk := Ev.look i [(100000, B219_0 fuel)]
noncomputable def F_ref01_GetSize (fuel : Nat) (x0 : (List Int)) (x1 : Int) (k0 : (Int × Int × Int) → Option Ans) : Option Ans :=
  bif Decidable.decide (x1 < (0 : Int)) then
   k0 ((0 : Int), (0 : Int), (2 : Int))
  else
   bif Decidable.decide (x1 > (↑x0.length : Int)) then
    k0 ((0 : Int), (0 : Int), (2 : Int))
   else
    (L_ref01_GetSize_0 fuel (x0, x1, (0 : Int), (0 : Int))
      (fun (ret0_0, ret0_1, ret0_2) =>
        k0 (ret0_0, ret0_1, ret0_2))
      (fun () =>
        k0 ((0 : Int), (0 : Int), (3 : Int))))
abbrev YF219 : Type := ((List Int)) → (Int) → ((Int × Int × Int) → Option Ans) → Option Ans
theorem F219_eq (fuel : Nat) (x0 : (List Int)) (x1 : Int) (k : Ev.Cont) : evalFn tab (G219 fuel) (J219 fuel) kp219 fuel Try.f219 [.c (.sl (.int .u8) x0), .c (.int .i64 x1)] [] k = F_ref01_GetSize fuel x0 x1 (fun r => match r with | (r0, r1, r2) => k (.tup [(false, [.int .i64 r0]), (false, [.int .i64 r1]), (false, [.int .i64 r2])], [])) := by
  kernel_rfl
theorem hG219 (fuel : Nat) : GOK Try.prog (G219 fuel) :=
  gok_nil
theorem B219_0_blk (fuel : Nat) : BlkOK Try.prog Try.f219.ntmps (.block 0 (.loop (bodyOf 0 Try.f219))) (B219_0 fuel) :=
  blk_of (blk_of_code tab_ok (hG219 fuel) mixed (J := J219_0 fuel) (kp := kp219) (fuel := fuel) (by kernel_rfl) (fun q hq => by
    rw [(by kernel_rfl : obl (J219_0 fuel) (.block 0 (.loop (bodyOf 0 Try.f219))) = [])] at hq
    cases hq)) (B219_0_ok fuel)
theorem fok219 (fuel : Nat) : FnOK Try.prog 219 (evalFn tab (G219 fuel) (J219 fuel) kp219 fuel Try.f219) :=
  fn_ok tab_ok (hG219 fuel) mixed Try.func219 (c := (Try.f219.body).getD .skip) rfl (fun q hq => by
    rw [(by kernel_rfl : obl (J219 fuel) ((Try.f219.body).getD .skip) = [(.block 0 (.loop (bodyOf 0 Try.f219)), B219_0 fuel)])] at hq
    simp only [List.mem_cons, List.not_mem_nil, or_false] at hq
    subst hq
    · exact B219_0_blk fuel)
noncomputable def mt219 : List Ev.SV → List Ev.Ob → Bool := fun args objs => match args, objs with
  | [.c (.sl (.int .u8) _), .c (.int .i64 _)], [] => true
  | _, _ => false
noncomputable def spg219 (F : YF219) : Ev.Spec := fun args objs k => match args, objs with
  | [.c (.sl (.int .u8) x0), .c (.int .i64 x1)], [] => bif true then F x0 x1 (fun r => match r with | (r0, r1, r2) => k (.tup [(false, [.int .i64 r0]), (false, [.int .i64 r1]), (false, [.int .i64 r2])], [])) else none
  | _, _ => none
noncomputable def spec219 (fuel : Nat) : Ev.Spec := spg219 (F_ref01_GetSize fuel)
theorem ok219 (fuel : Nat) : FnOK Try.prog 219 (spec219 fuel) := by
  intro args objs kk r h
  unfold spec219 spg219 at h
  split at h
  · skip
    obtain ⟨hb, h⟩ := cond_some' h
    simp only [Bool.and_eq_true, Nat.beq_eq, decide_eq_true_eq] at hb
    clear hb
    exact fok219 fuel _ _ kk r ((F219_eq fuel _ _ kk).trans h)
  · cases h
end Go.Proofs.Ytihfgpfofmjbaaa

set_option linter.unusedVariables false
set_option linter.unusedSimpArgs false
set_option maxRecDepth 100000
set_option maxHeartbeats 2000000
namespace Go.Proofs.Ytihfgpfofmjbaaa
open Go Ev
def kp216 (i : Nat) : Option (List Nat) := Ev.look i []
noncomputable def Gg216 (f219 : YF219) (f : Nat) : Option Ev.Spec := Ev.look f [(219, spg219 f219)]
noncomputable def G216 (fuel : Nat) : Nat → Option Ev.Spec := Gg216 (F_ref01_GetSize fuel)
noncomputable def J216 (fuel : Nat) (i : Nat) : Option Ev.Blk := Ev.look i []
noncomputable def F_ref12_number (fuel : Nat) (x0 : (List Int)) (x1 : Int) (x2 : Int) (k0 : (Int × Int × Int) → Option Ans) : Option Ans :=
  (F_ref01_GetSize fuel (x0) (x1)
    (fun (y2_0, y2_1, y2_2) =>
      bif y2_2 == (0 : Int) then
       bif Decidable.decide (y2_0 > x2) then
        k0 (y2_0, y2_1, (3 : Int))
       else
        k0 (y2_0, y2_1, y2_2)
      else
       k0 (y2_0, y2_1, y2_2)))
abbrev YF216 : Type := ((List Int)) → (Int) → (Int) → ((Int × Int × Int) → Option Ans) → Option Ans
theorem F216_eqg (fuel : Nat) (f219 : YF219) (x0 : (List Int)) (x1 : Int) (x2 : Int) (k : Ev.Cont) : evalFn tab (Gg216 f219) (J216 fuel) kp216 fuel Try.f216 [.c (.sl (.int .u8) x0), .c (.int .i64 x1), .c (.int .i64 x2)] [] k = (fun  (k0 : (Int × Int × Int) → Option Ans) =>
  (f219 (x0) (x1)
    (fun (y2_0, y2_1, y2_2) =>
      bif y2_2 == (0 : Int) then
       bif Decidable.decide (y2_0 > x2) then
        k0 (y2_0, y2_1, (3 : Int))
       else
        k0 (y2_0, y2_1, y2_2)
      else
       k0 (y2_0, y2_1, y2_2)))) (fun r => match r with | (r0, r1, r2) => k (.tup [(false, [.int .i64 r0]), (false, [.int .i64 r1]), (false, [.int .i64 r2])], [])) := by
  kernel_rfl
theorem F216_eq (fuel : Nat) (x0 : (List Int)) (x1 : Int) (x2 : Int) (k : Ev.Cont) : evalFn tab (G216 fuel) (J216 fuel) kp216 fuel Try.f216 [.c (.sl (.int .u8) x0), .c (.int .i64 x1), .c (.int .i64 x2)] [] k = F_ref12_number fuel x0 x1 x2 (fun r => match r with | (r0, r1, r2) => k (.tup [(false, [.int .i64 r0]), (false, [.int .i64 r1]), (false, [.int .i64 r2])], [])) :=
  F216_eqg fuel (F_ref01_GetSize fuel) x0 x1 x2 k
theorem hG216 (fuel : Nat) : GOK Try.prog (G216 fuel) :=
  gok_cons ⟨ok219 fuel, enters_of Try.func219 (by kernel_rfl) rfl⟩ <|
  gok_nil
theorem fok216 (fuel : Nat) : FnOK Try.prog 216 (evalFn tab (G216 fuel) (J216 fuel) kp216 fuel Try.f216) :=
  fn_ok tab_ok (hG216 fuel) mixed Try.func216 (c := (Try.f216.body).getD .skip) rfl (fun q hq => by
    rw [(by kernel_rfl : obl (J216 fuel) ((Try.f216.body).getD .skip) = [])] at hq
    cases hq)
noncomputable def mt216 : List Ev.SV → List Ev.Ob → Bool := fun args objs => match args, objs with
  | [.c (.sl (.int .u8) _), .c (.int .i64 _), .c (.int .i64 _)], [] => true
  | _, _ => false
noncomputable def spg216 (F : YF216) : Ev.Spec := fun args objs k => match args, objs with
  | [.c (.sl (.int .u8) x0), .c (.int .i64 x1), .c (.int .i64 x2)], [] => bif true then F x0 x1 x2 (fun r => match r with | (r0, r1, r2) => k (.tup [(false, [.int .i64 r0]), (false, [.int .i64 r1]), (false, [.int .i64 r2])], [])) else none
  | _, _ => none
noncomputable def spec216 (fuel : Nat) : Ev.Spec := spg216 (F_ref12_number fuel)
theorem ok216 (fuel : Nat) : FnOK Try.prog 216 (spec216 fuel) := by
  intro args objs kk r h
  unfold spec216 spg216 at h
  split at h
  · skip
    obtain ⟨hb, h⟩ := cond_some' h
    simp only [Bool.and_eq_true, Nat.beq_eq, decide_eq_true_eq] at hb
    clear hb
    exact fok216 fuel _ _ kk r ((F216_eq fuel _ _ _ kk).trans h)
  · cases h
end Go.Proofs.Ytihfgpfofmjbaaa

set_option linter.unusedVariables false
set_option linter.unusedSimpArgs false
set_option maxRecDepth 100000
set_option maxHeartbeats 2000000
namespace Go.Proofs.Ytihfgpfofmjbaaa
open Go Ev
def kp217 (i : Nat) : Option (List Nat) := Ev.look i [(9, [0, 1, 2, 9, 11, 12, 13]), (100000, [1, 11]), (400000, [6, 7, 8])]
noncomputable def Gg217 (f216 : YF216) (f : Nat) : Option Ev.Spec := Ev.look f [(216, spg216 f216)]
noncomputable def G217 (fuel : Nat) : Nat → Option Ev.Spec := Gg217 (F_ref12_number fuel)
noncomputable def S_ref12_refs_0 (fuel : Nat) (v : (List Int) × Int × Int × Int × Int × Int × (List Int)) (c : ((List Int) × Int × Int × Int × Int × Int × (List Int)) → Option Ans) (B : (Int × Int × (List Int) → Option Ans) × (Int × (List Int) → Option Ans)) : Option Ans := match v, B with
  | (x0, x1, x2, x3, x4, x5, x6), (ret, b) =>
   bif Decidable.decide (x5 < x3) then
      (F_ref12_number fuel (x0) (x1) (x2)
        (fun (y3_0, y3_1, y3_2) =>
          bif y3_2 != (0 : Int) then
           ret ((0 : Int), y3_2, [])
          else
           bif y3_0 == (0 : Int) then
            ret ((0 : Int), (3 : Int), [])
           else
            bif Decidable.decide (y3_0 ≥ x4) then
             ret ((0 : Int), (3 : Int), [])
            else
             bif Decidable.decide ((x6.length + [Go.IntKind.i64.wrap (x2 - y3_0)].length) * (8 : Nat) ≤ (140737488355328 : Nat) ∧ x6.length + [Go.IntKind.i64.wrap (x2 - y3_0)].length ≤ (140737488355328 : Nat)) then
             c (x0, y3_1, x2, x3, y3_0, Go.IntKind.i64.wrap (x5 + (1 : Int)), x6 ++ [Go.IntKind.i64.wrap (x2 - y3_0)])
             else none))
     else
      b (x1, x6)
noncomputable def L_ref12_refs_0 (fuel : Nat) (v : (List Int) × Int × Int × Int × Int × Int × (List Int)) (ret : (Int × Int × (List Int) → Option Ans)) (b : (Int × (List Int) → Option Ans)) : Option Ans := iter (S_ref12_refs_0 fuel) fuel v (ret, b)
noncomputable def J217_0 (fuel : Nat) (i : Nat) : Option Ev.Blk := Ev.look i []
noncomputable def T217_0 (v : (List Int) × Int × Int × Int × Int × Int × (List Int)) : Ev.St := match v with | (x0, x1, x2, x3, x4, x5, x6) => ⟨[(0, .c (.sl (.int .u8) x0)), (1, .c (.int .i64 x1)), (2, .c (.int .i64 x2)), (9, .c (.int .i64 x3)), (11, .c (.own 0)), (12, .c (.int .i64 x4)), (13, .c (.int .i64 x5))], [(0, .vec 3 (.int .i64) x6 true)], 1, 0⟩
noncomputable def E217_0 (K : Ev.Ex → Ev.St → Option Ans) : (Int × Int × (List Int) → Option Ans) × (Int × (List Int) → Option Ans) := ((fun v => match v with | (x0, x1, x2) => K .ret ⟨[(6, .c (.own 0)), (7, .c (.int .i64 x0)), (8, .c (.int .i64 x1))], [(0, .vec 3 (.int .i64) x2 true)], 1, 0⟩), (fun v => match v with | (x0, x1) => K .normal ⟨[(1, .c (.int .i64 x0)), (11, .c (.own 0))], [(0, .vec 3 (.int .i64) x1 true)], 1, 0⟩))
theorem S217_0_okg (fuel : Nat) (f216 : YF216) (R : Ev.St → Option Ans) (K : Ev.Ex → Ev.St → Option Ans) (x0 : (List Int)) (x1 : Int) (x2 : Int) (x3 : Int) (x4 : Int) (x5 : Int) (x6 : (List Int)) : evalCode tab (Gg217 f216) (J217_0 fuel) kp217 fuel (bodyOf 0 Try.f217) (T217_0 (x0, x1, x2, x3, x4, x5, x6)) (lc kp217 9 0 R K) = (fun (c : ((List Int) × Int × Int × Int × Int × Int × (List Int)) → Option Ans) (B : (Int × Int × (List Int) → Option Ans) × (Int × (List Int) → Option Ans)) => match B with
  | (ret, b) =>
   bif Decidable.decide (x5 < x3) then
      (f216 (x0) (x1) (x2)
        (fun (y3_0, y3_1, y3_2) =>
          bif y3_2 != (0 : Int) then
           ret ((0 : Int), y3_2, [])
          else
           bif y3_0 == (0 : Int) then
            ret ((0 : Int), (3 : Int), [])
           else
            bif Decidable.decide (y3_0 ≥ x4) then
             ret ((0 : Int), (3 : Int), [])
            else
             bif Decidable.decide ((x6.length + [Go.IntKind.i64.wrap (x2 - y3_0)].length) * (8 : Nat) ≤ (140737488355328 : Nat) ∧ x6.length + [Go.IntKind.i64.wrap (x2 - y3_0)].length ≤ (140737488355328 : Nat)) then
             c (x0, y3_1, x2, x3, y3_0, Go.IntKind.i64.wrap (x5 + (1 : Int)), x6 ++ [Go.IntKind.i64.wrap (x2 - y3_0)])
             else none))
     else
      b (x1, x6)) (fun v => R (T217_0 v)) (E217_0 K) := by
  kernel_rfl
theorem S217_0_ok (fuel : Nat) (R : Ev.St → Option Ans) (K : Ev.Ex → Ev.St → Option Ans) (x0 : (List Int)) (x1 : Int) (x2 : Int) (x3 : Int) (x4 : Int) (x5 : Int) (x6 : (List Int)) : evalCode tab (G217 fuel) (J217_0 fuel) kp217 fuel (bodyOf 0 Try.f217) (T217_0 (x0, x1, x2, x3, x4, x5, x6)) (lc kp217 9 0 R K) = S_ref12_refs_0 fuel (x0, x1, x2, x3, x4, x5, x6) (fun v => R (T217_0 v)) (E217_0 K) :=
  S217_0_okg fuel (F_ref12_number fuel) R K x0 x1 x2 x3 x4 x5 x6
noncomputable def B217_0 (fuel : Nat) : Ev.Blk := fun st K => match canonO (kp217 9) st with
  | some s => (match s with
    | ⟨[(q0, .c (.sl (.int .u8) x0)), (q1, .c (.int .i64 x1)), (q2, .c (.int .i64 x2)), (q3, .c (.int .i64 x3)), (q4, .c (.own q5)), (q6, .c (.int .i64 x4)), (q7, .c (.int .i64 x5))], [(q8, .vec q9 (.int .i64) x6 true)], q10, q11⟩ => bif Nat.beq q0 0 && Nat.beq q1 1 && Nat.beq q2 2 && Nat.beq q3 9 && Nat.beq q4 11 && Nat.beq q5 0 && Nat.beq q6 12 && Nat.beq q7 13 && Nat.beq q8 0 && Nat.beq q9 3 && Nat.beq q10 1 && Nat.beq q11 0 then iter (S_ref12_refs_0 fuel) fuel (x0, x1, x2, x3, x4, x5, x6) (E217_0 K) else none
    | _ => none)
  | none => none
theorem B217_0_ok (fuel : Nat) (st : Ev.St) (K : Ev.Ex → Ev.St → Option Ans) (r : Ans) (h : B217_0 fuel st K = some r) : evalCode tab (G217 fuel) (J217_0 fuel) kp217 fuel (.block 0 (.loop (bodyOf 0 Try.f217))) st K = some r := by
  unfold B217_0 at h
  split at h
  · rename_i s hs
    split at h
    · skip
      obtain ⟨hb, h⟩ := cond_some' h
      simp only [Bool.and_eq_true, Nat.beq_eq, decide_eq_true_eq] at hb
      obtain ⟨⟨⟨⟨⟨⟨⟨⟨⟨⟨⟨rfl, rfl⟩, rfl⟩, rfl⟩, rfl⟩, rfl⟩, rfl⟩, rfl⟩, rfl⟩, rfl⟩, rfl⟩, rfl⟩ := hb
      exact blk_loop (S := T217_0) (ks := E217_0) (step := S_ref12_refs_0 fuel) (v := (_, _, _, _, _, _, _)) (by kernel_rfl) (by kernel_rfl) (fun R K v => by obtain ⟨x0, x1, x2, x3, x4, x5, x6⟩ := v; exact S217_0_ok fuel R K x0 x1 x2 x3 x4 x5 x6) hs h
    · cases h
  · cases h
noncomputable def J217 (fuel : Nat) (i : Nat) : Option Ev.Blk := Ev.look i [(100000, B217_0 fuel)]
noncomputable def F_ref12_refs (fuel : Nat) (x0 : (List Int)) (x1 : Int) (x2 : Int) (k0 : (Int × Int × (List Int)) → Option Ans) : Option Ans :=
  (F_ref12_number fuel (x0) (x1) ((20 : Int))
    (fun (y2_0, y2_1, y2_2) =>
      bif y2_2 != (0 : Int) then
       k0 ((0 : Int), y2_2, [])
      else
       bif y2_0 == (0 : Int) then
        k0 ((0 : Int), (3 : Int), [])
       else
        (L_ref12_refs_0 fuel (x0, y2_1, x2, y2_0, Go.IntKind.i64.wrap (x2 + (1 : Int)), (0 : Int), [])
          (fun (ret0_0, ret0_1, ret0_2) =>
            k0 (ret0_0, ret0_1, ret0_2))
          (fun (b0_0, b0_1) =>
            k0 (b0_0, (0 : Int), b0_1)))))
abbrev YF217 : Type := ((List Int)) → (Int) → (Int) → ((Int × Int × (List Int)) → Option Ans) → Option Ans
theorem F217_eqg (fuel : Nat) (f216 : YF216) (x0 : (List Int)) (x1 : Int) (x2 : Int) (k : Ev.Cont) : evalFn tab (Gg217 f216) (J217 fuel) kp217 fuel Try.f217 [.c (.sl (.int .u8) x0), .c (.int .i64 x1), .c (.int .i64 x2)] [] k = (fun  (k0 : (Int × Int × (List Int)) → Option Ans) =>
  (f216 (x0) (x1) ((20 : Int))
    (fun (y2_0, y2_1, y2_2) =>
      bif y2_2 != (0 : Int) then
       k0 ((0 : Int), y2_2, [])
      else
       bif y2_0 == (0 : Int) then
        k0 ((0 : Int), (3 : Int), [])
       else
        (L_ref12_refs_0 fuel (x0, y2_1, x2, y2_0, Go.IntKind.i64.wrap (x2 + (1 : Int)), (0 : Int), [])
          (fun (ret0_0, ret0_1, ret0_2) =>
            k0 (ret0_0, ret0_1, ret0_2))
          (fun (b0_0, b0_1) =>
            k0 (b0_0, (0 : Int), b0_1)))))) (fun r => match r with | (r0, r1, r2) => k (.tup [(false, [.own 0]), (false, [.int .i64 r0]), (false, [.int .i64 r1])], [.vec 3 (.int .i64) r2 true])) := by
  kernel_rfl
theorem F217_eq (fuel : Nat) (x0 : (List Int)) (x1 : Int) (x2 : Int) (k : Ev.Cont) : evalFn tab (G217 fuel) (J217 fuel) kp217 fuel Try.f217 [.c (.sl (.int .u8) x0), .c (.int .i64 x1), .c (.int .i64 x2)] [] k = F_ref12_refs fuel x0 x1 x2 (fun r => match r with | (r0, r1, r2) => k (.tup [(false, [.own 0]), (false, [.int .i64 r0]), (false, [.int .i64 r1])], [.vec 3 (.int .i64) r2 true])) :=
  F217_eqg fuel (F_ref12_number fuel) x0 x1 x2 k
theorem hG217 (fuel : Nat) : GOK Try.prog (G217 fuel) :=
  gok_cons ⟨ok216 fuel, enters_of Try.func216 (by kernel_rfl) rfl⟩ <|
  gok_nil
theorem B217_0_blk (fuel : Nat) : BlkOK Try.prog Try.f217.ntmps (.block 0 (.loop (bodyOf 0 Try.f217))) (B217_0 fuel) :=
  blk_of (blk_of_code tab_ok (hG217 fuel) mixed (J := J217_0 fuel) (kp := kp217) (fuel := fuel) (by kernel_rfl) (fun q hq => by
    rw [(by kernel_rfl : obl (J217_0 fuel) (.block 0 (.loop (bodyOf 0 Try.f217))) = [])] at hq
    cases hq)) (B217_0_ok fuel)
theorem fok217 (fuel : Nat) : FnOK Try.prog 217 (evalFn tab (G217 fuel) (J217 fuel) kp217 fuel Try.f217) :=
  fn_ok tab_ok (hG217 fuel) mixed Try.func217 (c := (Try.f217.body).getD .skip) rfl (fun q hq => by
    rw [(by kernel_rfl : obl (J217 fuel) ((Try.f217.body).getD .skip) = [(.block 0 (.loop (bodyOf 0 Try.f217)), B217_0 fuel)])] at hq
    simp only [List.mem_cons, List.not_mem_nil, or_false] at hq
    subst hq
    · exact B217_0_blk fuel)
noncomputable def mt217 : List Ev.SV → List Ev.Ob → Bool := fun args objs => match args, objs with
  | [.c (.sl (.int .u8) _), .c (.int .i64 _), .c (.int .i64 _)], [] => true
  | _, _ => false
noncomputable def spg217 (F : YF217) : Ev.Spec := fun args objs k => match args, objs with
  | [.c (.sl (.int .u8) x0), .c (.int .i64 x1), .c (.int .i64 x2)], [] => bif true then F x0 x1 x2 (fun r => match r with | (r0, r1, r2) => k (.tup [(false, [.own 0]), (false, [.int .i64 r0]), (false, [.int .i64 r1])], [.vec 3 (.int .i64) r2 true])) else none
  | _, _ => none
noncomputable def spec217 (fuel : Nat) : Ev.Spec := spg217 (F_ref12_refs fuel)
theorem ok217 (fuel : Nat) : FnOK Try.prog 217 (spec217 fuel) := by
  intro args objs kk r h
  unfold spec217 spg217 at h
  split at h
  · skip
    obtain ⟨hb, h⟩ := cond_some' h
    simp only [Bool.and_eq_true, Nat.beq_eq, decide_eq_true_eq] at hb
    clear hb
    exact fok217 fuel _ _ kk r ((F217_eq fuel _ _ _ kk).trans h)
  · cases h
end Go.Proofs.Ytihfgpfofmjbaaa

set_option linter.unusedVariables false
set_option linter.unusedSimpArgs false
set_option maxRecDepth 100000
set_option maxHeartbeats 2000000
namespace Go.Proofs.Ytihfgpfofmjbaaa
open Go Ev
def kp214 (i : Nat) : Option (List Nat) := Ev.look i []
noncomputable def Gg214 (f216 : YF216) (f217 : YF217) (f218 : YF218) (f : Nat) : Option Ev.Spec := Ev.look f [(216, spg216 f216), (217, spg217 f217), (218, spg218 f218)]
noncomputable def G214 (fuel : Nat) : Nat → Option Ev.Spec := Gg214 (F_ref12_number fuel) (F_ref12_refs fuel) (F_ref12_keeps fuel)
noncomputable def J214 (fuel : Nat) (i : Nat) : Option Ev.Blk := Ev.look i []
noncomputable def F_ref12_header (fuel : Nat) (x0 : (List Int)) (x1 : Int) (k0 : (Int × Int × Int × Int × Int × Int × (List Int) × (List Bool) × (List Int)) → Option Ans) : Option Ans :=
  (F_ref12_number fuel (x0) (x1) ((10000 : Int))
    (fun (y2_0, y2_1, y2_2) =>
      bif y2_2 != (0 : Int) then
       k0 (y2_0, (0 : Int), (0 : Int), (0 : Int), (0 : Int), y2_2, [], [], [])
      else
       bif Decidable.decide (y2_1 ≥ (↑x0.length : Int)) then
        k0 (y2_0, (0 : Int), (0 : Int), (0 : Int), (0 : Int), (6 : Int), [], [], [])
       else
        bif Decidable.decide ((0 : Int) ≤ y2_1 ∧ y2_1 < (↑x0.length : Int)) then
        bif Decidable.decide (Go.IntKind.i64.wrap (x0.getD y2_1.toNat (0 : Int)) > (31 : Int)) then
          k0 (y2_0, (0 : Int), (0 : Int), (0 : Int), (0 : Int), (3 : Int), [], [], [])
         else
          bif Decidable.decide (Go.IntKind.i64.wrap (x0.getD y2_1.toNat (0 : Int)) ≥ (16 : Int)) then
           (F_ref12_refs fuel (x0) (Go.IntKind.i64.wrap (y2_1 + (1 : Int))) (y2_0)
             (fun (y11_0, y11_1, y11_2) =>
               bif y11_1 != (0 : Int) then
                k0 (y2_0, (Go.IntKind.i64.wrap (x0.getD y2_1.toNat (0 : Int))).tmod (16 : Int), (0 : Int), (0 : Int), (0 : Int), y11_1, y11_2, [], [])
               else
                (F_ref12_keeps fuel (x0) (y11_0) (Go.IntKind.i64.wrap ((↑y11_2.length : Int) + (1 : Int)))
                  (fun (y16_0, y16_1, y16_2) =>
                    bif y16_1 != (0 : Int) then
                     k0 (y2_0, (Go.IntKind.i64.wrap (x0.getD y2_1.toNat (0 : Int))).tmod (16 : Int), (0 : Int), (0 : Int), (0 : Int), y16_1, y11_2, y16_2, [])
                    else
                     (F_ref12_number fuel (x0) (y16_0) ((1000 : Int))
                       (fun (y21_0, y21_1, y21_2) =>
                         bif y21_2 != (0 : Int) then
                          k0 (y2_0, (Go.IntKind.i64.wrap (x0.getD y2_1.toNat (0 : Int))).tmod (16 : Int), y21_0, (0 : Int), (0 : Int), y21_2, y11_2, y16_2, [])
                         else
                          (F_ref12_number fuel (x0) (y21_1) ((20000 : Int))
                            (fun (y26_0, y26_1, y26_2) =>
                              k0 (y2_0, (Go.IntKind.i64.wrap (x0.getD y2_1.toNat (0 : Int))).tmod (16 : Int), y21_0, y26_0, y26_1, y26_2, y11_2, y16_2, [])))))))))
          else
           (F_ref12_keeps fuel (x0) (Go.IntKind.i64.wrap (y2_1 + (1 : Int))) (Go.IntKind.i64.wrap ((↑(0 : Nat) : Int) + (1 : Int)))
             (fun (y11_0, y11_1, y11_2) =>
               bif y11_1 != (0 : Int) then
                k0 (y2_0, (Go.IntKind.i64.wrap (x0.getD y2_1.toNat (0 : Int))).tmod (16 : Int), (0 : Int), (0 : Int), (0 : Int), y11_1, [], y11_2, [])
               else
                (F_ref12_number fuel (x0) (y11_0) ((1000 : Int))
                  (fun (y16_0, y16_1, y16_2) =>
                    bif y16_2 != (0 : Int) then
                     k0 (y2_0, (Go.IntKind.i64.wrap (x0.getD y2_1.toNat (0 : Int))).tmod (16 : Int), y16_0, (0 : Int), (0 : Int), y16_2, [], y11_2, [])
                    else
                     (F_ref12_number fuel (x0) (y16_1) ((20000 : Int))
                       (fun (y21_0, y21_1, y21_2) =>
                         k0 (y2_0, (Go.IntKind.i64.wrap (x0.getD y2_1.toNat (0 : Int))).tmod (16 : Int), y16_0, y21_0, y21_1, y21_2, [], y11_2, [])))))))
        else none))
abbrev YF214 : Type := ((List Int)) → (Int) → ((Int × Int × Int × Int × Int × Int × (List Int) × (List Bool) × (List Int)) → Option Ans) → Option Ans
theorem F214_eqg (fuel : Nat) (f216 : YF216) (f217 : YF217) (f218 : YF218) (x0 : (List Int)) (x1 : Int) (k : Ev.Cont) : evalFn tab (Gg214 f216 f217 f218) (J214 fuel) kp214 fuel Try.f214 [.c (.sl (.int .u8) x0), .c (.int .i64 x1)] [] k = (fun  (k0 : (Int × Int × Int × Int × Int × Int × (List Int) × (List Bool) × (List Int)) → Option Ans) =>
  (f216 (x0) (x1) ((10000 : Int))
    (fun (y2_0, y2_1, y2_2) =>
      bif y2_2 != (0 : Int) then
       k0 (y2_0, (0 : Int), (0 : Int), (0 : Int), (0 : Int), y2_2, [], [], [])
      else
       bif Decidable.decide (y2_1 ≥ (↑x0.length : Int)) then
        k0 (y2_0, (0 : Int), (0 : Int), (0 : Int), (0 : Int), (6 : Int), [], [], [])
       else
        bif Decidable.decide ((0 : Int) ≤ y2_1 ∧ y2_1 < (↑x0.length : Int)) then
        bif Decidable.decide (Go.IntKind.i64.wrap (x0.getD y2_1.toNat (0 : Int)) > (31 : Int)) then
          k0 (y2_0, (0 : Int), (0 : Int), (0 : Int), (0 : Int), (3 : Int), [], [], [])
         else
          bif Decidable.decide (Go.IntKind.i64.wrap (x0.getD y2_1.toNat (0 : Int)) ≥ (16 : Int)) then
           (f217 (x0) (Go.IntKind.i64.wrap (y2_1 + (1 : Int))) (y2_0)
             (fun (y11_0, y11_1, y11_2) =>
               bif y11_1 != (0 : Int) then
                k0 (y2_0, (Go.IntKind.i64.wrap (x0.getD y2_1.toNat (0 : Int))).tmod (16 : Int), (0 : Int), (0 : Int), (0 : Int), y11_1, y11_2, [], [])
               else
                (f218 (x0) (y11_0) (Go.IntKind.i64.wrap ((↑y11_2.length : Int) + (1 : Int)))
                  (fun (y16_0, y16_1, y16_2) =>
                    bif y16_1 != (0 : Int) then
                     k0 (y2_0, (Go.IntKind.i64.wrap (x0.getD y2_1.toNat (0 : Int))).tmod (16 : Int), (0 : Int), (0 : Int), (0 : Int), y16_1, y11_2, y16_2, [])
                    else
                     (f216 (x0) (y16_0) ((1000 : Int))
                       (fun (y21_0, y21_1, y21_2) =>
                         bif y21_2 != (0 : Int) then
                          k0 (y2_0, (Go.IntKind.i64.wrap (x0.getD y2_1.toNat (0 : Int))).tmod (16 : Int), y21_0, (0 : Int), (0 : Int), y21_2, y11_2, y16_2, [])
                         else
                          (f216 (x0) (y21_1) ((20000 : Int))
                            (fun (y26_0, y26_1, y26_2) =>
                              k0 (y2_0, (Go.IntKind.i64.wrap (x0.getD y2_1.toNat (0 : Int))).tmod (16 : Int), y21_0, y26_0, y26_1, y26_2, y11_2, y16_2, [])))))))))
          else
           (f218 (x0) (Go.IntKind.i64.wrap (y2_1 + (1 : Int))) (Go.IntKind.i64.wrap ((↑(0 : Nat) : Int) + (1 : Int)))
             (fun (y11_0, y11_1, y11_2) =>
               bif y11_1 != (0 : Int) then
                k0 (y2_0, (Go.IntKind.i64.wrap (x0.getD y2_1.toNat (0 : Int))).tmod (16 : Int), (0 : Int), (0 : Int), (0 : Int), y11_1, [], y11_2, [])
               else
                (f216 (x0) (y11_0) ((1000 : Int))
                  (fun (y16_0, y16_1, y16_2) =>
                    bif y16_2 != (0 : Int) then
                     k0 (y2_0, (Go.IntKind.i64.wrap (x0.getD y2_1.toNat (0 : Int))).tmod (16 : Int), y16_0, (0 : Int), (0 : Int), y16_2, [], y11_2, [])
                    else
                     (f216 (x0) (y16_1) ((20000 : Int))
                       (fun (y21_0, y21_1, y21_2) =>
                         k0 (y2_0, (Go.IntKind.i64.wrap (x0.getD y2_1.toNat (0 : Int))).tmod (16 : Int), y16_0, y21_0, y21_1, y21_2, [], y11_2, [])))))))
        else none))) (fun r => match r with | (r0, r1, r2, r3, r4, r5, r6, r7, r8) => k (.tup [(true, [.int .i64 r0, .int .i64 r1, .int .i64 r2, .own 0, .own 1, .own 2]), (false, [.int .i64 r3]), (false, [.int .i64 r4]), (false, [.int .i64 r5])], [.vec 3 (.int .i64) r6 true, .vec 4 .bool r7 true, .vec 5 (.int .u8) r8 true])) := by
  kernel_rfl
theorem F214_eq (fuel : Nat) (x0 : (List Int)) (x1 : Int) (k : Ev.Cont) : evalFn tab (G214 fuel) (J214 fuel) kp214 fuel Try.f214 [.c (.sl (.int .u8) x0), .c (.int .i64 x1)] [] k = F_ref12_header fuel x0 x1 (fun r => match r with | (r0, r1, r2, r3, r4, r5, r6, r7, r8) => k (.tup [(true, [.int .i64 r0, .int .i64 r1, .int .i64 r2, .own 0, .own 1, .own 2]), (false, [.int .i64 r3]), (false, [.int .i64 r4]), (false, [.int .i64 r5])], [.vec 3 (.int .i64) r6 true, .vec 4 .bool r7 true, .vec 5 (.int .u8) r8 true])) :=
  F214_eqg fuel (F_ref12_number fuel) (F_ref12_refs fuel) (F_ref12_keeps fuel) x0 x1 k
theorem hG214 (fuel : Nat) : GOK Try.prog (G214 fuel) :=
  gok_cons ⟨ok216 fuel, enters_of Try.func216 (by kernel_rfl) rfl⟩ <|
  gok_cons ⟨ok217 fuel, enters_of Try.func217 (by kernel_rfl) rfl⟩ <|
  gok_cons ⟨ok218 fuel, enters_of Try.func218 (by kernel_rfl) rfl⟩ <|
  gok_nil
theorem fok214 (fuel : Nat) : FnOK Try.prog 214 (evalFn tab (G214 fuel) (J214 fuel) kp214 fuel Try.f214) :=
  fn_ok tab_ok (hG214 fuel) mixed Try.func214 (c := (Try.f214.body).getD .skip) rfl (fun q hq => by
    rw [(by kernel_rfl : obl (J214 fuel) ((Try.f214.body).getD .skip) = [])] at hq
    cases hq)
noncomputable def mt214 : List Ev.SV → List Ev.Ob → Bool := fun args objs => match args, objs with
  | [.c (.sl (.int .u8) _), .c (.int .i64 _)], [] => true
  | _, _ => false
noncomputable def spg214 (F : YF214) : Ev.Spec := fun args objs k => match args, objs with
  | [.c (.sl (.int .u8) x0), .c (.int .i64 x1)], [] => bif true then F x0 x1 (fun r => match r with | (r0, r1, r2, r3, r4, r5, r6, r7, r8) => k (.tup [(true, [.int .i64 r0, .int .i64 r1, .int .i64 r2, .own 0, .own 1, .own 2]), (false, [.int .i64 r3]), (false, [.int .i64 r4]), (false, [.int .i64 r5])], [.vec 3 (.int .i64) r6 true, .vec 4 .bool r7 true, .vec 5 (.int .u8) r8 true])) else none
  | _, _ => none
noncomputable def spec214 (fuel : Nat) : Ev.Spec := spg214 (F_ref12_header fuel)
theorem ok214 (fuel : Nat) : FnOK Try.prog 214 (spec214 fuel) := by
  intro args objs kk r h
  unfold spec214 spg214 at h
  split at h
  · skip
    obtain ⟨hb, h⟩ := cond_some' h
    simp only [Bool.and_eq_true, Nat.beq_eq, decide_eq_true_eq] at hb
    clear hb
    exact fok214 fuel _ _ kk r ((F214_eq fuel _ _ kk).trans h)
  · cases h
end Go.Proofs.Ytihfgpfofmjbaaa

set_option linter.unusedVariables false
set_option linter.unusedSimpArgs false
set_option maxRecDepth 100000
set_option maxHeartbeats 2000000
namespace Go.Proofs.Ytihfgpfofmjbaaa
open Go Ev
def kp204 (i : Nat) : Option (List Nat) := Ev.look i []
noncomputable def Gg204 (f214 : YF214) (f : Nat) : Option Ev.Spec := Ev.look f [(214, spg214 f214)]
noncomputable def G204 (fuel : Nat) : Nat → Option Ev.Spec := Gg204 (F_ref12_header fuel)
noncomputable def J204 (fuel : Nat) (i : Nat) : Option Ev.Blk := Ev.look i []
noncomputable def F_ref12_GetHeader (fuel : Nat) (x0 : (List Int)) (x1 : Int) (k0 : (Int × Int × Int × Int × Int × Int × (List Int) × (List Bool) × (List Int)) → Option Ans) : Option Ans :=
  bif Decidable.decide (x1 < (0 : Int)) then
   k0 ((0 : Int), (0 : Int), (0 : Int), (0 : Int), (0 : Int), (2 : Int), [], [], [])
  else
   bif Decidable.decide (x1 > (↑x0.length : Int)) then
    k0 ((0 : Int), (0 : Int), (0 : Int), (0 : Int), (0 : Int), (2 : Int), [], [], [])
   else
    (F_ref12_header fuel (x0) (x1)
      (fun (y4_0, y4_1, y4_2, y4_3, y4_4, y4_5, y4_6, y4_7, y4_8) =>
        bif y4_5 != (0 : Int) then
         k0 ((0 : Int), (0 : Int), (0 : Int), (0 : Int), (0 : Int), y4_5, [], [], [])
        else
         k0 (y4_0, y4_1, y4_2, y4_3, y4_4, (0 : Int), y4_6, y4_7, y4_8)))
abbrev YF204 : Type := ((List Int)) → (Int) → ((Int × Int × Int × Int × Int × Int × (List Int) × (List Bool) × (List Int)) → Option Ans) → Option Ans
theorem F204_eqg (fuel : Nat) (f214 : YF214) (x0 : (List Int)) (x1 : Int) (k : Ev.Cont) : evalFn tab (Gg204 f214) (J204 fuel) kp204 fuel Try.f204 [.c (.sl (.int .u8) x0), .c (.int .i64 x1)] [] k = (fun  (k0 : (Int × Int × Int × Int × Int × Int × (List Int) × (List Bool) × (List Int)) → Option Ans) =>
  bif Decidable.decide (x1 < (0 : Int)) then
   k0 ((0 : Int), (0 : Int), (0 : Int), (0 : Int), (0 : Int), (2 : Int), [], [], [])
  else
   bif Decidable.decide (x1 > (↑x0.length : Int)) then
    k0 ((0 : Int), (0 : Int), (0 : Int), (0 : Int), (0 : Int), (2 : Int), [], [], [])
   else
    (f214 (x0) (x1)
      (fun (y4_0, y4_1, y4_2, y4_3, y4_4, y4_5, y4_6, y4_7, y4_8) =>
        bif y4_5 != (0 : Int) then
         k0 ((0 : Int), (0 : Int), (0 : Int), (0 : Int), (0 : Int), y4_5, [], [], [])
        else
         k0 (y4_0, y4_1, y4_2, y4_3, y4_4, (0 : Int), y4_6, y4_7, y4_8)))) (fun r => match r with | (r0, r1, r2, r3, r4, r5, r6, r7, r8) => k (.tup [(true, [.int .i64 r0, .int .i64 r1, .int .i64 r2, .own 0, .own 1, .own 2]), (false, [.int .i64 r3]), (false, [.int .i64 r4]), (false, [.int .i64 r5])], [.vec 3 (.int .i64) r6 true, .vec 4 .bool r7 true, .vec 5 (.int .u8) r8 true])) := by
  kernel_rfl
theorem F204_eq (fuel : Nat) (x0 : (List Int)) (x1 : Int) (k : Ev.Cont) : evalFn tab (G204 fuel) (J204 fuel) kp204 fuel Try.f204 [.c (.sl (.int .u8) x0), .c (.int .i64 x1)] [] k = F_ref12_GetHeader fuel x0 x1 (fun r => match r with | (r0, r1, r2, r3, r4, r5, r6, r7, r8) => k (.tup [(true, [.int .i64 r0, .int .i64 r1, .int .i64 r2, .own 0, .own 1, .own 2]), (false, [.int .i64 r3]), (false, [.int .i64 r4]), (false, [.int .i64 r5])], [.vec 3 (.int .i64) r6 true, .vec 4 .bool r7 true, .vec 5 (.int .u8) r8 true])) :=
  F204_eqg fuel (F_ref12_header fuel) x0 x1 k
theorem hG204 (fuel : Nat) : GOK Try.prog (G204 fuel) :=
  gok_cons ⟨ok214 fuel, enters_of Try.func214 (by kernel_rfl) rfl⟩ <|
  gok_nil
theorem fok204 (fuel : Nat) : FnOK Try.prog 204 (evalFn tab (G204 fuel) (J204 fuel) kp204 fuel Try.f204) :=
  fn_ok tab_ok (hG204 fuel) mixed Try.func204 (c := (Try.f204.body).getD .skip) rfl (fun q hq => by
    rw [(by kernel_rfl : obl (J204 fuel) ((Try.f204.body).getD .skip) = [])] at hq
    cases hq)
noncomputable def mt204 : List Ev.SV → List Ev.Ob → Bool := fun args objs => match args, objs with
  | [.c (.sl (.int .u8) _), .c (.int .i64 _)], [] => true
  | _, _ => false
noncomputable def spg204 (F : YF204) : Ev.Spec := fun args objs k => match args, objs with
  | [.c (.sl (.int .u8) x0), .c (.int .i64 x1)], [] => bif true then F x0 x1 (fun r => match r with | (r0, r1, r2, r3, r4, r5, r6, r7, r8) => k (.tup [(true, [.int .i64 r0, .int .i64 r1, .int .i64 r2, .own 0, .own 1, .own 2]), (false, [.int .i64 r3]), (false, [.int .i64 r4]), (false, [.int .i64 r5])], [.vec 3 (.int .i64) r6 true, .vec 4 .bool r7 true, .vec 5 (.int .u8) r8 true])) else none
  | _, _ => none
noncomputable def spec204 (fuel : Nat) : Ev.Spec := spg204 (F_ref12_GetHeader fuel)
theorem ok204 (fuel : Nat) : FnOK Try.prog 204 (spec204 fuel) := by
  intro args objs kk r h
  unfold spec204 spg204 at h
  split at h
  · skip
    obtain ⟨hb, h⟩ := cond_some' h
    simp only [Bool.and_eq_true, Nat.beq_eq, decide_eq_true_eq] at hb
    clear hb
    exact fok204 fuel _ _ kk r ((F204_eq fuel _ _ kk).trans h)
  · cases h
end Go.Proofs.Ytihfgpfofmjbaaa

set_option linter.unusedVariables false
set_option linter.unusedSimpArgs false
set_option maxRecDepth 100000
set_option maxHeartbeats 2000000
namespace Go.Proofs.Ytihfgpfofmjbaaa
open Go Ev
def kp175_bb9 (i : Nat) : Option (List Nat) := Ev.look i [(200011, []), (600000, [])]
noncomputable def Gg175_bb9 (f174_6fe : YF174_6fe) (f204 : YF204) (f : Nat) : Option Ev.Spec := Ev.look f [(174, spg174_6fe f174_6fe), (204, spg204 f204)]
noncomputable def G175_bb9 (fuel : Nat) : Nat → Option Ev.Spec := Gg175_bb9 (F_ref14_Parsed_failed_6fe fuel) (F_ref12_GetHeader fuel)
noncomputable def J175_bb9 (fuel : Nat) (i : Nat) : Option Ev.Blk := Ev.look i []
noncomputable def F_ref14_Parsed_header_bb9 (fuel : Nat) (x0 : (List Int)) (x1 : Int) (x2 : Int) (x3 : Int) (x4 : Int) (x5 : (List (Int × (Int × (Int × ((List Int) × ((List Bool) × (List Int)))))))) (x6 : (List Int)) (x7 : (List (Int × Int))) (k0 : (Int × Int × Int × Int × (List (Int × (Int × (Int × ((List Int) × ((List Bool) × (List Int))))))) × (List Int) × (List (Int × Int))) → Option Ans) (k1 : (Int × Int × Int × Int × (List (Int × (Int × (Int × ((List Int) × ((List Bool) × (List Int))))))) × (List Int) × (List (Int × Int))) → Option Ans) : Option Ans :=
  bif (↑x5.length : Int) == (100 : Int) then
   (F_ref14_Parsed_failed_6fe fuel ((0 : Int)) ((4 : Int)) (x2) (x3) (x4) (x5) (x6) (x7)
     (fun (y3_0, y3_1, y3_2, y3_3, y3_4, y3_5) =>
       k0 ((0 : Int), y3_0, y3_1, y3_2, y3_3, y3_4, y3_5)))
  else
   bif x1 == (↑x0.length : Int) then
    (F_ref14_Parsed_failed_6fe fuel (x1) ((60 : Int)) (x2) (x3) (x4) (x5) (x6) (x7)
      (fun (y4_0, y4_1, y4_2, y4_3, y4_4, y4_5) =>
        k0 ((0 : Int), y4_0, y4_1, y4_2, y4_3, y4_4, y4_5)))
   else
    (F_ref12_GetHeader fuel (x0) (x1)
      (fun (y4_0, y4_1, y4_2, y4_3, y4_4, y4_5, y4_6, y4_7, y4_8) =>
        bif y4_5 != (0 : Int) then
         (F_ref14_Parsed_failed_6fe fuel (x1) (y4_5) (x2) (x3) (x4) (x5) (x6) (x7)
           (fun (y9_0, y9_1, y9_2, y9_3, y9_4, y9_5) =>
             k0 ((0 : Int), y9_0, y9_1, y9_2, y9_3, y9_4, y9_5)))
        else
         both (bif Decidable.decide ((x5.length + [(y4_0, y4_1, y4_2, y4_6, y4_7, y4_8)].length) * (96 : Nat) ≤ (140737488355328 : Nat) ∧ x5.length + [(y4_0, y4_1, y4_2, y4_6, y4_7, y4_8)].length ≤ (140737488355328 : Nat)) then
           bif Decidable.decide ((x6.length + [x1].length) * (8 : Nat) ≤ (140737488355328 : Nat) ∧ x6.length + [x1].length ≤ (140737488355328 : Nat)) then
            bif Decidable.decide ((x7.length + [((0 : Int), y4_3)].length) * (16 : Nat) ≤ (140737488355328 : Nat) ∧ x7.length + [((0 : Int), y4_3)].length ≤ (140737488355328 : Nat)) then
             k1 (y4_4, x2, x3, x4, x5 ++ [(y4_0, y4_1, y4_2, y4_6, y4_7, y4_8)], x6 ++ [x1], x7 ++ [((0 : Int), y4_3)])
             else none
            else none
           else none)
          (both (bif Decidable.decide ((x5.length + [(y4_0, y4_1, y4_2, y4_6, y4_7, y4_8)].length) * (96 : Nat) ≤ (140737488355328 : Nat) ∧ x5.length + [(y4_0, y4_1, y4_2, y4_6, y4_7, y4_8)].length ≤ (140737488355328 : Nat)) then
             bif Decidable.decide ((x6.length + [x1].length) * (8 : Nat) ≤ (140737488355328 : Nat) ∧ x6.length + [x1].length ≤ (140737488355328 : Nat)) then
              bif Decidable.decide ((x7.length + [((0 : Int), y4_3)].length) * (16 : Nat) ≤ (140737488355328 : Nat) ∧ x7.length + [((0 : Int), y4_3)].length ≤ (140737488355328 : Nat)) then
               k1 (y4_4, x2, x3, x4, x5 ++ [(y4_0, y4_1, y4_2, y4_6, y4_7, y4_8)], x6 ++ [x1], x7 ++ [((0 : Int), y4_3)])
               else none
              else none
             else none)
            (bif Decidable.decide ((x5.length + [(y4_0, y4_1, y4_2, y4_6, y4_7, y4_8)].length) * (96 : Nat) ≤ (140737488355328 : Nat) ∧ x5.length + [(y4_0, y4_1, y4_2, y4_6, y4_7, y4_8)].length ≤ (140737488355328 : Nat)) then
             bif Decidable.decide ((x6.length + [x1].length) * (8 : Nat) ≤ (140737488355328 : Nat) ∧ x6.length + [x1].length ≤ (140737488355328 : Nat)) then
              bif Decidable.decide ((x7.length + [((0 : Int), y4_3)].length) * (16 : Nat) ≤ (140737488355328 : Nat) ∧ x7.length + [((0 : Int), y4_3)].length ≤ (140737488355328 : Nat)) then
               k1 (y4_4, x2, x3, x4, x5 ++ [(y4_0, y4_1, y4_2, y4_6, y4_7, y4_8)], x6 ++ [x1], x7 ++ [((0 : Int), y4_3)])
               else none
              else none
             else none))))
abbrev YF175_bb9 : Type := ((List Int)) → (Int) → (Int) → (Int) → (Int) → ((List (Int × (Int × (Int × ((List Int) × ((List Bool) × (List Int)))))))) → ((List Int)) → ((List (Int × Int))) → ((Int × Int × Int × Int × (List (Int × (Int × (Int × ((List Int) × ((List Bool) × (List Int))))))) × (List Int) × (List (Int × Int))) → Option Ans) → ((Int × Int × Int × Int × (List (Int × (Int × (Int × ((List Int) × ((List Bool) × (List Int))))))) × (List Int) × (List (Int × Int))) → Option Ans) → Option Ans
theorem F175_bb9_eqg (fuel : Nat) (f174_6fe : YF174_6fe) (f204 : YF204) (x0 : (List Int)) (x1 : Int) (x2 : Int) (x3 : Int) (x4 : Int) (x5 : (List (Int × (Int × (Int × ((List Int) × ((List Bool) × (List Int)))))))) (x6 : (List Int)) (x7 : (List (Int × Int))) (k : Ev.Cont) : evalFn tab (Gg175_bb9 f174_6fe f204) (J175_bb9 fuel) kp175_bb9 fuel Try.f175 [.c (.ptr 0 0), .c (.sl (.int .u8) x0), .c (.int .i64 x1)] [.cells 145 [.int .i64 x2, .own 1, .own 2, .own 3, .int .i64 x3, .int .i64 x4], .vec 103 (.pair (.int .i64) (.pair (.int .i64) (.pair (.int .i64) (.pair (.sl (.int .i64)) (.pair (.sl .bool) (.sl (.int .u8))))))) x5 false, .vec 3 (.int .i64) x6 false, .vec 44 (.pair (.int .i64) (.int .i64)) x7 false] k = (fun  (k0 : (Int × Int × Int × Int × (List (Int × (Int × (Int × ((List Int) × ((List Bool) × (List Int))))))) × (List Int) × (List (Int × Int))) → Option Ans) (k1 : (Int × Int × Int × Int × (List (Int × (Int × (Int × ((List Int) × ((List Bool) × (List Int))))))) × (List Int) × (List (Int × Int))) → Option Ans) =>
  bif (↑x5.length : Int) == (100 : Int) then
   (f174_6fe ((0 : Int)) ((4 : Int)) (x2) (x3) (x4) (x5) (x6) (x7)
     (fun (y3_0, y3_1, y3_2, y3_3, y3_4, y3_5) =>
       k0 ((0 : Int), y3_0, y3_1, y3_2, y3_3, y3_4, y3_5)))
  else
   bif x1 == (↑x0.length : Int) then
    (f174_6fe (x1) ((60 : Int)) (x2) (x3) (x4) (x5) (x6) (x7)
      (fun (y4_0, y4_1, y4_2, y4_3, y4_4, y4_5) =>
        k0 ((0 : Int), y4_0, y4_1, y4_2, y4_3, y4_4, y4_5)))
   else
    (f204 (x0) (x1)
      (fun (y4_0, y4_1, y4_2, y4_3, y4_4, y4_5, y4_6, y4_7, y4_8) =>
        bif y4_5 != (0 : Int) then
         (f174_6fe (x1) (y4_5) (x2) (x3) (x4) (x5) (x6) (x7)
           (fun (y9_0, y9_1, y9_2, y9_3, y9_4, y9_5) =>
             k0 ((0 : Int), y9_0, y9_1, y9_2, y9_3, y9_4, y9_5)))
        else
         both (bif Decidable.decide ((x5.length + [(y4_0, y4_1, y4_2, y4_6, y4_7, y4_8)].length) * (96 : Nat) ≤ (140737488355328 : Nat) ∧ x5.length + [(y4_0, y4_1, y4_2, y4_6, y4_7, y4_8)].length ≤ (140737488355328 : Nat)) then
           bif Decidable.decide ((x6.length + [x1].length) * (8 : Nat) ≤ (140737488355328 : Nat) ∧ x6.length + [x1].length ≤ (140737488355328 : Nat)) then
            bif Decidable.decide ((x7.length + [((0 : Int), y4_3)].length) * (16 : Nat) ≤ (140737488355328 : Nat) ∧ x7.length + [((0 : Int), y4_3)].length ≤ (140737488355328 : Nat)) then
             k1 (y4_4, x2, x3, x4, x5 ++ [(y4_0, y4_1, y4_2, y4_6, y4_7, y4_8)], x6 ++ [x1], x7 ++ [((0 : Int), y4_3)])
             else none
            else none
           else none)
          (both (bif Decidable.decide ((x5.length + [(y4_0, y4_1, y4_2, y4_6, y4_7, y4_8)].length) * (96 : Nat) ≤ (140737488355328 : Nat) ∧ x5.length + [(y4_0, y4_1, y4_2, y4_6, y4_7, y4_8)].length ≤ (140737488355328 : Nat)) then
             bif Decidable.decide ((x6.length + [x1].length) * (8 : Nat) ≤ (140737488355328 : Nat) ∧ x6.length + [x1].length ≤ (140737488355328 : Nat)) then
              bif Decidable.decide ((x7.length + [((0 : Int), y4_3)].length) * (16 : Nat) ≤ (140737488355328 : Nat) ∧ x7.length + [((0 : Int), y4_3)].length ≤ (140737488355328 : Nat)) then
               k1 (y4_4, x2, x3, x4, x5 ++ [(y4_0, y4_1, y4_2, y4_6, y4_7, y4_8)], x6 ++ [x1], x7 ++ [((0 : Int), y4_3)])
               else none
              else none
             else none)
            (bif Decidable.decide ((x5.length + [(y4_0, y4_1, y4_2, y4_6, y4_7, y4_8)].length) * (96 : Nat) ≤ (140737488355328 : Nat) ∧ x5.length + [(y4_0, y4_1, y4_2, y4_6, y4_7, y4_8)].length ≤ (140737488355328 : Nat)) then
             bif Decidable.decide ((x6.length + [x1].length) * (8 : Nat) ≤ (140737488355328 : Nat) ∧ x6.length + [x1].length ≤ (140737488355328 : Nat)) then
              bif Decidable.decide ((x7.length + [((0 : Int), y4_3)].length) * (16 : Nat) ≤ (140737488355328 : Nat) ∧ x7.length + [((0 : Int), y4_3)].length ≤ (140737488355328 : Nat)) then
               k1 (y4_4, x2, x3, x4, x5 ++ [(y4_0, y4_1, y4_2, y4_6, y4_7, y4_8)], x6 ++ [x1], x7 ++ [((0 : Int), y4_3)])
               else none
              else none
             else none))))) (fun r => match r with | (r0, r1, r2, r3, r4, r5, r6) => k (.c (.int .i64 r0), [.cells 145 [.int .i64 r1, .own 1, .own 2, .own 3, .int .i64 r2, .int .i64 r3], .vec 103 (.pair (.int .i64) (.pair (.int .i64) (.pair (.int .i64) (.pair (.sl (.int .i64)) (.pair (.sl .bool) (.sl (.int .u8))))))) r4 false, .vec 3 (.int .i64) r5 false, .vec 44 (.pair (.int .i64) (.int .i64)) r6 false])) (fun r => match r with | (r0, r1, r2, r3, r4, r5, r6) => k (.c (.int .i64 r0), [.cells 145 [.int .i64 r1, .own 1, .own 2, .own 3, .int .i64 r2, .int .i64 r3], .vec 103 (.pair (.int .i64) (.pair (.int .i64) (.pair (.int .i64) (.pair (.sl (.int .i64)) (.pair (.sl .bool) (.sl (.int .u8))))))) r4 true, .vec 3 (.int .i64) r5 true, .vec 44 (.pair (.int .i64) (.int .i64)) r6 true])) := by
  kernel_rfl
theorem F175_bb9_eq (fuel : Nat) (x0 : (List Int)) (x1 : Int) (x2 : Int) (x3 : Int) (x4 : Int) (x5 : (List (Int × (Int × (Int × ((List Int) × ((List Bool) × (List Int)))))))) (x6 : (List Int)) (x7 : (List (Int × Int))) (k : Ev.Cont) : evalFn tab (G175_bb9 fuel) (J175_bb9 fuel) kp175_bb9 fuel Try.f175 [.c (.ptr 0 0), .c (.sl (.int .u8) x0), .c (.int .i64 x1)] [.cells 145 [.int .i64 x2, .own 1, .own 2, .own 3, .int .i64 x3, .int .i64 x4], .vec 103 (.pair (.int .i64) (.pair (.int .i64) (.pair (.int .i64) (.pair (.sl (.int .i64)) (.pair (.sl .bool) (.sl (.int .u8))))))) x5 false, .vec 3 (.int .i64) x6 false, .vec 44 (.pair (.int .i64) (.int .i64)) x7 false] k = F_ref14_Parsed_header_bb9 fuel x0 x1 x2 x3 x4 x5 x6 x7 (fun r => match r with | (r0, r1, r2, r3, r4, r5, r6) => k (.c (.int .i64 r0), [.cells 145 [.int .i64 r1, .own 1, .own 2, .own 3, .int .i64 r2, .int .i64 r3], .vec 103 (.pair (.int .i64) (.pair (.int .i64) (.pair (.int .i64) (.pair (.sl (.int .i64)) (.pair (.sl .bool) (.sl (.int .u8))))))) r4 false, .vec 3 (.int .i64) r5 false, .vec 44 (.pair (.int .i64) (.int .i64)) r6 false])) (fun r => match r with | (r0, r1, r2, r3, r4, r5, r6) => k (.c (.int .i64 r0), [.cells 145 [.int .i64 r1, .own 1, .own 2, .own 3, .int .i64 r2, .int .i64 r3], .vec 103 (.pair (.int .i64) (.pair (.int .i64) (.pair (.int .i64) (.pair (.sl (.int .i64)) (.pair (.sl .bool) (.sl (.int .u8))))))) r4 true, .vec 3 (.int .i64) r5 true, .vec 44 (.pair (.int .i64) (.int .i64)) r6 true])) :=
  F175_bb9_eqg fuel (F_ref14_Parsed_failed_6fe fuel) (F_ref12_GetHeader fuel) x0 x1 x2 x3 x4 x5 x6 x7 k
theorem hG175_bb9 (fuel : Nat) : GOK Try.prog (G175_bb9 fuel) :=
  gok_cons ⟨ok174_6fe fuel, enters_of Try.func174 (by kernel_rfl) rfl⟩ <|
  gok_cons ⟨ok204 fuel, enters_of Try.func204 (by kernel_rfl) rfl⟩ <|
  gok_nil
theorem fok175_bb9 (fuel : Nat) : FnOK Try.prog 175 (evalFn tab (G175_bb9 fuel) (J175_bb9 fuel) kp175_bb9 fuel Try.f175) :=
  fn_ok tab_ok (hG175_bb9 fuel) mixed Try.func175 (c := (Try.f175.body).getD .skip) rfl (fun q hq => by
    rw [(by kernel_rfl : obl (J175_bb9 fuel) ((Try.f175.body).getD .skip) = [])] at hq
    cases hq)
noncomputable def mt175_bb9 : List Ev.SV → List Ev.Ob → Bool := fun args objs => match args, objs with
  | [.c (.ptr q0 q1), .c (.sl (.int .u8) _), .c (.int .i64 _)], [.cells q2 [.int .i64 _, .own q3, .own q4, .own q5, .int .i64 _, .int .i64 _], .vec q6 (.pair (.int .i64) (.pair (.int .i64) (.pair (.int .i64) (.pair (.sl (.int .i64)) (.pair (.sl .bool) (.sl (.int .u8))))))) _ false, .vec q7 (.int .i64) _ false, .vec q8 (.pair (.int .i64) (.int .i64)) _ false] => Nat.beq q0 0 && Nat.beq q1 0 && Nat.beq q2 145 && Nat.beq q3 1 && Nat.beq q4 2 && Nat.beq q5 3 && Nat.beq q6 103 && Nat.beq q7 3 && Nat.beq q8 44
  | _, _ => false
noncomputable def spg175_bb9 (F : YF175_bb9) : Ev.Spec := fun args objs k => match args, objs with
  | [.c (.ptr q0 q1), .c (.sl (.int .u8) x0), .c (.int .i64 x1)], [.cells q2 [.int .i64 x2, .own q3, .own q4, .own q5, .int .i64 x3, .int .i64 x4], .vec q6 (.pair (.int .i64) (.pair (.int .i64) (.pair (.int .i64) (.pair (.sl (.int .i64)) (.pair (.sl .bool) (.sl (.int .u8))))))) x5 false, .vec q7 (.int .i64) x6 false, .vec q8 (.pair (.int .i64) (.int .i64)) x7 false] => bif Nat.beq q0 0 && Nat.beq q1 0 && Nat.beq q2 145 && Nat.beq q3 1 && Nat.beq q4 2 && Nat.beq q5 3 && Nat.beq q6 103 && Nat.beq q7 3 && Nat.beq q8 44 then F x0 x1 x2 x3 x4 x5 x6 x7 (fun r => match r with | (r0, r1, r2, r3, r4, r5, r6) => k (.c (.int .i64 r0), [.cells 145 [.int .i64 r1, .own 1, .own 2, .own 3, .int .i64 r2, .int .i64 r3], .vec 103 (.pair (.int .i64) (.pair (.int .i64) (.pair (.int .i64) (.pair (.sl (.int .i64)) (.pair (.sl .bool) (.sl (.int .u8))))))) r4 false, .vec 3 (.int .i64) r5 false, .vec 44 (.pair (.int .i64) (.int .i64)) r6 false])) (fun r => match r with | (r0, r1, r2, r3, r4, r5, r6) => k (.c (.int .i64 r0), [.cells 145 [.int .i64 r1, .own 1, .own 2, .own 3, .int .i64 r2, .int .i64 r3], .vec 103 (.pair (.int .i64) (.pair (.int .i64) (.pair (.int .i64) (.pair (.sl (.int .i64)) (.pair (.sl .bool) (.sl (.int .u8))))))) r4 true, .vec 3 (.int .i64) r5 true, .vec 44 (.pair (.int .i64) (.int .i64)) r6 true])) else none
  | _, _ => none
noncomputable def spec175_bb9 (fuel : Nat) : Ev.Spec := spg175_bb9 (F_ref14_Parsed_header_bb9 fuel)
theorem ok175_bb9 (fuel : Nat) : FnOK Try.prog 175 (spec175_bb9 fuel) := by
  intro args objs kk r h
  unfold spec175_bb9 spg175_bb9 at h
  split at h
  · skip
    obtain ⟨hb, h⟩ := cond_some' h
    simp only [Bool.and_eq_true, Nat.beq_eq, decide_eq_true_eq] at hb
    obtain ⟨⟨⟨⟨⟨⟨⟨⟨rfl, rfl⟩, rfl⟩, rfl⟩, rfl⟩, rfl⟩, rfl⟩, rfl⟩, rfl⟩ := hb
    exact fok175_bb9 fuel _ _ kk r ((F175_bb9_eq fuel _ _ _ _ _ _ _ _ kk).trans h)
  · cases h
end Go.Proofs.Ytihfgpfofmjbaaa

set_option linter.unusedVariables false
set_option linter.unusedSimpArgs false
set_option maxRecDepth 100000
set_option maxHeartbeats 2000000
namespace Go.Proofs.Ytihfgpfofmjbaaa
open Go Ev
def kp64 (i : Nat) : Option (List Nat) := Ev.look i [(7, [1, 3, 55, 56, 57]), (100000, []), (400000, [2])]
noncomputable def Gg64 (f : Nat) : Option Ev.Spec := Ev.look f []
noncomputable def G64 (fuel : Nat) : Nat → Option Ev.Spec := Gg64
noncomputable def S_ref12_Valid_0 (fuel : Nat) (v : Int × (List Int) × Int × Int × Int × Int × Int × (List Int) × (List Bool) × (List Int)) (c : (Int × (List Int) × Int × Int × Int × Int × Int × (List Int) × (List Bool) × (List Int)) → Option Ans) (B : (Bool → Option Ans) × (Unit → Option Ans)) : Option Ans := match v, B with
  | (x0, x1, x2, x3, x4, x5, x6, x7, x8, x9), (ret, b) =>
   bif Decidable.decide (x3 < x2) then
      bif Decidable.decide ((0 : Int) ≤ x3 ∧ x3 < (↑x1.length : Int)) then
      bif Decidable.decide (x1.getD x3.toNat (0 : Int) ≤ x0) then
        ret Bool.false
       else
        bif Decidable.decide (x1.getD x3.toNat (0 : Int) ≥ x4) then
         ret Bool.false
        else
         c (x1.getD x3.toNat (0 : Int), x1, x2, Go.IntKind.i64.wrap (x3 + (1 : Int)), x4, x5, x6, x7, x8, x9)
      else none
     else
      b ()
noncomputable def L_ref12_Valid_0 (fuel : Nat) (v : Int × (List Int) × Int × Int × Int × Int × Int × (List Int) × (List Bool) × (List Int)) (ret : (Bool → Option Ans)) (b : (Unit → Option Ans)) : Option Ans := iter (S_ref12_Valid_0 fuel) fuel v (ret, b)
noncomputable def J64_0 (fuel : Nat) (i : Nat) : Option Ev.Blk := Ev.look i []
noncomputable def T64_0 (v : Int × (List Int) × Int × Int × Int × Int × Int × (List Int) × (List Bool) × (List Int)) : Ev.St := match v with | (x0, x1, x2, x3, x4, x5, x6, x7, x8, x9) => ⟨[(1, .c (.ptr 0 0)), (3, .c (.int .i64 x0)), (55, .c (.sl (.int .i64) x1)), (56, .c (.int .i64 x2)), (57, .c (.int .i64 x3))], [(0, .cells 103 [.int .i64 x4, .int .i64 x5, .int .i64 x6, .sl (.int .i64) x7, .sl .bool x8, .sl (.int .u8) x9])], 1, 0⟩
noncomputable def E64_0 (K : Ev.Ex → Ev.St → Option Ans) : (Bool → Option Ans) × (Unit → Option Ans) := ((fun v => match v with | x0 => K .ret ⟨[(2, .c (.bool x0))], [], 0, 0⟩), (fun v => match v with | () => K .normal ⟨[], [], 0, 0⟩))
theorem S64_0_ok (fuel : Nat) (R : Ev.St → Option Ans) (K : Ev.Ex → Ev.St → Option Ans) (x0 : Int) (x1 : (List Int)) (x2 : Int) (x3 : Int) (x4 : Int) (x5 : Int) (x6 : Int) (x7 : (List Int)) (x8 : (List Bool)) (x9 : (List Int)) : evalCode tab (G64 fuel) (J64_0 fuel) kp64 fuel (bodyOf 0 Try.f64) (T64_0 (x0, x1, x2, x3, x4, x5, x6, x7, x8, x9)) (lc kp64 7 0 R K) = S_ref12_Valid_0 fuel (x0, x1, x2, x3, x4, x5, x6, x7, x8, x9) (fun v => R (T64_0 v)) (E64_0 K) := by
  kernel_rfl
noncomputable def B64_0 (fuel : Nat) : Ev.Blk := fun st K => match canonO (kp64 7) st with
  | some s => (match s with
    | ⟨[(q0, .c (.ptr q1 q2)), (q3, .c (.int .i64 x0)), (q4, .c (.sl (.int .i64) x1)), (q5, .c (.int .i64 x2)), (q6, .c (.int .i64 x3))], [(q7, .cells q8 [.int .i64 x4, .int .i64 x5, .int .i64 x6, .sl (.int .i64) x7, .sl .bool x8, .sl (.int .u8) x9])], q9, q10⟩ => bif Nat.beq q0 1 && Nat.beq q1 0 && Nat.beq q2 0 && Nat.beq q3 3 && Nat.beq q4 55 && Nat.beq q5 56 && Nat.beq q6 57 && Nat.beq q7 0 && Nat.beq q8 103 && Nat.beq q9 1 && Nat.beq q10 0 then iter (S_ref12_Valid_0 fuel) fuel (x0, x1, x2, x3, x4, x5, x6, x7, x8, x9) (E64_0 K) else none
    | _ => none)
  | none => none
theorem B64_0_ok (fuel : Nat) (st : Ev.St) (K : Ev.Ex → Ev.St → Option Ans) (r : Ans) (h : B64_0 fuel st K = some r) : evalCode tab (G64 fuel) (J64_0 fuel) kp64 fuel (.block 0 (.loop (bodyOf 0 Try.f64))) st K = some r := by
  unfold B64_0 at h
  split at h
  · rename_i s hs
    split at h
    · skip
      obtain ⟨hb, h⟩ := cond_some' h
      simp only [Bool.and_eq_true, Nat.beq_eq, decide_eq_true_eq] at hb
      obtain ⟨⟨⟨⟨⟨⟨⟨⟨⟨⟨rfl, rfl⟩, rfl⟩, rfl⟩, rfl⟩, rfl⟩, rfl⟩, rfl⟩, rfl⟩, rfl⟩, rfl⟩ := hb
      exact blk_loop (S := T64_0) (ks := E64_0) (step := S_ref12_Valid_0 fuel) (v := (_, _, _, _, _, _, _, _, _, _)) (by kernel_rfl) (by kernel_rfl) (fun R K v => by obtain ⟨x0, x1, x2, x3, x4, x5, x6, x7, x8, x9⟩ := v; exact S64_0_ok fuel R K x0 x1 x2 x3 x4 x5 x6 x7 x8 x9) hs h
    · cases h
  · cases h
noncomputable def J64 (fuel : Nat) (i : Nat) : Option Ev.Blk := Ev.look i [(100000, B64_0 fuel)]
noncomputable def F_ref12_Valid (fuel : Nat) (x0 : Int) (x1 : Int) (x2 : Int) (x3 : (List Int)) (x4 : (List Bool)) (x5 : (List Int)) (k0 : (Bool) → Option Ans) : Option Ans :=
  bif Decidable.decide (x0 < (0 : Int)) then
   k0 Bool.false
  else
   bif Decidable.decide (x0 > (10000 : Int)) then
    k0 Bool.false
   else
    bif Decidable.decide (x1 < (0 : Int)) then
     k0 Bool.false
    else
     bif Decidable.decide (x1 > (15 : Int)) then
      k0 Bool.false
     else
      bif Decidable.decide (x2 < (0 : Int)) then
       k0 Bool.false
      else
       bif Decidable.decide (x2 > (1000 : Int)) then
        k0 Bool.false
       else
        bif Decidable.decide ((↑x3.length : Int) > (20 : Int)) then
         k0 Bool.false
        else
         bif (↑x4.length : Int) != Go.IntKind.i64.wrap ((↑x3.length : Int) + (1 : Int)) then
          k0 Bool.false
         else
          bif Decidable.decide ((↑x5.length : Int) > (20000 : Int)) then
           k0 Bool.false
          else
           (L_ref12_Valid_0 fuel ((-1 : Int), x3, (↑x3.length : Int), (0 : Int), x0, x1, x2, x3, x4, x5)
             (fun ret0_0 =>
               k0 ret0_0)
             (fun () =>
               k0 Bool.true))
abbrev YF64 : Type := (Int) → (Int) → (Int) → ((List Int)) → ((List Bool)) → ((List Int)) → ((Bool) → Option Ans) → Option Ans
theorem F64_eq (fuel : Nat) (x0 : Int) (x1 : Int) (x2 : Int) (x3 : (List Int)) (x4 : (List Bool)) (x5 : (List Int)) (k : Ev.Cont) : evalFn tab (G64 fuel) (J64 fuel) kp64 fuel Try.f64 [.agg [.int .i64 x0, .int .i64 x1, .int .i64 x2, .sl (.int .i64) x3, .sl .bool x4, .sl (.int .u8) x5]] [] k = F_ref12_Valid fuel x0 x1 x2 x3 x4 x5 (fun r => match r with | r0 => k (.c (.bool r0), [])) := by
  kernel_rfl
theorem hG64 (fuel : Nat) : GOK Try.prog (G64 fuel) :=
  gok_nil
theorem B64_0_blk (fuel : Nat) : BlkOK Try.prog Try.f64.ntmps (.block 0 (.loop (bodyOf 0 Try.f64))) (B64_0 fuel) :=
  blk_of (blk_of_code tab_ok (hG64 fuel) mixed (J := J64_0 fuel) (kp := kp64) (fuel := fuel) (by kernel_rfl) (fun q hq => by
    rw [(by kernel_rfl : obl (J64_0 fuel) (.block 0 (.loop (bodyOf 0 Try.f64))) = [])] at hq
    cases hq)) (B64_0_ok fuel)
theorem fok64 (fuel : Nat) : FnOK Try.prog 64 (evalFn tab (G64 fuel) (J64 fuel) kp64 fuel Try.f64) :=
  fn_ok tab_ok (hG64 fuel) mixed Try.func64 (c := (Try.f64.body).getD .skip) rfl (fun q hq => by
    rw [(by kernel_rfl : obl (J64 fuel) ((Try.f64.body).getD .skip) = [(.block 0 (.loop (bodyOf 0 Try.f64)), B64_0 fuel)])] at hq
    simp only [List.mem_cons, List.not_mem_nil, or_false] at hq
    subst hq
    · exact B64_0_blk fuel)
noncomputable def mt64 : List Ev.SV → List Ev.Ob → Bool := fun args objs => match args, objs with
  | [.agg [.int .i64 _, .int .i64 _, .int .i64 _, .sl (.int .i64) _, .sl .bool _, .sl (.int .u8) _]], [] => true
  | _, _ => false
noncomputable def spg64 (F : YF64) : Ev.Spec := fun args objs k => match args, objs with
  | [.agg [.int .i64 x0, .int .i64 x1, .int .i64 x2, .sl (.int .i64) x3, .sl .bool x4, .sl (.int .u8) x5]], [] => bif true then F x0 x1 x2 x3 x4 x5 (fun r => match r with | r0 => k (.c (.bool r0), [])) else none
  | _, _ => none
noncomputable def spec64 (fuel : Nat) : Ev.Spec := spg64 (F_ref12_Valid fuel)
theorem ok64 (fuel : Nat) : FnOK Try.prog 64 (spec64 fuel) := by
  intro args objs kk r h
  unfold spec64 spg64 at h
  split at h
  · skip
    obtain ⟨hb, h⟩ := cond_some' h
    simp only [Bool.and_eq_true, Nat.beq_eq, decide_eq_true_eq] at hb
    clear hb
    exact fok64 fuel _ _ kk r ((F64_eq fuel _ _ _ _ _ _ kk).trans h)
  · cases h
end Go.Proofs.Ytihfgpfofmjbaaa

set_option linter.unusedVariables false
set_option linter.unusedSimpArgs false
set_option maxRecDepth 100000
set_option maxHeartbeats 2000000
namespace Go.Proofs.Ytihfgpfofmjbaaa
open Go Ev
def kp194 (i : Nat) : Option (List Nat) := Ev.look i [(2, [1, 7, 8, 9]), (100000, []), (400000, [4])]
noncomputable def Gg194 (f : Nat) : Option Ev.Spec := Ev.look f []
noncomputable def G194 (fuel : Nat) : Nat → Option Ev.Spec := Gg194
noncomputable def S_ref12_find_0 (fuel : Nat) (v : Int × (List (Int × (Int × (Int × ((List Int) × ((List Bool) × (List Int))))))) × Int × Int) (c : (Int × (List (Int × (Int × (Int × ((List Int) × ((List Bool) × (List Int))))))) × Int × Int) → Option Ans) (B : (Int → Option Ans) × (Unit → Option Ans)) : Option Ans := match v, B with
  | (x0, x1, x2, x3), (ret, b) =>
   bif Decidable.decide (x3 < x2) then
      bif Decidable.decide ((0 : Int) ≤ x3 ∧ x3 < (↑x1.length : Int)) then
      bif (x1.getD x3.toNat ((0 : Int), (0 : Int), (0 : Int), [], [], [])).fst == x0 then
        ret x3
       else
        c (x0, x1, x2, Go.IntKind.i64.wrap (x3 + (1 : Int)))
      else none
     else
      b ()
noncomputable def L_ref12_find_0 (fuel : Nat) (v : Int × (List (Int × (Int × (Int × ((List Int) × ((List Bool) × (List Int))))))) × Int × Int) (ret : (Int → Option Ans)) (b : (Unit → Option Ans)) : Option Ans := iter (S_ref12_find_0 fuel) fuel v (ret, b)
noncomputable def J194_0 (fuel : Nat) (i : Nat) : Option Ev.Blk := Ev.look i []
noncomputable def T194_0 (v : Int × (List (Int × (Int × (Int × ((List Int) × ((List Bool) × (List Int))))))) × Int × Int) : Ev.St := match v with | (x0, x1, x2, x3) => ⟨[(1, .c (.int .i64 x0)), (7, .c (.sl (.pair (.int .i64) (.pair (.int .i64) (.pair (.int .i64) (.pair (.sl (.int .i64)) (.pair (.sl .bool) (.sl (.int .u8))))))) x1)), (8, .c (.int .i64 x2)), (9, .c (.int .i64 x3))], [], 0, 0⟩
noncomputable def E194_0 (K : Ev.Ex → Ev.St → Option Ans) : (Int → Option Ans) × (Unit → Option Ans) := ((fun v => match v with | x0 => K .ret ⟨[(4, .c (.int .i64 x0))], [], 0, 0⟩), (fun v => match v with | () => K .normal ⟨[], [], 0, 0⟩))
theorem S194_0_ok (fuel : Nat) (R : Ev.St → Option Ans) (K : Ev.Ex → Ev.St → Option Ans) (x0 : Int) (x1 : (List (Int × (Int × (Int × ((List Int) × ((List Bool) × (List Int)))))))) (x2 : Int) (x3 : Int) : evalCode tab (G194 fuel) (J194_0 fuel) kp194 fuel (bodyOf 0 Try.f194) (T194_0 (x0, x1, x2, x3)) (lc kp194 2 0 R K) = S_ref12_find_0 fuel (x0, x1, x2, x3) (fun v => R (T194_0 v)) (E194_0 K) := by
  kernel_rfl
noncomputable def B194_0 (fuel : Nat) : Ev.Blk := fun st K => match canonO (kp194 2) st with
  | some s => (match s with
    | ⟨[(q0, .c (.int .i64 x0)), (q1, .c (.sl (.pair (.int .i64) (.pair (.int .i64) (.pair (.int .i64) (.pair (.sl (.int .i64)) (.pair (.sl .bool) (.sl (.int .u8))))))) x1)), (q2, .c (.int .i64 x2)), (q3, .c (.int .i64 x3))], [], q4, q5⟩ => bif Nat.beq q0 1 && Nat.beq q1 7 && Nat.beq q2 8 && Nat.beq q3 9 && Nat.beq q4 0 && Nat.beq q5 0 then iter (S_ref12_find_0 fuel) fuel (x0, x1, x2, x3) (E194_0 K) else none
    | _ => none)
  | none => none
theorem B194_0_ok (fuel : Nat) (st : Ev.St) (K : Ev.Ex → Ev.St → Option Ans) (r : Ans) (h : B194_0 fuel st K = some r) : evalCode tab (G194 fuel) (J194_0 fuel) kp194 fuel (.block 0 (.loop (bodyOf 0 Try.f194))) st K = some r := by
  unfold B194_0 at h
  split at h
  · rename_i s hs
    split at h
    · skip
      obtain ⟨hb, h⟩ := cond_some' h
      simp only [Bool.and_eq_true, Nat.beq_eq, decide_eq_true_eq] at hb
      obtain ⟨⟨⟨⟨⟨rfl, rfl⟩, rfl⟩, rfl⟩, rfl⟩, rfl⟩ := hb
      exact blk_loop (S := T194_0) (ks := E194_0) (step := S_ref12_find_0 fuel) (v := (_, _, _, _)) (by kernel_rfl) (by kernel_rfl) (fun R K v => by obtain ⟨x0, x1, x2, x3⟩ := v; exact S194_0_ok fuel R K x0 x1 x2 x3) hs h
    · cases h
  · cases h
noncomputable def J194 (fuel : Nat) (i : Nat) : Option Ev.Blk := Ev.look i [(100000, B194_0 fuel)]
noncomputable def F_ref12_find (fuel : Nat) (x0 : (List (Int × Int × Int × (List Int) × (List Bool) × (List Int)))) (x1 : Int) (k0 : (Int) → Option Ans) : Option Ans :=
  (L_ref12_find_0 fuel (x1, x0, (↑x0.length : Int), (0 : Int))
    (fun ret0_0 =>
      k0 ret0_0)
    (fun () =>
      k0 ((-1 : Int))))
abbrev YF194 : Type := ((List (Int × Int × Int × (List Int) × (List Bool) × (List Int)))) → (Int) → ((Int) → Option Ans) → Option Ans
theorem F194_eq (fuel : Nat) (x0 : (List (Int × Int × Int × (List Int) × (List Bool) × (List Int)))) (x1 : Int) (k : Ev.Cont) : evalFn tab (G194 fuel) (J194 fuel) kp194 fuel Try.f194 [.c (.sl (.pair (.int .i64) (.pair (.int .i64) (.pair (.int .i64) (.pair (.sl (.int .i64)) (.pair (.sl .bool) (.sl (.int .u8))))))) x0), .c (.int .i64 x1)] [] k = F_ref12_find fuel x0 x1 (fun r => match r with | r0 => k (.c (.int .i64 r0), [])) := by
  kernel_rfl
theorem hG194 (fuel : Nat) : GOK Try.prog (G194 fuel) :=
  gok_nil
theorem B194_0_blk (fuel : Nat) : BlkOK Try.prog Try.f194.ntmps (.block 0 (.loop (bodyOf 0 Try.f194))) (B194_0 fuel) :=
  blk_of (blk_of_code tab_ok (hG194 fuel) mixed (J := J194_0 fuel) (kp := kp194) (fuel := fuel) (by kernel_rfl) (fun q hq => by
    rw [(by kernel_rfl : obl (J194_0 fuel) (.block 0 (.loop (bodyOf 0 Try.f194))) = [])] at hq
    cases hq)) (B194_0_ok fuel)
theorem fok194 (fuel : Nat) : FnOK Try.prog 194 (evalFn tab (G194 fuel) (J194 fuel) kp194 fuel Try.f194) :=
  fn_ok tab_ok (hG194 fuel) mixed Try.func194 (c := (Try.f194.body).getD .skip) rfl (fun q hq => by
    rw [(by kernel_rfl : obl (J194 fuel) ((Try.f194.body).getD .skip) = [(.block 0 (.loop (bodyOf 0 Try.f194)), B194_0 fuel)])] at hq
    simp only [List.mem_cons, List.not_mem_nil, or_false] at hq
    subst hq
    · exact B194_0_blk fuel)
noncomputable def mt194 : List Ev.SV → List Ev.Ob → Bool := fun args objs => match args, objs with
  | [.c (.sl (.pair (.int .i64) (.pair (.int .i64) (.pair (.int .i64) (.pair (.sl (.int .i64)) (.pair (.sl .bool) (.sl (.int .u8))))))) _), .c (.int .i64 _)], [] => true
  | _, _ => false
noncomputable def spg194 (F : YF194) : Ev.Spec := fun args objs k => match args, objs with
  | [.c (.sl (.pair (.int .i64) (.pair (.int .i64) (.pair (.int .i64) (.pair (.sl (.int .i64)) (.pair (.sl .bool) (.sl (.int .u8))))))) x0), .c (.int .i64 x1)], [] => bif true then F x0 x1 (fun r => match r with | r0 => k (.c (.int .i64 r0), [])) else none
  | _, _ => none
noncomputable def spec194 (fuel : Nat) : Ev.Spec := spg194 (F_ref12_find fuel)
theorem ok194 (fuel : Nat) : FnOK Try.prog 194 (spec194 fuel) := by
  intro args objs kk r h
  unfold spec194 spg194 at h
  split at h
  · skip
    obtain ⟨hb, h⟩ := cond_some' h
    simp only [Bool.and_eq_true, Nat.beq_eq, decide_eq_true_eq] at hb
    clear hb
    exact fok194 fuel _ _ kk r ((F194_eq fuel _ _ kk).trans h)
  · cases h
end Go.Proofs.Ytihfgpfofmjbaaa

set_option linter.unusedVariables false
set_option linter.unusedSimpArgs false
set_option maxRecDepth 100000
set_option maxHeartbeats 2000000
namespace Go.Proofs.Ytihfgpfofmjbaaa
open Go Ev
def kp140 (i : Nat) : Option (List Nat) := Ev.look i [(3, [0, 4, 13, 14, 15]), (8, [0, 4, 5, 6, 13, 14, 15, 40, 41, 42]), (100000, [4]), (100002, [0, 4, 5, 6, 13, 14, 15]), (200005, [0, 6]), (200011, [0, 4, 6]), (400000, [2, 3]), (400002, [2, 3])]
noncomputable def Gg140 (f64 : YF64) (f194 : YF194) (f : Nat) : Option Ev.Spec := Ev.look f [(64, spg64 f64), (194, spg194 f194)]
noncomputable def G140 (fuel : Nat) : Nat → Option Ev.Spec := Gg140 (F_ref12_Valid fuel) (F_ref12_find fuel)
noncomputable def S_ref12_kept_2 (fuel : Nat) (v : (List (Int × (Int × (Int × ((List Int) × ((List Bool) × (List Int))))))) × Int × (List (Int × (Int × (Int × ((List Int) × ((List Bool) × (List Int))))))) × Int × Int × (List Int) × Int × Int × (List Bool) × Int × Int × Int × (List Int) × (List Bool) × (List Int)) (c : ((List (Int × (Int × (Int × ((List Int) × ((List Bool) × (List Int))))))) × Int × (List (Int × (Int × (Int × ((List Int) × ((List Bool) × (List Int))))))) × Int × Int × (List Int) × Int × Int × (List Bool) × Int × Int × Int × (List Int) × (List Bool) × (List Int)) → Option Ans) (B : (Int × (List Bool) → Option Ans) × ((List (Int × (Int × (Int × ((List Int) × ((List Bool) × (List Int))))))) × Int × (List (Int × (Int × (Int × ((List Int) × ((List Bool) × (List Int))))))) × Int × Int × (List Bool) × Int × Int × Int × (List Int) × (List Bool) × (List Int) → Option Ans)) : Option Ans := match v, B with
  | (x0, x1, x2, x3, x4, x5, x6, x7, x8, x9, x10, x11, x12, x13, x14), (ret, b) =>
   bif Decidable.decide (x7 < x6) then
      bif Decidable.decide ((0 : Int) ≤ x7 ∧ x7 < (↑x5.length : Int)) then
      bif Decidable.decide ((0 : Int) ≤ Ev.loOf Option.none ∧ Ev.loOf Option.none ≤ Ev.hiOf (Option.some x1) (↑x0.length : Int) ∧ Ev.hiOf (Option.some x1) (↑x0.length : Int) ≤ (↑x0.length : Int)) then
       (F_ref12_find fuel (List.take (Ev.hiOf (Option.some x1) (↑x0.length : Int) - Ev.loOf Option.none).toNat (List.drop (Ev.loOf Option.none).toNat x0)) (x5.getD x7.toNat (0 : Int))
          (fun y5 =>
            bif Decidable.decide (y5 < (0 : Int)) then
             ret (x1, [])
            else
             bif Decidable.decide ((0 : Int) ≤ y5 ∧ y5 < (↑x8.length : Int)) then
             bif !x8.getD y5.toNat Bool.false then
               ret (x1, [])
              else
               bif Decidable.decide ((0 : Int) ≤ y5 ∧ y5 < (↑x0.length : Int)) then
               bif (x0.getD y5.toNat ((0 : Int), (0 : Int), (0 : Int), [], [], [])).snd.snd.fst != (0 : Int) then
                 bif Decidable.decide ((0 : Int) ≤ y5 ∧ y5 < (↑x0.length : Int)) then
                 bif (x0.getD y5.toNat ((0 : Int), (0 : Int), (0 : Int), [], [], [])).snd.snd.fst != x11 then
                   ret (x1, [])
                  else
                   bif Decidable.decide ((0 : Int) ≤ x7 ∧ x7 < (↑x13.length : Int)) then
                   bif Decidable.decide ((0 : Int) ≤ y5 ∧ y5 < (↑x8.length : Int)) then
                    c (x0, x1, x2, x3, x4, x5, x6, Go.IntKind.i64.wrap (x7 + (1 : Int)), x8.set y5.toNat (x13.getD x7.toNat Bool.false), x9, x10, x11, x12, x13, x14)
                    else none
                   else none
                 else none
                else
                 bif Decidable.decide ((0 : Int) ≤ x7 ∧ x7 < (↑x13.length : Int)) then
                 bif Decidable.decide ((0 : Int) ≤ y5 ∧ y5 < (↑x8.length : Int)) then
                  c (x0, x1, x2, x3, x4, x5, x6, Go.IntKind.i64.wrap (x7 + (1 : Int)), x8.set y5.toNat (x13.getD x7.toNat Bool.false), x9, x10, x11, x12, x13, x14)
                  else none
                 else none
               else none
             else none))
       else none
      else none
     else
      b (x0, x1, x2, x3, x4, x8, x9, x10, x11, x12, x13, x14)
noncomputable def L_ref12_kept_2 (fuel : Nat) (v : (List (Int × (Int × (Int × ((List Int) × ((List Bool) × (List Int))))))) × Int × (List (Int × (Int × (Int × ((List Int) × ((List Bool) × (List Int))))))) × Int × Int × (List Int) × Int × Int × (List Bool) × Int × Int × Int × (List Int) × (List Bool) × (List Int)) (ret : (Int × (List Bool) → Option Ans)) (b : ((List (Int × (Int × (Int × ((List Int) × ((List Bool) × (List Int))))))) × Int × (List (Int × (Int × (Int × ((List Int) × ((List Bool) × (List Int))))))) × Int × Int × (List Bool) × Int × Int × Int × (List Int) × (List Bool) × (List Int) → Option Ans)) : Option Ans := iter (S_ref12_kept_2 fuel) fuel v (ret, b)
noncomputable def J140_2 (fuel : Nat) (i : Nat) : Option Ev.Blk := Ev.look i []
noncomputable def T140_2 (v : (List (Int × (Int × (Int × ((List Int) × ((List Bool) × (List Int))))))) × Int × (List (Int × (Int × (Int × ((List Int) × ((List Bool) × (List Int))))))) × Int × Int × (List Int) × Int × Int × (List Bool) × Int × Int × Int × (List Int) × (List Bool) × (List Int)) : Ev.St := match v with | (x0, x1, x2, x3, x4, x5, x6, x7, x8, x9, x10, x11, x12, x13, x14) => ⟨[(0, .c (.sl (.pair (.int .i64) (.pair (.int .i64) (.pair (.int .i64) (.pair (.sl (.int .i64)) (.pair (.sl .bool) (.sl (.int .u8))))))) x0)), (4, .c (.own 0)), (5, .c (.int .i64 x1)), (6, .c (.ptr 1 0)), (13, .c (.sl (.pair (.int .i64) (.pair (.int .i64) (.pair (.int .i64) (.pair (.sl (.int .i64)) (.pair (.sl .bool) (.sl (.int .u8))))))) x2)), (14, .c (.int .i64 x3)), (15, .c (.int .i64 x4)), (40, .c (.sl (.int .i64) x5)), (41, .c (.int .i64 x6)), (42, .c (.int .i64 x7))], [(0, .vec 4 .bool x8 true), (1, .cells 103 [.int .i64 x9, .int .i64 x10, .int .i64 x11, .sl (.int .i64) x12, .sl .bool x13, .sl (.int .u8) x14])], 2, 0⟩
noncomputable def E140_2 (K : Ev.Ex → Ev.St → Option Ans) : (Int × (List Bool) → Option Ans) × ((List (Int × (Int × (Int × ((List Int) × ((List Bool) × (List Int))))))) × Int × (List (Int × (Int × (Int × ((List Int) × ((List Bool) × (List Int))))))) × Int × Int × (List Bool) × Int × Int × Int × (List Int) × (List Bool) × (List Int) → Option Ans) := ((fun v => match v with | (x0, x1) => K .ret ⟨[(2, .c (.own 0)), (3, .c (.int .i64 x0))], [(0, .vec 4 .bool x1 true)], 1, 0⟩), (fun v => match v with | (x0, x1, x2, x3, x4, x5, x6, x7, x8, x9, x10, x11) => K .normal ⟨[(0, .c (.sl (.pair (.int .i64) (.pair (.int .i64) (.pair (.int .i64) (.pair (.sl (.int .i64)) (.pair (.sl .bool) (.sl (.int .u8))))))) x0)), (4, .c (.own 0)), (5, .c (.int .i64 x1)), (6, .c (.ptr 1 0)), (13, .c (.sl (.pair (.int .i64) (.pair (.int .i64) (.pair (.int .i64) (.pair (.sl (.int .i64)) (.pair (.sl .bool) (.sl (.int .u8))))))) x2)), (14, .c (.int .i64 x3)), (15, .c (.int .i64 x4))], [(0, .vec 4 .bool x5 true), (1, .cells 103 [.int .i64 x6, .int .i64 x7, .int .i64 x8, .sl (.int .i64) x9, .sl .bool x10, .sl (.int .u8) x11])], 2, 0⟩))
theorem S140_2_okg (fuel : Nat) (f64 : YF64) (f194 : YF194) (R : Ev.St → Option Ans) (K : Ev.Ex → Ev.St → Option Ans) (x0 : (List (Int × (Int × (Int × ((List Int) × ((List Bool) × (List Int)))))))) (x1 : Int) (x2 : (List (Int × (Int × (Int × ((List Int) × ((List Bool) × (List Int)))))))) (x3 : Int) (x4 : Int) (x5 : (List Int)) (x6 : Int) (x7 : Int) (x8 : (List Bool)) (x9 : Int) (x10 : Int) (x11 : Int) (x12 : (List Int)) (x13 : (List Bool)) (x14 : (List Int)) : evalCode tab (Gg140 f64 f194) (J140_2 fuel) kp140 fuel (bodyOf 2 Try.f140) (T140_2 (x0, x1, x2, x3, x4, x5, x6, x7, x8, x9, x10, x11, x12, x13, x14)) (lc kp140 8 2 R K) = (fun (c : ((List (Int × (Int × (Int × ((List Int) × ((List Bool) × (List Int))))))) × Int × (List (Int × (Int × (Int × ((List Int) × ((List Bool) × (List Int))))))) × Int × Int × (List Int) × Int × Int × (List Bool) × Int × Int × Int × (List Int) × (List Bool) × (List Int)) → Option Ans) (B : (Int × (List Bool) → Option Ans) × ((List (Int × (Int × (Int × ((List Int) × ((List Bool) × (List Int))))))) × Int × (List (Int × (Int × (Int × ((List Int) × ((List Bool) × (List Int))))))) × Int × Int × (List Bool) × Int × Int × Int × (List Int) × (List Bool) × (List Int) → Option Ans)) => match B with
  | (ret, b) =>
   bif Decidable.decide (x7 < x6) then
      bif Decidable.decide ((0 : Int) ≤ x7 ∧ x7 < (↑x5.length : Int)) then
      bif Decidable.decide ((0 : Int) ≤ Ev.loOf Option.none ∧ Ev.loOf Option.none ≤ Ev.hiOf (Option.some x1) (↑x0.length : Int) ∧ Ev.hiOf (Option.some x1) (↑x0.length : Int) ≤ (↑x0.length : Int)) then
       (f194 (List.take (Ev.hiOf (Option.some x1) (↑x0.length : Int) - Ev.loOf Option.none).toNat (List.drop (Ev.loOf Option.none).toNat x0)) (x5.getD x7.toNat (0 : Int))
          (fun y5 =>
            bif Decidable.decide (y5 < (0 : Int)) then
             ret (x1, [])
            else
             bif Decidable.decide ((0 : Int) ≤ y5 ∧ y5 < (↑x8.length : Int)) then
             bif !x8.getD y5.toNat Bool.false then
               ret (x1, [])
              else
               bif Decidable.decide ((0 : Int) ≤ y5 ∧ y5 < (↑x0.length : Int)) then
               bif (x0.getD y5.toNat ((0 : Int), (0 : Int), (0 : Int), [], [], [])).snd.snd.fst != (0 : Int) then
                 bif Decidable.decide ((0 : Int) ≤ y5 ∧ y5 < (↑x0.length : Int)) then
                 bif (x0.getD y5.toNat ((0 : Int), (0 : Int), (0 : Int), [], [], [])).snd.snd.fst != x11 then
                   ret (x1, [])
                  else
                   bif Decidable.decide ((0 : Int) ≤ x7 ∧ x7 < (↑x13.length : Int)) then
                   bif Decidable.decide ((0 : Int) ≤ y5 ∧ y5 < (↑x8.length : Int)) then
                    c (x0, x1, x2, x3, x4, x5, x6, Go.IntKind.i64.wrap (x7 + (1 : Int)), x8.set y5.toNat (x13.getD x7.toNat Bool.false), x9, x10, x11, x12, x13, x14)
                    else none
                   else none
                 else none
                else
                 bif Decidable.decide ((0 : Int) ≤ x7 ∧ x7 < (↑x13.length : Int)) then
                 bif Decidable.decide ((0 : Int) ≤ y5 ∧ y5 < (↑x8.length : Int)) then
                  c (x0, x1, x2, x3, x4, x5, x6, Go.IntKind.i64.wrap (x7 + (1 : Int)), x8.set y5.toNat (x13.getD x7.toNat Bool.false), x9, x10, x11, x12, x13, x14)
                  else none
                 else none
               else none
             else none))
       else none
      else none
     else
      b (x0, x1, x2, x3, x4, x8, x9, x10, x11, x12, x13, x14)) (fun v => R (T140_2 v)) (E140_2 K) := by
  kernel_rfl
theorem S140_2_ok (fuel : Nat) (R : Ev.St → Option Ans) (K : Ev.Ex → Ev.St → Option Ans) (x0 : (List (Int × (Int × (Int × ((List Int) × ((List Bool) × (List Int)))))))) (x1 : Int) (x2 : (List (Int × (Int × (Int × ((List Int) × ((List Bool) × (List Int)))))))) (x3 : Int) (x4 : Int) (x5 : (List Int)) (x6 : Int) (x7 : Int) (x8 : (List Bool)) (x9 : Int) (x10 : Int) (x11 : Int) (x12 : (List Int)) (x13 : (List Bool)) (x14 : (List Int)) : evalCode tab (G140 fuel) (J140_2 fuel) kp140 fuel (bodyOf 2 Try.f140) (T140_2 (x0, x1, x2, x3, x4, x5, x6, x7, x8, x9, x10, x11, x12, x13, x14)) (lc kp140 8 2 R K) = S_ref12_kept_2 fuel (x0, x1, x2, x3, x4, x5, x6, x7, x8, x9, x10, x11, x12, x13, x14) (fun v => R (T140_2 v)) (E140_2 K) :=
  S140_2_okg fuel (F_ref12_Valid fuel) (F_ref12_find fuel) R K x0 x1 x2 x3 x4 x5 x6 x7 x8 x9 x10 x11 x12 x13 x14
noncomputable def B140_2 (fuel : Nat) : Ev.Blk := fun st K => match canonO (kp140 8) st with
  | some s => (match s with
    | ⟨[(q0, .c (.sl (.pair (.int .i64) (.pair (.int .i64) (.pair (.int .i64) (.pair (.sl (.int .i64)) (.pair (.sl .bool) (.sl (.int .u8))))))) x0)), (q1, .c (.own q2)), (q3, .c (.int .i64 x1)), (q4, .c (.ptr q5 q6)), (q7, .c (.sl (.pair (.int .i64) (.pair (.int .i64) (.pair (.int .i64) (.pair (.sl (.int .i64)) (.pair (.sl .bool) (.sl (.int .u8))))))) x2)), (q8, .c (.int .i64 x3)), (q9, .c (.int .i64 x4)), (q10, .c (.sl (.int .i64) x5)), (q11, .c (.int .i64 x6)), (q12, .c (.int .i64 x7))], [(q13, .vec q14 .bool x8 true), (q15, .cells q16 [.int .i64 x9, .int .i64 x10, .int .i64 x11, .sl (.int .i64) x12, .sl .bool x13, .sl (.int .u8) x14])], q17, q18⟩ => bif Nat.beq q0 0 && Nat.beq q1 4 && Nat.beq q2 0 && Nat.beq q3 5 && Nat.beq q4 6 && Nat.beq q5 1 && Nat.beq q6 0 && Nat.beq q7 13 && Nat.beq q8 14 && Nat.beq q9 15 && Nat.beq q10 40 && Nat.beq q11 41 && Nat.beq q12 42 && Nat.beq q13 0 && Nat.beq q14 4 && Nat.beq q15 1 && Nat.beq q16 103 && Nat.beq q17 2 && Nat.beq q18 0 then iter (S_ref12_kept_2 fuel) fuel (x0, x1, x2, x3, x4, x5, x6, x7, x8, x9, x10, x11, x12, x13, x14) (E140_2 K) else none
    | _ => none)
  | none => none
theorem B140_2_ok (fuel : Nat) (st : Ev.St) (K : Ev.Ex → Ev.St → Option Ans) (r : Ans) (h : B140_2 fuel st K = some r) : evalCode tab (G140 fuel) (J140_2 fuel) kp140 fuel (.block 2 (.loop (bodyOf 2 Try.f140))) st K = some r := by
  unfold B140_2 at h
  split at h
  · rename_i s hs
    split at h
    · skip
      obtain ⟨hb, h⟩ := cond_some' h
      simp only [Bool.and_eq_true, Nat.beq_eq, decide_eq_true_eq] at hb
      obtain ⟨⟨⟨⟨⟨⟨⟨⟨⟨⟨⟨⟨⟨⟨⟨⟨⟨⟨rfl, rfl⟩, rfl⟩, rfl⟩, rfl⟩, rfl⟩, rfl⟩, rfl⟩, rfl⟩, rfl⟩, rfl⟩, rfl⟩, rfl⟩, rfl⟩, rfl⟩, rfl⟩, rfl⟩, rfl⟩, rfl⟩ := hb
      exact blk_loop (S := T140_2) (ks := E140_2) (step := S_ref12_kept_2 fuel) (v := (_, _, _, _, _, _, _, _, _, _, _, _, _, _, _)) (by kernel_rfl) (by kernel_rfl) (fun R K v => by obtain ⟨x0, x1, x2, x3, x4, x5, x6, x7, x8, x9, x10, x11, x12, x13, x14⟩ := v; exact S140_2_ok fuel R K x0 x1 x2 x3 x4 x5 x6 x7 x8 x9 x10 x11 x12 x13 x14) hs h
    · cases h
  · cases h
noncomputable def S_ref12_kept_0 (fuel : Nat) (v : (List (Int × (Int × (Int × ((List Int) × ((List Bool) × (List Int))))))) × (List (Int × (Int × (Int × ((List Int) × ((List Bool) × (List Int))))))) × Int × Int × (List Bool)) (c : ((List (Int × (Int × (Int × ((List Int) × ((List Bool) × (List Int))))))) × (List (Int × (Int × (Int × ((List Int) × ((List Bool) × (List Int))))))) × Int × Int × (List Bool)) → Option Ans) (B : (Int × (List Bool) → Option Ans) × ((List Bool) → Option Ans)) : Option Ans := match v, B with
  | (x0, x1, x2, x3, x4), (ret, b) =>
   bif Decidable.decide (x3 < x2) then
      bif Decidable.decide ((0 : Int) ≤ x3 ∧ x3 < (↑x1.length : Int)) then
      (F_ref12_Valid fuel ((x1.getD x3.toNat ((0 : Int), (0 : Int), (0 : Int), [], [], [])).fst) ((x1.getD x3.toNat ((0 : Int), (0 : Int), (0 : Int), [], [], [])).snd.fst) ((x1.getD x3.toNat ((0 : Int), (0 : Int), (0 : Int), [], [], [])).snd.snd.fst) ((x1.getD x3.toNat ((0 : Int), (0 : Int), (0 : Int), [], [], [])).snd.snd.snd.fst) ((x1.getD x3.toNat ((0 : Int), (0 : Int), (0 : Int), [], [], [])).snd.snd.snd.snd.fst) ((x1.getD x3.toNat ((0 : Int), (0 : Int), (0 : Int), [], [], [])).snd.snd.snd.snd.snd)
         (fun y4 =>
           bif !y4 then
            ret (x3, [])
           else
            bif Decidable.decide (x3 > (0 : Int)) then
             bif Decidable.decide ((0 : Int) ≤ Go.IntKind.i64.wrap (x3 - (1 : Int)) ∧ Go.IntKind.i64.wrap (x3 - (1 : Int)) < (↑x0.length : Int)) then
             bif Decidable.decide ((x1.getD x3.toNat ((0 : Int), (0 : Int), (0 : Int), [], [], [])).fst ≤ (x0.getD (Go.IntKind.i64.wrap (x3 - (1 : Int))).toNat ((0 : Int), (0 : Int), (0 : Int), [], [], [])).fst) then
               ret (x3, [])
              else
               (L_ref12_kept_2 fuel (x0, x3, x1, x2, x3, (x1.getD x3.toNat ((0 : Int), (0 : Int), (0 : Int), [], [], [])).snd.snd.snd.fst, (↑(List.length (x1.getD x3.toNat ((0 : Int), (0 : Int), (0 : Int), [], [], [])).snd.snd.snd.fst) : Int), (0 : Int), x4, (x1.getD x3.toNat ((0 : Int), (0 : Int), (0 : Int), [], [], [])).fst, (x1.getD x3.toNat ((0 : Int), (0 : Int), (0 : Int), [], [], [])).snd.fst, (x1.getD x3.toNat ((0 : Int), (0 : Int), (0 : Int), [], [], [])).snd.snd.fst, (x1.getD x3.toNat ((0 : Int), (0 : Int), (0 : Int), [], [], [])).snd.snd.snd.fst, (x1.getD x3.toNat ((0 : Int), (0 : Int), (0 : Int), [], [], [])).snd.snd.snd.snd.fst, (x1.getD x3.toNat ((0 : Int), (0 : Int), (0 : Int), [], [], [])).snd.snd.snd.snd.snd)
                 (fun (ret2_0, ret2_1) =>
                   ret (ret2_0, ret2_1))
                 (fun (b2_0, b2_1, b2_2, b2_3, b2_4, b2_5, b2_6, b2_7, b2_8, b2_9, b2_10, b2_11) =>
                   bif Decidable.decide ((0 : Int) ≤ (↑b2_9.length : Int) ∧ (↑b2_9.length : Int) < (↑b2_10.length : Int)) then
                   bif Decidable.decide ((0 : Int) ≤ b2_1 ∧ b2_1 < (↑b2_5.length : Int)) then
                    c (b2_0, b2_2, b2_3, Go.IntKind.i64.wrap (b2_4 + (1 : Int)), b2_5.set b2_1.toNat (b2_10.getD (↑b2_9.length : Int).toNat Bool.false))
                    else none
                   else none))
             else none
            else
             (L_ref12_kept_2 fuel (x0, x3, x1, x2, x3, (x1.getD x3.toNat ((0 : Int), (0 : Int), (0 : Int), [], [], [])).snd.snd.snd.fst, (↑(List.length (x1.getD x3.toNat ((0 : Int), (0 : Int), (0 : Int), [], [], [])).snd.snd.snd.fst) : Int), (0 : Int), x4, (x1.getD x3.toNat ((0 : Int), (0 : Int), (0 : Int), [], [], [])).fst, (x1.getD x3.toNat ((0 : Int), (0 : Int), (0 : Int), [], [], [])).snd.fst, (x1.getD x3.toNat ((0 : Int), (0 : Int), (0 : Int), [], [], [])).snd.snd.fst, (x1.getD x3.toNat ((0 : Int), (0 : Int), (0 : Int), [], [], [])).snd.snd.snd.fst, (x1.getD x3.toNat ((0 : Int), (0 : Int), (0 : Int), [], [], [])).snd.snd.snd.snd.fst, (x1.getD x3.toNat ((0 : Int), (0 : Int), (0 : Int), [], [], [])).snd.snd.snd.snd.snd)
               (fun (ret2_0, ret2_1) =>
                 ret (ret2_0, ret2_1))
               (fun (b2_0, b2_1, b2_2, b2_3, b2_4, b2_5, b2_6, b2_7, b2_8, b2_9, b2_10, b2_11) =>
                 bif Decidable.decide ((0 : Int) ≤ (↑b2_9.length : Int) ∧ (↑b2_9.length : Int) < (↑b2_10.length : Int)) then
                 bif Decidable.decide ((0 : Int) ≤ b2_1 ∧ b2_1 < (↑b2_5.length : Int)) then
                  c (b2_0, b2_2, b2_3, Go.IntKind.i64.wrap (b2_4 + (1 : Int)), b2_5.set b2_1.toNat (b2_10.getD (↑b2_9.length : Int).toNat Bool.false))
                  else none
                 else none))))
      else none
     else
      b x4
noncomputable def L_ref12_kept_0 (fuel : Nat) (v : (List (Int × (Int × (Int × ((List Int) × ((List Bool) × (List Int))))))) × (List (Int × (Int × (Int × ((List Int) × ((List Bool) × (List Int))))))) × Int × Int × (List Bool)) (ret : (Int × (List Bool) → Option Ans)) (b : ((List Bool) → Option Ans)) : Option Ans := iter (S_ref12_kept_0 fuel) fuel v (ret, b)
noncomputable def J140_0 (fuel : Nat) (i : Nat) : Option Ev.Blk := Ev.look i [(100002, B140_2 fuel)]
noncomputable def T140_0 (v : (List (Int × (Int × (Int × ((List Int) × ((List Bool) × (List Int))))))) × (List (Int × (Int × (Int × ((List Int) × ((List Bool) × (List Int))))))) × Int × Int × (List Bool)) : Ev.St := match v with | (x0, x1, x2, x3, x4) => ⟨[(0, .c (.sl (.pair (.int .i64) (.pair (.int .i64) (.pair (.int .i64) (.pair (.sl (.int .i64)) (.pair (.sl .bool) (.sl (.int .u8))))))) x0)), (4, .c (.own 0)), (13, .c (.sl (.pair (.int .i64) (.pair (.int .i64) (.pair (.int .i64) (.pair (.sl (.int .i64)) (.pair (.sl .bool) (.sl (.int .u8))))))) x1)), (14, .c (.int .i64 x2)), (15, .c (.int .i64 x3))], [(0, .vec 4 .bool x4 true)], 1, 0⟩
noncomputable def E140_0 (K : Ev.Ex → Ev.St → Option Ans) : (Int × (List Bool) → Option Ans) × ((List Bool) → Option Ans) := ((fun v => match v with | (x0, x1) => K .ret ⟨[(2, .c (.own 0)), (3, .c (.int .i64 x0))], [(0, .vec 4 .bool x1 true)], 1, 0⟩), (fun v => match v with | x0 => K .normal ⟨[(4, .c (.own 0))], [(0, .vec 4 .bool x0 true)], 1, 0⟩))
theorem S140_0_okg (fuel : Nat) (f64 : YF64) (f194 : YF194) (R : Ev.St → Option Ans) (K : Ev.Ex → Ev.St → Option Ans) (x0 : (List (Int × (Int × (Int × ((List Int) × ((List Bool) × (List Int)))))))) (x1 : (List (Int × (Int × (Int × ((List Int) × ((List Bool) × (List Int)))))))) (x2 : Int) (x3 : Int) (x4 : (List Bool)) : evalCode tab (Gg140 f64 f194) (J140_0 fuel) kp140 fuel (bodyOf 0 Try.f140) (T140_0 (x0, x1, x2, x3, x4)) (lc kp140 3 0 R K) = (fun (c : ((List (Int × (Int × (Int × ((List Int) × ((List Bool) × (List Int))))))) × (List (Int × (Int × (Int × ((List Int) × ((List Bool) × (List Int))))))) × Int × Int × (List Bool)) → Option Ans) (B : (Int × (List Bool) → Option Ans) × ((List Bool) → Option Ans)) => match B with
  | (ret, b) =>
   bif Decidable.decide (x3 < x2) then
      bif Decidable.decide ((0 : Int) ≤ x3 ∧ x3 < (↑x1.length : Int)) then
      (f64 ((x1.getD x3.toNat ((0 : Int), (0 : Int), (0 : Int), [], [], [])).fst) ((x1.getD x3.toNat ((0 : Int), (0 : Int), (0 : Int), [], [], [])).snd.fst) ((x1.getD x3.toNat ((0 : Int), (0 : Int), (0 : Int), [], [], [])).snd.snd.fst) ((x1.getD x3.toNat ((0 : Int), (0 : Int), (0 : Int), [], [], [])).snd.snd.snd.fst) ((x1.getD x3.toNat ((0 : Int), (0 : Int), (0 : Int), [], [], [])).snd.snd.snd.snd.fst) ((x1.getD x3.toNat ((0 : Int), (0 : Int), (0 : Int), [], [], [])).snd.snd.snd.snd.snd)
         (fun y4 =>
           bif !y4 then
            ret (x3, [])
           else
            bif Decidable.decide (x3 > (0 : Int)) then
             bif Decidable.decide ((0 : Int) ≤ Go.IntKind.i64.wrap (x3 - (1 : Int)) ∧ Go.IntKind.i64.wrap (x3 - (1 : Int)) < (↑x0.length : Int)) then
             bif Decidable.decide ((x1.getD x3.toNat ((0 : Int), (0 : Int), (0 : Int), [], [], [])).fst ≤ (x0.getD (Go.IntKind.i64.wrap (x3 - (1 : Int))).toNat ((0 : Int), (0 : Int), (0 : Int), [], [], [])).fst) then
               ret (x3, [])
              else
               (L_ref12_kept_2 fuel (x0, x3, x1, x2, x3, (x1.getD x3.toNat ((0 : Int), (0 : Int), (0 : Int), [], [], [])).snd.snd.snd.fst, (↑(List.length (x1.getD x3.toNat ((0 : Int), (0 : Int), (0 : Int), [], [], [])).snd.snd.snd.fst) : Int), (0 : Int), x4, (x1.getD x3.toNat ((0 : Int), (0 : Int), (0 : Int), [], [], [])).fst, (x1.getD x3.toNat ((0 : Int), (0 : Int), (0 : Int), [], [], [])).snd.fst, (x1.getD x3.toNat ((0 : Int), (0 : Int), (0 : Int), [], [], [])).snd.snd.fst, (x1.getD x3.toNat ((0 : Int), (0 : Int), (0 : Int), [], [], [])).snd.snd.snd.fst, (x1.getD x3.toNat ((0 : Int), (0 : Int), (0 : Int), [], [], [])).snd.snd.snd.snd.fst, (x1.getD x3.toNat ((0 : Int), (0 : Int), (0 : Int), [], [], [])).snd.snd.snd.snd.snd)
                 (fun (ret2_0, ret2_1) =>
                   ret (ret2_0, ret2_1))
                 (fun (b2_0, b2_1, b2_2, b2_3, b2_4, b2_5, b2_6, b2_7, b2_8, b2_9, b2_10, b2_11) =>
                   bif Decidable.decide ((0 : Int) ≤ (↑b2_9.length : Int) ∧ (↑b2_9.length : Int) < (↑b2_10.length : Int)) then
                   bif Decidable.decide ((0 : Int) ≤ b2_1 ∧ b2_1 < (↑b2_5.length : Int)) then
                    c (b2_0, b2_2, b2_3, Go.IntKind.i64.wrap (b2_4 + (1 : Int)), b2_5.set b2_1.toNat (b2_10.getD (↑b2_9.length : Int).toNat Bool.false))
                    else none
                   else none))
             else none
            else
             (L_ref12_kept_2 fuel (x0, x3, x1, x2, x3, (x1.getD x3.toNat ((0 : Int), (0 : Int), (0 : Int), [], [], [])).snd.snd.snd.fst, (↑(List.length (x1.getD x3.toNat ((0 : Int), (0 : Int), (0 : Int), [], [], [])).snd.snd.snd.fst) : Int), (0 : Int), x4, (x1.getD x3.toNat ((0 : Int), (0 : Int), (0 : Int), [], [], [])).fst, (x1.getD x3.toNat ((0 : Int), (0 : Int), (0 : Int), [], [], [])).snd.fst, (x1.getD x3.toNat ((0 : Int), (0 : Int), (0 : Int), [], [], [])).snd.snd.fst, (x1.getD x3.toNat ((0 : Int), (0 : Int), (0 : Int), [], [], [])).snd.snd.snd.fst, (x1.getD x3.toNat ((0 : Int), (0 : Int), (0 : Int), [], [], [])).snd.snd.snd.snd.fst, (x1.getD x3.toNat ((0 : Int), (0 : Int), (0 : Int), [], [], [])).snd.snd.snd.snd.snd)
               (fun (ret2_0, ret2_1) =>
                 ret (ret2_0, ret2_1))
               (fun (b2_0, b2_1, b2_2, b2_3, b2_4, b2_5, b2_6, b2_7, b2_8, b2_9, b2_10, b2_11) =>
                 bif Decidable.decide ((0 : Int) ≤ (↑b2_9.length : Int) ∧ (↑b2_9.length : Int) < (↑b2_10.length : Int)) then
                 bif Decidable.decide ((0 : Int) ≤ b2_1 ∧ b2_1 < (↑b2_5.length : Int)) then
                  c (b2_0, b2_2, b2_3, Go.IntKind.i64.wrap (b2_4 + (1 : Int)), b2_5.set b2_1.toNat (b2_10.getD (↑b2_9.length : Int).toNat Bool.false))
                  else none
                 else none))))
      else none
     else
      b x4) (fun v => R (T140_0 v)) (E140_0 K) := by
  kernel_rfl
theorem S140_0_ok (fuel : Nat) (R : Ev.St → Option Ans) (K : Ev.Ex → Ev.St → Option Ans) (x0 : (List (Int × (Int × (Int × ((List Int) × ((List Bool) × (List Int)))))))) (x1 : (List (Int × (Int × (Int × ((List Int) × ((List Bool) × (List Int)))))))) (x2 : Int) (x3 : Int) (x4 : (List Bool)) : evalCode tab (G140 fuel) (J140_0 fuel) kp140 fuel (bodyOf 0 Try.f140) (T140_0 (x0, x1, x2, x3, x4)) (lc kp140 3 0 R K) = S_ref12_kept_0 fuel (x0, x1, x2, x3, x4) (fun v => R (T140_0 v)) (E140_0 K) :=
  S140_0_okg fuel (F_ref12_Valid fuel) (F_ref12_find fuel) R K x0 x1 x2 x3 x4
noncomputable def B140_0 (fuel : Nat) : Ev.Blk := fun st K => match canonO (kp140 3) st with
  | some s => (match s with
    | ⟨[(q0, .c (.sl (.pair (.int .i64) (.pair (.int .i64) (.pair (.int .i64) (.pair (.sl (.int .i64)) (.pair (.sl .bool) (.sl (.int .u8))))))) x0)), (q1, .c (.own q2)), (q3, .c (.sl (.pair (.int .i64) (.pair (.int .i64) (.pair (.int .i64) (.pair (.sl (.int .i64)) (.pair (.sl .bool) (.sl (.int .u8))))))) x1)), (q4, .c (.int .i64 x2)), (q5, .c (.int .i64 x3))], [(q6, .vec q7 .bool x4 true)], q8, q9⟩ => bif Nat.beq q0 0 && Nat.beq q1 4 && Nat.beq q2 0 && Nat.beq q3 13 && Nat.beq q4 14 && Nat.beq q5 15 && Nat.beq q6 0 && Nat.beq q7 4 && Nat.beq q8 1 && Nat.beq q9 0 then iter (S_ref12_kept_0 fuel) fuel (x0, x1, x2, x3, x4) (E140_0 K) else none
    | _ => none)
  | none => none
theorem B140_0_ok (fuel : Nat) (st : Ev.St) (K : Ev.Ex → Ev.St → Option Ans) (r : Ans) (h : B140_0 fuel st K = some r) : evalCode tab (G140 fuel) (J140_0 fuel) kp140 fuel (.block 0 (.loop (bodyOf 0 Try.f140))) st K = some r := by
  unfold B140_0 at h
  split at h
  · rename_i s hs
    split at h
    · skip
      obtain ⟨hb, h⟩ := cond_some' h
      simp only [Bool.and_eq_true, Nat.beq_eq, decide_eq_true_eq] at hb
      obtain ⟨⟨⟨⟨⟨⟨⟨⟨⟨rfl, rfl⟩, rfl⟩, rfl⟩, rfl⟩, rfl⟩, rfl⟩, rfl⟩, rfl⟩, rfl⟩ := hb
      exact blk_loop (S := T140_0) (ks := E140_0) (step := S_ref12_kept_0 fuel) (v := (_, _, _, _, _)) (by kernel_rfl) (by kernel_rfl) (fun R K v => by obtain ⟨x0, x1, x2, x3, x4⟩ := v; exact S140_0_ok fuel R K x0 x1 x2 x3 x4) hs h
    · cases h
  · cases h
noncomputable def J140 (fuel : Nat) (i : Nat) : Option Ev.Blk := Ev.look i [(100002, B140_2 fuel), (100000, B140_0 fuel)]
noncomputable def F_ref12_kept (fuel : Nat) (x0 : (List (Int × Int × Int × (List Int) × (List Bool) × (List Int)))) (k0 : (Int × (List Bool)) → Option Ans) : Option Ans :=
  bif Decidable.decide ((0 : Int) ≤ (↑x0.length : Int) ∧ (↑x0.length : Int) = (↑x0.length : Int) ∧ (↑(1 : Nat) : Int) * (↑x0.length : Int) ≤ (281474976710656 : Int) ∧ (↑x0.length : Int) ≤ (281474976710656 : Int)) then
  (L_ref12_kept_0 fuel (x0, x0, (↑x0.length : Int), (0 : Int), List.replicate (↑x0.length : Int).toNat Bool.false)
     (fun (ret0_0, ret0_1) =>
       k0 (ret0_0, ret0_1))
     (fun b0_0 =>
       k0 ((-1 : Int), b0_0)))
  else none
abbrev YF140 : Type := ((List (Int × Int × Int × (List Int) × (List Bool) × (List Int)))) → ((Int × (List Bool)) → Option Ans) → Option Ans
theorem F140_eqg (fuel : Nat) (f64 : YF64) (f194 : YF194) (x0 : (List (Int × Int × Int × (List Int) × (List Bool) × (List Int)))) (k : Ev.Cont) : evalFn tab (Gg140 f64 f194) (J140 fuel) kp140 fuel Try.f140 [.c (.sl (.pair (.int .i64) (.pair (.int .i64) (.pair (.int .i64) (.pair (.sl (.int .i64)) (.pair (.sl .bool) (.sl (.int .u8))))))) x0)] [] k = (fun  (k0 : (Int × (List Bool)) → Option Ans) =>
  bif Decidable.decide ((0 : Int) ≤ (↑x0.length : Int) ∧ (↑x0.length : Int) = (↑x0.length : Int) ∧ (↑(1 : Nat) : Int) * (↑x0.length : Int) ≤ (281474976710656 : Int) ∧ (↑x0.length : Int) ≤ (281474976710656 : Int)) then
  (L_ref12_kept_0 fuel (x0, x0, (↑x0.length : Int), (0 : Int), List.replicate (↑x0.length : Int).toNat Bool.false)
     (fun (ret0_0, ret0_1) =>
       k0 (ret0_0, ret0_1))
     (fun b0_0 =>
       k0 ((-1 : Int), b0_0)))
  else none) (fun r => match r with | (r0, r1) => k (.tup [(false, [.own 0]), (false, [.int .i64 r0])], [.vec 4 .bool r1 true])) := by
  kernel_rfl
theorem F140_eq (fuel : Nat) (x0 : (List (Int × Int × Int × (List Int) × (List Bool) × (List Int)))) (k : Ev.Cont) : evalFn tab (G140 fuel) (J140 fuel) kp140 fuel Try.f140 [.c (.sl (.pair (.int .i64) (.pair (.int .i64) (.pair (.int .i64) (.pair (.sl (.int .i64)) (.pair (.sl .bool) (.sl (.int .u8))))))) x0)] [] k = F_ref12_kept fuel x0 (fun r => match r with | (r0, r1) => k (.tup [(false, [.own 0]), (false, [.int .i64 r0])], [.vec 4 .bool r1 true])) :=
  F140_eqg fuel (F_ref12_Valid fuel) (F_ref12_find fuel) x0 k
theorem hG140 (fuel : Nat) : GOK Try.prog (G140 fuel) :=
  gok_cons ⟨ok64 fuel, enters_of Try.func64 (by kernel_rfl) rfl⟩ <|
  gok_cons ⟨ok194 fuel, enters_of Try.func194 (by kernel_rfl) rfl⟩ <|
  gok_nil
theorem B140_2_blk (fuel : Nat) : BlkOK Try.prog Try.f140.ntmps (.block 2 (.loop (bodyOf 2 Try.f140))) (B140_2 fuel) :=
  blk_of (blk_of_code tab_ok (hG140 fuel) mixed (J := J140_2 fuel) (kp := kp140) (fuel := fuel) (by kernel_rfl) (fun q hq => by
    rw [(by kernel_rfl : obl (J140_2 fuel) (.block 2 (.loop (bodyOf 2 Try.f140))) = [])] at hq
    cases hq)) (B140_2_ok fuel)
theorem B140_0_blk (fuel : Nat) : BlkOK Try.prog Try.f140.ntmps (.block 0 (.loop (bodyOf 0 Try.f140))) (B140_0 fuel) :=
  blk_of (blk_of_code tab_ok (hG140 fuel) mixed (J := J140_0 fuel) (kp := kp140) (fuel := fuel) (by kernel_rfl) (fun q hq => by
    rw [(by kernel_rfl : obl (J140_0 fuel) (.block 0 (.loop (bodyOf 0 Try.f140))) = [(.block 2 (.loop (bodyOf 2 Try.f140)), B140_2 fuel)])] at hq
    simp only [List.mem_cons, List.not_mem_nil, or_false] at hq
    subst hq
    · exact B140_2_blk fuel)) (B140_0_ok fuel)
theorem fok140 (fuel : Nat) : FnOK Try.prog 140 (evalFn tab (G140 fuel) (J140 fuel) kp140 fuel Try.f140) :=
  fn_ok tab_ok (hG140 fuel) mixed Try.func140 (c := (Try.f140.body).getD .skip) rfl (fun q hq => by
    rw [(by kernel_rfl : obl (J140 fuel) ((Try.f140.body).getD .skip) = [(.block 0 (.loop (bodyOf 0 Try.f140)), B140_0 fuel)])] at hq
    simp only [List.mem_cons, List.not_mem_nil, or_false] at hq
    subst hq
    · exact B140_0_blk fuel)
noncomputable def mt140 : List Ev.SV → List Ev.Ob → Bool := fun args objs => match args, objs with
  | [.c (.sl (.pair (.int .i64) (.pair (.int .i64) (.pair (.int .i64) (.pair (.sl (.int .i64)) (.pair (.sl .bool) (.sl (.int .u8))))))) _)], [] => true
  | _, _ => false
noncomputable def spg140 (F : YF140) : Ev.Spec := fun args objs k => match args, objs with
  | [.c (.sl (.pair (.int .i64) (.pair (.int .i64) (.pair (.int .i64) (.pair (.sl (.int .i64)) (.pair (.sl .bool) (.sl (.int .u8))))))) x0)], [] => bif true then F x0 (fun r => match r with | (r0, r1) => k (.tup [(false, [.own 0]), (false, [.int .i64 r0])], [.vec 4 .bool r1 true])) else none
  | _, _ => none
noncomputable def spec140 (fuel : Nat) : Ev.Spec := spg140 (F_ref12_kept fuel)
theorem ok140 (fuel : Nat) : FnOK Try.prog 140 (spec140 fuel) := by
  intro args objs kk r h
  unfold spec140 spg140 at h
  split at h
  · skip
    obtain ⟨hb, h⟩ := cond_some' h
    simp only [Bool.and_eq_true, Nat.beq_eq, decide_eq_true_eq] at hb
    clear hb
    exact fok140 fuel _ _ kk r ((F140_eq fuel _ kk).trans h)
  · cases h
end Go.Proofs.Ytihfgpfofmjbaaa

set_option linter.unusedVariables false
set_option linter.unusedSimpArgs false
set_option maxRecDepth 100000
set_option maxHeartbeats 2000000
namespace Go.Proofs.Ytihfgpfofmjbaaa
open Go Ev
def kp65 (i : Nat) : Option (List Nat) := Ev.look i []
noncomputable def Gg65 (f140 : YF140) (f : Nat) : Option Ev.Spec := Ev.look f [(140, spg140 f140)]
noncomputable def G65 (fuel : Nat) : Nat → Option Ev.Spec := Gg65 (F_ref12_kept fuel)
noncomputable def J65 (fuel : Nat) (i : Nat) : Option Ev.Blk := Ev.look i []
noncomputable def F_ref12_InOrder (fuel : Nat) (x0 : (List (Int × Int × Int × (List Int) × (List Bool) × (List Int)))) (k0 : (Int × Int) → Option Ans) : Option Ans :=
  (F_ref12_kept fuel (x0)
    (fun (y2_0, y2_1) =>
      bif Decidable.decide (y2_0 ≥ (0 : Int)) then
       k0 (y2_0, (40 : Int))
      else
       k0 ((-1 : Int), (0 : Int))))
abbrev YF65 : Type := ((List (Int × Int × Int × (List Int) × (List Bool) × (List Int)))) → ((Int × Int) → Option Ans) → Option Ans
theorem F65_eqg (fuel : Nat) (f140 : YF140) (x0 : (List (Int × Int × Int × (List Int) × (List Bool) × (List Int)))) (k : Ev.Cont) : evalFn tab (Gg65 f140) (J65 fuel) kp65 fuel Try.f65 [.c (.sl (.pair (.int .i64) (.pair (.int .i64) (.pair (.int .i64) (.pair (.sl (.int .i64)) (.pair (.sl .bool) (.sl (.int .u8))))))) x0)] [] k = (fun  (k0 : (Int × Int) → Option Ans) =>
  (f140 (x0)
    (fun (y2_0, y2_1) =>
      bif Decidable.decide (y2_0 ≥ (0 : Int)) then
       k0 (y2_0, (40 : Int))
      else
       k0 ((-1 : Int), (0 : Int))))) (fun r => match r with | (r0, r1) => k (.tup [(false, [.int .i64 r0]), (false, [.int .i64 r1])], [])) := by
  kernel_rfl
theorem F65_eq (fuel : Nat) (x0 : (List (Int × Int × Int × (List Int) × (List Bool) × (List Int)))) (k : Ev.Cont) : evalFn tab (G65 fuel) (J65 fuel) kp65 fuel Try.f65 [.c (.sl (.pair (.int .i64) (.pair (.int .i64) (.pair (.int .i64) (.pair (.sl (.int .i64)) (.pair (.sl .bool) (.sl (.int .u8))))))) x0)] [] k = F_ref12_InOrder fuel x0 (fun r => match r with | (r0, r1) => k (.tup [(false, [.int .i64 r0]), (false, [.int .i64 r1])], [])) :=
  F65_eqg fuel (F_ref12_kept fuel) x0 k
theorem hG65 (fuel : Nat) : GOK Try.prog (G65 fuel) :=
  gok_cons ⟨ok140 fuel, enters_of Try.func140 (by kernel_rfl) rfl⟩ <|
  gok_nil
theorem fok65 (fuel : Nat) : FnOK Try.prog 65 (evalFn tab (G65 fuel) (J65 fuel) kp65 fuel Try.f65) :=
  fn_ok tab_ok (hG65 fuel) mixed Try.func65 (c := (Try.f65.body).getD .skip) rfl (fun q hq => by
    rw [(by kernel_rfl : obl (J65 fuel) ((Try.f65.body).getD .skip) = [])] at hq
    cases hq)
noncomputable def mt65 : List Ev.SV → List Ev.Ob → Bool := fun args objs => match args, objs with
  | [.c (.sl (.pair (.int .i64) (.pair (.int .i64) (.pair (.int .i64) (.pair (.sl (.int .i64)) (.pair (.sl .bool) (.sl (.int .u8))))))) _)], [] => true
  | _, _ => false
noncomputable def spg65 (F : YF65) : Ev.Spec := fun args objs k => match args, objs with
  | [.c (.sl (.pair (.int .i64) (.pair (.int .i64) (.pair (.int .i64) (.pair (.sl (.int .i64)) (.pair (.sl .bool) (.sl (.int .u8))))))) x0)], [] => bif true then F x0 (fun r => match r with | (r0, r1) => k (.tup [(false, [.int .i64 r0]), (false, [.int .i64 r1])], [])) else none
  | _, _ => none
noncomputable def spec65 (fuel : Nat) : Ev.Spec := spg65 (F_ref12_InOrder fuel)
theorem ok65 (fuel : Nat) : FnOK Try.prog 65 (spec65 fuel) := by
  intro args objs kk r h
  unfold spec65 spg65 at h
  split at h
  · skip
    obtain ⟨hb, h⟩ := cond_some' h
    simp only [Bool.and_eq_true, Nat.beq_eq, decide_eq_true_eq] at hb
    clear hb
    exact fok65 fuel _ _ kk r ((F65_eq fuel _ kk).trans h)
  · cases h
end Go.Proofs.Ytihfgpfofmjbaaa

set_option linter.unusedVariables false
set_option linter.unusedSimpArgs false
set_option maxRecDepth 100000
set_option maxHeartbeats 2000000
namespace Go.Proofs.Ytihfgpfofmjbaaa
open Go Ev
def kp177_775 (i : Nat) : Option (List Nat) := Ev.look i []
noncomputable def Gg177_775 (f65 : YF65) (f174_6fe : YF174_6fe) (f : Nat) : Option Ev.Spec := Ev.look f [(65, spg65 f65), (174, spg174_6fe f174_6fe)]
noncomputable def G177_775 (fuel : Nat) : Nat → Option Ev.Spec := Gg177_775 (F_ref12_InOrder fuel) (F_ref14_Parsed_failed_6fe fuel)
noncomputable def J177_775 (fuel : Nat) (i : Nat) : Option Ev.Blk := Ev.look i []
noncomputable def F_ref14_Parsed_ordered_775 (fuel : Nat) (x0 : Int) (x1 : Int) (x2 : Int) (x3 : (List (Int × (Int × (Int × ((List Int) × ((List Bool) × (List Int)))))))) (x4 : (List Int)) (x5 : (List (Int × Int))) (k0 : (Int × Int × Int × (List (Int × (Int × (Int × ((List Int) × ((List Bool) × (List Int))))))) × (List Int) × (List (Int × Int))) → Option Ans) : Option Ans :=
  (F_ref12_InOrder fuel (x3)
    (fun (y2_0, y2_1) =>
      bif y2_1 != (0 : Int) then
       bif Decidable.decide ((0 : Int) ≤ y2_0 ∧ y2_0 < (↑x4.length : Int)) then
       (F_ref14_Parsed_failed_6fe fuel (x4.getD y2_0.toNat (0 : Int)) (y2_1) (x0) (x1) (x2) (x3) (x4) (x5)
          (fun (y8_0, y8_1, y8_2, y8_3, y8_4, y8_5) =>
            k0 (y8_0, y8_1, y8_2, y8_3, y8_4, y8_5)))
       else none
      else
       k0 (x0, x1, x2, x3, x4, x5)))
abbrev YF177_775 : Type := (Int) → (Int) → (Int) → ((List (Int × (Int × (Int × ((List Int) × ((List Bool) × (List Int)))))))) → ((List Int)) → ((List (Int × Int))) → ((Int × Int × Int × (List (Int × (Int × (Int × ((List Int) × ((List Bool) × (List Int))))))) × (List Int) × (List (Int × Int))) → Option Ans) → Option Ans
theorem F177_775_eqg (fuel : Nat) (f65 : YF65) (f174_6fe : YF174_6fe) (x0 : Int) (x1 : Int) (x2 : Int) (x3 : (List (Int × (Int × (Int × ((List Int) × ((List Bool) × (List Int)))))))) (x4 : (List Int)) (x5 : (List (Int × Int))) (k : Ev.Cont) : evalFn tab (Gg177_775 f65 f174_6fe) (J177_775 fuel) kp177_775 fuel Try.f177 [.c (.ptr 0 0)] [.cells 145 [.int .i64 x0, .own 1, .own 2, .own 3, .int .i64 x1, .int .i64 x2], .vec 103 (.pair (.int .i64) (.pair (.int .i64) (.pair (.int .i64) (.pair (.sl (.int .i64)) (.pair (.sl .bool) (.sl (.int .u8))))))) x3 false, .vec 3 (.int .i64) x4 false, .vec 44 (.pair (.int .i64) (.int .i64)) x5 false] k = (fun  (k0 : (Int × Int × Int × (List (Int × (Int × (Int × ((List Int) × ((List Bool) × (List Int))))))) × (List Int) × (List (Int × Int))) → Option Ans) =>
  (f65 (x3)
    (fun (y2_0, y2_1) =>
      bif y2_1 != (0 : Int) then
       bif Decidable.decide ((0 : Int) ≤ y2_0 ∧ y2_0 < (↑x4.length : Int)) then
       (f174_6fe (x4.getD y2_0.toNat (0 : Int)) (y2_1) (x0) (x1) (x2) (x3) (x4) (x5)
          (fun (y8_0, y8_1, y8_2, y8_3, y8_4, y8_5) =>
            k0 (y8_0, y8_1, y8_2, y8_3, y8_4, y8_5)))
       else none
      else
       k0 (x0, x1, x2, x3, x4, x5)))) (fun r => match r with | (r0, r1, r2, r3, r4, r5) => k (.c (.ptr 0 0), [.cells 145 [.int .i64 r0, .own 1, .own 2, .own 3, .int .i64 r1, .int .i64 r2], .vec 103 (.pair (.int .i64) (.pair (.int .i64) (.pair (.int .i64) (.pair (.sl (.int .i64)) (.pair (.sl .bool) (.sl (.int .u8))))))) r3 false, .vec 3 (.int .i64) r4 false, .vec 44 (.pair (.int .i64) (.int .i64)) r5 false])) := by
  kernel_rfl
theorem F177_775_eq (fuel : Nat) (x0 : Int) (x1 : Int) (x2 : Int) (x3 : (List (Int × (Int × (Int × ((List Int) × ((List Bool) × (List Int)))))))) (x4 : (List Int)) (x5 : (List (Int × Int))) (k : Ev.Cont) : evalFn tab (G177_775 fuel) (J177_775 fuel) kp177_775 fuel Try.f177 [.c (.ptr 0 0)] [.cells 145 [.int .i64 x0, .own 1, .own 2, .own 3, .int .i64 x1, .int .i64 x2], .vec 103 (.pair (.int .i64) (.pair (.int .i64) (.pair (.int .i64) (.pair (.sl (.int .i64)) (.pair (.sl .bool) (.sl (.int .u8))))))) x3 false, .vec 3 (.int .i64) x4 false, .vec 44 (.pair (.int .i64) (.int .i64)) x5 false] k = F_ref14_Parsed_ordered_775 fuel x0 x1 x2 x3 x4 x5 (fun r => match r with | (r0, r1, r2, r3, r4, r5) => k (.c (.ptr 0 0), [.cells 145 [.int .i64 r0, .own 1, .own 2, .own 3, .int .i64 r1, .int .i64 r2], .vec 103 (.pair (.int .i64) (.pair (.int .i64) (.pair (.int .i64) (.pair (.sl (.int .i64)) (.pair (.sl .bool) (.sl (.int .u8))))))) r3 false, .vec 3 (.int .i64) r4 false, .vec 44 (.pair (.int .i64) (.int .i64)) r5 false])) :=
  F177_775_eqg fuel (F_ref12_InOrder fuel) (F_ref14_Parsed_failed_6fe fuel) x0 x1 x2 x3 x4 x5 k
theorem hG177_775 (fuel : Nat) : GOK Try.prog (G177_775 fuel) :=
  gok_cons ⟨ok65 fuel, enters_of Try.func65 (by kernel_rfl) rfl⟩ <|
  gok_cons ⟨ok174_6fe fuel, enters_of Try.func174 (by kernel_rfl) rfl⟩ <|
  gok_nil
theorem fok177_775 (fuel : Nat) : FnOK Try.prog 177 (evalFn tab (G177_775 fuel) (J177_775 fuel) kp177_775 fuel Try.f177) :=
  fn_ok tab_ok (hG177_775 fuel) mixed Try.func177 (c := (Try.f177.body).getD .skip) rfl (fun q hq => by
    rw [(by kernel_rfl : obl (J177_775 fuel) ((Try.f177.body).getD .skip) = [])] at hq
    cases hq)
noncomputable def mt177_775 : List Ev.SV → List Ev.Ob → Bool := fun args objs => match args, objs with
  | [.c (.ptr q0 q1)], [.cells q2 [.int .i64 _, .own q3, .own q4, .own q5, .int .i64 _, .int .i64 _], .vec q6 (.pair (.int .i64) (.pair (.int .i64) (.pair (.int .i64) (.pair (.sl (.int .i64)) (.pair (.sl .bool) (.sl (.int .u8))))))) _ false, .vec q7 (.int .i64) _ false, .vec q8 (.pair (.int .i64) (.int .i64)) _ false] => Nat.beq q0 0 && Nat.beq q1 0 && Nat.beq q2 145 && Nat.beq q3 1 && Nat.beq q4 2 && Nat.beq q5 3 && Nat.beq q6 103 && Nat.beq q7 3 && Nat.beq q8 44
  | _, _ => false
noncomputable def spg177_775 (F : YF177_775) : Ev.Spec := fun args objs k => match args, objs with
  | [.c (.ptr q0 q1)], [.cells q2 [.int .i64 x0, .own q3, .own q4, .own q5, .int .i64 x1, .int .i64 x2], .vec q6 (.pair (.int .i64) (.pair (.int .i64) (.pair (.int .i64) (.pair (.sl (.int .i64)) (.pair (.sl .bool) (.sl (.int .u8))))))) x3 false, .vec q7 (.int .i64) x4 false, .vec q8 (.pair (.int .i64) (.int .i64)) x5 false] => bif Nat.beq q0 0 && Nat.beq q1 0 && Nat.beq q2 145 && Nat.beq q3 1 && Nat.beq q4 2 && Nat.beq q5 3 && Nat.beq q6 103 && Nat.beq q7 3 && Nat.beq q8 44 then F x0 x1 x2 x3 x4 x5 (fun r => match r with | (r0, r1, r2, r3, r4, r5) => k (.c (.ptr 0 0), [.cells 145 [.int .i64 r0, .own 1, .own 2, .own 3, .int .i64 r1, .int .i64 r2], .vec 103 (.pair (.int .i64) (.pair (.int .i64) (.pair (.int .i64) (.pair (.sl (.int .i64)) (.pair (.sl .bool) (.sl (.int .u8))))))) r3 false, .vec 3 (.int .i64) r4 false, .vec 44 (.pair (.int .i64) (.int .i64)) r5 false])) else none
  | _, _ => none
noncomputable def spec177_775 (fuel : Nat) : Ev.Spec := spg177_775 (F_ref14_Parsed_ordered_775 fuel)
theorem ok177_775 (fuel : Nat) : FnOK Try.prog 177 (spec177_775 fuel) := by
  intro args objs kk r h
  unfold spec177_775 spg177_775 at h
  split at h
  · skip
    obtain ⟨hb, h⟩ := cond_some' h
    simp only [Bool.and_eq_true, Nat.beq_eq, decide_eq_true_eq] at hb
    obtain ⟨⟨⟨⟨⟨⟨⟨⟨rfl, rfl⟩, rfl⟩, rfl⟩, rfl⟩, rfl⟩, rfl⟩, rfl⟩, rfl⟩ := hb
    exact fok177_775 fuel _ _ kk r ((F177_775_eq fuel _ _ _ _ _ _ kk).trans h)
  · cases h
end Go.Proofs.Ytihfgpfofmjbaaa

