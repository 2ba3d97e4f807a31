/- What the functions that TextOne reaches do: their typed texts, each with the proof that the machine does it. No condition. -/
import Derived.Test.YtipdidpalcmlhaaGreatEvX
import Derived.Test.YtipdidpalcmlhaaGreatFsTextOne2
import Derived.Test.YtipdidpalcmlhaaGreatEvY
import Derived.Test.YtipdidpalcmlhaaGreatEvU
import Derived.Test.YtipdidpalcmlhaaGreatFsTextOne1
set_option linter.unusedVariables false
set_option linter.unusedSimpArgs false
set_option linter.unusedSectionVars false
set_option linter.unusedVariables false
set_option linter.unusedSimpArgs false
set_option maxRecDepth 100000
set_option maxHeartbeats 2000000
namespace Go.Proofs.YtipdidpalcmlhaaGreat
open Go Ev
def kp240_aa3 (i : Nat) : Option (List Nat) := Ev.look i [(5, [0, 1, 4, 8]), (14, [0, 1, 4, 8, 9, 10, 49, 50]), (100000, [0, 1, 4, 8]), (100002, [0, 1, 4, 9]), (400000, [4, 5]), (400002, [4, 5])]
noncomputable def Gg240_aa3 (f146_aa3 : YF146_aa3) (f236 : YF236) (f : Nat) : Option Ev.Spec := Ev.look f [(146, spg146_aa3 f146_aa3), (236, spg236 f236)]
noncomputable def G240_aa3 (fuel : Nat) : Nat → Option Ev.Spec := Gg240_aa3 (F_coder_Decoder_Get_aa3 fuel) (F_number_tail_take fuel)
noncomputable def S_number_get_aa3_0 (fuel : Nat) (v : Int × Int × Int × Int × Int × Int × Int × Int × Bool × Bool × (List Int) × (List Int) × Bool × Int) (c : (Int × Int × Int × Int × Int × Int × Int × Int × Bool × Bool × (List Int) × (List Int) × Bool × Int) → Option Ans) (B : (Int × Int × Int × Int × Int × Int × Int × Bool × Bool × (List Int) × (List Int) × Bool × Int → Option Ans) × (Int × Int × Int × Int × Int × Int × Int × Int × Bool × Bool × (List Int) × (List Int) × Bool × Int → Option Ans)) : Option Ans := match v, B with
  | (x0, x1, x2, x3, x4, x5, x6, x7, x8, x9, x10, x11, x12, x13), (ret, b) =>
   bif Decidable.decide (x1 < (20 : Int)) then
      (F_coder_Decoder_Get_aa3 fuel (Go.IntKind.i64.wrap (Go.IntKind.i64.wrap (x0 + (1 : Int)) + x1)) (x2) (x3) (x4) (x5) (x6) (x7) (x8) (x9) (x10) (x11)
        (fun (y3_0, y3_1, y3_2, y3_3, y3_4, y3_5, y3_6, y3_7, y3_8, y3_9, y3_10, y3_11) =>
          bif y3_1 != (0 : Int) then
           ret (y3_1, y3_2, y3_3, y3_4, y3_5, y3_6, y3_7, y3_8, y3_9, y3_10, y3_11, Bool.false, (0 : Int))
          else
           bif y3_0 == (0 : Int) then
            b (x0, x1, y3_2, y3_3, y3_4, y3_5, y3_6, y3_7, y3_8, y3_9, y3_10, y3_11, x12, x13)
           else
            c (x0, Go.IntKind.i64.wrap (x1 + (1 : Int)), y3_2, y3_3, y3_4, y3_5, y3_6, y3_7, y3_8, y3_9, y3_10, y3_11, x12, x13)))
     else
      b (x0, x1, x2, x3, x4, x5, x6, x7, x8, x9, x10, x11, x12, x13)
noncomputable def L_number_get_aa3_0 (fuel : Nat) (v : Int × Int × Int × Int × Int × Int × Int × Int × Bool × Bool × (List Int) × (List Int) × Bool × Int) (ret : (Int × Int × Int × Int × Int × Int × Int × Bool × Bool × (List Int) × (List Int) × Bool × Int → Option Ans)) (b : (Int × Int × Int × Int × Int × Int × Int × Int × Bool × Bool × (List Int) × (List Int) × Bool × Int → Option Ans)) : Option Ans := iter (S_number_get_aa3_0 fuel) fuel v (ret, b)
noncomputable def J240_aa3_0 (fuel : Nat) (i : Nat) : Option Ev.Blk := Ev.look i []
noncomputable def T240_aa3_0 (v : Int × Int × Int × Int × Int × Int × Int × Int × Bool × Bool × (List Int) × (List Int) × Bool × Int) : Ev.St := match v with | (x0, x1, x2, x3, x4, x5, x6, x7, x8, x9, x10, x11, x12, x13) => ⟨[(0, .c (.ptr 0 0)), (1, .c (.int .i64 x0)), (4, .c (.ptr 3 0)), (8, .c (.int .i64 x1))], [(0, .cells 194 (.int .i64 x2 :: .own 1 :: .int .i64 2048 :: .int .i64 1792 :: .int .i64 1568 :: .int .i64 1372 :: .int .i64 1201 :: .int .i64 1051 :: .int .i64 920 :: .int .i64 805 :: .int .i64 705 :: .int .i64 617 :: .int .i64 540 :: .int .i64 473 :: .int .i64 414 :: .int .i64 363 :: .int .i64 318 :: .int .i64 279 :: .int .i64 245 :: .int .i64 215 :: .int .i64 189 :: .int .i64 166 :: .int .i64 146 :: .int .i64 128 :: .int .i64 112 :: .int .i64 98 :: .int .i64 86 :: .int .i64 76 :: .int .i64 67 :: .int .i64 59 :: .int .i64 52 :: .int .i64 46 :: .int .i64 41 :: .int .i64 36 :: .int .u64 x3 :: .int .u64 x4 :: .own 2 :: .int .i64 x5 :: .int .u64 x6 :: .int .i64 x7 :: .bool x8 :: .bool x9 :: [])), (1, .vec 3 (.int .i64) x10 false), (2, .vec 5 (.int .u8) x11 false), (3, .cells 124 [.bool x12, .int .i64 x13])], 4, 3⟩
noncomputable def E240_aa3_0 (K : Ev.Ex → Ev.St → Option Ans) : (Int × Int × Int × Int × Int × Int × Int × Bool × Bool × (List Int) × (List Int) × Bool × Int → Option Ans) × (Int × Int × Int × Int × Int × Int × Int × Int × Bool × Bool × (List Int) × (List Int) × Bool × Int → Option Ans) := ((fun v => match v with | (x0, x1, x2, x3, x4, x5, x6, x7, x8, x9, x10, x11, x12) => K .ret ⟨[(4, .c (.ptr 3 0)), (5, .c (.int .i64 x0))], [(0, .cells 194 (.int .i64 x1 :: .own 1 :: .int .i64 2048 :: .int .i64 1792 :: .int .i64 1568 :: .int .i64 1372 :: .int .i64 1201 :: .int .i64 1051 :: .int .i64 920 :: .int .i64 805 :: .int .i64 705 :: .int .i64 617 :: .int .i64 540 :: .int .i64 473 :: .int .i64 414 :: .int .i64 363 :: .int .i64 318 :: .int .i64 279 :: .int .i64 245 :: .int .i64 215 :: .int .i64 189 :: .int .i64 166 :: .int .i64 146 :: .int .i64 128 :: .int .i64 112 :: .int .i64 98 :: .int .i64 86 :: .int .i64 76 :: .int .i64 67 :: .int .i64 59 :: .int .i64 52 :: .int .i64 46 :: .int .i64 41 :: .int .i64 36 :: .int .u64 x2 :: .int .u64 x3 :: .own 2 :: .int .i64 x4 :: .int .u64 x5 :: .int .i64 x6 :: .bool x7 :: .bool x8 :: [])), (1, .vec 3 (.int .i64) x9 false), (2, .vec 5 (.int .u8) x10 false), (3, .cells 124 [.bool x11, .int .i64 x12])], 4, 3⟩), (fun v => match v with | (x0, x1, x2, x3, x4, x5, x6, x7, x8, x9, x10, x11, x12, x13) => K .normal ⟨[(0, .c (.ptr 0 0)), (1, .c (.int .i64 x0)), (4, .c (.ptr 3 0)), (8, .c (.int .i64 x1))], [(0, .cells 194 (.int .i64 x2 :: .own 1 :: .int .i64 2048 :: .int .i64 1792 :: .int .i64 1568 :: .int .i64 1372 :: .int .i64 1201 :: .int .i64 1051 :: .int .i64 920 :: .int .i64 805 :: .int .i64 705 :: .int .i64 617 :: .int .i64 540 :: .int .i64 473 :: .int .i64 414 :: .int .i64 363 :: .int .i64 318 :: .int .i64 279 :: .int .i64 245 :: .int .i64 215 :: .int .i64 189 :: .int .i64 166 :: .int .i64 146 :: .int .i64 128 :: .int .i64 112 :: .int .i64 98 :: .int .i64 86 :: .int .i64 76 :: .int .i64 67 :: .int .i64 59 :: .int .i64 52 :: .int .i64 46 :: .int .i64 41 :: .int .i64 36 :: .int .u64 x3 :: .int .u64 x4 :: .own 2 :: .int .i64 x5 :: .int .u64 x6 :: .int .i64 x7 :: .bool x8 :: .bool x9 :: [])), (1, .vec 3 (.int .i64) x10 false), (2, .vec 5 (.int .u8) x11 false), (3, .cells 124 [.bool x12, .int .i64 x13])], 4, 3⟩))
theorem S240_aa3_0_okg (fuel : Nat) (f146_aa3 : YF146_aa3) (f236 : YF236) (R : Ev.St → Option Ans) (K : Ev.Ex → Ev.St → Option Ans) (x0 : Int) (x1 : Int) (x2 : Int) (x3 : Int) (x4 : Int) (x5 : Int) (x6 : Int) (x7 : Int) (x8 : Bool) (x9 : Bool) (x10 : (List Int)) (x11 : (List Int)) (x12 : Bool) (x13 : Int) : evalCode tab (Gg240_aa3 f146_aa3 f236) (J240_aa3_0 fuel) kp240_aa3 fuel (bodyOf 0 Tryz.f240) (T240_aa3_0 (x0, x1, x2, x3, x4, x5, x6, x7, x8, x9, x10, x11, x12, x13)) (lc kp240_aa3 5 0 R K) = (fun (c : (Int × Int × Int × Int × Int × Int × Int × Int × Bool × Bool × (List Int) × (List Int) × Bool × Int) → Option Ans) (B : (Int × Int × Int × Int × Int × Int × Int × Bool × Bool × (List Int) × (List Int) × Bool × Int → Option Ans) × (Int × Int × Int × Int × Int × Int × Int × Int × Bool × Bool × (List Int) × (List Int) × Bool × Int → Option Ans)) => match B with
  | (ret, b) =>
   bif Decidable.decide (x1 < (20 : Int)) then
      (f146_aa3 (Go.IntKind.i64.wrap (Go.IntKind.i64.wrap (x0 + (1 : Int)) + x1)) (x2) (x3) (x4) (x5) (x6) (x7) (x8) (x9) (x10) (x11)
        (fun (y3_0, y3_1, y3_2, y3_3, y3_4, y3_5, y3_6, y3_7, y3_8, y3_9, y3_10, y3_11) =>
          bif y3_1 != (0 : Int) then
           ret (y3_1, y3_2, y3_3, y3_4, y3_5, y3_6, y3_7, y3_8, y3_9, y3_10, y3_11, Bool.false, (0 : Int))
          else
           bif y3_0 == (0 : Int) then
            b (x0, x1, y3_2, y3_3, y3_4, y3_5, y3_6, y3_7, y3_8, y3_9, y3_10, y3_11, x12, x13)
           else
            c (x0, Go.IntKind.i64.wrap (x1 + (1 : Int)), y3_2, y3_3, y3_4, y3_5, y3_6, y3_7, y3_8, y3_9, y3_10, y3_11, x12, x13)))
     else
      b (x0, x1, x2, x3, x4, x5, x6, x7, x8, x9, x10, x11, x12, x13)) (fun v => R (T240_aa3_0 v)) (E240_aa3_0 K) := by
  kernel_rfl
theorem S240_aa3_0_ok (fuel : Nat) (R : Ev.St → Option Ans) (K : Ev.Ex → Ev.St → Option Ans) (x0 : Int) (x1 : Int) (x2 : Int) (x3 : Int) (x4 : Int) (x5 : Int) (x6 : Int) (x7 : Int) (x8 : Bool) (x9 : Bool) (x10 : (List Int)) (x11 : (List Int)) (x12 : Bool) (x13 : Int) : evalCode tab (G240_aa3 fuel) (J240_aa3_0 fuel) kp240_aa3 fuel (bodyOf 0 Tryz.f240) (T240_aa3_0 (x0, x1, x2, x3, x4, x5, x6, x7, x8, x9, x10, x11, x12, x13)) (lc kp240_aa3 5 0 R K) = S_number_get_aa3_0 fuel (x0, x1, x2, x3, x4, x5, x6, x7, x8, x9, x10, x11, x12, x13) (fun v => R (T240_aa3_0 v)) (E240_aa3_0 K) :=
  S240_aa3_0_okg fuel (F_coder_Decoder_Get_aa3 fuel) (F_number_tail_take fuel) R K x0 x1 x2 x3 x4 x5 x6 x7 x8 x9 x10 x11 x12 x13
noncomputable def B240_aa3_0 (fuel : Nat) : Ev.Blk := fun st K => match canonO (kp240_aa3 5) st with
  | some s => (match s with
    | ⟨[(q0, .c (.ptr q1 q2)), (q3, .c (.int .i64 x0)), (q4, .c (.ptr q5 q6)), (q7, .c (.int .i64 x1))], [(q8, .cells q9 cs0), (q10, .vec q11 (.int .i64) x10 false), (q12, .vec q13 (.int .u8) x11 false), (q14, .cells q15 [.bool x12, .int .i64 x13])], q16, q17⟩ => (match splitRun 2 [(.i64, 2048), (.i64, 1792), (.i64, 1568), (.i64, 1372), (.i64, 1201), (.i64, 1051), (.i64, 920), (.i64, 805), (.i64, 705), (.i64, 617), (.i64, 540), (.i64, 473), (.i64, 414), (.i64, 363), (.i64, 318), (.i64, 279), (.i64, 245), (.i64, 215), (.i64, 189), (.i64, 166), (.i64, 146), (.i64, 128), (.i64, 112), (.i64, 98), (.i64, 86), (.i64, 76), (.i64, 67), (.i64, 59), (.i64, 52), (.i64, 46), (.i64, 41), (.i64, 36)] cs0 with | some ([.int .i64 x2, .own q18], [.int .u64 x3, .int .u64 x4, .own q19, .int .i64 x5, .int .u64 x6, .int .i64 x7, .bool x8, .bool x9]) => bif Nat.beq q0 0 && Nat.beq q1 0 && Nat.beq q2 0 && Nat.beq q3 1 && Nat.beq q4 4 && Nat.beq q5 3 && Nat.beq q6 0 && Nat.beq q7 8 && Nat.beq q8 0 && Nat.beq q9 194 && Nat.beq q10 1 && Nat.beq q11 3 && Nat.beq q12 2 && Nat.beq q13 5 && Nat.beq q14 3 && Nat.beq q15 124 && Nat.beq q16 4 && Nat.beq q17 3 && Nat.beq q18 1 && Nat.beq q19 2 then iter (S_number_get_aa3_0 fuel) fuel (x0, x1, x2, x3, x4, x5, x6, x7, x8, x9, x10, x11, x12, x13) (E240_aa3_0 K) else none | _ => none)
    | _ => none)
  | none => none
theorem B240_aa3_0_ok (fuel : Nat) (st : Ev.St) (K : Ev.Ex → Ev.St → Option Ans) (r : Ans) (h : B240_aa3_0 fuel st K = some r) : evalCode tab (G240_aa3 fuel) (J240_aa3_0 fuel) kp240_aa3 fuel (.block 0 (.loop (bodyOf 0 Tryz.f240))) st K = some r := by
  unfold B240_aa3_0 at h
  split at h
  · rename_i s hs
    split at h
    · skip
      split at h
      rotate_left 1
      · cases h
      rename_i hsp
      have esp := splitRun_eq hsp
      subst esp
      obtain ⟨hb, h⟩ := cond_some' h
      simp only [Bool.and_eq_true, Nat.beq_eq, decide_eq_true_eq] at hb
      obtain ⟨⟨⟨⟨⟨⟨⟨⟨⟨⟨⟨⟨⟨⟨⟨⟨⟨⟨⟨rfl, rfl⟩, rfl⟩, rfl⟩, rfl⟩, rfl⟩, rfl⟩, rfl⟩, rfl⟩, rfl⟩, rfl⟩, rfl⟩, rfl⟩, rfl⟩, rfl⟩, rfl⟩, rfl⟩, rfl⟩, rfl⟩, rfl⟩ := hb
      exact blk_loop (S := T240_aa3_0) (ks := E240_aa3_0) (step := S_number_get_aa3_0 fuel) (v := (_, _, _, _, _, _, _, _, _, _, _, _, _, _)) (by kernel_rfl) (by kernel_rfl) (fun R K v => by obtain ⟨x0, x1, x2, x3, x4, x5, x6, x7, x8, x9, x10, x11, x12, x13⟩ := v; exact S240_aa3_0_ok fuel R K x0 x1 x2 x3 x4 x5 x6 x7 x8 x9 x10 x11 x12 x13) hs h
    · cases h
  · cases h
noncomputable def S_number_get_aa3_2 (fuel : Nat) (v : Int × Int × Int × Int × Int × Int × Int × Int × Int × Int × Int × Bool × Bool × (List Int) × (List Int) × Bool × Int × Int) (c : (Int × Int × Int × Int × Int × Int × Int × Int × Int × Int × Int × Bool × Bool × (List Int) × (List Int) × Bool × Int × Int) → Option Ans) (B : (Int × Int × Int × Int × Int × Int × Int × Bool × Bool × (List Int) × (List Int) × Bool × Int → Option Ans) × (Int × Int × Int × Int × Int × Int × Int × Int × Bool × Bool × (List Int) × (List Int) × Bool × Int → Option Ans)) : Option Ans := match v, B with
  | (x0, x1, x2, x3, x4, x5, x6, x7, x8, x9, x10, x11, x12, x13, x14, x15, x16, x17), (ret, b) =>
   bif Decidable.decide (x4 < x3) then
      bif Decidable.decide (x4 > (0 : Int)) then
       (F_number_tail_take fuel (x17)
         (fun (y4_0, y4_1) =>
           (F_coder_Decoder_Get_aa3 fuel (Go.IntKind.i64.wrap (x0 + y4_0)) (x5) (x6) (x7) (x8) (x9) (x10) (x11) (x12) (x13) (x14)
             (fun (y8_0, y8_1, y8_2, y8_3, y8_4, y8_5, y8_6, y8_7, y8_8, y8_9, y8_10, y8_11) =>
               bif y8_1 != (0 : Int) then
                ret (y8_1, y8_2, y8_3, y8_4, y8_5, y8_6, y8_7, y8_8, y8_9, y8_10, y8_11, Bool.false, (0 : Int))
               else
                c (x0, x1, Go.IntKind.i64.wrap (Go.IntKind.i64.wrap ((2 : Int) * x2) + y8_0), x3, Go.IntKind.i64.wrap (x4 + (1 : Int)), y8_2, y8_3, y8_4, y8_5, y8_6, y8_7, y8_8, y8_9, y8_10, y8_11, x15, x16, y4_1)))))
      else
       (F_coder_Decoder_Get_aa3 fuel (Go.IntKind.i64.wrap (x0 + Go.IntKind.i64.wrap ((23 : Int) + x1))) (x5) (x6) (x7) (x8) (x9) (x10) (x11) (x12) (x13) (x14)
         (fun (y4_0, y4_1, y4_2, y4_3, y4_4, y4_5, y4_6, y4_7, y4_8, y4_9, y4_10, y4_11) =>
           bif y4_1 != (0 : Int) then
            ret (y4_1, y4_2, y4_3, y4_4, y4_5, y4_6, y4_7, y4_8, y4_9, y4_10, y4_11, Bool.false, (0 : Int))
           else
            c (x0, x1, Go.IntKind.i64.wrap (Go.IntKind.i64.wrap ((2 : Int) * x2) + y4_0), x3, Go.IntKind.i64.wrap (x4 + (1 : Int)), y4_2, y4_3, y4_4, y4_5, y4_6, y4_7, y4_8, y4_9, y4_10, y4_11, x15, x16, x17)))
     else
      b (x0, x2, x5, x6, x7, x8, x9, x10, x11, x12, x13, x14, x15, x16)
noncomputable def L_number_get_aa3_2 (fuel : Nat) (v : Int × Int × Int × Int × Int × Int × Int × Int × Int × Int × Int × Bool × Bool × (List Int) × (List Int) × Bool × Int × Int) (ret : (Int × Int × Int × Int × Int × Int × Int × Bool × Bool × (List Int) × (List Int) × Bool × Int → Option Ans)) (b : (Int × Int × Int × Int × Int × Int × Int × Int × Bool × Bool × (List Int) × (List Int) × Bool × Int → Option Ans)) : Option Ans := iter (S_number_get_aa3_2 fuel) fuel v (ret, b)
noncomputable def J240_aa3_2 (fuel : Nat) (i : Nat) : Option Ev.Blk := Ev.look i [(100000, B240_aa3_0 fuel)]
noncomputable def T240_aa3_2 (v : Int × Int × Int × Int × Int × Int × Int × Int × Int × Int × Int × Bool × Bool × (List Int) × (List Int) × Bool × Int × Int) : Ev.St := match v with | (x0, x1, x2, x3, x4, x5, x6, x7, x8, x9, x10, x11, x12, x13, x14, x15, x16, x17) => ⟨[(0, .c (.ptr 0 0)), (1, .c (.int .i64 x0)), (4, .c (.ptr 3 0)), (8, .c (.int .i64 x1)), (9, .c (.int .i64 x2)), (10, .c (.ptr 4 0)), (49, .c (.int .i64 x3)), (50, .c (.int .i64 x4))], [(0, .cells 194 (.int .i64 x5 :: .own 1 :: .int .i64 2048 :: .int .i64 1792 :: .int .i64 1568 :: .int .i64 1372 :: .int .i64 1201 :: .int .i64 1051 :: .int .i64 920 :: .int .i64 805 :: .int .i64 705 :: .int .i64 617 :: .int .i64 540 :: .int .i64 473 :: .int .i64 414 :: .int .i64 363 :: .int .i64 318 :: .int .i64 279 :: .int .i64 245 :: .int .i64 215 :: .int .i64 189 :: .int .i64 166 :: .int .i64 146 :: .int .i64 128 :: .int .i64 112 :: .int .i64 98 :: .int .i64 86 :: .int .i64 76 :: .int .i64 67 :: .int .i64 59 :: .int .i64 52 :: .int .i64 46 :: .int .i64 41 :: .int .i64 36 :: .int .u64 x6 :: .int .u64 x7 :: .own 2 :: .int .i64 x8 :: .int .u64 x9 :: .int .i64 x10 :: .bool x11 :: .bool x12 :: [])), (1, .vec 3 (.int .i64) x13 false), (2, .vec 5 (.int .u8) x14 false), (3, .cells 124 [.bool x15, .int .i64 x16]), (4, .cells 269 [.int .i64 x17])], 5, 3⟩
noncomputable def E240_aa3_2 (K : Ev.Ex → Ev.St → Option Ans) : (Int × Int × Int × Int × Int × Int × Int × Bool × Bool × (List Int) × (List Int) × Bool × Int → Option Ans) × (Int × Int × Int × Int × Int × Int × Int × Int × Bool × Bool × (List Int) × (List Int) × Bool × Int → Option Ans) := ((fun v => match v with | (x0, x1, x2, x3, x4, x5, x6, x7, x8, x9, x10, x11, x12) => K .ret ⟨[(4, .c (.ptr 3 0)), (5, .c (.int .i64 x0))], [(0, .cells 194 (.int .i64 x1 :: .own 1 :: .int .i64 2048 :: .int .i64 1792 :: .int .i64 1568 :: .int .i64 1372 :: .int .i64 1201 :: .int .i64 1051 :: .int .i64 920 :: .int .i64 805 :: .int .i64 705 :: .int .i64 617 :: .int .i64 540 :: .int .i64 473 :: .int .i64 414 :: .int .i64 363 :: .int .i64 318 :: .int .i64 279 :: .int .i64 245 :: .int .i64 215 :: .int .i64 189 :: .int .i64 166 :: .int .i64 146 :: .int .i64 128 :: .int .i64 112 :: .int .i64 98 :: .int .i64 86 :: .int .i64 76 :: .int .i64 67 :: .int .i64 59 :: .int .i64 52 :: .int .i64 46 :: .int .i64 41 :: .int .i64 36 :: .int .u64 x2 :: .int .u64 x3 :: .own 2 :: .int .i64 x4 :: .int .u64 x5 :: .int .i64 x6 :: .bool x7 :: .bool x8 :: [])), (1, .vec 3 (.int .i64) x9 false), (2, .vec 5 (.int .u8) x10 false), (3, .cells 124 [.bool x11, .int .i64 x12])], 4, 3⟩), (fun v => match v with | (x0, x1, x2, x3, x4, x5, x6, x7, x8, x9, x10, x11, x12, x13) => K .normal ⟨[(0, .c (.ptr 0 0)), (1, .c (.int .i64 x0)), (4, .c (.ptr 3 0)), (9, .c (.int .i64 x1))], [(0, .cells 194 (.int .i64 x2 :: .own 1 :: .int .i64 2048 :: .int .i64 1792 :: .int .i64 1568 :: .int .i64 1372 :: .int .i64 1201 :: .int .i64 1051 :: .int .i64 920 :: .int .i64 805 :: .int .i64 705 :: .int .i64 617 :: .int .i64 540 :: .int .i64 473 :: .int .i64 414 :: .int .i64 363 :: .int .i64 318 :: .int .i64 279 :: .int .i64 245 :: .int .i64 215 :: .int .i64 189 :: .int .i64 166 :: .int .i64 146 :: .int .i64 128 :: .int .i64 112 :: .int .i64 98 :: .int .i64 86 :: .int .i64 76 :: .int .i64 67 :: .int .i64 59 :: .int .i64 52 :: .int .i64 46 :: .int .i64 41 :: .int .i64 36 :: .int .u64 x3 :: .int .u64 x4 :: .own 2 :: .int .i64 x5 :: .int .u64 x6 :: .int .i64 x7 :: .bool x8 :: .bool x9 :: [])), (1, .vec 3 (.int .i64) x10 false), (2, .vec 5 (.int .u8) x11 false), (3, .cells 124 [.bool x12, .int .i64 x13])], 4, 3⟩))
theorem S240_aa3_2_okg (fuel : Nat) (f146_aa3 : YF146_aa3) (f236 : YF236) (R : Ev.St → Option Ans) (K : Ev.Ex → Ev.St → Option Ans) (x0 : Int) (x1 : Int) (x2 : Int) (x3 : Int) (x4 : Int) (x5 : Int) (x6 : Int) (x7 : Int) (x8 : Int) (x9 : Int) (x10 : Int) (x11 : Bool) (x12 : Bool) (x13 : (List Int)) (x14 : (List Int)) (x15 : Bool) (x16 : Int) (x17 : Int) : evalCode tab (Gg240_aa3 f146_aa3 f236) (J240_aa3_2 fuel) kp240_aa3 fuel (bodyOf 2 Tryz.f240) (T240_aa3_2 (x0, x1, x2, x3, x4, x5, x6, x7, x8, x9, x10, x11, x12, x13, x14, x15, x16, x17)) (lc kp240_aa3 14 2 R K) = (fun (c : (Int × Int × Int × Int × Int × Int × Int × Int × Int × Int × Int × Bool × Bool × (List Int) × (List Int) × Bool × Int × Int) → Option Ans) (B : (Int × Int × Int × Int × Int × Int × Int × Bool × Bool × (List Int) × (List Int) × Bool × Int → Option Ans) × (Int × Int × Int × Int × Int × Int × Int × Int × Bool × Bool × (List Int) × (List Int) × Bool × Int → Option Ans)) => match B with
  | (ret, b) =>
   bif Decidable.decide (x4 < x3) then
      bif Decidable.decide (x4 > (0 : Int)) then
       (f236 (x17)
         (fun (y4_0, y4_1) =>
           (f146_aa3 (Go.IntKind.i64.wrap (x0 + y4_0)) (x5) (x6) (x7) (x8) (x9) (x10) (x11) (x12) (x13) (x14)
             (fun (y8_0, y8_1, y8_2, y8_3, y8_4, y8_5, y8_6, y8_7, y8_8, y8_9, y8_10, y8_11) =>
               bif y8_1 != (0 : Int) then
                ret (y8_1, y8_2, y8_3, y8_4, y8_5, y8_6, y8_7, y8_8, y8_9, y8_10, y8_11, Bool.false, (0 : Int))
               else
                c (x0, x1, Go.IntKind.i64.wrap (Go.IntKind.i64.wrap ((2 : Int) * x2) + y8_0), x3, Go.IntKind.i64.wrap (x4 + (1 : Int)), y8_2, y8_3, y8_4, y8_5, y8_6, y8_7, y8_8, y8_9, y8_10, y8_11, x15, x16, y4_1)))))
      else
       (f146_aa3 (Go.IntKind.i64.wrap (x0 + Go.IntKind.i64.wrap ((23 : Int) + x1))) (x5) (x6) (x7) (x8) (x9) (x10) (x11) (x12) (x13) (x14)
         (fun (y4_0, y4_1, y4_2, y4_3, y4_4, y4_5, y4_6, y4_7, y4_8, y4_9, y4_10, y4_11) =>
           bif y4_1 != (0 : Int) then
            ret (y4_1, y4_2, y4_3, y4_4, y4_5, y4_6, y4_7, y4_8, y4_9, y4_10, y4_11, Bool.false, (0 : Int))
           else
            c (x0, x1, Go.IntKind.i64.wrap (Go.IntKind.i64.wrap ((2 : Int) * x2) + y4_0), x3, Go.IntKind.i64.wrap (x4 + (1 : Int)), y4_2, y4_3, y4_4, y4_5, y4_6, y4_7, y4_8, y4_9, y4_10, y4_11, x15, x16, x17)))
     else
      b (x0, x2, x5, x6, x7, x8, x9, x10, x11, x12, x13, x14, x15, x16)) (fun v => R (T240_aa3_2 v)) (E240_aa3_2 K) := by
  kernel_rfl
theorem S240_aa3_2_ok (fuel : Nat) (R : Ev.St → Option Ans) (K : Ev.Ex → Ev.St → Option Ans) (x0 : Int) (x1 : Int) (x2 : Int) (x3 : Int) (x4 : Int) (x5 : Int) (x6 : Int) (x7 : Int) (x8 : Int) (x9 : Int) (x10 : Int) (x11 : Bool) (x12 : Bool) (x13 : (List Int)) (x14 : (List Int)) (x15 : Bool) (x16 : Int) (x17 : Int) : evalCode tab (G240_aa3 fuel) (J240_aa3_2 fuel) kp240_aa3 fuel (bodyOf 2 Tryz.f240) (T240_aa3_2 (x0, x1, x2, x3, x4, x5, x6, x7, x8, x9, x10, x11, x12, x13, x14, x15, x16, x17)) (lc kp240_aa3 14 2 R K) = S_number_get_aa3_2 fuel (x0, x1, x2, x3, x4, x5, x6, x7, x8, x9, x10, x11, x12, x13, x14, x15, x16, x17) (fun v => R (T240_aa3_2 v)) (E240_aa3_2 K) :=
  S240_aa3_2_okg fuel (F_coder_Decoder_Get_aa3 fuel) (F_number_tail_take fuel) R K x0 x1 x2 x3 x4 x5 x6 x7 x8 x9 x10 x11 x12 x13 x14 x15 x16 x17
noncomputable def B240_aa3_2 (fuel : Nat) : Ev.Blk := fun st K => match canonO (kp240_aa3 14) st with
  | some s => (match s with
    | ⟨[(q0, .c (.ptr q1 q2)), (q3, .c (.int .i64 x0)), (q4, .c (.ptr q5 q6)), (q7, .c (.int .i64 x1)), (q8, .c (.int .i64 x2)), (q9, .c (.ptr q10 q11)), (q12, .c (.int .i64 x3)), (q13, .c (.int .i64 x4))], [(q14, .cells q15 cs0), (q16, .vec q17 (.int .i64) x13 false), (q18, .vec q19 (.int .u8) x14 false), (q20, .cells q21 [.bool x15, .int .i64 x16]), (q22, .cells q23 [.int .i64 x17])], q24, q25⟩ => (match splitRun 2 [(.i64, 2048), (.i64, 1792), (.i64, 1568), (.i64, 1372), (.i64, 1201), (.i64, 1051), (.i64, 920), (.i64, 805), (.i64, 705), (.i64, 617), (.i64, 540), (.i64, 473), (.i64, 414), (.i64, 363), (.i64, 318), (.i64, 279), (.i64, 245), (.i64, 215), (.i64, 189), (.i64, 166), (.i64, 146), (.i64, 128), (.i64, 112), (.i64, 98), (.i64, 86), (.i64, 76), (.i64, 67), (.i64, 59), (.i64, 52), (.i64, 46), (.i64, 41), (.i64, 36)] cs0 with | some ([.int .i64 x5, .own q26], [.int .u64 x6, .int .u64 x7, .own q27, .int .i64 x8, .int .u64 x9, .int .i64 x10, .bool x11, .bool x12]) => bif Nat.beq q0 0 && Nat.beq q1 0 && Nat.beq q2 0 && Nat.beq q3 1 && Nat.beq q4 4 && Nat.beq q5 3 && Nat.beq q6 0 && Nat.beq q7 8 && Nat.beq q8 9 && Nat.beq q9 10 && Nat.beq q10 4 && Nat.beq q11 0 && Nat.beq q12 49 && Nat.beq q13 50 && Nat.beq q14 0 && Nat.beq q15 194 && Nat.beq q16 1 && Nat.beq q17 3 && Nat.beq q18 2 && Nat.beq q19 5 && Nat.beq q20 3 && Nat.beq q21 124 && Nat.beq q22 4 && Nat.beq q23 269 && Nat.beq q24 5 && Nat.beq q25 3 && Nat.beq q26 1 && Nat.beq q27 2 then iter (S_number_get_aa3_2 fuel) fuel (x0, x1, x2, x3, x4, x5, x6, x7, x8, x9, x10, x11, x12, x13, x14, x15, x16, x17) (E240_aa3_2 K) else none | _ => none)
    | _ => none)
  | none => none
theorem B240_aa3_2_ok (fuel : Nat) (st : Ev.St) (K : Ev.Ex → Ev.St → Option Ans) (r : Ans) (h : B240_aa3_2 fuel st K = some r) : evalCode tab (G240_aa3 fuel) (J240_aa3_2 fuel) kp240_aa3 fuel (.block 2 (.loop (bodyOf 2 Tryz.f240))) st K = some r := by
  unfold B240_aa3_2 at h
  split at h
  · rename_i s hs
    split at h
    · skip
      split at h
      rotate_left 1
      · cases h
      rename_i hsp
      have esp := splitRun_eq hsp
      subst esp
      obtain ⟨hb, h⟩ := cond_some' h
      simp only [Bool.and_eq_true, Nat.beq_eq, decide_eq_true_eq] at hb
      obtain ⟨⟨⟨⟨⟨⟨⟨⟨⟨⟨⟨⟨⟨⟨⟨⟨⟨⟨⟨⟨⟨⟨⟨⟨⟨⟨⟨rfl, rfl⟩, rfl⟩, rfl⟩, rfl⟩, rfl⟩, rfl⟩, rfl⟩, rfl⟩, rfl⟩, rfl⟩, rfl⟩, rfl⟩, rfl⟩, rfl⟩, rfl⟩, rfl⟩, rfl⟩, rfl⟩, rfl⟩, rfl⟩, rfl⟩, rfl⟩, rfl⟩, rfl⟩, rfl⟩, rfl⟩, rfl⟩ := hb
      exact blk_loop (S := T240_aa3_2) (ks := E240_aa3_2) (step := S_number_get_aa3_2 fuel) (v := (_, _, _, _, _, _, _, _, _, _, _, _, _, _, _, _, _, _)) (by kernel_rfl) (by kernel_rfl) (fun R K v => by obtain ⟨x0, x1, x2, x3, x4, x5, x6, x7, x8, x9, x10, x11, x12, x13, x14, x15, x16, x17⟩ := v; exact S240_aa3_2_ok fuel R K x0 x1 x2 x3 x4 x5 x6 x7 x8 x9 x10 x11 x12 x13 x14 x15 x16 x17) hs h
    · cases h
  · cases h
noncomputable def J240_aa3 (fuel : Nat) (i : Nat) : Option Ev.Blk := Ev.look i [(100000, B240_aa3_0 fuel), (100002, B240_aa3_2 fuel)]
noncomputable def F_number_get_aa3 (fuel : Nat) (x0 : Int) (x1 : Int) (x2 : Int) (x3 : Int) (x4 : Int) (x5 : Int) (x6 : Int) (x7 : Bool) (x8 : Bool) (x9 : (List Int)) (x10 : (List Int)) (k0 : (Bool × Int × Int × Int × Int × Int × Int × Int × Int × Bool × Bool × (List Int) × (List Int)) → Option Ans) : Option Ans :=
  (F_coder_Decoder_Get_aa3 fuel (x0) (x1) (x2) (x3) (x4) (x5) (x6) (x7) (x8) (x9) (x10)
    (fun (y2_0, y2_1, y2_2, y2_3, y2_4, y2_5, y2_6, y2_7, y2_8, y2_9, y2_10, y2_11) =>
      bif y2_1 != (0 : Int) then
       k0 (y2_1 == (0 : Int), (0 : Int), y2_1, y2_2, y2_3, y2_4, y2_5, y2_6, y2_7, y2_8, y2_9, y2_10, y2_11)
      else
       bif y2_0 == (1 : Int) then
        k0 (y2_1 == (0 : Int), (0 : Int), y2_1, y2_2, y2_3, y2_4, y2_5, y2_6, y2_7, y2_8, y2_9, y2_10, y2_11)
       else
        (L_number_get_aa3_0 fuel (x0, (0 : Int), y2_2, y2_3, y2_4, y2_5, y2_6, y2_7, y2_8, y2_9, y2_10, y2_11, Bool.false, (0 : Int))
          (fun (ret0_0, ret0_1, ret0_2, ret0_3, ret0_4, ret0_5, ret0_6, ret0_7, ret0_8, ret0_9, ret0_10, ret0_11, ret0_12) =>
            k0 (ret0_11, ret0_12, ret0_0, ret0_1, ret0_2, ret0_3, ret0_4, ret0_5, ret0_6, ret0_7, ret0_8, ret0_9, ret0_10))
          (fun (b0_0, b0_1, b0_2, b0_3, b0_4, b0_5, b0_6, b0_7, b0_8, b0_9, b0_10, b0_11, b0_12, b0_13) =>
            (L_number_get_aa3_2 fuel (b0_0, b0_1, (1 : Int), b0_1, (0 : Int), b0_2, b0_3, b0_4, b0_5, b0_6, b0_7, b0_8, b0_9, b0_10, b0_11, b0_12, b0_13, (44 : Int))
              (fun (ret2_0, ret2_1, ret2_2, ret2_3, ret2_4, ret2_5, ret2_6, ret2_7, ret2_8, ret2_9, ret2_10, ret2_11, ret2_12) =>
                k0 (ret2_11, ret2_12, ret2_0, ret2_1, ret2_2, ret2_3, ret2_4, ret2_5, ret2_6, ret2_7, ret2_8, ret2_9, ret2_10))
              (fun (b2_0, b2_1, b2_2, b2_3, b2_4, b2_5, b2_6, b2_7, b2_8, b2_9, b2_10, b2_11, b2_12, b2_13) =>
                bif Decidable.decide (b2_1 > (1048577 : Int)) then
                 k0 (Bool.false, (0 : Int), (3 : Int), b2_2, b2_3, b2_4, b2_5, b2_6, b2_7, b2_8, b2_9, b2_10, b2_11)
                else
                 bif b2_1 == (1 : Int) then
                  k0 (Bool.false, (0 : Int), (0 : Int), b2_2, b2_3, b2_4, b2_5, b2_6, b2_7, b2_8, b2_9, b2_10, b2_11)
                 else
                  (F_coder_Decoder_Get_aa3 fuel (Go.IntKind.i64.wrap (b2_0 + (22 : Int))) (b2_2) (b2_3) (b2_4) (b2_5) (b2_6) (b2_7) (b2_8) (b2_9) (b2_10) (b2_11)
                    (fun (y18_0, y18_1, y18_2, y18_3, y18_4, y18_5, y18_6, y18_7, y18_8, y18_9, y18_10, y18_11) =>
                      bif y18_1 != (0 : Int) then
                       k0 (Bool.false, (0 : Int), y18_1, y18_2, y18_3, y18_4, y18_5, y18_6, y18_7, y18_8, y18_9, y18_10, y18_11)
                      else
                       k0 (Bool.false, Go.IntKind.i64.wrap (Go.IntKind.i64.wrap (b2_1 - (1 : Int)) * Go.IntKind.i64.wrap ((1 : Int) - Go.IntKind.i64.wrap ((2 : Int) * y18_0))), (0 : Int), y18_2, y18_3, y18_4, y18_5, y18_6, y18_7, y18_8, y18_9, y18_10, y18_11)))))))))
abbrev YF240_aa3 : Type := (Int) → (Int) → (Int) → (Int) → (Int) → (Int) → (Int) → (Bool) → (Bool) → ((List Int)) → ((List Int)) → ((Bool × Int × Int × Int × Int × Int × Int × Int × Int × Bool × Bool × (List Int) × (List Int)) → Option Ans) → Option Ans
theorem F240_aa3_eqg (fuel : Nat) (f146_aa3 : YF146_aa3) (f236 : YF236) (x0 : Int) (x1 : Int) (x2 : Int) (x3 : Int) (x4 : Int) (x5 : Int) (x6 : Int) (x7 : Bool) (x8 : Bool) (x9 : (List Int)) (x10 : (List Int)) (k : Ev.Cont) : evalFn tab (Gg240_aa3 f146_aa3 f236) (J240_aa3 fuel) kp240_aa3 fuel Tryz.f240 [.c (.ptr 0 0), .c (.int .i64 x0)] [.cells 194 (.int .i64 x1 :: .own 1 :: .int .i64 2048 :: .int .i64 1792 :: .int .i64 1568 :: .int .i64 1372 :: .int .i64 1201 :: .int .i64 1051 :: .int .i64 920 :: .int .i64 805 :: .int .i64 705 :: .int .i64 617 :: .int .i64 540 :: .int .i64 473 :: .int .i64 414 :: .int .i64 363 :: .int .i64 318 :: .int .i64 279 :: .int .i64 245 :: .int .i64 215 :: .int .i64 189 :: .int .i64 166 :: .int .i64 146 :: .int .i64 128 :: .int .i64 112 :: .int .i64 98 :: .int .i64 86 :: .int .i64 76 :: .int .i64 67 :: .int .i64 59 :: .int .i64 52 :: .int .i64 46 :: .int .i64 41 :: .int .i64 36 :: .int .u64 x2 :: .int .u64 x3 :: .own 2 :: .int .i64 x4 :: .int .u64 x5 :: .int .i64 x6 :: .bool x7 :: .bool x8 :: []), .vec 3 (.int .i64) x9 false, .vec 5 (.int .u8) x10 false] k = (fun  (k0 : (Bool × Int × Int × Int × Int × Int × Int × Int × Int × Bool × Bool × (List Int) × (List Int)) → Option Ans) =>
  (f146_aa3 (x0) (x1) (x2) (x3) (x4) (x5) (x6) (x7) (x8) (x9) (x10)
    (fun (y2_0, y2_1, y2_2, y2_3, y2_4, y2_5, y2_6, y2_7, y2_8, y2_9, y2_10, y2_11) =>
      bif y2_1 != (0 : Int) then
       k0 (y2_1 == (0 : Int), (0 : Int), y2_1, y2_2, y2_3, y2_4, y2_5, y2_6, y2_7, y2_8, y2_9, y2_10, y2_11)
      else
       bif y2_0 == (1 : Int) then
        k0 (y2_1 == (0 : Int), (0 : Int), y2_1, y2_2, y2_3, y2_4, y2_5, y2_6, y2_7, y2_8, y2_9, y2_10, y2_11)
       else
        (L_number_get_aa3_0 fuel (x0, (0 : Int), y2_2, y2_3, y2_4, y2_5, y2_6, y2_7, y2_8, y2_9, y2_10, y2_11, Bool.false, (0 : Int))
          (fun (ret0_0, ret0_1, ret0_2, ret0_3, ret0_4, ret0_5, ret0_6, ret0_7, ret0_8, ret0_9, ret0_10, ret0_11, ret0_12) =>
            k0 (ret0_11, ret0_12, ret0_0, ret0_1, ret0_2, ret0_3, ret0_4, ret0_5, ret0_6, ret0_7, ret0_8, ret0_9, ret0_10))
          (fun (b0_0, b0_1, b0_2, b0_3, b0_4, b0_5, b0_6, b0_7, b0_8, b0_9, b0_10, b0_11, b0_12, b0_13) =>
            (L_number_get_aa3_2 fuel (b0_0, b0_1, (1 : Int), b0_1, (0 : Int), b0_2, b0_3, b0_4, b0_5, b0_6, b0_7, b0_8, b0_9, b0_10, b0_11, b0_12, b0_13, (44 : Int))
              (fun (ret2_0, ret2_1, ret2_2, ret2_3, ret2_4, ret2_5, ret2_6, ret2_7, ret2_8, ret2_9, ret2_10, ret2_11, ret2_12) =>
                k0 (ret2_11, ret2_12, ret2_0, ret2_1, ret2_2, ret2_3, ret2_4, ret2_5, ret2_6, ret2_7, ret2_8, ret2_9, ret2_10))
              (fun (b2_0, b2_1, b2_2, b2_3, b2_4, b2_5, b2_6, b2_7, b2_8, b2_9, b2_10, b2_11, b2_12, b2_13) =>
                bif Decidable.decide (b2_1 > (1048577 : Int)) then
                 k0 (Bool.false, (0 : Int), (3 : Int), b2_2, b2_3, b2_4, b2_5, b2_6, b2_7, b2_8, b2_9, b2_10, b2_11)
                else
                 bif b2_1 == (1 : Int) then
                  k0 (Bool.false, (0 : Int), (0 : Int), b2_2, b2_3, b2_4, b2_5, b2_6, b2_7, b2_8, b2_9, b2_10, b2_11)
                 else
                  (f146_aa3 (Go.IntKind.i64.wrap (b2_0 + (22 : Int))) (b2_2) (b2_3) (b2_4) (b2_5) (b2_6) (b2_7) (b2_8) (b2_9) (b2_10) (b2_11)
                    (fun (y18_0, y18_1, y18_2, y18_3, y18_4, y18_5, y18_6, y18_7, y18_8, y18_9, y18_10, y18_11) =>
                      bif y18_1 != (0 : Int) then
                       k0 (Bool.false, (0 : Int), y18_1, y18_2, y18_3, y18_4, y18_5, y18_6, y18_7, y18_8, y18_9, y18_10, y18_11)
                      else
                       k0 (Bool.false, Go.IntKind.i64.wrap (Go.IntKind.i64.wrap (b2_1 - (1 : Int)) * Go.IntKind.i64.wrap ((1 : Int) - Go.IntKind.i64.wrap ((2 : Int) * y18_0))), (0 : Int), y18_2, y18_3, y18_4, y18_5, y18_6, y18_7, y18_8, y18_9, y18_10, y18_11)))))))))) (fun r => match r with | (r0, r1, r2, r3, r4, r5, r6, r7, r8, r9, r10, r11, r12) => k (.tup [(true, [.bool r0, .int .i64 r1]), (false, [.int .i64 r2])], [.cells 194 (.int .i64 r3 :: .own 1 :: .int .i64 2048 :: .int .i64 1792 :: .int .i64 1568 :: .int .i64 1372 :: .int .i64 1201 :: .int .i64 1051 :: .int .i64 920 :: .int .i64 805 :: .int .i64 705 :: .int .i64 617 :: .int .i64 540 :: .int .i64 473 :: .int .i64 414 :: .int .i64 363 :: .int .i64 318 :: .int .i64 279 :: .int .i64 245 :: .int .i64 215 :: .int .i64 189 :: .int .i64 166 :: .int .i64 146 :: .int .i64 128 :: .int .i64 112 :: .int .i64 98 :: .int .i64 86 :: .int .i64 76 :: .int .i64 67 :: .int .i64 59 :: .int .i64 52 :: .int .i64 46 :: .int .i64 41 :: .int .i64 36 :: .int .u64 r4 :: .int .u64 r5 :: .own 2 :: .int .i64 r6 :: .int .u64 r7 :: .int .i64 r8 :: .bool r9 :: .bool r10 :: []), .vec 3 (.int .i64) r11 false, .vec 5 (.int .u8) r12 false])) := by
  kernel_rfl
theorem F240_aa3_eq (fuel : Nat) (x0 : Int) (x1 : Int) (x2 : Int) (x3 : Int) (x4 : Int) (x5 : Int) (x6 : Int) (x7 : Bool) (x8 : Bool) (x9 : (List Int)) (x10 : (List Int)) (k : Ev.Cont) : evalFn tab (G240_aa3 fuel) (J240_aa3 fuel) kp240_aa3 fuel Tryz.f240 [.c (.ptr 0 0), .c (.int .i64 x0)] [.cells 194 (.int .i64 x1 :: .own 1 :: .int .i64 2048 :: .int .i64 1792 :: .int .i64 1568 :: .int .i64 1372 :: .int .i64 1201 :: .int .i64 1051 :: .int .i64 920 :: .int .i64 805 :: .int .i64 705 :: .int .i64 617 :: .int .i64 540 :: .int .i64 473 :: .int .i64 414 :: .int .i64 363 :: .int .i64 318 :: .int .i64 279 :: .int .i64 245 :: .int .i64 215 :: .int .i64 189 :: .int .i64 166 :: .int .i64 146 :: .int .i64 128 :: .int .i64 112 :: .int .i64 98 :: .int .i64 86 :: .int .i64 76 :: .int .i64 67 :: .int .i64 59 :: .int .i64 52 :: .int .i64 46 :: .int .i64 41 :: .int .i64 36 :: .int .u64 x2 :: .int .u64 x3 :: .own 2 :: .int .i64 x4 :: .int .u64 x5 :: .int .i64 x6 :: .bool x7 :: .bool x8 :: []), .vec 3 (.int .i64) x9 false, .vec 5 (.int .u8) x10 false] k = F_number_get_aa3 fuel x0 x1 x2 x3 x4 x5 x6 x7 x8 x9 x10 (fun r => match r with | (r0, r1, r2, r3, r4, r5, r6, r7, r8, r9, r10, r11, r12) => k (.tup [(true, [.bool r0, .int .i64 r1]), (false, [.int .i64 r2])], [.cells 194 (.int .i64 r3 :: .own 1 :: .int .i64 2048 :: .int .i64 1792 :: .int .i64 1568 :: .int .i64 1372 :: .int .i64 1201 :: .int .i64 1051 :: .int .i64 920 :: .int .i64 805 :: .int .i64 705 :: .int .i64 617 :: .int .i64 540 :: .int .i64 473 :: .int .i64 414 :: .int .i64 363 :: .int .i64 318 :: .int .i64 279 :: .int .i64 245 :: .int .i64 215 :: .int .i64 189 :: .int .i64 166 :: .int .i64 146 :: .int .i64 128 :: .int .i64 112 :: .int .i64 98 :: .int .i64 86 :: .int .i64 76 :: .int .i64 67 :: .int .i64 59 :: .int .i64 52 :: .int .i64 46 :: .int .i64 41 :: .int .i64 36 :: .int .u64 r4 :: .int .u64 r5 :: .own 2 :: .int .i64 r6 :: .int .u64 r7 :: .int .i64 r8 :: .bool r9 :: .bool r10 :: []), .vec 3 (.int .i64) r11 false, .vec 5 (.int .u8) r12 false])) :=
  F240_aa3_eqg fuel (F_coder_Decoder_Get_aa3 fuel) (F_number_tail_take fuel) x0 x1 x2 x3 x4 x5 x6 x7 x8 x9 x10 k
theorem hG240_aa3 (fuel : Nat) : GOK Tryz.prog (G240_aa3 fuel) :=
  gok_cons ⟨ok146_aa3 fuel, enters_of Tryz.func146 (by kernel_rfl) rfl⟩ <|
  gok_cons ⟨ok236 fuel, enters_of Tryz.func236 (by kernel_rfl) rfl⟩ <|
  gok_nil
theorem B240_aa3_0_blk (fuel : Nat) : BlkOK Tryz.prog Tryz.f240.ntmps (.block 0 (.loop (bodyOf 0 Tryz.f240))) (B240_aa3_0 fuel) :=
  blk_of (blk_of_code tab_ok (hG240_aa3 fuel) mixed (J := J240_aa3_0 fuel) (kp := kp240_aa3) (fuel := fuel) (by kernel_rfl) (fun q hq => by
    rw [(by kernel_rfl : obl (J240_aa3_0 fuel) (.block 0 (.loop (bodyOf 0 Tryz.f240))) = [])] at hq
    cases hq)) (B240_aa3_0_ok fuel)
theorem B240_aa3_2_blk (fuel : Nat) : BlkOK Tryz.prog Tryz.f240.ntmps (.block 2 (.loop (bodyOf 2 Tryz.f240))) (B240_aa3_2 fuel) :=
  blk_of (blk_of_code tab_ok (hG240_aa3 fuel) mixed (J := J240_aa3_2 fuel) (kp := kp240_aa3) (fuel := fuel) (by kernel_rfl) (fun q hq => by
    rw [(by kernel_rfl : obl (J240_aa3_2 fuel) (.block 2 (.loop (bodyOf 2 Tryz.f240))) = [])] at hq
    cases hq)) (B240_aa3_2_ok fuel)
theorem fok240_aa3 (fuel : Nat) : FnOK Tryz.prog 240 (evalFn tab (G240_aa3 fuel) (J240_aa3 fuel) kp240_aa3 fuel Tryz.f240) :=
  fn_ok tab_ok (hG240_aa3 fuel) mixed Tryz.func240 (c := (Tryz.f240.body).getD .skip) rfl (fun q hq => by
    rw [(by kernel_rfl : obl (J240_aa3 fuel) ((Tryz.f240.body).getD .skip) = [(.block 0 (.loop (bodyOf 0 Tryz.f240)), B240_aa3_0 fuel), (.block 2 (.loop (bodyOf 2 Tryz.f240)), B240_aa3_2 fuel)])] at hq
    simp only [List.mem_cons, List.not_mem_nil, or_false] at hq
    rcases hq with rfl | rfl
    · exact B240_aa3_0_blk fuel
    · exact B240_aa3_2_blk fuel)
noncomputable def mt240_aa3 : List Ev.SV → List Ev.Ob → Bool := fun args objs => match args, objs with
  | [.c (.ptr q0 q1), .c (.int .i64 _)], [.cells q2 cs0, .vec q3 (.int .i64) _ false, .vec q4 (.int .u8) _ false] => (match splitRun 2 [(.i64, 2048), (.i64, 1792), (.i64, 1568), (.i64, 1372), (.i64, 1201), (.i64, 1051), (.i64, 920), (.i64, 805), (.i64, 705), (.i64, 617), (.i64, 540), (.i64, 473), (.i64, 414), (.i64, 363), (.i64, 318), (.i64, 279), (.i64, 245), (.i64, 215), (.i64, 189), (.i64, 166), (.i64, 146), (.i64, 128), (.i64, 112), (.i64, 98), (.i64, 86), (.i64, 76), (.i64, 67), (.i64, 59), (.i64, 52), (.i64, 46), (.i64, 41), (.i64, 36)] cs0 with | some ([.int .i64 _, .own q5], [.int .u64 _, .int .u64 _, .own q6, .int .i64 _, .int .u64 _, .int .i64 _, .bool _, .bool _]) => Nat.beq q0 0 && Nat.beq q1 0 && Nat.beq q2 194 && Nat.beq q3 3 && Nat.beq q4 5 && Nat.beq q5 1 && Nat.beq q6 2 | _ => false)
  | _, _ => false
noncomputable def spg240_aa3 (F : YF240_aa3) : Ev.Spec := fun args objs k => match args, objs with
  | [.c (.ptr q0 q1), .c (.int .i64 x0)], [.cells q2 cs0, .vec q3 (.int .i64) x9 false, .vec q4 (.int .u8) x10 false] => (match splitRun 2 [(.i64, 2048), (.i64, 1792), (.i64, 1568), (.i64, 1372), (.i64, 1201), (.i64, 1051), (.i64, 920), (.i64, 805), (.i64, 705), (.i64, 617), (.i64, 540), (.i64, 473), (.i64, 414), (.i64, 363), (.i64, 318), (.i64, 279), (.i64, 245), (.i64, 215), (.i64, 189), (.i64, 166), (.i64, 146), (.i64, 128), (.i64, 112), (.i64, 98), (.i64, 86), (.i64, 76), (.i64, 67), (.i64, 59), (.i64, 52), (.i64, 46), (.i64, 41), (.i64, 36)] cs0 with | some ([.int .i64 x1, .own q5], [.int .u64 x2, .int .u64 x3, .own q6, .int .i64 x4, .int .u64 x5, .int .i64 x6, .bool x7, .bool x8]) => bif Nat.beq q0 0 && Nat.beq q1 0 && Nat.beq q2 194 && Nat.beq q3 3 && Nat.beq q4 5 && Nat.beq q5 1 && Nat.beq q6 2 then F x0 x1 x2 x3 x4 x5 x6 x7 x8 x9 x10 (fun r => match r with | (r0, r1, r2, r3, r4, r5, r6, r7, r8, r9, r10, r11, r12) => k (.tup [(true, [.bool r0, .int .i64 r1]), (false, [.int .i64 r2])], [.cells 194 (.int .i64 r3 :: .own 1 :: .int .i64 2048 :: .int .i64 1792 :: .int .i64 1568 :: .int .i64 1372 :: .int .i64 1201 :: .int .i64 1051 :: .int .i64 920 :: .int .i64 805 :: .int .i64 705 :: .int .i64 617 :: .int .i64 540 :: .int .i64 473 :: .int .i64 414 :: .int .i64 363 :: .int .i64 318 :: .int .i64 279 :: .int .i64 245 :: .int .i64 215 :: .int .i64 189 :: .int .i64 166 :: .int .i64 146 :: .int .i64 128 :: .int .i64 112 :: .int .i64 98 :: .int .i64 86 :: .int .i64 76 :: .int .i64 67 :: .int .i64 59 :: .int .i64 52 :: .int .i64 46 :: .int .i64 41 :: .int .i64 36 :: .int .u64 r4 :: .int .u64 r5 :: .own 2 :: .int .i64 r6 :: .int .u64 r7 :: .int .i64 r8 :: .bool r9 :: .bool r10 :: []), .vec 3 (.int .i64) r11 false, .vec 5 (.int .u8) r12 false])) else none | _ => none)
  | _, _ => none
noncomputable def spec240_aa3 (fuel : Nat) : Ev.Spec := spg240_aa3 (F_number_get_aa3 fuel)
theorem ok240_aa3 (fuel : Nat) : FnOK Tryz.prog 240 (spec240_aa3 fuel) := by
  intro args objs kk r h
  unfold spec240_aa3 spg240_aa3 at h
  split at h
  · skip
    split at h
    rotate_left 1
    · cases h
    rename_i hsp
    have esp := splitRun_eq hsp
    subst esp
    obtain ⟨hb, h⟩ := cond_some' h
    simp only [Bool.and_eq_true, Nat.beq_eq, decide_eq_true_eq] at hb
    obtain ⟨⟨⟨⟨⟨⟨rfl, rfl⟩, rfl⟩, rfl⟩, rfl⟩, rfl⟩, rfl⟩ := hb
    exact fok240_aa3 fuel _ _ kk r ((F240_aa3_eq fuel _ _ _ _ _ _ _ _ _ _ _ kk).trans h)
  · cases h
end Go.Proofs.YtipdidpalcmlhaaGreat

set_option linter.unusedVariables false
set_option linter.unusedSimpArgs false
set_option maxRecDepth 100000
set_option maxHeartbeats 2000000
namespace Go.Proofs.YtipdidpalcmlhaaGreat
open Go Ev
def kp189_aa3 (i : Nat) : Option (List Nat) := Ev.look i []
noncomputable def Gg189_aa3 (f146_aa3 : YF146_aa3) (f147_40a : YF147_40a) (f170 : YF170) (f240_aa3 : YF240_aa3) (f : Nat) : Option Ev.Spec := Ev.look f [(146, spg146_aa3 f146_aa3), (147, spg147_40a f147_40a), (170, spg170 f170), (240, spg240_aa3 f240_aa3)]
noncomputable def G189_aa3 (fuel : Nat) : Nat → Option Ev.Spec := Gg189_aa3 (F_coder_Decoder_Get_aa3 fuel) (F_coder_Decoder_Model_40a fuel) (F_number_fits fuel) (F_number_get_aa3 fuel)
noncomputable def J189_aa3 (fuel : Nat) (i : Nat) : Option Ev.Blk := Ev.look i []
noncomputable def F_number_Get_aa3 (fuel : Nat) (x0 : Int) (x1 : Int) (x2 : Int) (x3 : Int) (x4 : Int) (x5 : Int) (x6 : Int) (x7 : Bool) (x8 : Bool) (x9 : (List Int)) (x10 : (List Int)) (k0 : (Bool × Int × Int × Int × Int × Int × Int × Int × Int × Bool × Bool × (List Int) × (List Int)) → Option Ans) : Option Ans :=
  (F_coder_Decoder_Get_aa3 fuel ((-1 : Int)) (x1) (x2) (x3) (x4) (x5) (x6) (x7) (x8) (x9) (x10)
    (fun (y2_0, y2_1, y2_2, y2_3, y2_4, y2_5, y2_6, y2_7, y2_8, y2_9, y2_10, y2_11) =>
      bif y2_1 == (7 : Int) then
       k0 (Bool.false, (0 : Int), y2_1, y2_2, y2_3, y2_4, y2_5, y2_6, y2_7, y2_8, y2_9, y2_10, y2_11)
      else
       (F_coder_Decoder_Model_40a fuel (y2_2) (y2_3) (y2_4) (y2_5) (y2_6) (y2_7) (y2_8) (y2_9) (y2_10) (y2_11)
         (fun (y7_0, y7_1, y7_2, y7_3, y7_4, y7_5, y7_6, y7_7, y7_8, y7_9, y7_10, y7_11) =>
           (F_number_fits fuel (y7_0) (y7_11) (x0) ((48 : Int))
             (fun y11 =>
               bif y11 != (0 : Int) then
                k0 (Bool.false, (0 : Int), y11, y7_1, y7_2, y7_3, y7_4, y7_5, y7_6, y7_7, y7_8, y7_9, y7_10)
               else
                (F_number_get_aa3 fuel (x0) (y7_1) (y7_2) (y7_3) (y7_4) (y7_5) (y7_6) (y7_7) (y7_8) (y7_9) (y7_10)
                  (fun (y16_0, y16_1, y16_2, y16_3, y16_4, y16_5, y16_6, y16_7, y16_8, y16_9, y16_10, y16_11, y16_12) =>
                    k0 (y16_0, y16_1, y16_2, y16_3, y16_4, y16_5, y16_6, y16_7, y16_8, y16_9, y16_10, y16_11, y16_12)))))))))
abbrev YF189_aa3 : Type := (Int) → (Int) → (Int) → (Int) → (Int) → (Int) → (Int) → (Bool) → (Bool) → ((List Int)) → ((List Int)) → ((Bool × Int × Int × Int × Int × Int × Int × Int × Int × Bool × Bool × (List Int) × (List Int)) → Option Ans) → Option Ans
theorem F189_aa3_eqg (fuel : Nat) (f146_aa3 : YF146_aa3) (f147_40a : YF147_40a) (f170 : YF170) (f240_aa3 : YF240_aa3) (x0 : Int) (x1 : Int) (x2 : Int) (x3 : Int) (x4 : Int) (x5 : Int) (x6 : Int) (x7 : Bool) (x8 : Bool) (x9 : (List Int)) (x10 : (List Int)) (k : Ev.Cont) : evalFn tab (Gg189_aa3 f146_aa3 f147_40a f170 f240_aa3) (J189_aa3 fuel) kp189_aa3 fuel Tryz.f189 [.c (.ptr 0 0), .c (.int .i64 x0)] [.cells 194 (.int .i64 x1 :: .own 1 :: .int .i64 2048 :: .int .i64 1792 :: .int .i64 1568 :: .int .i64 1372 :: .int .i64 1201 :: .int .i64 1051 :: .int .i64 920 :: .int .i64 805 :: .int .i64 705 :: .int .i64 617 :: .int .i64 540 :: .int .i64 473 :: .int .i64 414 :: .int .i64 363 :: .int .i64 318 :: .int .i64 279 :: .int .i64 245 :: .int .i64 215 :: .int .i64 189 :: .int .i64 166 :: .int .i64 146 :: .int .i64 128 :: .int .i64 112 :: .int .i64 98 :: .int .i64 86 :: .int .i64 76 :: .int .i64 67 :: .int .i64 59 :: .int .i64 52 :: .int .i64 46 :: .int .i64 41 :: .int .i64 36 :: .int .u64 x2 :: .int .u64 x3 :: .own 2 :: .int .i64 x4 :: .int .u64 x5 :: .int .i64 x6 :: .bool x7 :: .bool x8 :: []), .vec 3 (.int .i64) x9 false, .vec 5 (.int .u8) x10 false] k = (fun  (k0 : (Bool × Int × Int × Int × Int × Int × Int × Int × Int × Bool × Bool × (List Int) × (List Int)) → Option Ans) =>
  (f146_aa3 ((-1 : Int)) (x1) (x2) (x3) (x4) (x5) (x6) (x7) (x8) (x9) (x10)
    (fun (y2_0, y2_1, y2_2, y2_3, y2_4, y2_5, y2_6, y2_7, y2_8, y2_9, y2_10, y2_11) =>
      bif y2_1 == (7 : Int) then
       k0 (Bool.false, (0 : Int), y2_1, y2_2, y2_3, y2_4, y2_5, y2_6, y2_7, y2_8, y2_9, y2_10, y2_11)
      else
       (f147_40a (y2_2) (y2_3) (y2_4) (y2_5) (y2_6) (y2_7) (y2_8) (y2_9) (y2_10) (y2_11)
         (fun (y7_0, y7_1, y7_2, y7_3, y7_4, y7_5, y7_6, y7_7, y7_8, y7_9, y7_10, y7_11) =>
           (f170 (y7_0) (y7_11) (x0) ((48 : Int))
             (fun y11 =>
               bif y11 != (0 : Int) then
                k0 (Bool.false, (0 : Int), y11, y7_1, y7_2, y7_3, y7_4, y7_5, y7_6, y7_7, y7_8, y7_9, y7_10)
               else
                (f240_aa3 (x0) (y7_1) (y7_2) (y7_3) (y7_4) (y7_5) (y7_6) (y7_7) (y7_8) (y7_9) (y7_10)
                  (fun (y16_0, y16_1, y16_2, y16_3, y16_4, y16_5, y16_6, y16_7, y16_8, y16_9, y16_10, y16_11, y16_12) =>
                    k0 (y16_0, y16_1, y16_2, y16_3, y16_4, y16_5, y16_6, y16_7, y16_8, y16_9, y16_10, y16_11, y16_12)))))))))) (fun r => match r with | (r0, r1, r2, r3, r4, r5, r6, r7, r8, r9, r10, r11, r12) => k (.tup [(true, [.bool r0, .int .i64 r1]), (false, [.int .i64 r2])], [.cells 194 (.int .i64 r3 :: .own 1 :: .int .i64 2048 :: .int .i64 1792 :: .int .i64 1568 :: .int .i64 1372 :: .int .i64 1201 :: .int .i64 1051 :: .int .i64 920 :: .int .i64 805 :: .int .i64 705 :: .int .i64 617 :: .int .i64 540 :: .int .i64 473 :: .int .i64 414 :: .int .i64 363 :: .int .i64 318 :: .int .i64 279 :: .int .i64 245 :: .int .i64 215 :: .int .i64 189 :: .int .i64 166 :: .int .i64 146 :: .int .i64 128 :: .int .i64 112 :: .int .i64 98 :: .int .i64 86 :: .int .i64 76 :: .int .i64 67 :: .int .i64 59 :: .int .i64 52 :: .int .i64 46 :: .int .i64 41 :: .int .i64 36 :: .int .u64 r4 :: .int .u64 r5 :: .own 2 :: .int .i64 r6 :: .int .u64 r7 :: .int .i64 r8 :: .bool r9 :: .bool r10 :: []), .vec 3 (.int .i64) r11 false, .vec 5 (.int .u8) r12 false])) := by
  kernel_rfl
theorem F189_aa3_eq (fuel : Nat) (x0 : Int) (x1 : Int) (x2 : Int) (x3 : Int) (x4 : Int) (x5 : Int) (x6 : Int) (x7 : Bool) (x8 : Bool) (x9 : (List Int)) (x10 : (List Int)) (k : Ev.Cont) : evalFn tab (G189_aa3 fuel) (J189_aa3 fuel) kp189_aa3 fuel Tryz.f189 [.c (.ptr 0 0), .c (.int .i64 x0)] [.cells 194 (.int .i64 x1 :: .own 1 :: .int .i64 2048 :: .int .i64 1792 :: .int .i64 1568 :: .int .i64 1372 :: .int .i64 1201 :: .int .i64 1051 :: .int .i64 920 :: .int .i64 805 :: .int .i64 705 :: .int .i64 617 :: .int .i64 540 :: .int .i64 473 :: .int .i64 414 :: .int .i64 363 :: .int .i64 318 :: .int .i64 279 :: .int .i64 245 :: .int .i64 215 :: .int .i64 189 :: .int .i64 166 :: .int .i64 146 :: .int .i64 128 :: .int .i64 112 :: .int .i64 98 :: .int .i64 86 :: .int .i64 76 :: .int .i64 67 :: .int .i64 59 :: .int .i64 52 :: .int .i64 46 :: .int .i64 41 :: .int .i64 36 :: .int .u64 x2 :: .int .u64 x3 :: .own 2 :: .int .i64 x4 :: .int .u64 x5 :: .int .i64 x6 :: .bool x7 :: .bool x8 :: []), .vec 3 (.int .i64) x9 false, .vec 5 (.int .u8) x10 false] k = F_number_Get_aa3 fuel x0 x1 x2 x3 x4 x5 x6 x7 x8 x9 x10 (fun r => match r with | (r0, r1, r2, r3, r4, r5, r6, r7, r8, r9, r10, r11, r12) => k (.tup [(true, [.bool r0, .int .i64 r1]), (false, [.int .i64 r2])], [.cells 194 (.int .i64 r3 :: .own 1 :: .int .i64 2048 :: .int .i64 1792 :: .int .i64 1568 :: .int .i64 1372 :: .int .i64 1201 :: .int .i64 1051 :: .int .i64 920 :: .int .i64 805 :: .int .i64 705 :: .int .i64 617 :: .int .i64 540 :: .int .i64 473 :: .int .i64 414 :: .int .i64 363 :: .int .i64 318 :: .int .i64 279 :: .int .i64 245 :: .int .i64 215 :: .int .i64 189 :: .int .i64 166 :: .int .i64 146 :: .int .i64 128 :: .int .i64 112 :: .int .i64 98 :: .int .i64 86 :: .int .i64 76 :: .int .i64 67 :: .int .i64 59 :: .int .i64 52 :: .int .i64 46 :: .int .i64 41 :: .int .i64 36 :: .int .u64 r4 :: .int .u64 r5 :: .own 2 :: .int .i64 r6 :: .int .u64 r7 :: .int .i64 r8 :: .bool r9 :: .bool r10 :: []), .vec 3 (.int .i64) r11 false, .vec 5 (.int .u8) r12 false])) :=
  F189_aa3_eqg fuel (F_coder_Decoder_Get_aa3 fuel) (F_coder_Decoder_Model_40a fuel) (F_number_fits fuel) (F_number_get_aa3 fuel) x0 x1 x2 x3 x4 x5 x6 x7 x8 x9 x10 k
theorem hG189_aa3 (fuel : Nat) : GOK Tryz.prog (G189_aa3 fuel) :=
  gok_cons ⟨ok146_aa3 fuel, enters_of Tryz.func146 (by kernel_rfl) rfl⟩ <|
  gok_cons ⟨ok147_40a fuel, enters_of Tryz.func147 (by kernel_rfl) rfl⟩ <|
  gok_cons ⟨ok170 fuel, enters_of Tryz.func170 (by kernel_rfl) rfl⟩ <|
  gok_cons ⟨ok240_aa3 fuel, enters_of Tryz.func240 (by kernel_rfl) rfl⟩ <|
  gok_nil
theorem fok189_aa3 (fuel : Nat) : FnOK Tryz.prog 189 (evalFn tab (G189_aa3 fuel) (J189_aa3 fuel) kp189_aa3 fuel Tryz.f189) :=
  fn_ok tab_ok (hG189_aa3 fuel) mixed Tryz.func189 (c := (Tryz.f189.body).getD .skip) rfl (fun q hq => by
    rw [(by kernel_rfl : obl (J189_aa3 fuel) ((Tryz.f189.body).getD .skip) = [])] at hq
    cases hq)
noncomputable def mt189_aa3 : List Ev.SV → List Ev.Ob → Bool := fun args objs => match args, objs with
  | [.c (.ptr q0 q1), .c (.int .i64 _)], [.cells q2 cs0, .vec q3 (.int .i64) _ false, .vec q4 (.int .u8) _ false] => (match splitRun 2 [(.i64, 2048), (.i64, 1792), (.i64, 1568), (.i64, 1372), (.i64, 1201), (.i64, 1051), (.i64, 920), (.i64, 805), (.i64, 705), (.i64, 617), (.i64, 540), (.i64, 473), (.i64, 414), (.i64, 363), (.i64, 318), (.i64, 279), (.i64, 245), (.i64, 215), (.i64, 189), (.i64, 166), (.i64, 146), (.i64, 128), (.i64, 112), (.i64, 98), (.i64, 86), (.i64, 76), (.i64, 67), (.i64, 59), (.i64, 52), (.i64, 46), (.i64, 41), (.i64, 36)] cs0 with | some ([.int .i64 _, .own q5], [.int .u64 _, .int .u64 _, .own q6, .int .i64 _, .int .u64 _, .int .i64 _, .bool _, .bool _]) => Nat.beq q0 0 && Nat.beq q1 0 && Nat.beq q2 194 && Nat.beq q3 3 && Nat.beq q4 5 && Nat.beq q5 1 && Nat.beq q6 2 | _ => false)
  | _, _ => false
noncomputable def spg189_aa3 (F : YF189_aa3) : Ev.Spec := fun args objs k => match args, objs with
  | [.c (.ptr q0 q1), .c (.int .i64 x0)], [.cells q2 cs0, .vec q3 (.int .i64) x9 false, .vec q4 (.int .u8) x10 false] => (match splitRun 2 [(.i64, 2048), (.i64, 1792), (.i64, 1568), (.i64, 1372), (.i64, 1201), (.i64, 1051), (.i64, 920), (.i64, 805), (.i64, 705), (.i64, 617), (.i64, 540), (.i64, 473), (.i64, 414), (.i64, 363), (.i64, 318), (.i64, 279), (.i64, 245), (.i64, 215), (.i64, 189), (.i64, 166), (.i64, 146), (.i64, 128), (.i64, 112), (.i64, 98), (.i64, 86), (.i64, 76), (.i64, 67), (.i64, 59), (.i64, 52), (.i64, 46), (.i64, 41), (.i64, 36)] cs0 with | some ([.int .i64 x1, .own q5], [.int .u64 x2, .int .u64 x3, .own q6, .int .i64 x4, .int .u64 x5, .int .i64 x6, .bool x7, .bool x8]) => bif Nat.beq q0 0 && Nat.beq q1 0 && Nat.beq q2 194 && Nat.beq q3 3 && Nat.beq q4 5 && Nat.beq q5 1 && Nat.beq q6 2 then F x0 x1 x2 x3 x4 x5 x6 x7 x8 x9 x10 (fun r => match r with | (r0, r1, r2, r3, r4, r5, r6, r7, r8, r9, r10, r11, r12) => k (.tup [(true, [.bool r0, .int .i64 r1]), (false, [.int .i64 r2])], [.cells 194 (.int .i64 r3 :: .own 1 :: .int .i64 2048 :: .int .i64 1792 :: .int .i64 1568 :: .int .i64 1372 :: .int .i64 1201 :: .int .i64 1051 :: .int .i64 920 :: .int .i64 805 :: .int .i64 705 :: .int .i64 617 :: .int .i64 540 :: .int .i64 473 :: .int .i64 414 :: .int .i64 363 :: .int .i64 318 :: .int .i64 279 :: .int .i64 245 :: .int .i64 215 :: .int .i64 189 :: .int .i64 166 :: .int .i64 146 :: .int .i64 128 :: .int .i64 112 :: .int .i64 98 :: .int .i64 86 :: .int .i64 76 :: .int .i64 67 :: .int .i64 59 :: .int .i64 52 :: .int .i64 46 :: .int .i64 41 :: .int .i64 36 :: .int .u64 r4 :: .int .u64 r5 :: .own 2 :: .int .i64 r6 :: .int .u64 r7 :: .int .i64 r8 :: .bool r9 :: .bool r10 :: []), .vec 3 (.int .i64) r11 false, .vec 5 (.int .u8) r12 false])) else none | _ => none)
  | _, _ => none
noncomputable def spec189_aa3 (fuel : Nat) : Ev.Spec := spg189_aa3 (F_number_Get_aa3 fuel)
theorem ok189_aa3 (fuel : Nat) : FnOK Tryz.prog 189 (spec189_aa3 fuel) := by
  intro args objs kk r h
  unfold spec189_aa3 spg189_aa3 at h
  split at h
  · skip
    split at h
    rotate_left 1
    · cases h
    rename_i hsp
    have esp := splitRun_eq hsp
    subst esp
    obtain ⟨hb, h⟩ := cond_some' h
    simp only [Bool.and_eq_true, Nat.beq_eq, decide_eq_true_eq] at hb
    obtain ⟨⟨⟨⟨⟨⟨rfl, rfl⟩, rfl⟩, rfl⟩, rfl⟩, rfl⟩, rfl⟩ := hb
    exact fok189_aa3 fuel _ _ kk r ((F189_aa3_eq fuel _ _ _ _ _ _ _ _ _ _ _ kk).trans h)
  · cases h
end Go.Proofs.YtipdidpalcmlhaaGreat

set_option linter.unusedVariables false
set_option linter.unusedSimpArgs false
set_option maxRecDepth 100000
set_option maxHeartbeats 2000000
namespace Go.Proofs.YtipdidpalcmlhaaGreat
open Go Ev
def kp241_452 (i : Nat) : Option (List Nat) := Ev.look i [(11, [0, 1, 2, 11, 38, 39]), (100000, [2, 11]), (400000, [6, 7])]
noncomputable def Gg241_452 (f146_aa3 : YF146_aa3) (f147_40a : YF147_40a) (f170 : YF170) (f : Nat) : Option Ev.Spec := Ev.look f [(146, spg146_aa3 f146_aa3), (147, spg147_40a f147_40a), (170, spg170 f170)]
noncomputable def G241_452 (fuel : Nat) : Nat → Option Ev.Spec := Gg241_452 (F_coder_Decoder_Get_aa3 fuel) (F_coder_Decoder_Model_40a fuel) (F_number_fits fuel)
noncomputable def S_number_GetId_452_0 (fuel : Nat) (v : Int × Int × Int × Int × Int × Int × Int × Int × Int × Int × Int × Bool × Bool × (List Int) × (List Int)) (c : (Int × Int × Int × Int × Int × Int × Int × Int × Int × Int × Int × Bool × Bool × (List Int) × (List Int)) → Option Ans) (B : (Int × Int × Int × Int × Int × Int × Int × Int × Bool × Bool × (List Int) × (List Int) → Option Ans) × (Int × Int × Int × Int × Int × Int × Int × Int × Bool × Bool × (List Int) × (List Int) → Option Ans)) : Option Ans := match v, B with
  | (x0, x1, x2, x3, x4, x5, x6, x7, x8, x9, x10, x11, x12, x13, x14), (ret, b) =>
   bif Decidable.decide (x4 < x3) then
      (F_coder_Decoder_Get_aa3 fuel (Go.IntKind.i64.wrap (Go.IntKind.i64.wrap (x0 + x2) - (1 : Int))) (x5) (x6) (x7) (x8) (x9) (x10) (x11) (x12) (x13) (x14)
        (fun (y3_0, y3_1, y3_2, y3_3, y3_4, y3_5, y3_6, y3_7, y3_8, y3_9, y3_10, y3_11) =>
          bif y3_1 != (0 : Int) then
           ret ((0 : Int), y3_1, y3_2, y3_3, y3_4, y3_5, y3_6, y3_7, y3_8, y3_9, y3_10, y3_11)
          else
           c (x0, x1, Go.IntKind.i64.wrap (Go.IntKind.i64.wrap ((2 : Int) * x2) + y3_0), x3, Go.IntKind.i64.wrap (x4 + (1 : Int)), y3_2, y3_3, y3_4, y3_5, y3_6, y3_7, y3_8, y3_9, y3_10, y3_11)))
     else
      b (x1, x2, x5, x6, x7, x8, x9, x10, x11, x12, x13, x14)
noncomputable def L_number_GetId_452_0 (fuel : Nat) (v : Int × Int × Int × Int × Int × Int × Int × Int × Int × Int × Int × Bool × Bool × (List Int) × (List Int)) (ret : (Int × Int × Int × Int × Int × Int × Int × Int × Bool × Bool × (List Int) × (List Int) → Option Ans)) (b : (Int × Int × Int × Int × Int × Int × Int × Int × Bool × Bool × (List Int) × (List Int) → Option Ans)) : Option Ans := iter (S_number_GetId_452_0 fuel) fuel v (ret, b)
noncomputable def J241_452_0 (fuel : Nat) (i : Nat) : Option Ev.Blk := Ev.look i []
noncomputable def T241_452_0 (v : Int × Int × Int × Int × Int × Int × Int × Int × Int × Int × Int × Bool × Bool × (List Int) × (List Int)) : Ev.St := match v with | (x0, x1, x2, x3, x4, x5, x6, x7, x8, x9, x10, x11, x12, x13, x14) => ⟨[(0, .c (.ptr 0 0)), (1, .c (.int .i64 x0)), (2, .c (.int .i64 x1)), (11, .c (.int .i64 x2)), (38, .c (.int .i64 x3)), (39, .c (.int .i64 x4))], [(0, .cells 194 (.int .i64 x5 :: .own 1 :: .int .i64 2048 :: .int .i64 1792 :: .int .i64 1568 :: .int .i64 1372 :: .int .i64 1201 :: .int .i64 1051 :: .int .i64 920 :: .int .i64 805 :: .int .i64 705 :: .int .i64 617 :: .int .i64 540 :: .int .i64 473 :: .int .i64 414 :: .int .i64 363 :: .int .i64 318 :: .int .i64 279 :: .int .i64 245 :: .int .i64 215 :: .int .i64 189 :: .int .i64 166 :: .int .i64 146 :: .int .i64 128 :: .int .i64 112 :: .int .i64 98 :: .int .i64 86 :: .int .i64 76 :: .int .i64 67 :: .int .i64 59 :: .int .i64 52 :: .int .i64 46 :: .int .i64 41 :: .int .i64 36 :: .int .u64 x6 :: .int .u64 x7 :: .own 2 :: .int .i64 x8 :: .int .u64 x9 :: .int .i64 x10 :: .bool x11 :: .bool x12 :: [])), (1, .vec 3 (.int .i64) x13 false), (2, .vec 5 (.int .u8) x14 false)], 3, 3⟩
noncomputable def E241_452_0 (K : Ev.Ex → Ev.St → Option Ans) : (Int × Int × Int × Int × Int × Int × Int × Int × Bool × Bool × (List Int) × (List Int) → Option Ans) × (Int × Int × Int × Int × Int × Int × Int × Int × Bool × Bool × (List Int) × (List Int) → Option Ans) := ((fun v => match v with | (x0, x1, x2, x3, x4, x5, x6, x7, x8, x9, x10, x11) => K .ret ⟨[(6, .c (.int .i64 x0)), (7, .c (.int .i64 x1))], [(0, .cells 194 (.int .i64 x2 :: .own 1 :: .int .i64 2048 :: .int .i64 1792 :: .int .i64 1568 :: .int .i64 1372 :: .int .i64 1201 :: .int .i64 1051 :: .int .i64 920 :: .int .i64 805 :: .int .i64 705 :: .int .i64 617 :: .int .i64 540 :: .int .i64 473 :: .int .i64 414 :: .int .i64 363 :: .int .i64 318 :: .int .i64 279 :: .int .i64 245 :: .int .i64 215 :: .int .i64 189 :: .int .i64 166 :: .int .i64 146 :: .int .i64 128 :: .int .i64 112 :: .int .i64 98 :: .int .i64 86 :: .int .i64 76 :: .int .i64 67 :: .int .i64 59 :: .int .i64 52 :: .int .i64 46 :: .int .i64 41 :: .int .i64 36 :: .int .u64 x3 :: .int .u64 x4 :: .own 2 :: .int .i64 x5 :: .int .u64 x6 :: .int .i64 x7 :: .bool x8 :: .bool x9 :: [])), (1, .vec 3 (.int .i64) x10 false), (2, .vec 5 (.int .u8) x11 false)], 3, 3⟩), (fun v => match v with | (x0, x1, x2, x3, x4, x5, x6, x7, x8, x9, x10, x11) => K .normal ⟨[(2, .c (.int .i64 x0)), (11, .c (.int .i64 x1))], [(0, .cells 194 (.int .i64 x2 :: .own 1 :: .int .i64 2048 :: .int .i64 1792 :: .int .i64 1568 :: .int .i64 1372 :: .int .i64 1201 :: .int .i64 1051 :: .int .i64 920 :: .int .i64 805 :: .int .i64 705 :: .int .i64 617 :: .int .i64 540 :: .int .i64 473 :: .int .i64 414 :: .int .i64 363 :: .int .i64 318 :: .int .i64 279 :: .int .i64 245 :: .int .i64 215 :: .int .i64 189 :: .int .i64 166 :: .int .i64 146 :: .int .i64 128 :: .int .i64 112 :: .int .i64 98 :: .int .i64 86 :: .int .i64 76 :: .int .i64 67 :: .int .i64 59 :: .int .i64 52 :: .int .i64 46 :: .int .i64 41 :: .int .i64 36 :: .int .u64 x3 :: .int .u64 x4 :: .own 2 :: .int .i64 x5 :: .int .u64 x6 :: .int .i64 x7 :: .bool x8 :: .bool x9 :: [])), (1, .vec 3 (.int .i64) x10 false), (2, .vec 5 (.int .u8) x11 false)], 3, 3⟩))
theorem S241_452_0_okg (fuel : Nat) (f146_aa3 : YF146_aa3) (f147_40a : YF147_40a) (f170 : YF170) (R : Ev.St → Option Ans) (K : Ev.Ex → Ev.St → Option Ans) (x0 : Int) (x1 : Int) (x2 : Int) (x3 : Int) (x4 : Int) (x5 : Int) (x6 : Int) (x7 : Int) (x8 : Int) (x9 : Int) (x10 : Int) (x11 : Bool) (x12 : Bool) (x13 : (List Int)) (x14 : (List Int)) : evalCode tab (Gg241_452 f146_aa3 f147_40a f170) (J241_452_0 fuel) kp241_452 fuel (bodyOf 0 Tryz.f241) (T241_452_0 (x0, x1, x2, x3, x4, x5, x6, x7, x8, x9, x10, x11, x12, x13, x14)) (lc kp241_452 11 0 R K) = (fun (c : (Int × Int × Int × Int × Int × Int × Int × Int × Int × Int × Int × Bool × Bool × (List Int) × (List Int)) → Option Ans) (B : (Int × Int × Int × Int × Int × Int × Int × Int × Bool × Bool × (List Int) × (List Int) → Option Ans) × (Int × Int × Int × Int × Int × Int × Int × Int × Bool × Bool × (List Int) × (List Int) → Option Ans)) => match B with
  | (ret, b) =>
   bif Decidable.decide (x4 < x3) then
      (f146_aa3 (Go.IntKind.i64.wrap (Go.IntKind.i64.wrap (x0 + x2) - (1 : Int))) (x5) (x6) (x7) (x8) (x9) (x10) (x11) (x12) (x13) (x14)
        (fun (y3_0, y3_1, y3_2, y3_3, y3_4, y3_5, y3_6, y3_7, y3_8, y3_9, y3_10, y3_11) =>
          bif y3_1 != (0 : Int) then
           ret ((0 : Int), y3_1, y3_2, y3_3, y3_4, y3_5, y3_6, y3_7, y3_8, y3_9, y3_10, y3_11)
          else
           c (x0, x1, Go.IntKind.i64.wrap (Go.IntKind.i64.wrap ((2 : Int) * x2) + y3_0), x3, Go.IntKind.i64.wrap (x4 + (1 : Int)), y3_2, y3_3, y3_4, y3_5, y3_6, y3_7, y3_8, y3_9, y3_10, y3_11)))
     else
      b (x1, x2, x5, x6, x7, x8, x9, x10, x11, x12, x13, x14)) (fun v => R (T241_452_0 v)) (E241_452_0 K) := by
  kernel_rfl
theorem S241_452_0_ok (fuel : Nat) (R : Ev.St → Option Ans) (K : Ev.Ex → Ev.St → Option Ans) (x0 : Int) (x1 : Int) (x2 : Int) (x3 : Int) (x4 : Int) (x5 : Int) (x6 : Int) (x7 : Int) (x8 : Int) (x9 : Int) (x10 : Int) (x11 : Bool) (x12 : Bool) (x13 : (List Int)) (x14 : (List Int)) : evalCode tab (G241_452 fuel) (J241_452_0 fuel) kp241_452 fuel (bodyOf 0 Tryz.f241) (T241_452_0 (x0, x1, x2, x3, x4, x5, x6, x7, x8, x9, x10, x11, x12, x13, x14)) (lc kp241_452 11 0 R K) = S_number_GetId_452_0 fuel (x0, x1, x2, x3, x4, x5, x6, x7, x8, x9, x10, x11, x12, x13, x14) (fun v => R (T241_452_0 v)) (E241_452_0 K) :=
  S241_452_0_okg fuel (F_coder_Decoder_Get_aa3 fuel) (F_coder_Decoder_Model_40a fuel) (F_number_fits fuel) R K x0 x1 x2 x3 x4 x5 x6 x7 x8 x9 x10 x11 x12 x13 x14
noncomputable def B241_452_0 (fuel : Nat) : Ev.Blk := fun st K => match canonO (kp241_452 11) st with
  | some s => (match s with
    | ⟨[(q0, .c (.ptr q1 q2)), (q3, .c (.int .i64 x0)), (q4, .c (.int .i64 x1)), (q5, .c (.int .i64 x2)), (q6, .c (.int .i64 x3)), (q7, .c (.int .i64 x4))], [(q8, .cells q9 cs0), (q10, .vec q11 (.int .i64) x13 false), (q12, .vec q13 (.int .u8) x14 false)], q14, q15⟩ => (match splitRun 2 [(.i64, 2048), (.i64, 1792), (.i64, 1568), (.i64, 1372), (.i64, 1201), (.i64, 1051), (.i64, 920), (.i64, 805), (.i64, 705), (.i64, 617), (.i64, 540), (.i64, 473), (.i64, 414), (.i64, 363), (.i64, 318), (.i64, 279), (.i64, 245), (.i64, 215), (.i64, 189), (.i64, 166), (.i64, 146), (.i64, 128), (.i64, 112), (.i64, 98), (.i64, 86), (.i64, 76), (.i64, 67), (.i64, 59), (.i64, 52), (.i64, 46), (.i64, 41), (.i64, 36)] cs0 with | some ([.int .i64 x5, .own q16], [.int .u64 x6, .int .u64 x7, .own q17, .int .i64 x8, .int .u64 x9, .int .i64 x10, .bool x11, .bool x12]) => bif Nat.beq q0 0 && Nat.beq q1 0 && Nat.beq q2 0 && Nat.beq q3 1 && Nat.beq q4 2 && Nat.beq q5 11 && Nat.beq q6 38 && Nat.beq q7 39 && Nat.beq q8 0 && Nat.beq q9 194 && Nat.beq q10 1 && Nat.beq q11 3 && Nat.beq q12 2 && Nat.beq q13 5 && Nat.beq q14 3 && Nat.beq q15 3 && Nat.beq q16 1 && Nat.beq q17 2 then iter (S_number_GetId_452_0 fuel) fuel (x0, x1, x2, x3, x4, x5, x6, x7, x8, x9, x10, x11, x12, x13, x14) (E241_452_0 K) else none | _ => none)
    | _ => none)
  | none => none
theorem B241_452_0_ok (fuel : Nat) (st : Ev.St) (K : Ev.Ex → Ev.St → Option Ans) (r : Ans) (h : B241_452_0 fuel st K = some r) : evalCode tab (G241_452 fuel) (J241_452_0 fuel) kp241_452 fuel (.block 0 (.loop (bodyOf 0 Tryz.f241))) st K = some r := by
  unfold B241_452_0 at h
  split at h
  · rename_i s hs
    split at h
    · skip
      split at h
      rotate_left 1
      · cases h
      rename_i hsp
      have esp := splitRun_eq hsp
      subst esp
      obtain ⟨hb, h⟩ := cond_some' h
      simp only [Bool.and_eq_true, Nat.beq_eq, decide_eq_true_eq] at hb
      obtain ⟨⟨⟨⟨⟨⟨⟨⟨⟨⟨⟨⟨⟨⟨⟨⟨⟨rfl, rfl⟩, rfl⟩, rfl⟩, rfl⟩, rfl⟩, rfl⟩, rfl⟩, rfl⟩, rfl⟩, rfl⟩, rfl⟩, rfl⟩, rfl⟩, rfl⟩, rfl⟩, rfl⟩, rfl⟩ := hb
      exact blk_loop (S := T241_452_0) (ks := E241_452_0) (step := S_number_GetId_452_0 fuel) (v := (_, _, _, _, _, _, _, _, _, _, _, _, _, _, _)) (by kernel_rfl) (by kernel_rfl) (fun R K v => by obtain ⟨x0, x1, x2, x3, x4, x5, x6, x7, x8, x9, x10, x11, x12, x13, x14⟩ := v; exact S241_452_0_ok fuel R K x0 x1 x2 x3 x4 x5 x6 x7 x8 x9 x10 x11 x12 x13 x14) hs h
    · cases h
  · cases h
noncomputable def J241_452 (fuel : Nat) (i : Nat) : Option Ev.Blk := Ev.look i [(100000, B241_452_0 fuel)]
noncomputable def F_number_GetId_452 (fuel : Nat) (x0 : Int) (x1 : Int) (x2 : Int) (x3 : Int) (x4 : Int) (x5 : Int) (x6 : Int) (x7 : Int) (x8 : Bool) (x9 : Bool) (x10 : (List Int)) (x11 : (List Int)) (k0 : (Int × Int × Int × Int × Int × Int × Int × Int × Bool × Bool × (List Int) × (List Int)) → Option Ans) : Option Ans :=
  (F_coder_Decoder_Get_aa3 fuel ((-1 : Int)) (x2) (x3) (x4) (x5) (x6) (x7) (x8) (x9) (x10) (x11)
    (fun (y2_0, y2_1, y2_2, y2_3, y2_4, y2_5, y2_6, y2_7, y2_8, y2_9, y2_10, y2_11) =>
      bif y2_1 == (7 : Int) then
       k0 ((0 : Int), y2_1, y2_2, y2_3, y2_4, y2_5, y2_6, y2_7, y2_8, y2_9, y2_10, y2_11)
      else
       bif Decidable.decide (x1 < (0 : Int)) then
        k0 ((0 : Int), (2 : Int), y2_2, y2_3, y2_4, y2_5, y2_6, y2_7, y2_8, y2_9, y2_10, y2_11)
       else
        bif Decidable.decide (x1 > (10 : Int)) then
         k0 ((0 : Int), (2 : Int), y2_2, y2_3, y2_4, y2_5, y2_6, y2_7, y2_8, y2_9, y2_10, y2_11)
        else
         bif Decidable.decide (x1 < (0 : Int)) then
          none
         else
          (F_coder_Decoder_Model_40a fuel (y2_2) (y2_3) (y2_4) (y2_5) (y2_6) (y2_7) (y2_8) (y2_9) (y2_10) (y2_11)
            (fun (y10_0, y10_1, y10_2, y10_3, y10_4, y10_5, y10_6, y10_7, y10_8, y10_9, y10_10, y10_11) =>
              (F_number_fits fuel (y10_0) (y10_11) (x0) (Go.IntKind.i64.wrap (Ev.ishl Go.IntKind.i64 (1 : Int) x1 - (1 : Int)))
                (fun y14 =>
                  bif y14 != (0 : Int) then
                   k0 ((0 : Int), y14, y10_1, y10_2, y10_3, y10_4, y10_5, y10_6, y10_7, y10_8, y10_9, y10_10)
                  else
                   (L_number_GetId_452_0 fuel (x0, x1, (1 : Int), x1, (0 : Int), y10_1, y10_2, y10_3, y10_4, y10_5, y10_6, y10_7, y10_8, y10_9, y10_10)
                     (fun (ret0_0, ret0_1, ret0_2, ret0_3, ret0_4, ret0_5, ret0_6, ret0_7, ret0_8, ret0_9, ret0_10, ret0_11) =>
                       k0 (ret0_0, ret0_1, ret0_2, ret0_3, ret0_4, ret0_5, ret0_6, ret0_7, ret0_8, ret0_9, ret0_10, ret0_11))
                     (fun (b0_0, b0_1, b0_2, b0_3, b0_4, b0_5, b0_6, b0_7, b0_8, b0_9, b0_10, b0_11) =>
                       bif Decidable.decide (b0_0 < (0 : Int)) then
                        none
                       else
                        k0 (Go.IntKind.i64.wrap (b0_1 - Ev.ishl Go.IntKind.i64 (1 : Int) b0_0), (0 : Int), b0_2, b0_3, b0_4, b0_5, b0_6, b0_7, b0_8, b0_9, b0_10, b0_11)))))))))
abbrev YF241_452 : Type := (Int) → (Int) → (Int) → (Int) → (Int) → (Int) → (Int) → (Int) → (Bool) → (Bool) → ((List Int)) → ((List Int)) → ((Int × Int × Int × Int × Int × Int × Int × Int × Bool × Bool × (List Int) × (List Int)) → Option Ans) → Option Ans
theorem F241_452_eqg (fuel : Nat) (f146_aa3 : YF146_aa3) (f147_40a : YF147_40a) (f170 : YF170) (x0 : Int) (x1 : Int) (x2 : Int) (x3 : Int) (x4 : Int) (x5 : Int) (x6 : Int) (x7 : Int) (x8 : Bool) (x9 : Bool) (x10 : (List Int)) (x11 : (List Int)) (k : Ev.Cont) : evalFn tab (Gg241_452 f146_aa3 f147_40a f170) (J241_452 fuel) kp241_452 fuel Tryz.f241 [.c (.ptr 0 0), .c (.int .i64 x0), .c (.int .i64 x1)] [.cells 194 (.int .i64 x2 :: .own 1 :: .int .i64 2048 :: .int .i64 1792 :: .int .i64 1568 :: .int .i64 1372 :: .int .i64 1201 :: .int .i64 1051 :: .int .i64 920 :: .int .i64 805 :: .int .i64 705 :: .int .i64 617 :: .int .i64 540 :: .int .i64 473 :: .int .i64 414 :: .int .i64 363 :: .int .i64 318 :: .int .i64 279 :: .int .i64 245 :: .int .i64 215 :: .int .i64 189 :: .int .i64 166 :: .int .i64 146 :: .int .i64 128 :: .int .i64 112 :: .int .i64 98 :: .int .i64 86 :: .int .i64 76 :: .int .i64 67 :: .int .i64 59 :: .int .i64 52 :: .int .i64 46 :: .int .i64 41 :: .int .i64 36 :: .int .u64 x3 :: .int .u64 x4 :: .own 2 :: .int .i64 x5 :: .int .u64 x6 :: .int .i64 x7 :: .bool x8 :: .bool x9 :: []), .vec 3 (.int .i64) x10 false, .vec 5 (.int .u8) x11 false] k = (fun  (k0 : (Int × Int × Int × Int × Int × Int × Int × Int × Bool × Bool × (List Int) × (List Int)) → Option Ans) =>
  (f146_aa3 ((-1 : Int)) (x2) (x3) (x4) (x5) (x6) (x7) (x8) (x9) (x10) (x11)
    (fun (y2_0, y2_1, y2_2, y2_3, y2_4, y2_5, y2_6, y2_7, y2_8, y2_9, y2_10, y2_11) =>
      bif y2_1 == (7 : Int) then
       k0 ((0 : Int), y2_1, y2_2, y2_3, y2_4, y2_5, y2_6, y2_7, y2_8, y2_9, y2_10, y2_11)
      else
       bif Decidable.decide (x1 < (0 : Int)) then
        k0 ((0 : Int), (2 : Int), y2_2, y2_3, y2_4, y2_5, y2_6, y2_7, y2_8, y2_9, y2_10, y2_11)
       else
        bif Decidable.decide (x1 > (10 : Int)) then
         k0 ((0 : Int), (2 : Int), y2_2, y2_3, y2_4, y2_5, y2_6, y2_7, y2_8, y2_9, y2_10, y2_11)
        else
         bif Decidable.decide (x1 < (0 : Int)) then
          none
         else
          (f147_40a (y2_2) (y2_3) (y2_4) (y2_5) (y2_6) (y2_7) (y2_8) (y2_9) (y2_10) (y2_11)
            (fun (y10_0, y10_1, y10_2, y10_3, y10_4, y10_5, y10_6, y10_7, y10_8, y10_9, y10_10, y10_11) =>
              (f170 (y10_0) (y10_11) (x0) (Go.IntKind.i64.wrap (Ev.ishl Go.IntKind.i64 (1 : Int) x1 - (1 : Int)))
                (fun y14 =>
                  bif y14 != (0 : Int) then
                   k0 ((0 : Int), y14, y10_1, y10_2, y10_3, y10_4, y10_5, y10_6, y10_7, y10_8, y10_9, y10_10)
                  else
                   (L_number_GetId_452_0 fuel (x0, x1, (1 : Int), x1, (0 : Int), y10_1, y10_2, y10_3, y10_4, y10_5, y10_6, y10_7, y10_8, y10_9, y10_10)
                     (fun (ret0_0, ret0_1, ret0_2, ret0_3, ret0_4, ret0_5, ret0_6, ret0_7, ret0_8, ret0_9, ret0_10, ret0_11) =>
                       k0 (ret0_0, ret0_1, ret0_2, ret0_3, ret0_4, ret0_5, ret0_6, ret0_7, ret0_8, ret0_9, ret0_10, ret0_11))
                     (fun (b0_0, b0_1, b0_2, b0_3, b0_4, b0_5, b0_6, b0_7, b0_8, b0_9, b0_10, b0_11) =>
                       bif Decidable.decide (b0_0 < (0 : Int)) then
                        none
                       else
                        k0 (Go.IntKind.i64.wrap (b0_1 - Ev.ishl Go.IntKind.i64 (1 : Int) b0_0), (0 : Int), b0_2, b0_3, b0_4, b0_5, b0_6, b0_7, b0_8, b0_9, b0_10, b0_11)))))))))) (fun r => match r with | (r0, r1, r2, r3, r4, r5, r6, r7, r8, r9, r10, r11) => k (.tup [(false, [.int .i64 r0]), (false, [.int .i64 r1])], [.cells 194 (.int .i64 r2 :: .own 1 :: .int .i64 2048 :: .int .i64 1792 :: .int .i64 1568 :: .int .i64 1372 :: .int .i64 1201 :: .int .i64 1051 :: .int .i64 920 :: .int .i64 805 :: .int .i64 705 :: .int .i64 617 :: .int .i64 540 :: .int .i64 473 :: .int .i64 414 :: .int .i64 363 :: .int .i64 318 :: .int .i64 279 :: .int .i64 245 :: .int .i64 215 :: .int .i64 189 :: .int .i64 166 :: .int .i64 146 :: .int .i64 128 :: .int .i64 112 :: .int .i64 98 :: .int .i64 86 :: .int .i64 76 :: .int .i64 67 :: .int .i64 59 :: .int .i64 52 :: .int .i64 46 :: .int .i64 41 :: .int .i64 36 :: .int .u64 r3 :: .int .u64 r4 :: .own 2 :: .int .i64 r5 :: .int .u64 r6 :: .int .i64 r7 :: .bool r8 :: .bool r9 :: []), .vec 3 (.int .i64) r10 false, .vec 5 (.int .u8) r11 false])) := by
  kernel_rfl
theorem F241_452_eq (fuel : Nat) (x0 : Int) (x1 : Int) (x2 : Int) (x3 : Int) (x4 : Int) (x5 : Int) (x6 : Int) (x7 : Int) (x8 : Bool) (x9 : Bool) (x10 : (List Int)) (x11 : (List Int)) (k : Ev.Cont) : evalFn tab (G241_452 fuel) (J241_452 fuel) kp241_452 fuel Tryz.f241 [.c (.ptr 0 0), .c (.int .i64 x0), .c (.int .i64 x1)] [.cells 194 (.int .i64 x2 :: .own 1 :: .int .i64 2048 :: .int .i64 1792 :: .int .i64 1568 :: .int .i64 1372 :: .int .i64 1201 :: .int .i64 1051 :: .int .i64 920 :: .int .i64 805 :: .int .i64 705 :: .int .i64 617 :: .int .i64 540 :: .int .i64 473 :: .int .i64 414 :: .int .i64 363 :: .int .i64 318 :: .int .i64 279 :: .int .i64 245 :: .int .i64 215 :: .int .i64 189 :: .int .i64 166 :: .int .i64 146 :: .int .i64 128 :: .int .i64 112 :: .int .i64 98 :: .int .i64 86 :: .int .i64 76 :: .int .i64 67 :: .int .i64 59 :: .int .i64 52 :: .int .i64 46 :: .int .i64 41 :: .int .i64 36 :: .int .u64 x3 :: .int .u64 x4 :: .own 2 :: .int .i64 x5 :: .int .u64 x6 :: .int .i64 x7 :: .bool x8 :: .bool x9 :: []), .vec 3 (.int .i64) x10 false, .vec 5 (.int .u8) x11 false] k = F_number_GetId_452 fuel x0 x1 x2 x3 x4 x5 x6 x7 x8 x9 x10 x11 (fun r => match r with | (r0, r1, r2, r3, r4, r5, r6, r7, r8, r9, r10, r11) => k (.tup [(false, [.int .i64 r0]), (false, [.int .i64 r1])], [.cells 194 (.int .i64 r2 :: .own 1 :: .int .i64 2048 :: .int .i64 1792 :: .int .i64 1568 :: .int .i64 1372 :: .int .i64 1201 :: .int .i64 1051 :: .int .i64 920 :: .int .i64 805 :: .int .i64 705 :: .int .i64 617 :: .int .i64 540 :: .int .i64 473 :: .int .i64 414 :: .int .i64 363 :: .int .i64 318 :: .int .i64 279 :: .int .i64 245 :: .int .i64 215 :: .int .i64 189 :: .int .i64 166 :: .int .i64 146 :: .int .i64 128 :: .int .i64 112 :: .int .i64 98 :: .int .i64 86 :: .int .i64 76 :: .int .i64 67 :: .int .i64 59 :: .int .i64 52 :: .int .i64 46 :: .int .i64 41 :: .int .i64 36 :: .int .u64 r3 :: .int .u64 r4 :: .own 2 :: .int .i64 r5 :: .int .u64 r6 :: .int .i64 r7 :: .bool r8 :: .bool r9 :: []), .vec 3 (.int .i64) r10 false, .vec 5 (.int .u8) r11 false])) :=
  F241_452_eqg fuel (F_coder_Decoder_Get_aa3 fuel) (F_coder_Decoder_Model_40a fuel) (F_number_fits fuel) x0 x1 x2 x3 x4 x5 x6 x7 x8 x9 x10 x11 k
theorem hG241_452 (fuel : Nat) : GOK Tryz.prog (G241_452 fuel) :=
  gok_cons ⟨ok146_aa3 fuel, enters_of Tryz.func146 (by kernel_rfl) rfl⟩ <|
  gok_cons ⟨ok147_40a fuel, enters_of Tryz.func147 (by kernel_rfl) rfl⟩ <|
  gok_cons ⟨ok170 fuel, enters_of Tryz.func170 (by kernel_rfl) rfl⟩ <|
  gok_nil
theorem B241_452_0_blk (fuel : Nat) : BlkOK Tryz.prog Tryz.f241.ntmps (.block 0 (.loop (bodyOf 0 Tryz.f241))) (B241_452_0 fuel) :=
  blk_of (blk_of_code tab_ok (hG241_452 fuel) mixed (J := J241_452_0 fuel) (kp := kp241_452) (fuel := fuel) (by kernel_rfl) (fun q hq => by
    rw [(by kernel_rfl : obl (J241_452_0 fuel) (.block 0 (.loop (bodyOf 0 Tryz.f241))) = [])] at hq
    cases hq)) (B241_452_0_ok fuel)
theorem fok241_452 (fuel : Nat) : FnOK Tryz.prog 241 (evalFn tab (G241_452 fuel) (J241_452 fuel) kp241_452 fuel Tryz.f241) :=
  fn_ok tab_ok (hG241_452 fuel) mixed Tryz.func241 (c := (Tryz.f241.body).getD .skip) rfl (fun q hq => by
    rw [(by kernel_rfl : obl (J241_452 fuel) ((Tryz.f241.body).getD .skip) = [(.block 0 (.loop (bodyOf 0 Tryz.f241)), B241_452_0 fuel)])] at hq
    simp only [List.mem_cons, List.not_mem_nil, or_false] at hq
    subst hq
    · exact B241_452_0_blk fuel)
noncomputable def mt241_452 : List Ev.SV → List Ev.Ob → Bool := fun args objs => match args, objs with
  | [.c (.ptr q0 q1), .c (.int .i64 _), .c (.int .i64 _)], [.cells q2 cs0, .vec q3 (.int .i64) _ false, .vec q4 (.int .u8) _ false] => (match splitRun 2 [(.i64, 2048), (.i64, 1792), (.i64, 1568), (.i64, 1372), (.i64, 1201), (.i64, 1051), (.i64, 920), (.i64, 805), (.i64, 705), (.i64, 617), (.i64, 540), (.i64, 473), (.i64, 414), (.i64, 363), (.i64, 318), (.i64, 279), (.i64, 245), (.i64, 215), (.i64, 189), (.i64, 166), (.i64, 146), (.i64, 128), (.i64, 112), (.i64, 98), (.i64, 86), (.i64, 76), (.i64, 67), (.i64, 59), (.i64, 52), (.i64, 46), (.i64, 41), (.i64, 36)] cs0 with | some ([.int .i64 _, .own q5], [.int .u64 _, .int .u64 _, .own q6, .int .i64 _, .int .u64 _, .int .i64 _, .bool _, .bool _]) => Nat.beq q0 0 && Nat.beq q1 0 && Nat.beq q2 194 && Nat.beq q3 3 && Nat.beq q4 5 && Nat.beq q5 1 && Nat.beq q6 2 | _ => false)
  | _, _ => false
noncomputable def spg241_452 (F : YF241_452) : Ev.Spec := fun args objs k => match args, objs with
  | [.c (.ptr q0 q1), .c (.int .i64 x0), .c (.int .i64 x1)], [.cells q2 cs0, .vec q3 (.int .i64) x10 false, .vec q4 (.int .u8) x11 false] => (match splitRun 2 [(.i64, 2048), (.i64, 1792), (.i64, 1568), (.i64, 1372), (.i64, 1201), (.i64, 1051), (.i64, 920), (.i64, 805), (.i64, 705), (.i64, 617), (.i64, 540), (.i64, 473), (.i64, 414), (.i64, 363), (.i64, 318), (.i64, 279), (.i64, 245), (.i64, 215), (.i64, 189), (.i64, 166), (.i64, 146), (.i64, 128), (.i64, 112), (.i64, 98), (.i64, 86), (.i64, 76), (.i64, 67), (.i64, 59), (.i64, 52), (.i64, 46), (.i64, 41), (.i64, 36)] cs0 with | some ([.int .i64 x2, .own q5], [.int .u64 x3, .int .u64 x4, .own q6, .int .i64 x5, .int .u64 x6, .int .i64 x7, .bool x8, .bool x9]) => bif Nat.beq q0 0 && Nat.beq q1 0 && Nat.beq q2 194 && Nat.beq q3 3 && Nat.beq q4 5 && Nat.beq q5 1 && Nat.beq q6 2 then F x0 x1 x2 x3 x4 x5 x6 x7 x8 x9 x10 x11 (fun r => match r with | (r0, r1, r2, r3, r4, r5, r6, r7, r8, r9, r10, r11) => k (.tup [(false, [.int .i64 r0]), (false, [.int .i64 r1])], [.cells 194 (.int .i64 r2 :: .own 1 :: .int .i64 2048 :: .int .i64 1792 :: .int .i64 1568 :: .int .i64 1372 :: .int .i64 1201 :: .int .i64 1051 :: .int .i64 920 :: .int .i64 805 :: .int .i64 705 :: .int .i64 617 :: .int .i64 540 :: .int .i64 473 :: .int .i64 414 :: .int .i64 363 :: .int .i64 318 :: .int .i64 279 :: .int .i64 245 :: .int .i64 215 :: .int .i64 189 :: .int .i64 166 :: .int .i64 146 :: .int .i64 128 :: .int .i64 112 :: .int .i64 98 :: .int .i64 86 :: .int .i64 76 :: .int .i64 67 :: .int .i64 59 :: .int .i64 52 :: .int .i64 46 :: .int .i64 41 :: .int .i64 36 :: .int .u64 r3 :: .int .u64 r4 :: .own 2 :: .int .i64 r5 :: .int .u64 r6 :: .int .i64 r7 :: .bool r8 :: .bool r9 :: []), .vec 3 (.int .i64) r10 false, .vec 5 (.int .u8) r11 false])) else none | _ => none)
  | _, _ => none
noncomputable def spec241_452 (fuel : Nat) : Ev.Spec := spg241_452 (F_number_GetId_452 fuel)
theorem ok241_452 (fuel : Nat) : FnOK Tryz.prog 241 (spec241_452 fuel) := by
  intro args objs kk r h
  unfold spec241_452 spg241_452 at h
  split at h
  · skip
    split at h
    rotate_left 1
    · cases h
    rename_i hsp
    have esp := splitRun_eq hsp
    subst esp
    obtain ⟨hb, h⟩ := cond_some' h
    simp only [Bool.and_eq_true, Nat.beq_eq, decide_eq_true_eq] at hb
    obtain ⟨⟨⟨⟨⟨⟨rfl, rfl⟩, rfl⟩, rfl⟩, rfl⟩, rfl⟩, rfl⟩ := hb
    exact fok241_452 fuel _ _ kk r ((F241_452_eq fuel _ _ _ _ _ _ _ _ _ _ _ _ kk).trans h)
  · cases h
end Go.Proofs.YtipdidpalcmlhaaGreat

set_option linter.unusedVariables false
set_option maxRecDepth 100000
set_option maxHeartbeats 0
namespace Go.Proofs.YtipdidpalcmlhaaGreat
open Go Ev
noncomputable def fns22 : List (Nat × Func) := [(22, Tryz.f22), (23, Tryz.f23), (26, Tryz.f26), (28, Tryz.f28), (31, Tryz.f31), (35, Tryz.f35), (38, Tryz.f38), (72, Tryz.f72), (73, Tryz.f73), (74, Tryz.f74), (75, Tryz.f75), (76, Tryz.f76), (77, Tryz.f77), (79, Tryz.f79), (80, Tryz.f80), (91, Tryz.f91), (92, Tryz.f92), (93, Tryz.f93), (94, Tryz.f94), (95, Tryz.f95), (102, Tryz.f102), (104, Tryz.f104), (105, Tryz.f105), (122, Tryz.f122), (158, Tryz.f158), (159, Tryz.f159), (160, Tryz.f160), (161, Tryz.f161), (162, Tryz.f162), (163, Tryz.f163), (164, Tryz.f164), (167, Tryz.f167), (168, Tryz.f168), (190, Tryz.f190), (191, Tryz.f191), (194, Tryz.f194), (195, Tryz.f195), (212, Tryz.f212), (226, Tryz.f226), (227, Tryz.f227), (228, Tryz.f228), (229, Tryz.f229), (230, Tryz.f230), (231, Tryz.f231), (232, Tryz.f232), (233, Tryz.f233), (234, Tryz.f234), (235, Tryz.f235), (242, Tryz.f242), (249, Tryz.f249), (250, Tryz.f250), (251, Tryz.f251), (255, Tryz.f255), (1000231, Tryz.f231)]
def kpt22 : List (Nat × List (Nat × List Nat)) := [(22, [(200003, [1]), (200004, [1])]), (23, [(12, [2, 3, 13, 15, 16, 17]), (19, [2, 3, 13, 15, 16, 17, 18, 19, 20]), (100000, [13]), (100002, [2, 3, 13, 15, 16, 17]), (200013, [2, 3]), (200016, [2]), (200019, [3]), (200022, [2, 3]), (400000, [6, 7]), (400002, [6, 7])]), (26, [(11, [2, 4, 16, 17, 18]), (100000, [16]), (200019, [16]), (400000, [8, 9])]), (28, [(4, [0, 1, 12, 13]), (100000, []), (200006, [0, 1]), (400000, [4])]), (38, [(4, [2, 3, 29, 30]), (100000, []), (200006, [2, 3]), (400000, [4])]), (74, [(2, [0, 1, 5]), (100000, []), (200004, [0]), (400000, [4])]), (75, [(200001, [2, 3, 4])]), (80, [(200002, [3]), (200003, [0, 3]), (200008, [0, 3]), (200013, [0, 3, 4])]), (95, [(2, [0, 1, 6, 1000002]), (100000, []), (200005, [0, 7]), (400000, [])]), (105, [(5, [2, 6, 8, 9, 34, 35]), (100000, [6, 8, 9]), (400000, [6, 7])]), (122, [(4, [23, 24, 25]), (100000, []), (400000, [2])]), (167, [(11, [0, 1, 7, 8, 11, 52, 53, 1000002]), (20, [0, 1, 7, 8, 11, 12, 13, 52, 53, 75, 76, 1000002]), (100001, []), (100003, [0, 1, 7, 8, 11, 52, 53]), (200007, [7]), (400001, [10]), (400003, [10])]), (191, [(200004, [0]), (200013, [])]), (194, [(2, [0, 1, 7, 8]), (100000, []), (400000, [4])]), (226, [(2, [0, 1, 7, 8]), (100000, []), (400000, [4])]), (227, [(2, [0, 1, 7, 8]), (100000, []), (400000, [4])]), (230, [(200001, [3, 5])]), (232, [(2, [0, 1, 12, 13]), (100000, []), (400000, [4])]), (233, [(3, [0, 1, 2, 8, 29]), (100000, [8]), (200001, [0]), (200005, [0]), (400000, [6, 7])]), (234, [(3, [0, 1, 2, 7, 17, 18, 19]), (8, [0, 1, 2, 7, 41, 42, 43]), (100000, [0, 1, 2, 7]), (100002, [7]), (200005, [0, 9]), (200010, [0, 11]), (400000, [6]), (400002, [6])]), (242, [(200000, [0, 1]), (200007, [0, 1, 4])]), (251, [(13, [0, 1, 3, 4, 12, 18, 64, 65]), (100000, [3, 4, 12, 18]), (200009, [8]), (200011, [8, 11]), (400000, [12, 13])]), (255, [(8, [0, 1, 2, 3, 9, 44, 45]), (100000, []), (400000, [8])])]
def kpa22 (f i : Nat) : Option (List Nat) := match Ev.look f kpt22 with | some l => Ev.look i l | none => none
noncomputable def ext22 (f : Nat) : Option Ev.Spec := Ev.look f [(48, spec48 100000), (49, spec49 100000), (52, spec52_a20 100000), (65, spec65 100000), (78, spec78 100000), (81, spec81_856 100000), (121, spec121_cf0 100000), (126, spec126_a20 100000), (146, spec146_aa3 100000), (147, spec147_40a 100000), (166, spec166_b82 100000), (189, spec189_aa3 100000), (241, spec241_452 100000)]
theorem ext22_ok : GOK Tryz.prog ext22 :=
  gok_cons ⟨ok48 100000, enters_of Tryz.func48 (by kernel_rfl) rfl⟩ <|
  gok_cons ⟨ok49 100000, enters_of Tryz.func49 (by kernel_rfl) rfl⟩ <|
  gok_cons ⟨ok52_a20 100000, enters_of Tryz.func52 (by kernel_rfl) rfl⟩ <|
  gok_cons ⟨ok65 100000, enters_of Tryz.func65 (by kernel_rfl) rfl⟩ <|
  gok_cons ⟨ok78 100000, enters_of Tryz.func78 (by kernel_rfl) rfl⟩ <|
  gok_cons ⟨ok81_856 100000, enters_of Tryz.func81 (by kernel_rfl) rfl⟩ <|
  gok_cons ⟨ok121_cf0 100000, enters_of Tryz.func121 (by kernel_rfl) rfl⟩ <|
  gok_cons ⟨ok126_a20 100000, enters_of Tryz.func126 (by kernel_rfl) rfl⟩ <|
  gok_cons ⟨ok146_aa3 100000, enters_of Tryz.func146 (by kernel_rfl) rfl⟩ <|
  gok_cons ⟨ok147_40a 100000, enters_of Tryz.func147 (by kernel_rfl) rfl⟩ <|
  gok_cons ⟨ok166_b82 100000, enters_of Tryz.func166 (by kernel_rfl) rfl⟩ <|
  gok_cons ⟨ok189_aa3 100000, enters_of Tryz.func189 (by kernel_rfl) rfl⟩ <|
  gok_cons ⟨ok241_452 100000, enters_of Tryz.func241 (by kernel_rfl) rfl⟩ <|
  gok_nil
theorem fns22_ok : Fns Tryz.prog fns22 :=
  fns_cons Tryz.func22 <|
  fns_cons Tryz.func23 <|
  fns_cons Tryz.func26 <|
  fns_cons Tryz.func28 <|
  fns_cons Tryz.func31 <|
  fns_cons Tryz.func35 <|
  fns_cons Tryz.func38 <|
  fns_cons Tryz.func72 <|
  fns_cons Tryz.func73 <|
  fns_cons Tryz.func74 <|
  fns_cons Tryz.func75 <|
  fns_cons Tryz.func76 <|
  fns_cons Tryz.func77 <|
  fns_cons Tryz.func79 <|
  fns_cons Tryz.func80 <|
  fns_cons Tryz.func91 <|
  fns_cons Tryz.func92 <|
  fns_cons Tryz.func93 <|
  fns_cons Tryz.func94 <|
  fns_cons Tryz.func95 <|
  fns_cons Tryz.func102 <|
  fns_cons Tryz.func104 <|
  fns_cons Tryz.func105 <|
  fns_cons Tryz.func122 <|
  fns_cons Tryz.func158 <|
  fns_cons Tryz.func159 <|
  fns_cons Tryz.func160 <|
  fns_cons Tryz.func161 <|
  fns_cons Tryz.func162 <|
  fns_cons Tryz.func163 <|
  fns_cons Tryz.func164 <|
  fns_cons Tryz.func167 <|
  fns_cons Tryz.func168 <|
  fns_cons Tryz.func190 <|
  fns_cons Tryz.func191 <|
  fns_cons Tryz.func194 <|
  fns_cons Tryz.func195 <|
  fns_cons Tryz.func212 <|
  fns_cons Tryz.func226 <|
  fns_cons Tryz.func227 <|
  fns_cons Tryz.func228 <|
  fns_cons Tryz.func229 <|
  fns_cons Tryz.func230 <|
  fns_cons Tryz.func231 <|
  fns_cons Tryz.func232 <|
  fns_cons Tryz.func233 <|
  fns_cons Tryz.func234 <|
  fns_cons Tryz.func235 <|
  fns_cons Tryz.func242 <|
  fns_cons Tryz.func249 <|
  fns_cons Tryz.func250 <|
  fns_cons Tryz.func251 <|
  fns_cons Tryz.func255 <|
  fns_cons Tryz.func231 <|
  fns_nil
noncomputable def evs22 : Nat → Option Ev.Spec := evs tab fns22 kpa22 100000 ext22 60
theorem evs22_ok : GOK Tryz.prog evs22 := evs_ok tab_ok mixed fns22_ok (by kernel_rfl) ext22_ok 60
theorem aw22_eq : evalFn tab evs22 (fun _ => none) (kpa22 22) 100000 Tryz.f22 [] [] trueR = some () := by
  kernel_rfl
noncomputable def F_law10_Awake (fuel : Nat) (k0 : (Bool) → Option Ans) : Option Ans := k0 true
abbrev YF22 : Type := ((Bool) → Option Ans) → Option Ans
def mt22 : List Ev.SV → List Ev.Ob → Bool := fun args objs => match args, objs with
  | [], [] => true
  | _, _ => false
noncomputable def spg22 (F : YF22) : Ev.Spec := fun args objs k => match args, objs with
  | [], [] => F (fun r => k (.c (.bool r), []))
  | _, _ => none
noncomputable def spec22 (fuel : Nat) : Ev.Spec := spg22 (F_law10_Awake fuel)
theorem ok22 (fuel : Nat) : FnOK Tryz.prog 22 (spec22 fuel) := by
  intro args objs kk r h
  unfold spec22 spg22 at h
  split at h
  · exact true_ok (fn_ok (fuel := 100000) tab_ok evs22_ok mixed Tryz.func22 (kp := kpa22 22) (J := fun _ => none) (c := (Tryz.f22.body).getD .skip) rfl (fun q hq => by rw [obl_none] at hq; cases hq)) aw22_eq h
  · cases h
end Go.Proofs.YtipdidpalcmlhaaGreat

set_option linter.unusedVariables false
set_option linter.unusedSimpArgs false
set_option maxRecDepth 100000
set_option maxHeartbeats 2000000
namespace Go.Proofs.YtipdidpalcmlhaaGreat
open Go Ev
def kp40 (i : Nat) : Option (List Nat) := Ev.look i []
noncomputable def Gg40 (f : Nat) : Option Ev.Spec := Ev.look f []
noncomputable def G40 (fuel : Nat) : Nat → Option Ev.Spec := Gg40
noncomputable def J40 (fuel : Nat) (i : Nat) : Option Ev.Blk := Ev.look i []
noncomputable def F_ref06_Pix (fuel : Nat) (x0 : Int) (x1 : Int) (x2 : (List Int)) (x3 : Int) (x4 : Int) (k0 : (Int) → Option Ans) : Option Ans :=
  bif Decidable.decide (x3 < (0 : Int)) then
   k0 ((0 : Int))
  else
   bif Decidable.decide (x4 < (0 : Int)) then
    k0 ((0 : Int))
   else
    bif Decidable.decide (x3 ≥ x0) then
     k0 ((0 : Int))
    else
     bif Decidable.decide (x4 ≥ x1) then
      k0 ((0 : Int))
     else
      bif Decidable.decide ((0 : Int) ≤ Go.IntKind.i64.wrap (Go.IntKind.i64.wrap (x4 * x0) + x3) ∧ Go.IntKind.i64.wrap (Go.IntKind.i64.wrap (x4 * x0) + x3) < (↑x2.length : Int)) then
      k0 (x2.getD (Go.IntKind.i64.wrap (Go.IntKind.i64.wrap (x4 * x0) + x3)).toNat (0 : Int))
      else none
abbrev YF40 : Type := (Int) → (Int) → ((List Int)) → (Int) → (Int) → ((Int) → Option Ans) → Option Ans
theorem F40_eq (fuel : Nat) (x0 : Int) (x1 : Int) (x2 : (List Int)) (x3 : Int) (x4 : Int) (k : Ev.Cont) : evalFn tab (G40 fuel) (J40 fuel) kp40 fuel Tryz.f40 [.agg [.int .i64 x0, .int .i64 x1, .sl (.int .u8) x2], .c (.int .i64 x3), .c (.int .i64 x4)] [] k = F_ref06_Pix fuel x0 x1 x2 x3 x4 (fun r => match r with | r0 => k (.c (.int .u8 r0), [])) := by
  kernel_rfl
theorem hG40 (fuel : Nat) : GOK Tryz.prog (G40 fuel) :=
  gok_nil
theorem fok40 (fuel : Nat) : FnOK Tryz.prog 40 (evalFn tab (G40 fuel) (J40 fuel) kp40 fuel Tryz.f40) :=
  fn_ok tab_ok (hG40 fuel) mixed Tryz.func40 (c := (Tryz.f40.body).getD .skip) rfl (fun q hq => by
    rw [(by kernel_rfl : obl (J40 fuel) ((Tryz.f40.body).getD .skip) = [])] at hq
    cases hq)
noncomputable def mt40 : List Ev.SV → List Ev.Ob → Bool := fun args objs => match args, objs with
  | [.agg [.int .i64 _, .int .i64 _, .sl (.int .u8) _], .c (.int .i64 _), .c (.int .i64 _)], [] => true
  | _, _ => false
noncomputable def spg40 (F : YF40) : Ev.Spec := fun args objs k => match args, objs with
  | [.agg [.int .i64 x0, .int .i64 x1, .sl (.int .u8) x2], .c (.int .i64 x3), .c (.int .i64 x4)], [] => bif true then F x0 x1 x2 x3 x4 (fun r => match r with | r0 => k (.c (.int .u8 r0), [])) else none
  | _, _ => none
noncomputable def spec40 (fuel : Nat) : Ev.Spec := spg40 (F_ref06_Pix fuel)
theorem ok40 (fuel : Nat) : FnOK Tryz.prog 40 (spec40 fuel) := by
  intro args objs kk r h
  unfold spec40 spg40 at h
  split at h
  · skip
    obtain ⟨hb, h⟩ := cond_some' h
    simp only [Bool.and_eq_true, Nat.beq_eq, decide_eq_true_eq] at hb
    clear hb
    exact fok40 fuel _ _ kk r ((F40_eq fuel _ _ _ _ _ kk).trans h)
  · cases h
end Go.Proofs.YtipdidpalcmlhaaGreat

set_option linter.unusedVariables false
set_option linter.unusedSimpArgs false
set_option maxRecDepth 100000
set_option maxHeartbeats 2000000
namespace Go.Proofs.YtipdidpalcmlhaaGreat
open Go Ev
def kp200 (i : Nat) : Option (List Nat) := Ev.look i [(2, [5, 6, 7]), (100000, []), (400000, [2])]
noncomputable def Gg200 (f : Nat) : Option Ev.Spec := Ev.look f []
noncomputable def G200 (fuel : Nat) : Nat → Option Ev.Spec := Gg200
noncomputable def S_ref06_IsRow_0 (fuel : Nat) (v : (List Int) × Int × Int) (c : ((List Int) × Int × Int) → Option Ans) (B : (Bool → Option Ans) × (Unit → Option Ans)) : Option Ans := match v, B with
  | (x0, x1, x2), (ret, b) =>
   bif Decidable.decide (x2 < x1) then
      bif Decidable.decide ((0 : Int) ≤ x2 ∧ x2 < (↑x0.length : Int)) then
      bif Decidable.decide (x0.getD x2.toNat (0 : Int) > (1 : Int)) then
        ret Bool.false
       else
        c (x0, x1, Go.IntKind.i64.wrap (x2 + (1 : Int)))
      else none
     else
      b ()
noncomputable def L_ref06_IsRow_0 (fuel : Nat) (v : (List Int) × Int × Int) (ret : (Bool → Option Ans)) (b : (Unit → Option Ans)) : Option Ans := iter (S_ref06_IsRow_0 fuel) fuel v (ret, b)
noncomputable def J200_0 (fuel : Nat) (i : Nat) : Option Ev.Blk := Ev.look i []
noncomputable def T200_0 (v : (List Int) × Int × Int) : Ev.St := match v with | (x0, x1, x2) => ⟨[(5, .c (.sl (.int .u8) x0)), (6, .c (.int .i64 x1)), (7, .c (.int .i64 x2))], [], 0, 0⟩
noncomputable def E200_0 (K : Ev.Ex → Ev.St → Option Ans) : (Bool → Option Ans) × (Unit → Option Ans) := ((fun v => match v with | x0 => K .ret ⟨[(2, .c (.bool x0))], [], 0, 0⟩), (fun v => match v with | () => K .normal ⟨[], [], 0, 0⟩))
theorem S200_0_ok (fuel : Nat) (R : Ev.St → Option Ans) (K : Ev.Ex → Ev.St → Option Ans) (x0 : (List Int)) (x1 : Int) (x2 : Int) : evalCode tab (G200 fuel) (J200_0 fuel) kp200 fuel (bodyOf 0 Tryz.f200) (T200_0 (x0, x1, x2)) (lc kp200 2 0 R K) = S_ref06_IsRow_0 fuel (x0, x1, x2) (fun v => R (T200_0 v)) (E200_0 K) := by
  kernel_rfl
noncomputable def B200_0 (fuel : Nat) : Ev.Blk := fun st K => match canonO (kp200 2) st with
  | some s => (match s with
    | ⟨[(q0, .c (.sl (.int .u8) x0)), (q1, .c (.int .i64 x1)), (q2, .c (.int .i64 x2))], [], q3, q4⟩ => bif Nat.beq q0 5 && Nat.beq q1 6 && Nat.beq q2 7 && Nat.beq q3 0 && Nat.beq q4 0 then iter (S_ref06_IsRow_0 fuel) fuel (x0, x1, x2) (E200_0 K) else none
    | _ => none)
  | none => none
theorem B200_0_ok (fuel : Nat) (st : Ev.St) (K : Ev.Ex → Ev.St → Option Ans) (r : Ans) (h : B200_0 fuel st K = some r) : evalCode tab (G200 fuel) (J200_0 fuel) kp200 fuel (.block 0 (.loop (bodyOf 0 Tryz.f200))) st K = some r := by
  unfold B200_0 at h
  split at h
  · rename_i s hs
    split at h
    · skip
      obtain ⟨hb, h⟩ := cond_some' h
      simp only [Bool.and_eq_true, Nat.beq_eq, decide_eq_true_eq] at hb
      obtain ⟨⟨⟨⟨rfl, rfl⟩, rfl⟩, rfl⟩, rfl⟩ := hb
      exact blk_loop (S := T200_0) (ks := E200_0) (step := S_ref06_IsRow_0 fuel) (v := (_, _, _)) (by kernel_rfl) (by kernel_rfl) (fun R K v => by obtain ⟨x0, x1, x2⟩ := v; exact S200_0_ok fuel R K x0 x1 x2) hs h
    · cases h
  · cases h
noncomputable def J200 (fuel : Nat) (i : Nat) : Option Ev.Blk := Ev.look i [(100000, B200_0 fuel)]
noncomputable def F_ref06_IsRow (fuel : Nat) (x0 : (List Int)) (k0 : (Bool) → Option Ans) : Option Ans :=
  (L_ref06_IsRow_0 fuel (x0, (↑x0.length : Int), (0 : Int))
    (fun ret0_0 =>
      k0 ret0_0)
    (fun () =>
      k0 Bool.true))
abbrev YF200 : Type := ((List Int)) → ((Bool) → Option Ans) → Option Ans
theorem F200_eq (fuel : Nat) (x0 : (List Int)) (k : Ev.Cont) : evalFn tab (G200 fuel) (J200 fuel) kp200 fuel Tryz.f200 [.c (.sl (.int .u8) x0)] [] k = F_ref06_IsRow fuel x0 (fun r => match r with | r0 => k (.c (.bool r0), [])) := by
  kernel_rfl
theorem hG200 (fuel : Nat) : GOK Tryz.prog (G200 fuel) :=
  gok_nil
theorem B200_0_blk (fuel : Nat) : BlkOK Tryz.prog Tryz.f200.ntmps (.block 0 (.loop (bodyOf 0 Tryz.f200))) (B200_0 fuel) :=
  blk_of (blk_of_code tab_ok (hG200 fuel) mixed (J := J200_0 fuel) (kp := kp200) (fuel := fuel) (by kernel_rfl) (fun q hq => by
    rw [(by kernel_rfl : obl (J200_0 fuel) (.block 0 (.loop (bodyOf 0 Tryz.f200))) = [])] at hq
    cases hq)) (B200_0_ok fuel)
theorem fok200 (fuel : Nat) : FnOK Tryz.prog 200 (evalFn tab (G200 fuel) (J200 fuel) kp200 fuel Tryz.f200) :=
  fn_ok tab_ok (hG200 fuel) mixed Tryz.func200 (c := (Tryz.f200.body).getD .skip) rfl (fun q hq => by
    rw [(by kernel_rfl : obl (J200 fuel) ((Tryz.f200.body).getD .skip) = [(.block 0 (.loop (bodyOf 0 Tryz.f200)), B200_0 fuel)])] at hq
    simp only [List.mem_cons, List.not_mem_nil, or_false] at hq
    subst hq
    · exact B200_0_blk fuel)
noncomputable def mt200 : List Ev.SV → List Ev.Ob → Bool := fun args objs => match args, objs with
  | [.c (.sl (.int .u8) _)], [] => true
  | _, _ => false
noncomputable def spg200 (F : YF200) : Ev.Spec := fun args objs k => match args, objs with
  | [.c (.sl (.int .u8) x0)], [] => bif true then F x0 (fun r => match r with | r0 => k (.c (.bool r0), [])) else none
  | _, _ => none
noncomputable def spec200 (fuel : Nat) : Ev.Spec := spg200 (F_ref06_IsRow fuel)
theorem ok200 (fuel : Nat) : FnOK Tryz.prog 200 (spec200 fuel) := by
  intro args objs kk r h
  unfold spec200 spg200 at h
  split at h
  · skip
    obtain ⟨hb, h⟩ := cond_some' h
    simp only [Bool.and_eq_true, Nat.beq_eq, decide_eq_true_eq] at hb
    clear hb
    exact fok200 fuel _ _ kk r ((F200_eq fuel _ kk).trans h)
  · cases h
end Go.Proofs.YtipdidpalcmlhaaGreat

set_option linter.unusedVariables false
set_option linter.unusedSimpArgs false
set_option maxRecDepth 100000
set_option maxHeartbeats 2000000
namespace Go.Proofs.YtipdidpalcmlhaaGreat
open Go Ev
def kp108 (i : Nat) : Option (List Nat) := Ev.look i []
noncomputable def Gg108 (f : Nat) : Option Ev.Spec := Ev.look f []
noncomputable def G108 (fuel : Nat) : Nat → Option Ev.Spec := Gg108
noncomputable def J108 (fuel : Nat) (i : Nat) : Option Ev.Blk := Ev.look i []
noncomputable def F_ref06_IsSize (fuel : Nat) (x0 : Int) (x1 : Int) (k0 : (Bool) → Option Ans) : Option Ans :=
  bif Decidable.decide (x0 ≥ (0 : Int)) then
   bif Decidable.decide (x0 ≤ (200 : Int)) then
    bif Decidable.decide (x1 ≥ (0 : Int)) then
     bif Decidable.decide (x1 ≤ (200 : Int)) then
      k0 (Decidable.decide (Go.IntKind.i64.wrap (x0 * x1) ≤ (8192 : Int)))
     else
      k0 Bool.false
    else
     k0 Bool.false
   else
    k0 Bool.false
  else
   k0 Bool.false
abbrev YF108 : Type := (Int) → (Int) → ((Bool) → Option Ans) → Option Ans
theorem F108_eq (fuel : Nat) (x0 : Int) (x1 : Int) (k : Ev.Cont) : evalFn tab (G108 fuel) (J108 fuel) kp108 fuel Tryz.f108 [.c (.int .i64 x0), .c (.int .i64 x1)] [] k = F_ref06_IsSize fuel x0 x1 (fun r => match r with | r0 => k (.c (.bool r0), [])) := by
  kernel_rfl
theorem hG108 (fuel : Nat) : GOK Tryz.prog (G108 fuel) :=
  gok_nil
theorem fok108 (fuel : Nat) : FnOK Tryz.prog 108 (evalFn tab (G108 fuel) (J108 fuel) kp108 fuel Tryz.f108) :=
  fn_ok tab_ok (hG108 fuel) mixed Tryz.func108 (c := (Tryz.f108.body).getD .skip) rfl (fun q hq => by
    rw [(by kernel_rfl : obl (J108 fuel) ((Tryz.f108.body).getD .skip) = [])] at hq
    cases hq)
noncomputable def mt108 : List Ev.SV → List Ev.Ob → Bool := fun args objs => match args, objs with
  | [.c (.int .i64 _), .c (.int .i64 _)], [] => true
  | _, _ => false
noncomputable def spg108 (F : YF108) : Ev.Spec := fun args objs k => match args, objs with
  | [.c (.int .i64 x0), .c (.int .i64 x1)], [] => bif true then F x0 x1 (fun r => match r with | r0 => k (.c (.bool r0), [])) else none
  | _, _ => none
noncomputable def spec108 (fuel : Nat) : Ev.Spec := spg108 (F_ref06_IsSize fuel)
theorem ok108 (fuel : Nat) : FnOK Tryz.prog 108 (spec108 fuel) := by
  intro args objs kk r h
  unfold spec108 spg108 at h
  split at h
  · skip
    obtain ⟨hb, h⟩ := cond_some' h
    simp only [Bool.and_eq_true, Nat.beq_eq, decide_eq_true_eq] at hb
    clear hb
    exact fok108 fuel _ _ kk r ((F108_eq fuel _ _ kk).trans h)
  · cases h
end Go.Proofs.YtipdidpalcmlhaaGreat

set_option linter.unusedVariables false
set_option linter.unusedSimpArgs false
set_option maxRecDepth 100000
set_option maxHeartbeats 2000000
namespace Go.Proofs.YtipdidpalcmlhaaGreat
open Go Ev
def kp110 (i : Nat) : Option (List Nat) := Ev.look i []
noncomputable def Gg110 (f108 : YF108) (f200 : YF200) (f : Nat) : Option Ev.Spec := Ev.look f [(108, spg108 f108), (200, spg200 f200)]
noncomputable def G110 (fuel : Nat) : Nat → Option Ev.Spec := Gg110 (F_ref06_IsSize fuel) (F_ref06_IsRow fuel)
noncomputable def J110 (fuel : Nat) (i : Nat) : Option Ev.Blk := Ev.look i []
noncomputable def F_ref06_IsBitmap (fuel : Nat) (x0 : Int) (x1 : Int) (x2 : (List Int)) (k0 : (Bool) → Option Ans) : Option Ans :=
  (F_ref06_IsSize fuel (x0) (x1)
    (fun y2 =>
      bif y2 then
       bif (↑x2.length : Int) == Go.IntKind.i64.wrap (x0 * x1) then
        (F_ref06_IsRow fuel (x2)
          (fun y8 =>
            k0 y8))
       else
        k0 Bool.false
      else
       k0 Bool.false))
abbrev YF110 : Type := (Int) → (Int) → ((List Int)) → ((Bool) → Option Ans) → Option Ans
theorem F110_eqg (fuel : Nat) (f108 : YF108) (f200 : YF200) (x0 : Int) (x1 : Int) (x2 : (List Int)) (k : Ev.Cont) : evalFn tab (Gg110 f108 f200) (J110 fuel) kp110 fuel Tryz.f110 [.agg [.int .i64 x0, .int .i64 x1, .sl (.int .u8) x2]] [] k = (fun  (k0 : (Bool) → Option Ans) =>
  (f108 (x0) (x1)
    (fun y2 =>
      bif y2 then
       bif (↑x2.length : Int) == Go.IntKind.i64.wrap (x0 * x1) then
        (f200 (x2)
          (fun y8 =>
            k0 y8))
       else
        k0 Bool.false
      else
       k0 Bool.false))) (fun r => match r with | r0 => k (.c (.bool r0), [])) := by
  kernel_rfl
theorem F110_eq (fuel : Nat) (x0 : Int) (x1 : Int) (x2 : (List Int)) (k : Ev.Cont) : evalFn tab (G110 fuel) (J110 fuel) kp110 fuel Tryz.f110 [.agg [.int .i64 x0, .int .i64 x1, .sl (.int .u8) x2]] [] k = F_ref06_IsBitmap fuel x0 x1 x2 (fun r => match r with | r0 => k (.c (.bool r0), [])) :=
  F110_eqg fuel (F_ref06_IsSize fuel) (F_ref06_IsRow fuel) x0 x1 x2 k
theorem hG110 (fuel : Nat) : GOK Tryz.prog (G110 fuel) :=
  gok_cons ⟨ok108 fuel, enters_of Tryz.func108 (by kernel_rfl) rfl⟩ <|
  gok_cons ⟨ok200 fuel, enters_of Tryz.func200 (by kernel_rfl) rfl⟩ <|
  gok_nil
theorem fok110 (fuel : Nat) : FnOK Tryz.prog 110 (evalFn tab (G110 fuel) (J110 fuel) kp110 fuel Tryz.f110) :=
  fn_ok tab_ok (hG110 fuel) mixed Tryz.func110 (c := (Tryz.f110.body).getD .skip) rfl (fun q hq => by
    rw [(by kernel_rfl : obl (J110 fuel) ((Tryz.f110.body).getD .skip) = [])] at hq
    cases hq)
noncomputable def mt110 : List Ev.SV → List Ev.Ob → Bool := fun args objs => match args, objs with
  | [.agg [.int .i64 _, .int .i64 _, .sl (.int .u8) _]], [] => true
  | _, _ => false
noncomputable def spg110 (F : YF110) : Ev.Spec := fun args objs k => match args, objs with
  | [.agg [.int .i64 x0, .int .i64 x1, .sl (.int .u8) x2]], [] => bif true then F x0 x1 x2 (fun r => match r with | r0 => k (.c (.bool r0), [])) else none
  | _, _ => none
noncomputable def spec110 (fuel : Nat) : Ev.Spec := spg110 (F_ref06_IsBitmap fuel)
theorem ok110 (fuel : Nat) : FnOK Tryz.prog 110 (spec110 fuel) := by
  intro args objs kk r h
  unfold spec110 spg110 at h
  split at h
  · skip
    obtain ⟨hb, h⟩ := cond_some' h
    simp only [Bool.and_eq_true, Nat.beq_eq, decide_eq_true_eq] at hb
    clear hb
    exact fok110 fuel _ _ kk r ((F110_eq fuel _ _ _ kk).trans h)
  · cases h
end Go.Proofs.YtipdidpalcmlhaaGreat

set_option linter.unusedVariables false
set_option linter.unusedSimpArgs false
set_option maxRecDepth 100000
set_option maxHeartbeats 2000000
namespace Go.Proofs.YtipdidpalcmlhaaGreat
open Go Ev
def kp39 (i : Nat) : Option (List Nat) := Ev.look i []
noncomputable def Gg39 (f110 : YF110) (f : Nat) : Option Ev.Spec := Ev.look f [(110, spg110 f110)]
noncomputable def G39 (fuel : Nat) : Nat → Option Ev.Spec := Gg39 (F_ref06_IsBitmap fuel)
noncomputable def J39 (fuel : Nat) (i : Nat) : Option Ev.Blk := Ev.look i []
noncomputable def F_ref10_IsShape (fuel : Nat) (x0 : Int) (x1 : Int) (x2 : (List Int)) (k0 : (Bool) → Option Ans) : Option Ans :=
  (F_ref06_IsBitmap fuel (x0) (x1) (x2)
    (fun y2 =>
      bif y2 then
       bif Decidable.decide (x0 ≥ (1 : Int)) then
        bif Decidable.decide (x0 ≤ (40 : Int)) then
         bif Decidable.decide (x1 ≥ (1 : Int)) then
          k0 (Decidable.decide (x1 ≤ (40 : Int)))
         else
          k0 Bool.false
        else
         k0 Bool.false
       else
        k0 Bool.false
      else
       k0 Bool.false))
abbrev YF39 : Type := (Int) → (Int) → ((List Int)) → ((Bool) → Option Ans) → Option Ans
theorem F39_eqg (fuel : Nat) (f110 : YF110) (x0 : Int) (x1 : Int) (x2 : (List Int)) (k : Ev.Cont) : evalFn tab (Gg39 f110) (J39 fuel) kp39 fuel Tryz.f39 [.agg [.int .i64 x0, .int .i64 x1, .sl (.int .u8) x2]] [] k = (fun  (k0 : (Bool) → Option Ans) =>
  (f110 (x0) (x1) (x2)
    (fun y2 =>
      bif y2 then
       bif Decidable.decide (x0 ≥ (1 : Int)) then
        bif Decidable.decide (x0 ≤ (40 : Int)) then
         bif Decidable.decide (x1 ≥ (1 : Int)) then
          k0 (Decidable.decide (x1 ≤ (40 : Int)))
         else
          k0 Bool.false
        else
         k0 Bool.false
       else
        k0 Bool.false
      else
       k0 Bool.false))) (fun r => match r with | r0 => k (.c (.bool r0), [])) := by
  kernel_rfl
theorem F39_eq (fuel : Nat) (x0 : Int) (x1 : Int) (x2 : (List Int)) (k : Ev.Cont) : evalFn tab (G39 fuel) (J39 fuel) kp39 fuel Tryz.f39 [.agg [.int .i64 x0, .int .i64 x1, .sl (.int .u8) x2]] [] k = F_ref10_IsShape fuel x0 x1 x2 (fun r => match r with | r0 => k (.c (.bool r0), [])) :=
  F39_eqg fuel (F_ref06_IsBitmap fuel) x0 x1 x2 k
theorem hG39 (fuel : Nat) : GOK Tryz.prog (G39 fuel) :=
  gok_cons ⟨ok110 fuel, enters_of Tryz.func110 (by kernel_rfl) rfl⟩ <|
  gok_nil
theorem fok39 (fuel : Nat) : FnOK Tryz.prog 39 (evalFn tab (G39 fuel) (J39 fuel) kp39 fuel Tryz.f39) :=
  fn_ok tab_ok (hG39 fuel) mixed Tryz.func39 (c := (Tryz.f39.body).getD .skip) rfl (fun q hq => by
    rw [(by kernel_rfl : obl (J39 fuel) ((Tryz.f39.body).getD .skip) = [])] at hq
    cases hq)
noncomputable def mt39 : List Ev.SV → List Ev.Ob → Bool := fun args objs => match args, objs with
  | [.agg [.int .i64 _, .int .i64 _, .sl (.int .u8) _]], [] => true
  | _, _ => false
noncomputable def spg39 (F : YF39) : Ev.Spec := fun args objs k => match args, objs with
  | [.agg [.int .i64 x0, .int .i64 x1, .sl (.int .u8) x2]], [] => bif true then F x0 x1 x2 (fun r => match r with | r0 => k (.c (.bool r0), [])) else none
  | _, _ => none
noncomputable def spec39 (fuel : Nat) : Ev.Spec := spg39 (F_ref10_IsShape fuel)
theorem ok39 (fuel : Nat) : FnOK Tryz.prog 39 (spec39 fuel) := by
  intro args objs kk r h
  unfold spec39 spg39 at h
  split at h
  · skip
    obtain ⟨hb, h⟩ := cond_some' h
    simp only [Bool.and_eq_true, Nat.beq_eq, decide_eq_true_eq] at hb
    clear hb
    exact fok39 fuel _ _ kk r ((F39_eq fuel _ _ _ kk).trans h)
  · cases h
end Go.Proofs.YtipdidpalcmlhaaGreat

set_option linter.unusedVariables false
set_option linter.unusedSimpArgs false
set_option maxRecDepth 100000
set_option maxHeartbeats 2000000
namespace Go.Proofs.YtipdidpalcmlhaaGreat
open Go Ev
def kp32 (i : Nat) : Option (List Nat) := Ev.look i []
noncomputable def Gg32 (f : Nat) : Option Ev.Spec := Ev.look f []
noncomputable def G32 (fuel : Nat) : Nat → Option Ev.Spec := Gg32
noncomputable def J32 (fuel : Nat) (i : Nat) : Option Ev.Blk := Ev.look i []
noncomputable def F_ref10_Valid (fuel : Nat) (x0 : Int) (x1 : Int) (x2 : Bool) (x3 : Int) (x4 : Int) (x5 : Int) (x6 : Bool) (x7 : Int) (k0 : (Bool) → Option Ans) : Option Ans :=
  bif x0 != (1 : Int) then
   bif x0 != (2 : Int) then
    bif x0 != (4 : Int) then
     bif x0 != (8 : Int) then
      k0 Bool.false
     else
      bif Decidable.decide (x1 ≥ (0 : Int)) then
       bif Decidable.decide (x1 ≤ (3 : Int)) then
        bif Decidable.decide (x3 ≥ (-16 : Int)) then
         bif Decidable.decide (x3 ≤ (16 : Int)) then
          bif Decidable.decide (x4 ≥ (0 : Int)) then
           bif Decidable.decide (x4 ≤ (4 : Int)) then
            bif Decidable.decide (x5 ≥ (0 : Int)) then
             bif Decidable.decide (x5 ≤ (1 : Int)) then
              bif Decidable.decide (x7 ≥ (0 : Int)) then
               k0 (Decidable.decide (x7 ≤ (1 : Int)))
              else
               k0 Bool.false
             else
              k0 Bool.false
            else
             k0 Bool.false
           else
            k0 Bool.false
          else
           k0 Bool.false
         else
          k0 Bool.false
        else
         k0 Bool.false
       else
        k0 Bool.false
      else
       k0 Bool.false
    else
     bif Decidable.decide (x1 ≥ (0 : Int)) then
      bif Decidable.decide (x1 ≤ (3 : Int)) then
       bif Decidable.decide (x3 ≥ (-16 : Int)) then
        bif Decidable.decide (x3 ≤ (16 : Int)) then
         bif Decidable.decide (x4 ≥ (0 : Int)) then
          bif Decidable.decide (x4 ≤ (4 : Int)) then
           bif Decidable.decide (x5 ≥ (0 : Int)) then
            bif Decidable.decide (x5 ≤ (1 : Int)) then
             bif Decidable.decide (x7 ≥ (0 : Int)) then
              k0 (Decidable.decide (x7 ≤ (1 : Int)))
             else
              k0 Bool.false
            else
             k0 Bool.false
           else
            k0 Bool.false
          else
           k0 Bool.false
         else
          k0 Bool.false
        else
         k0 Bool.false
       else
        k0 Bool.false
      else
       k0 Bool.false
     else
      k0 Bool.false
   else
    bif Decidable.decide (x1 ≥ (0 : Int)) then
     bif Decidable.decide (x1 ≤ (3 : Int)) then
      bif Decidable.decide (x3 ≥ (-16 : Int)) then
       bif Decidable.decide (x3 ≤ (16 : Int)) then
        bif Decidable.decide (x4 ≥ (0 : Int)) then
         bif Decidable.decide (x4 ≤ (4 : Int)) then
          bif Decidable.decide (x5 ≥ (0 : Int)) then
           bif Decidable.decide (x5 ≤ (1 : Int)) then
            bif Decidable.decide (x7 ≥ (0 : Int)) then
             k0 (Decidable.decide (x7 ≤ (1 : Int)))
            else
             k0 Bool.false
           else
            k0 Bool.false
          else
           k0 Bool.false
         else
          k0 Bool.false
        else
         k0 Bool.false
       else
        k0 Bool.false
      else
       k0 Bool.false
     else
      k0 Bool.false
    else
     k0 Bool.false
  else
   bif Decidable.decide (x1 ≥ (0 : Int)) then
    bif Decidable.decide (x1 ≤ (3 : Int)) then
     bif Decidable.decide (x3 ≥ (-16 : Int)) then
      bif Decidable.decide (x3 ≤ (16 : Int)) then
       bif Decidable.decide (x4 ≥ (0 : Int)) then
        bif Decidable.decide (x4 ≤ (4 : Int)) then
         bif Decidable.decide (x5 ≥ (0 : Int)) then
          bif Decidable.decide (x5 ≤ (1 : Int)) then
           bif Decidable.decide (x7 ≥ (0 : Int)) then
            k0 (Decidable.decide (x7 ≤ (1 : Int)))
           else
            k0 Bool.false
          else
           k0 Bool.false
         else
          k0 Bool.false
        else
         k0 Bool.false
       else
        k0 Bool.false
      else
       k0 Bool.false
     else
      k0 Bool.false
    else
     k0 Bool.false
   else
    k0 Bool.false
abbrev YF32 : Type := (Int) → (Int) → (Bool) → (Int) → (Int) → (Int) → (Bool) → (Int) → ((Bool) → Option Ans) → Option Ans
theorem F32_eq (fuel : Nat) (x0 : Int) (x1 : Int) (x2 : Bool) (x3 : Int) (x4 : Int) (x5 : Int) (x6 : Bool) (x7 : Int) (k : Ev.Cont) : evalFn tab (G32 fuel) (J32 fuel) kp32 fuel Tryz.f32 [.agg [.int .i64 x0, .int .i64 x1, .bool x2, .int .i64 x3, .int .i64 x4, .int .i64 x5, .bool x6, .int .i64 x7]] [] k = F_ref10_Valid fuel x0 x1 x2 x3 x4 x5 x6 x7 (fun r => match r with | r0 => k (.c (.bool r0), [])) := by
  kernel_rfl
theorem hG32 (fuel : Nat) : GOK Tryz.prog (G32 fuel) :=
  gok_nil
theorem fok32 (fuel : Nat) : FnOK Tryz.prog 32 (evalFn tab (G32 fuel) (J32 fuel) kp32 fuel Tryz.f32) :=
  fn_ok tab_ok (hG32 fuel) mixed Tryz.func32 (c := (Tryz.f32.body).getD .skip) rfl (fun q hq => by
    rw [(by kernel_rfl : obl (J32 fuel) ((Tryz.f32.body).getD .skip) = [])] at hq
    cases hq)
noncomputable def mt32 : List Ev.SV → List Ev.Ob → Bool := fun args objs => match args, objs with
  | [.agg [.int .i64 _, .int .i64 _, .bool _, .int .i64 _, .int .i64 _, .int .i64 _, .bool _, .int .i64 _]], [] => true
  | _, _ => false
noncomputable def spg32 (F : YF32) : Ev.Spec := fun args objs k => match args, objs with
  | [.agg [.int .i64 x0, .int .i64 x1, .bool x2, .int .i64 x3, .int .i64 x4, .int .i64 x5, .bool x6, .int .i64 x7]], [] => bif true then F x0 x1 x2 x3 x4 x5 x6 x7 (fun r => match r with | r0 => k (.c (.bool r0), [])) else none
  | _, _ => none
noncomputable def spec32 (fuel : Nat) : Ev.Spec := spg32 (F_ref10_Valid fuel)
theorem ok32 (fuel : Nat) : FnOK Tryz.prog 32 (spec32 fuel) := by
  intro args objs kk r h
  unfold spec32 spg32 at h
  split at h
  · skip
    obtain ⟨hb, h⟩ := cond_some' h
    simp only [Bool.and_eq_true, Nat.beq_eq, decide_eq_true_eq] at hb
    clear hb
    exact fok32 fuel _ _ kk r ((F32_eq fuel _ _ _ _ _ _ _ _ kk).trans h)
  · cases h
end Go.Proofs.YtipdidpalcmlhaaGreat

set_option linter.unusedVariables false
set_option linter.unusedSimpArgs false
set_option maxRecDepth 100000
set_option maxHeartbeats 2000000
namespace Go.Proofs.YtipdidpalcmlhaaGreat
open Go Ev
def kp212 (i : Nat) : Option (List Nat) := Ev.look i []
noncomputable def Gg212 (f : Nat) : Option Ev.Spec := Ev.look f []
noncomputable def G212 (fuel : Nat) : Nat → Option Ev.Spec := Gg212
noncomputable def J212 (fuel : Nat) (i : Nat) : Option Ev.Blk := Ev.look i []
noncomputable def F_bitmap_fits (fuel : Nat) (x0 : Int) (x1 : Int) (k0 : (Bool) → Option Ans) : Option Ans :=
  bif Decidable.decide (x0 ≥ (0 : Int)) then
   bif Decidable.decide (x1 ≥ (0 : Int)) then
    bif Decidable.decide (x0 ≤ (200 : Int)) then
     bif Decidable.decide (x1 ≤ (200 : Int)) then
      k0 (Decidable.decide (Go.IntKind.i64.wrap (x0 * x1) ≤ (8192 : Int)))
     else
      k0 Bool.false
    else
     k0 Bool.false
   else
    k0 Bool.false
  else
   k0 Bool.false
abbrev YF212 : Type := (Int) → (Int) → ((Bool) → Option Ans) → Option Ans
theorem F212_eq (fuel : Nat) (x0 : Int) (x1 : Int) (k : Ev.Cont) : evalFn tab (G212 fuel) (J212 fuel) kp212 fuel Tryz.f212 [.c (.int .i64 x0), .c (.int .i64 x1)] [] k = F_bitmap_fits fuel x0 x1 (fun r => match r with | r0 => k (.c (.bool r0), [])) := by
  kernel_rfl
theorem hG212 (fuel : Nat) : GOK Tryz.prog (G212 fuel) :=
  gok_nil
theorem fok212 (fuel : Nat) : FnOK Tryz.prog 212 (evalFn tab (G212 fuel) (J212 fuel) kp212 fuel Tryz.f212) :=
  fn_ok tab_ok (hG212 fuel) mixed Tryz.func212 (c := (Tryz.f212.body).getD .skip) rfl (fun q hq => by
    rw [(by kernel_rfl : obl (J212 fuel) ((Tryz.f212.body).getD .skip) = [])] at hq
    cases hq)
noncomputable def mt212 : List Ev.SV → List Ev.Ob → Bool := fun args objs => match args, objs with
  | [.c (.int .i64 _), .c (.int .i64 _)], [] => true
  | _, _ => false
noncomputable def spg212 (F : YF212) : Ev.Spec := fun args objs k => match args, objs with
  | [.c (.int .i64 x0), .c (.int .i64 x1)], [] => bif true then F x0 x1 (fun r => match r with | r0 => k (.c (.bool r0), [])) else none
  | _, _ => none
noncomputable def spec212 (fuel : Nat) : Ev.Spec := spg212 (F_bitmap_fits fuel)
theorem ok212 (fuel : Nat) : FnOK Tryz.prog 212 (spec212 fuel) := by
  intro args objs kk r h
  unfold spec212 spg212 at h
  split at h
  · skip
    obtain ⟨hb, h⟩ := cond_some' h
    simp only [Bool.and_eq_true, Nat.beq_eq, decide_eq_true_eq] at hb
    clear hb
    exact fok212 fuel _ _ kk r ((F212_eq fuel _ _ kk).trans h)
  · cases h
end Go.Proofs.YtipdidpalcmlhaaGreat

set_option linter.unusedVariables false
set_option linter.unusedSimpArgs false
set_option maxRecDepth 100000
set_option maxHeartbeats 2000000
namespace Go.Proofs.YtipdidpalcmlhaaGreat
open Go Ev
def kp122 (i : Nat) : Option (List Nat) := Ev.look i [(4, [23, 24, 25]), (100000, []), (400000, [2])]
noncomputable def Gg122 (f212 : YF212) (f : Nat) : Option Ev.Spec := Ev.look f [(212, spg212 f212)]
noncomputable def G122 (fuel : Nat) : Nat → Option Ev.Spec := Gg122 (F_bitmap_fits fuel)
noncomputable def S_bitmap_Valid_0 (fuel : Nat) (v : (List Int) × Int × Int) (c : ((List Int) × Int × Int) → Option Ans) (B : (Bool → Option Ans) × (Unit → Option Ans)) : Option Ans := match v, B with
  | (x0, x1, x2), (ret, b) =>
   bif Decidable.decide (x2 < x1) then
      bif Decidable.decide ((0 : Int) ≤ x2 ∧ x2 < (↑x0.length : Int)) then
      bif Decidable.decide (x0.getD x2.toNat (0 : Int) > (1 : Int)) then
        ret Bool.false
       else
        c (x0, x1, Go.IntKind.i64.wrap (x2 + (1 : Int)))
      else none
     else
      b ()
noncomputable def L_bitmap_Valid_0 (fuel : Nat) (v : (List Int) × Int × Int) (ret : (Bool → Option Ans)) (b : (Unit → Option Ans)) : Option Ans := iter (S_bitmap_Valid_0 fuel) fuel v (ret, b)
noncomputable def J122_0 (fuel : Nat) (i : Nat) : Option Ev.Blk := Ev.look i []
noncomputable def T122_0 (v : (List Int) × Int × Int) : Ev.St := match v with | (x0, x1, x2) => ⟨[(23, .c (.sl (.int .u8) x0)), (24, .c (.int .i64 x1)), (25, .c (.int .i64 x2))], [], 0, 0⟩
noncomputable def E122_0 (K : Ev.Ex → Ev.St → Option Ans) : (Bool → Option Ans) × (Unit → Option Ans) := ((fun v => match v with | x0 => K .ret ⟨[(2, .c (.bool x0))], [], 0, 0⟩), (fun v => match v with | () => K .normal ⟨[], [], 0, 0⟩))
theorem S122_0_okg (fuel : Nat) (f212 : YF212) (R : Ev.St → Option Ans) (K : Ev.Ex → Ev.St → Option Ans) (x0 : (List Int)) (x1 : Int) (x2 : Int) : evalCode tab (Gg122 f212) (J122_0 fuel) kp122 fuel (bodyOf 0 Tryz.f122) (T122_0 (x0, x1, x2)) (lc kp122 4 0 R K) = (fun (c : ((List Int) × Int × Int) → Option Ans) (B : (Bool → Option Ans) × (Unit → Option Ans)) => match B with
  | (ret, b) =>
   bif Decidable.decide (x2 < x1) then
      bif Decidable.decide ((0 : Int) ≤ x2 ∧ x2 < (↑x0.length : Int)) then
      bif Decidable.decide (x0.getD x2.toNat (0 : Int) > (1 : Int)) then
        ret Bool.false
       else
        c (x0, x1, Go.IntKind.i64.wrap (x2 + (1 : Int)))
      else none
     else
      b ()) (fun v => R (T122_0 v)) (E122_0 K) := by
  kernel_rfl
theorem S122_0_ok (fuel : Nat) (R : Ev.St → Option Ans) (K : Ev.Ex → Ev.St → Option Ans) (x0 : (List Int)) (x1 : Int) (x2 : Int) : evalCode tab (G122 fuel) (J122_0 fuel) kp122 fuel (bodyOf 0 Tryz.f122) (T122_0 (x0, x1, x2)) (lc kp122 4 0 R K) = S_bitmap_Valid_0 fuel (x0, x1, x2) (fun v => R (T122_0 v)) (E122_0 K) :=
  S122_0_okg fuel (F_bitmap_fits fuel) R K x0 x1 x2
noncomputable def B122_0 (fuel : Nat) : Ev.Blk := fun st K => match canonO (kp122 4) st with
  | some s => (match s with
    | ⟨[(q0, .c (.sl (.int .u8) x0)), (q1, .c (.int .i64 x1)), (q2, .c (.int .i64 x2))], [], q3, q4⟩ => bif Nat.beq q0 23 && Nat.beq q1 24 && Nat.beq q2 25 && Nat.beq q3 0 && Nat.beq q4 0 then iter (S_bitmap_Valid_0 fuel) fuel (x0, x1, x2) (E122_0 K) else none
    | _ => none)
  | none => none
theorem B122_0_ok (fuel : Nat) (st : Ev.St) (K : Ev.Ex → Ev.St → Option Ans) (r : Ans) (h : B122_0 fuel st K = some r) : evalCode tab (G122 fuel) (J122_0 fuel) kp122 fuel (.block 0 (.loop (bodyOf 0 Tryz.f122))) st K = some r := by
  unfold B122_0 at h
  split at h
  · rename_i s hs
    split at h
    · skip
      obtain ⟨hb, h⟩ := cond_some' h
      simp only [Bool.and_eq_true, Nat.beq_eq, decide_eq_true_eq] at hb
      obtain ⟨⟨⟨⟨rfl, rfl⟩, rfl⟩, rfl⟩, rfl⟩ := hb
      exact blk_loop (S := T122_0) (ks := E122_0) (step := S_bitmap_Valid_0 fuel) (v := (_, _, _)) (by kernel_rfl) (by kernel_rfl) (fun R K v => by obtain ⟨x0, x1, x2⟩ := v; exact S122_0_ok fuel R K x0 x1 x2) hs h
    · cases h
  · cases h
noncomputable def J122 (fuel : Nat) (i : Nat) : Option Ev.Blk := Ev.look i [(100000, B122_0 fuel)]
noncomputable def F_bitmap_Valid (fuel : Nat) (x0 : Int) (x1 : Int) (x2 : (List Int)) (k0 : (Bool) → Option Ans) : Option Ans :=
  (F_bitmap_fits fuel (x0) (x1)
    (fun y2 =>
      bif !y2 then
       k0 Bool.false
      else
       bif (↑x2.length : Int) != Go.IntKind.i64.wrap (x0 * x1) then
        k0 Bool.false
       else
        (L_bitmap_Valid_0 fuel (x2, (↑x2.length : Int), (0 : Int))
          (fun ret0_0 =>
            k0 ret0_0)
          (fun () =>
            k0 Bool.true))))
abbrev YF122 : Type := (Int) → (Int) → ((List Int)) → ((Bool) → Option Ans) → Option Ans
theorem F122_eqg (fuel : Nat) (f212 : YF212) (x0 : Int) (x1 : Int) (x2 : (List Int)) (k : Ev.Cont) : evalFn tab (Gg122 f212) (J122 fuel) kp122 fuel Tryz.f122 [.agg [.int .i64 x0, .int .i64 x1, .sl (.int .u8) x2]] [] k = (fun  (k0 : (Bool) → Option Ans) =>
  (f212 (x0) (x1)
    (fun y2 =>
      bif !y2 then
       k0 Bool.false
      else
       bif (↑x2.length : Int) != Go.IntKind.i64.wrap (x0 * x1) then
        k0 Bool.false
       else
        (L_bitmap_Valid_0 fuel (x2, (↑x2.length : Int), (0 : Int))
          (fun ret0_0 =>
            k0 ret0_0)
          (fun () =>
            k0 Bool.true))))) (fun r => match r with | r0 => k (.c (.bool r0), [])) := by
  kernel_rfl
theorem F122_eq (fuel : Nat) (x0 : Int) (x1 : Int) (x2 : (List Int)) (k : Ev.Cont) : evalFn tab (G122 fuel) (J122 fuel) kp122 fuel Tryz.f122 [.agg [.int .i64 x0, .int .i64 x1, .sl (.int .u8) x2]] [] k = F_bitmap_Valid fuel x0 x1 x2 (fun r => match r with | r0 => k (.c (.bool r0), [])) :=
  F122_eqg fuel (F_bitmap_fits fuel) x0 x1 x2 k
theorem hG122 (fuel : Nat) : GOK Tryz.prog (G122 fuel) :=
  gok_cons ⟨ok212 fuel, enters_of Tryz.func212 (by kernel_rfl) rfl⟩ <|
  gok_nil
theorem B122_0_blk (fuel : Nat) : BlkOK Tryz.prog Tryz.f122.ntmps (.block 0 (.loop (bodyOf 0 Tryz.f122))) (B122_0 fuel) :=
  blk_of (blk_of_code tab_ok (hG122 fuel) mixed (J := J122_0 fuel) (kp := kp122) (fuel := fuel) (by kernel_rfl) (fun q hq => by
    rw [(by kernel_rfl : obl (J122_0 fuel) (.block 0 (.loop (bodyOf 0 Tryz.f122))) = [])] at hq
    cases hq)) (B122_0_ok fuel)
theorem fok122 (fuel : Nat) : FnOK Tryz.prog 122 (evalFn tab (G122 fuel) (J122 fuel) kp122 fuel Tryz.f122) :=
  fn_ok tab_ok (hG122 fuel) mixed Tryz.func122 (c := (Tryz.f122.body).getD .skip) rfl (fun q hq => by
    rw [(by kernel_rfl : obl (J122 fuel) ((Tryz.f122.body).getD .skip) = [(.block 0 (.loop (bodyOf 0 Tryz.f122)), B122_0 fuel)])] at hq
    simp only [List.mem_cons, List.not_mem_nil, or_false] at hq
    subst hq
    · exact B122_0_blk fuel)
noncomputable def mt122 : List Ev.SV → List Ev.Ob → Bool := fun args objs => match args, objs with
  | [.agg [.int .i64 _, .int .i64 _, .sl (.int .u8) _]], [] => true
  | _, _ => false
noncomputable def spg122 (F : YF122) : Ev.Spec := fun args objs k => match args, objs with
  | [.agg [.int .i64 x0, .int .i64 x1, .sl (.int .u8) x2]], [] => bif true then F x0 x1 x2 (fun r => match r with | r0 => k (.c (.bool r0), [])) else none
  | _, _ => none
noncomputable def spec122 (fuel : Nat) : Ev.Spec := spg122 (F_bitmap_Valid fuel)
theorem ok122 (fuel : Nat) : FnOK Tryz.prog 122 (spec122 fuel) := by
  intro args objs kk r h
  unfold spec122 spg122 at h
  split at h
  · skip
    obtain ⟨hb, h⟩ := cond_some' h
    simp only [Bool.and_eq_true, Nat.beq_eq, decide_eq_true_eq] at hb
    clear hb
    exact fok122 fuel _ _ kk r ((F122_eq fuel _ _ _ kk).trans h)
  · cases h
end Go.Proofs.YtipdidpalcmlhaaGreat

set_option linter.unusedVariables false
set_option linter.unusedSimpArgs false
set_option maxRecDepth 100000
set_option maxHeartbeats 2000000
namespace Go.Proofs.YtipdidpalcmlhaaGreat
open Go Ev
def kp160 (i : Nat) : Option (List Nat) := Ev.look i []
noncomputable def Gg160 (f122 : YF122) (f : Nat) : Option Ev.Spec := Ev.look f [(122, spg122 f122)]
noncomputable def G160 (fuel : Nat) : Nat → Option Ev.Spec := Gg160 (F_bitmap_Valid fuel)
noncomputable def J160 (fuel : Nat) (i : Nat) : Option Ev.Blk := Ev.look i []
noncomputable def F_text_isShape (fuel : Nat) (x0 : Int) (x1 : Int) (x2 : (List Int)) (k0 : (Bool) → Option Ans) : Option Ans :=
  (F_bitmap_Valid fuel (x0) (x1) (x2)
    (fun y2 =>
      bif y2 then
       bif Decidable.decide (x0 ≥ (1 : Int)) then
        bif Decidable.decide (x0 ≤ (40 : Int)) then
         bif Decidable.decide (x1 ≥ (1 : Int)) then
          k0 (Decidable.decide (x1 ≤ (40 : Int)))
         else
          k0 Bool.false
        else
         k0 Bool.false
       else
        k0 Bool.false
      else
       k0 Bool.false))
abbrev YF160 : Type := (Int) → (Int) → ((List Int)) → ((Bool) → Option Ans) → Option Ans
theorem F160_eqg (fuel : Nat) (f122 : YF122) (x0 : Int) (x1 : Int) (x2 : (List Int)) (k : Ev.Cont) : evalFn tab (Gg160 f122) (J160 fuel) kp160 fuel Tryz.f160 [.agg [.int .i64 x0, .int .i64 x1, .sl (.int .u8) x2]] [] k = (fun  (k0 : (Bool) → Option Ans) =>
  (f122 (x0) (x1) (x2)
    (fun y2 =>
      bif y2 then
       bif Decidable.decide (x0 ≥ (1 : Int)) then
        bif Decidable.decide (x0 ≤ (40 : Int)) then
         bif Decidable.decide (x1 ≥ (1 : Int)) then
          k0 (Decidable.decide (x1 ≤ (40 : Int)))
         else
          k0 Bool.false
        else
         k0 Bool.false
       else
        k0 Bool.false
      else
       k0 Bool.false))) (fun r => match r with | r0 => k (.c (.bool r0), [])) := by
  kernel_rfl
theorem F160_eq (fuel : Nat) (x0 : Int) (x1 : Int) (x2 : (List Int)) (k : Ev.Cont) : evalFn tab (G160 fuel) (J160 fuel) kp160 fuel Tryz.f160 [.agg [.int .i64 x0, .int .i64 x1, .sl (.int .u8) x2]] [] k = F_text_isShape fuel x0 x1 x2 (fun r => match r with | r0 => k (.c (.bool r0), [])) :=
  F160_eqg fuel (F_bitmap_Valid fuel) x0 x1 x2 k
theorem hG160 (fuel : Nat) : GOK Tryz.prog (G160 fuel) :=
  gok_cons ⟨ok122 fuel, enters_of Tryz.func122 (by kernel_rfl) rfl⟩ <|
  gok_nil
theorem fok160 (fuel : Nat) : FnOK Tryz.prog 160 (evalFn tab (G160 fuel) (J160 fuel) kp160 fuel Tryz.f160) :=
  fn_ok tab_ok (hG160 fuel) mixed Tryz.func160 (c := (Tryz.f160.body).getD .skip) rfl (fun q hq => by
    rw [(by kernel_rfl : obl (J160 fuel) ((Tryz.f160.body).getD .skip) = [])] at hq
    cases hq)
noncomputable def mt160 : List Ev.SV → List Ev.Ob → Bool := fun args objs => match args, objs with
  | [.agg [.int .i64 _, .int .i64 _, .sl (.int .u8) _]], [] => true
  | _, _ => false
noncomputable def spg160 (F : YF160) : Ev.Spec := fun args objs k => match args, objs with
  | [.agg [.int .i64 x0, .int .i64 x1, .sl (.int .u8) x2]], [] => bif true then F x0 x1 x2 (fun r => match r with | r0 => k (.c (.bool r0), [])) else none
  | _, _ => none
noncomputable def spec160 (fuel : Nat) : Ev.Spec := spg160 (F_text_isShape fuel)
theorem ok160 (fuel : Nat) : FnOK Tryz.prog 160 (spec160 fuel) := by
  intro args objs kk r h
  unfold spec160 spg160 at h
  split at h
  · skip
    obtain ⟨hb, h⟩ := cond_some' h
    simp only [Bool.and_eq_true, Nat.beq_eq, decide_eq_true_eq] at hb
    clear hb
    exact fok160 fuel _ _ kk r ((F160_eq fuel _ _ _ kk).trans h)
  · cases h
end Go.Proofs.YtipdidpalcmlhaaGreat

set_option linter.unusedVariables false
set_option linter.unusedSimpArgs false
set_option maxRecDepth 100000
set_option maxHeartbeats 2000000
namespace Go.Proofs.YtipdidpalcmlhaaGreat
open Go Ev
def kp159 (i : Nat) : Option (List Nat) := Ev.look i []
noncomputable def Gg159 (f160 : YF160) (f : Nat) : Option Ev.Spec := Ev.look f [(160, spg160 f160)]
noncomputable def G159 (fuel : Nat) : Nat → Option Ev.Spec := Gg159 (F_text_isShape fuel)
noncomputable def J159 (fuel : Nat) (i : Nat) : Option Ev.Blk := Ev.look i []
noncomputable def F_text_begun_1 (fuel : Nat) (x0 : Int) (x1 : Int) (x2 : (List Int)) (k0 : (Bool) → Option Ans) : Option Ans :=
  (F_text_isShape fuel (x0) (x1) (x2)
    (fun y2 =>
      k0 !y2))
abbrev YF159 : Type := (Int) → (Int) → ((List Int)) → ((Bool) → Option Ans) → Option Ans
theorem F159_eqg (fuel : Nat) (f160 : YF160) (x0 : Int) (x1 : Int) (x2 : (List Int)) (k : Ev.Cont) : evalFn tab (Gg159 f160) (J159 fuel) kp159 fuel Tryz.f159 [.agg [.int .i64 x0, .int .i64 x1, .sl (.int .u8) x2]] [] k = (fun  (k0 : (Bool) → Option Ans) =>
  (f160 (x0) (x1) (x2)
    (fun y2 =>
      k0 !y2))) (fun r => match r with | r0 => k (.c (.bool r0), [])) := by
  kernel_rfl
theorem F159_eq (fuel : Nat) (x0 : Int) (x1 : Int) (x2 : (List Int)) (k : Ev.Cont) : evalFn tab (G159 fuel) (J159 fuel) kp159 fuel Tryz.f159 [.agg [.int .i64 x0, .int .i64 x1, .sl (.int .u8) x2]] [] k = F_text_begun_1 fuel x0 x1 x2 (fun r => match r with | r0 => k (.c (.bool r0), [])) :=
  F159_eqg fuel (F_text_isShape fuel) x0 x1 x2 k
theorem hG159 (fuel : Nat) : GOK Tryz.prog (G159 fuel) :=
  gok_cons ⟨ok160 fuel, enters_of Tryz.func160 (by kernel_rfl) rfl⟩ <|
  gok_nil
theorem fok159 (fuel : Nat) : FnOK Tryz.prog 159 (evalFn tab (G159 fuel) (J159 fuel) kp159 fuel Tryz.f159) :=
  fn_ok tab_ok (hG159 fuel) mixed Tryz.func159 (c := (Tryz.f159.body).getD .skip) rfl (fun q hq => by
    rw [(by kernel_rfl : obl (J159 fuel) ((Tryz.f159.body).getD .skip) = [])] at hq
    cases hq)
noncomputable def mt159 : List Ev.SV → List Ev.Ob → Bool := fun args objs => match args, objs with
  | [.agg [.int .i64 _, .int .i64 _, .sl (.int .u8) _]], [] => true
  | _, _ => false
noncomputable def spg159 (F : YF159) : Ev.Spec := fun args objs k => match args, objs with
  | [.agg [.int .i64 x0, .int .i64 x1, .sl (.int .u8) x2]], [] => bif true then F x0 x1 x2 (fun r => match r with | r0 => k (.c (.bool r0), [])) else none
  | _, _ => none
noncomputable def spec159 (fuel : Nat) : Ev.Spec := spg159 (F_text_begun_1 fuel)
theorem ok159 (fuel : Nat) : FnOK Tryz.prog 159 (spec159 fuel) := by
  intro args objs kk r h
  unfold spec159 spg159 at h
  split at h
  · skip
    obtain ⟨hb, h⟩ := cond_some' h
    simp only [Bool.and_eq_true, Nat.beq_eq, decide_eq_true_eq] at hb
    clear hb
    exact fok159 fuel _ _ kk r ((F159_eq fuel _ _ _ kk).trans h)
  · cases h
end Go.Proofs.YtipdidpalcmlhaaGreat

set_option linter.unusedVariables false
set_option linter.unusedSimpArgs false
set_option maxRecDepth 100000
set_option maxHeartbeats 2000000
namespace Go.Proofs.YtipdidpalcmlhaaGreat
open Go Ev
def kp226_261 (i : Nat) : Option (List Nat) := Ev.look i [(2, [0, 1, 7, 8]), (100000, []), (400000, [4])]
noncomputable def Gg226_261 (f159 : YF159) (f : Nat) : Option Ev.Spec := Ev.look f [(159, spg159 f159)]
noncomputable def G226_261 (fuel : Nat) : Nat → Option Ev.Spec := Gg226_261 (F_text_begun_1 fuel)
noncomputable def S_slices_IndexFunc_api_Bitmap_api_Bitmap_261_0 (fuel : Nat) (v : (List (Int × (Int × (List Int)))) × Int × Int) (c : ((List (Int × (Int × (List Int)))) × Int × Int) → Option Ans) (B : (Int → Option Ans) × (Unit → Option Ans)) : Option Ans := match v, B with
  | (x0, x1, x2), (ret, b) =>
   bif Decidable.decide (x2 < x1) then
      bif Decidable.decide ((0 : Int) ≤ x2 ∧ x2 < (↑x0.length : Int)) then
      (F_text_begun_1 fuel ((x0.getD x2.toNat ((0 : Int), (0 : Int), [])).fst) ((x0.getD x2.toNat ((0 : Int), (0 : Int), [])).snd.fst) ((x0.getD x2.toNat ((0 : Int), (0 : Int), [])).snd.snd)
         (fun y4 =>
           bif y4 then
            ret x2
           else
            c (x0, x1, Go.IntKind.i64.wrap (x2 + (1 : Int)))))
      else none
     else
      b ()
noncomputable def L_slices_IndexFunc_api_Bitmap_api_Bitmap_261_0 (fuel : Nat) (v : (List (Int × (Int × (List Int)))) × Int × Int) (ret : (Int → Option Ans)) (b : (Unit → Option Ans)) : Option Ans := iter (S_slices_IndexFunc_api_Bitmap_api_Bitmap_261_0 fuel) fuel v (ret, b)
noncomputable def J226_261_0 (fuel : Nat) (i : Nat) : Option Ev.Blk := Ev.look i []
noncomputable def T226_261_0 (v : (List (Int × (Int × (List Int)))) × Int × Int) : Ev.St := match v with | (x0, x1, x2) => ⟨[(0, .c (.sl (.pair (.int .i64) (.pair (.int .i64) (.sl (.int .u8)))) x0)), (1, .c (.clo 159 [])), (7, .c (.int .i64 x1)), (8, .c (.int .i64 x2))], [], 0, 0⟩
noncomputable def E226_261_0 (K : Ev.Ex → Ev.St → Option Ans) : (Int → Option Ans) × (Unit → Option Ans) := ((fun v => match v with | x0 => K .ret ⟨[(4, .c (.int .i64 x0))], [], 0, 0⟩), (fun v => match v with | () => K .normal ⟨[], [], 0, 0⟩))
theorem S226_261_0_okg (fuel : Nat) (f159 : YF159) (R : Ev.St → Option Ans) (K : Ev.Ex → Ev.St → Option Ans) (x0 : (List (Int × (Int × (List Int))))) (x1 : Int) (x2 : Int) : evalCode tab (Gg226_261 f159) (J226_261_0 fuel) kp226_261 fuel (bodyOf 0 Tryz.f226) (T226_261_0 (x0, x1, x2)) (lc kp226_261 2 0 R K) = (fun (c : ((List (Int × (Int × (List Int)))) × Int × Int) → Option Ans) (B : (Int → Option Ans) × (Unit → Option Ans)) => match B with
  | (ret, b) =>
   bif Decidable.decide (x2 < x1) then
      bif Decidable.decide ((0 : Int) ≤ x2 ∧ x2 < (↑x0.length : Int)) then
      (f159 ((x0.getD x2.toNat ((0 : Int), (0 : Int), [])).fst) ((x0.getD x2.toNat ((0 : Int), (0 : Int), [])).snd.fst) ((x0.getD x2.toNat ((0 : Int), (0 : Int), [])).snd.snd)
         (fun y4 =>
           bif y4 then
            ret x2
           else
            c (x0, x1, Go.IntKind.i64.wrap (x2 + (1 : Int)))))
      else none
     else
      b ()) (fun v => R (T226_261_0 v)) (E226_261_0 K) := by
  kernel_rfl
theorem S226_261_0_ok (fuel : Nat) (R : Ev.St → Option Ans) (K : Ev.Ex → Ev.St → Option Ans) (x0 : (List (Int × (Int × (List Int))))) (x1 : Int) (x2 : Int) : evalCode tab (G226_261 fuel) (J226_261_0 fuel) kp226_261 fuel (bodyOf 0 Tryz.f226) (T226_261_0 (x0, x1, x2)) (lc kp226_261 2 0 R K) = S_slices_IndexFunc_api_Bitmap_api_Bitmap_261_0 fuel (x0, x1, x2) (fun v => R (T226_261_0 v)) (E226_261_0 K) :=
  S226_261_0_okg fuel (F_text_begun_1 fuel) R K x0 x1 x2
noncomputable def B226_261_0 (fuel : Nat) : Ev.Blk := fun st K => match canonO (kp226_261 2) st with
  | some s => (match s with
    | ⟨[(q0, .c (.sl (.pair (.int .i64) (.pair (.int .i64) (.sl (.int .u8)))) x0)), (q1, .c (.clo q2 [])), (q3, .c (.int .i64 x1)), (q4, .c (.int .i64 x2))], [], q5, q6⟩ => bif Nat.beq q0 0 && Nat.beq q1 1 && Nat.beq q2 159 && Nat.beq q3 7 && Nat.beq q4 8 && Nat.beq q5 0 && Nat.beq q6 0 then iter (S_slices_IndexFunc_api_Bitmap_api_Bitmap_261_0 fuel) fuel (x0, x1, x2) (E226_261_0 K) else none
    | _ => none)
  | none => none
theorem B226_261_0_ok (fuel : Nat) (st : Ev.St) (K : Ev.Ex → Ev.St → Option Ans) (r : Ans) (h : B226_261_0 fuel st K = some r) : evalCode tab (G226_261 fuel) (J226_261_0 fuel) kp226_261 fuel (.block 0 (.loop (bodyOf 0 Tryz.f226))) st K = some r := by
  unfold B226_261_0 at h
  split at h
  · rename_i s hs
    split at h
    · skip
      obtain ⟨hb, h⟩ := cond_some' h
      simp only [Bool.and_eq_true, Nat.beq_eq, decide_eq_true_eq] at hb
      obtain ⟨⟨⟨⟨⟨⟨rfl, rfl⟩, rfl⟩, rfl⟩, rfl⟩, rfl⟩, rfl⟩ := hb
      exact blk_loop (S := T226_261_0) (ks := E226_261_0) (step := S_slices_IndexFunc_api_Bitmap_api_Bitmap_261_0 fuel) (v := (_, _, _)) (by kernel_rfl) (by kernel_rfl) (fun R K v => by obtain ⟨x0, x1, x2⟩ := v; exact S226_261_0_ok fuel R K x0 x1 x2) hs h
    · cases h
  · cases h
noncomputable def J226_261 (fuel : Nat) (i : Nat) : Option Ev.Blk := Ev.look i [(100000, B226_261_0 fuel)]
noncomputable def F_slices_IndexFunc_api_Bitmap_api_Bitmap_261 (fuel : Nat) (x0 : (List (Int × (Int × (List Int))))) (k0 : (Int) → Option Ans) : Option Ans :=
  (L_slices_IndexFunc_api_Bitmap_api_Bitmap_261_0 fuel (x0, (↑x0.length : Int), (0 : Int))
    (fun ret0_0 =>
      k0 ret0_0)
    (fun () =>
      k0 ((-1 : Int))))
abbrev YF226_261 : Type := ((List (Int × (Int × (List Int))))) → ((Int) → Option Ans) → Option Ans
theorem F226_261_eqg (fuel : Nat) (f159 : YF159) (x0 : (List (Int × (Int × (List Int))))) (k : Ev.Cont) : evalFn tab (Gg226_261 f159) (J226_261 fuel) kp226_261 fuel Tryz.f226 [.c (.sl (.pair (.int .i64) (.pair (.int .i64) (.sl (.int .u8)))) x0), .c (.clo 159 [])] [] k = (fun  (k0 : (Int) → Option Ans) =>
  (L_slices_IndexFunc_api_Bitmap_api_Bitmap_261_0 fuel (x0, (↑x0.length : Int), (0 : Int))
    (fun ret0_0 =>
      k0 ret0_0)
    (fun () =>
      k0 ((-1 : Int))))) (fun r => match r with | r0 => k (.c (.int .i64 r0), [])) := by
  kernel_rfl
theorem F226_261_eq (fuel : Nat) (x0 : (List (Int × (Int × (List Int))))) (k : Ev.Cont) : evalFn tab (G226_261 fuel) (J226_261 fuel) kp226_261 fuel Tryz.f226 [.c (.sl (.pair (.int .i64) (.pair (.int .i64) (.sl (.int .u8)))) x0), .c (.clo 159 [])] [] k = F_slices_IndexFunc_api_Bitmap_api_Bitmap_261 fuel x0 (fun r => match r with | r0 => k (.c (.int .i64 r0), [])) :=
  F226_261_eqg fuel (F_text_begun_1 fuel) x0 k
theorem hG226_261 (fuel : Nat) : GOK Tryz.prog (G226_261 fuel) :=
  gok_cons ⟨ok159 fuel, enters_of Tryz.func159 (by kernel_rfl) rfl⟩ <|
  gok_nil
theorem B226_261_0_blk (fuel : Nat) : BlkOK Tryz.prog Tryz.f226.ntmps (.block 0 (.loop (bodyOf 0 Tryz.f226))) (B226_261_0 fuel) :=
  blk_of (blk_of_code tab_ok (hG226_261 fuel) mixed (J := J226_261_0 fuel) (kp := kp226_261) (fuel := fuel) (by kernel_rfl) (fun q hq => by
    rw [(by kernel_rfl : obl (J226_261_0 fuel) (.block 0 (.loop (bodyOf 0 Tryz.f226))) = [])] at hq
    cases hq)) (B226_261_0_ok fuel)
theorem fok226_261 (fuel : Nat) : FnOK Tryz.prog 226 (evalFn tab (G226_261 fuel) (J226_261 fuel) kp226_261 fuel Tryz.f226) :=
  fn_ok tab_ok (hG226_261 fuel) mixed Tryz.func226 (c := (Tryz.f226.body).getD .skip) rfl (fun q hq => by
    rw [(by kernel_rfl : obl (J226_261 fuel) ((Tryz.f226.body).getD .skip) = [(.block 0 (.loop (bodyOf 0 Tryz.f226)), B226_261_0 fuel)])] at hq
    simp only [List.mem_cons, List.not_mem_nil, or_false] at hq
    subst hq
    · exact B226_261_0_blk fuel)
noncomputable def mt226_261 : List Ev.SV → List Ev.Ob → Bool := fun args objs => match args, objs with
  | [.c (.sl (.pair (.int .i64) (.pair (.int .i64) (.sl (.int .u8)))) _), .c (.clo q0 [])], [] => Nat.beq q0 159
  | _, _ => false
noncomputable def spg226_261 (F : YF226_261) : Ev.Spec := fun args objs k => match args, objs with
  | [.c (.sl (.pair (.int .i64) (.pair (.int .i64) (.sl (.int .u8)))) x0), .c (.clo q0 [])], [] => bif Nat.beq q0 159 then F x0 (fun r => match r with | r0 => k (.c (.int .i64 r0), [])) else none
  | _, _ => none
noncomputable def spec226_261 (fuel : Nat) : Ev.Spec := spg226_261 (F_slices_IndexFunc_api_Bitmap_api_Bitmap_261 fuel)
theorem ok226_261 (fuel : Nat) : FnOK Tryz.prog 226 (spec226_261 fuel) := by
  intro args objs kk r h
  unfold spec226_261 spg226_261 at h
  split at h
  · skip
    obtain ⟨hb, h⟩ := cond_some' h
    simp only [Bool.and_eq_true, Nat.beq_eq, decide_eq_true_eq] at hb
    obtain rfl := hb
    exact fok226_261 fuel _ _ kk r ((F226_261_eq fuel _ kk).trans h)
  · cases h
end Go.Proofs.YtipdidpalcmlhaaGreat

set_option linter.unusedVariables false
set_option linter.unusedSimpArgs false
set_option maxRecDepth 100000
set_option maxHeartbeats 2000000
namespace Go.Proofs.YtipdidpalcmlhaaGreat
open Go Ev
def kp158_261 (i : Nat) : Option (List Nat) := Ev.look i []
noncomputable def Gg158_261 (f226_261 : YF226_261) (f : Nat) : Option Ev.Spec := Ev.look f [(226, spg226_261 f226_261)]
noncomputable def G158_261 (fuel : Nat) : Nat → Option Ev.Spec := Gg158_261 (F_slices_IndexFunc_api_Bitmap_api_Bitmap_261 fuel)
noncomputable def J158_261 (fuel : Nat) (i : Nat) : Option Ev.Blk := Ev.look i []
noncomputable def F_slices_ContainsFunc_api_Bitmap_api_Bitmap_261 (fuel : Nat) (x0 : (List (Int × (Int × (List Int))))) (k0 : (Bool) → Option Ans) : Option Ans :=
  (F_slices_IndexFunc_api_Bitmap_api_Bitmap_261 fuel (x0)
    (fun y2 =>
      k0 (Decidable.decide (y2 ≥ (0 : Int)))))
abbrev YF158_261 : Type := ((List (Int × (Int × (List Int))))) → ((Bool) → Option Ans) → Option Ans
theorem F158_261_eqg (fuel : Nat) (f226_261 : YF226_261) (x0 : (List (Int × (Int × (List Int))))) (k : Ev.Cont) : evalFn tab (Gg158_261 f226_261) (J158_261 fuel) kp158_261 fuel Tryz.f158 [.c (.sl (.pair (.int .i64) (.pair (.int .i64) (.sl (.int .u8)))) x0), .c (.clo 159 [])] [] k = (fun  (k0 : (Bool) → Option Ans) =>
  (f226_261 (x0)
    (fun y2 =>
      k0 (Decidable.decide (y2 ≥ (0 : Int)))))) (fun r => match r with | r0 => k (.c (.bool r0), [])) := by
  kernel_rfl
theorem F158_261_eq (fuel : Nat) (x0 : (List (Int × (Int × (List Int))))) (k : Ev.Cont) : evalFn tab (G158_261 fuel) (J158_261 fuel) kp158_261 fuel Tryz.f158 [.c (.sl (.pair (.int .i64) (.pair (.int .i64) (.sl (.int .u8)))) x0), .c (.clo 159 [])] [] k = F_slices_ContainsFunc_api_Bitmap_api_Bitmap_261 fuel x0 (fun r => match r with | r0 => k (.c (.bool r0), [])) :=
  F158_261_eqg fuel (F_slices_IndexFunc_api_Bitmap_api_Bitmap_261 fuel) x0 k
theorem hG158_261 (fuel : Nat) : GOK Tryz.prog (G158_261 fuel) :=
  gok_cons ⟨ok226_261 fuel, enters_of Tryz.func226 (by kernel_rfl) rfl⟩ <|
  gok_nil
theorem fok158_261 (fuel : Nat) : FnOK Tryz.prog 158 (evalFn tab (G158_261 fuel) (J158_261 fuel) kp158_261 fuel Tryz.f158) :=
  fn_ok tab_ok (hG158_261 fuel) mixed Tryz.func158 (c := (Tryz.f158.body).getD .skip) rfl (fun q hq => by
    rw [(by kernel_rfl : obl (J158_261 fuel) ((Tryz.f158.body).getD .skip) = [])] at hq
    cases hq)
noncomputable def mt158_261 : List Ev.SV → List Ev.Ob → Bool := fun args objs => match args, objs with
  | [.c (.sl (.pair (.int .i64) (.pair (.int .i64) (.sl (.int .u8)))) _), .c (.clo q0 [])], [] => Nat.beq q0 159
  | _, _ => false
noncomputable def spg158_261 (F : YF158_261) : Ev.Spec := fun args objs k => match args, objs with
  | [.c (.sl (.pair (.int .i64) (.pair (.int .i64) (.sl (.int .u8)))) x0), .c (.clo q0 [])], [] => bif Nat.beq q0 159 then F x0 (fun r => match r with | r0 => k (.c (.bool r0), [])) else none
  | _, _ => none
noncomputable def spec158_261 (fuel : Nat) : Ev.Spec := spg158_261 (F_slices_ContainsFunc_api_Bitmap_api_Bitmap_261 fuel)
theorem ok158_261 (fuel : Nat) : FnOK Tryz.prog 158 (spec158_261 fuel) := by
  intro args objs kk r h
  unfold spec158_261 spg158_261 at h
  split at h
  · skip
    obtain ⟨hb, h⟩ := cond_some' h
    simp only [Bool.and_eq_true, Nat.beq_eq, decide_eq_true_eq] at hb
    obtain rfl := hb
    exact fok158_261 fuel _ _ kk r ((F158_261_eq fuel _ kk).trans h)
  · cases h
end Go.Proofs.YtipdidpalcmlhaaGreat

set_option linter.unusedVariables false
set_option linter.unusedSimpArgs false
set_option maxRecDepth 100000
set_option maxHeartbeats 2000000
namespace Go.Proofs.YtipdidpalcmlhaaGreat
open Go Ev
def kp162 (i : Nat) : Option (List Nat) := Ev.look i []
noncomputable def Gg162 (f160 : YF160) (f : Nat) : Option Ev.Spec := Ev.look f [(160, spg160 f160)]
noncomputable def G162 (fuel : Nat) : Nat → Option Ev.Spec := Gg162 (F_text_isShape fuel)
noncomputable def J162 (fuel : Nat) (i : Nat) : Option Ev.Blk := Ev.look i []
noncomputable def F_text_begun_2 (fuel : Nat) (x0 : Int) (x1 : Int) (x2 : Int) (x3 : Bool) (x4 : Int) (x5 : Int) (x6 : Int) (x7 : Int) (x8 : (List Int)) (k0 : (Bool) → Option Ans) : Option Ans :=
  bif x3 then
   (F_text_isShape fuel (x6) (x7) (x8)
     (fun y3 =>
       k0 !y3))
  else
   k0 Bool.false
abbrev YF162 : Type := (Int) → (Int) → (Int) → (Bool) → (Int) → (Int) → (Int) → (Int) → ((List Int)) → ((Bool) → Option Ans) → Option Ans
theorem F162_eqg (fuel : Nat) (f160 : YF160) (x0 : Int) (x1 : Int) (x2 : Int) (x3 : Bool) (x4 : Int) (x5 : Int) (x6 : Int) (x7 : Int) (x8 : (List Int)) (k : Ev.Cont) : evalFn tab (Gg162 f160) (J162 fuel) kp162 fuel Tryz.f162 [.agg [.int .i64 x0, .int .i64 x1, .int .i64 x2, .bool x3, .int .i64 x4, .int .i64 x5, .int .i64 x6, .int .i64 x7, .sl (.int .u8) x8]] [] k = (fun  (k0 : (Bool) → Option Ans) =>
  bif x3 then
   (f160 (x6) (x7) (x8)
     (fun y3 =>
       k0 !y3))
  else
   k0 Bool.false) (fun r => match r with | r0 => k (.c (.bool r0), [])) := by
  kernel_rfl
theorem F162_eq (fuel : Nat) (x0 : Int) (x1 : Int) (x2 : Int) (x3 : Bool) (x4 : Int) (x5 : Int) (x6 : Int) (x7 : Int) (x8 : (List Int)) (k : Ev.Cont) : evalFn tab (G162 fuel) (J162 fuel) kp162 fuel Tryz.f162 [.agg [.int .i64 x0, .int .i64 x1, .int .i64 x2, .bool x3, .int .i64 x4, .int .i64 x5, .int .i64 x6, .int .i64 x7, .sl (.int .u8) x8]] [] k = F_text_begun_2 fuel x0 x1 x2 x3 x4 x5 x6 x7 x8 (fun r => match r with | r0 => k (.c (.bool r0), [])) :=
  F162_eqg fuel (F_text_isShape fuel) x0 x1 x2 x3 x4 x5 x6 x7 x8 k
theorem hG162 (fuel : Nat) : GOK Tryz.prog (G162 fuel) :=
  gok_cons ⟨ok160 fuel, enters_of Tryz.func160 (by kernel_rfl) rfl⟩ <|
  gok_nil
theorem fok162 (fuel : Nat) : FnOK Tryz.prog 162 (evalFn tab (G162 fuel) (J162 fuel) kp162 fuel Tryz.f162) :=
  fn_ok tab_ok (hG162 fuel) mixed Tryz.func162 (c := (Tryz.f162.body).getD .skip) rfl (fun q hq => by
    rw [(by kernel_rfl : obl (J162 fuel) ((Tryz.f162.body).getD .skip) = [])] at hq
    cases hq)
noncomputable def mt162 : List Ev.SV → List Ev.Ob → Bool := fun args objs => match args, objs with
  | [.agg [.int .i64 _, .int .i64 _, .int .i64 _, .bool _, .int .i64 _, .int .i64 _, .int .i64 _, .int .i64 _, .sl (.int .u8) _]], [] => true
  | _, _ => false
noncomputable def spg162 (F : YF162) : Ev.Spec := fun args objs k => match args, objs with
  | [.agg [.int .i64 x0, .int .i64 x1, .int .i64 x2, .bool x3, .int .i64 x4, .int .i64 x5, .int .i64 x6, .int .i64 x7, .sl (.int .u8) x8]], [] => bif true then F x0 x1 x2 x3 x4 x5 x6 x7 x8 (fun r => match r with | r0 => k (.c (.bool r0), [])) else none
  | _, _ => none
noncomputable def spec162 (fuel : Nat) : Ev.Spec := spg162 (F_text_begun_2 fuel)
theorem ok162 (fuel : Nat) : FnOK Tryz.prog 162 (spec162 fuel) := by
  intro args objs kk r h
  unfold spec162 spg162 at h
  split at h
  · skip
    obtain ⟨hb, h⟩ := cond_some' h
    simp only [Bool.and_eq_true, Nat.beq_eq, decide_eq_true_eq] at hb
    clear hb
    exact fok162 fuel _ _ kk r ((F162_eq fuel _ _ _ _ _ _ _ _ _ kk).trans h)
  · cases h
end Go.Proofs.YtipdidpalcmlhaaGreat

set_option linter.unusedVariables false
set_option linter.unusedSimpArgs false
set_option maxRecDepth 100000
set_option maxHeartbeats 2000000
namespace Go.Proofs.YtipdidpalcmlhaaGreat
open Go Ev
def kp227_177 (i : Nat) : Option (List Nat) := Ev.look i [(2, [0, 1, 7, 8]), (100000, []), (400000, [4])]
noncomputable def Gg227_177 (f162 : YF162) (f : Nat) : Option Ev.Spec := Ev.look f [(162, spg162 f162)]
noncomputable def G227_177 (fuel : Nat) : Nat → Option Ev.Spec := Gg227_177 (F_text_begun_2 fuel)
noncomputable def S_slices_IndexFunc_api_Item_api_Item_177_0 (fuel : Nat) (v : (List (Int × (Int × (Int × (Bool × (Int × (Int × (Int × (Int × (List Int)))))))))) × Int × Int) (c : ((List (Int × (Int × (Int × (Bool × (Int × (Int × (Int × (Int × (List Int)))))))))) × Int × Int) → Option Ans) (B : (Int → Option Ans) × (Unit → Option Ans)) : Option Ans := match v, B with
  | (x0, x1, x2), (ret, b) =>
   bif Decidable.decide (x2 < x1) then
      bif Decidable.decide ((0 : Int) ≤ x2 ∧ x2 < (↑x0.length : Int)) then
      (F_text_begun_2 fuel ((x0.getD x2.toNat ((0 : Int), (0 : Int), (0 : Int), Bool.false, (0 : Int), (0 : Int), (0 : Int), (0 : Int), [])).fst) ((x0.getD x2.toNat ((0 : Int), (0 : Int), (0 : Int), Bool.false, (0 : Int), (0 : Int), (0 : Int), (0 : Int), [])).snd.fst) ((x0.getD x2.toNat ((0 : Int), (0 : Int), (0 : Int), Bool.false, (0 : Int), (0 : Int), (0 : Int), (0 : Int), [])).snd.snd.fst) ((x0.getD x2.toNat ((0 : Int), (0 : Int), (0 : Int), Bool.false, (0 : Int), (0 : Int), (0 : Int), (0 : Int), [])).snd.snd.snd.fst) ((x0.getD x2.toNat ((0 : Int), (0 : Int), (0 : Int), Bool.false, (0 : Int), (0 : Int), (0 : Int), (0 : Int), [])).snd.snd.snd.snd.fst) ((x0.getD x2.toNat ((0 : Int), (0 : Int), (0 : Int), Bool.false, (0 : Int), (0 : Int), (0 : Int), (0 : Int), [])).snd.snd.snd.snd.snd.fst) ((x0.getD x2.toNat ((0 : Int), (0 : Int), (0 : Int), Bool.false, (0 : Int), (0 : Int), (0 : Int), (0 : Int), [])).snd.snd.snd.snd.snd.snd.fst) ((x0.getD x2.toNat ((0 : Int), (0 : Int), (0 : Int), Bool.false, (0 : Int), (0 : Int), (0 : Int), (0 : Int), [])).snd.snd.snd.snd.snd.snd.snd.fst) ((x0.getD x2.toNat ((0 : Int), (0 : Int), (0 : Int), Bool.false, (0 : Int), (0 : Int), (0 : Int), (0 : Int), [])).snd.snd.snd.snd.snd.snd.snd.snd)
         (fun y4 =>
           bif y4 then
            ret x2
           else
            c (x0, x1, Go.IntKind.i64.wrap (x2 + (1 : Int)))))
      else none
     else
      b ()
noncomputable def L_slices_IndexFunc_api_Item_api_Item_177_0 (fuel : Nat) (v : (List (Int × (Int × (Int × (Bool × (Int × (Int × (Int × (Int × (List Int)))))))))) × Int × Int) (ret : (Int → Option Ans)) (b : (Unit → Option Ans)) : Option Ans := iter (S_slices_IndexFunc_api_Item_api_Item_177_0 fuel) fuel v (ret, b)
noncomputable def J227_177_0 (fuel : Nat) (i : Nat) : Option Ev.Blk := Ev.look i []
noncomputable def T227_177_0 (v : (List (Int × (Int × (Int × (Bool × (Int × (Int × (Int × (Int × (List Int)))))))))) × Int × Int) : Ev.St := match v with | (x0, x1, x2) => ⟨[(0, .c (.sl (.pair (.int .i64) (.pair (.int .i64) (.pair (.int .i64) (.pair .bool (.pair (.int .i64) (.pair (.int .i64) (.pair (.int .i64) (.pair (.int .i64) (.sl (.int .u8)))))))))) x0)), (1, .c (.clo 162 [])), (7, .c (.int .i64 x1)), (8, .c (.int .i64 x2))], [], 0, 0⟩
noncomputable def E227_177_0 (K : Ev.Ex → Ev.St → Option Ans) : (Int → Option Ans) × (Unit → Option Ans) := ((fun v => match v with | x0 => K .ret ⟨[(4, .c (.int .i64 x0))], [], 0, 0⟩), (fun v => match v with | () => K .normal ⟨[], [], 0, 0⟩))
theorem S227_177_0_okg (fuel : Nat) (f162 : YF162) (R : Ev.St → Option Ans) (K : Ev.Ex → Ev.St → Option Ans) (x0 : (List (Int × (Int × (Int × (Bool × (Int × (Int × (Int × (Int × (List Int))))))))))) (x1 : Int) (x2 : Int) : evalCode tab (Gg227_177 f162) (J227_177_0 fuel) kp227_177 fuel (bodyOf 0 Tryz.f227) (T227_177_0 (x0, x1, x2)) (lc kp227_177 2 0 R K) = (fun (c : ((List (Int × (Int × (Int × (Bool × (Int × (Int × (Int × (Int × (List Int)))))))))) × Int × Int) → Option Ans) (B : (Int → Option Ans) × (Unit → Option Ans)) => match B with
  | (ret, b) =>
   bif Decidable.decide (x2 < x1) then
      bif Decidable.decide ((0 : Int) ≤ x2 ∧ x2 < (↑x0.length : Int)) then
      (f162 ((x0.getD x2.toNat ((0 : Int), (0 : Int), (0 : Int), Bool.false, (0 : Int), (0 : Int), (0 : Int), (0 : Int), [])).fst) ((x0.getD x2.toNat ((0 : Int), (0 : Int), (0 : Int), Bool.false, (0 : Int), (0 : Int), (0 : Int), (0 : Int), [])).snd.fst) ((x0.getD x2.toNat ((0 : Int), (0 : Int), (0 : Int), Bool.false, (0 : Int), (0 : Int), (0 : Int), (0 : Int), [])).snd.snd.fst) ((x0.getD x2.toNat ((0 : Int), (0 : Int), (0 : Int), Bool.false, (0 : Int), (0 : Int), (0 : Int), (0 : Int), [])).snd.snd.snd.fst) ((x0.getD x2.toNat ((0 : Int), (0 : Int), (0 : Int), Bool.false, (0 : Int), (0 : Int), (0 : Int), (0 : Int), [])).snd.snd.snd.snd.fst) ((x0.getD x2.toNat ((0 : Int), (0 : Int), (0 : Int), Bool.false, (0 : Int), (0 : Int), (0 : Int), (0 : Int), [])).snd.snd.snd.snd.snd.fst) ((x0.getD x2.toNat ((0 : Int), (0 : Int), (0 : Int), Bool.false, (0 : Int), (0 : Int), (0 : Int), (0 : Int), [])).snd.snd.snd.snd.snd.snd.fst) ((x0.getD x2.toNat ((0 : Int), (0 : Int), (0 : Int), Bool.false, (0 : Int), (0 : Int), (0 : Int), (0 : Int), [])).snd.snd.snd.snd.snd.snd.snd.fst) ((x0.getD x2.toNat ((0 : Int), (0 : Int), (0 : Int), Bool.false, (0 : Int), (0 : Int), (0 : Int), (0 : Int), [])).snd.snd.snd.snd.snd.snd.snd.snd)
         (fun y4 =>
           bif y4 then
            ret x2
           else
            c (x0, x1, Go.IntKind.i64.wrap (x2 + (1 : Int)))))
      else none
     else
      b ()) (fun v => R (T227_177_0 v)) (E227_177_0 K) := by
  kernel_rfl
theorem S227_177_0_ok (fuel : Nat) (R : Ev.St → Option Ans) (K : Ev.Ex → Ev.St → Option Ans) (x0 : (List (Int × (Int × (Int × (Bool × (Int × (Int × (Int × (Int × (List Int))))))))))) (x1 : Int) (x2 : Int) : evalCode tab (G227_177 fuel) (J227_177_0 fuel) kp227_177 fuel (bodyOf 0 Tryz.f227) (T227_177_0 (x0, x1, x2)) (lc kp227_177 2 0 R K) = S_slices_IndexFunc_api_Item_api_Item_177_0 fuel (x0, x1, x2) (fun v => R (T227_177_0 v)) (E227_177_0 K) :=
  S227_177_0_okg fuel (F_text_begun_2 fuel) R K x0 x1 x2
noncomputable def B227_177_0 (fuel : Nat) : Ev.Blk := fun st K => match canonO (kp227_177 2) st with
  | some s => (match s with
    | ⟨[(q0, .c (.sl (.pair (.int .i64) (.pair (.int .i64) (.pair (.int .i64) (.pair .bool (.pair (.int .i64) (.pair (.int .i64) (.pair (.int .i64) (.pair (.int .i64) (.sl (.int .u8)))))))))) x0)), (q1, .c (.clo q2 [])), (q3, .c (.int .i64 x1)), (q4, .c (.int .i64 x2))], [], q5, q6⟩ => bif Nat.beq q0 0 && Nat.beq q1 1 && Nat.beq q2 162 && Nat.beq q3 7 && Nat.beq q4 8 && Nat.beq q5 0 && Nat.beq q6 0 then iter (S_slices_IndexFunc_api_Item_api_Item_177_0 fuel) fuel (x0, x1, x2) (E227_177_0 K) else none
    | _ => none)
  | none => none
theorem B227_177_0_ok (fuel : Nat) (st : Ev.St) (K : Ev.Ex → Ev.St → Option Ans) (r : Ans) (h : B227_177_0 fuel st K = some r) : evalCode tab (G227_177 fuel) (J227_177_0 fuel) kp227_177 fuel (.block 0 (.loop (bodyOf 0 Tryz.f227))) st K = some r := by
  unfold B227_177_0 at h
  split at h
  · rename_i s hs
    split at h
    · skip
      obtain ⟨hb, h⟩ := cond_some' h
      simp only [Bool.and_eq_true, Nat.beq_eq, decide_eq_true_eq] at hb
      obtain ⟨⟨⟨⟨⟨⟨rfl, rfl⟩, rfl⟩, rfl⟩, rfl⟩, rfl⟩, rfl⟩ := hb
      exact blk_loop (S := T227_177_0) (ks := E227_177_0) (step := S_slices_IndexFunc_api_Item_api_Item_177_0 fuel) (v := (_, _, _)) (by kernel_rfl) (by kernel_rfl) (fun R K v => by obtain ⟨x0, x1, x2⟩ := v; exact S227_177_0_ok fuel R K x0 x1 x2) hs h
    · cases h
  · cases h
noncomputable def J227_177 (fuel : Nat) (i : Nat) : Option Ev.Blk := Ev.look i [(100000, B227_177_0 fuel)]
noncomputable def F_slices_IndexFunc_api_Item_api_Item_177 (fuel : Nat) (x0 : (List (Int × (Int × (Int × (Bool × (Int × (Int × (Int × (Int × (List Int))))))))))) (k0 : (Int) → Option Ans) : Option Ans :=
  (L_slices_IndexFunc_api_Item_api_Item_177_0 fuel (x0, (↑x0.length : Int), (0 : Int))
    (fun ret0_0 =>
      k0 ret0_0)
    (fun () =>
      k0 ((-1 : Int))))
abbrev YF227_177 : Type := ((List (Int × (Int × (Int × (Bool × (Int × (Int × (Int × (Int × (List Int))))))))))) → ((Int) → Option Ans) → Option Ans
theorem F227_177_eqg (fuel : Nat) (f162 : YF162) (x0 : (List (Int × (Int × (Int × (Bool × (Int × (Int × (Int × (Int × (List Int))))))))))) (k : Ev.Cont) : evalFn tab (Gg227_177 f162) (J227_177 fuel) kp227_177 fuel Tryz.f227 [.c (.sl (.pair (.int .i64) (.pair (.int .i64) (.pair (.int .i64) (.pair .bool (.pair (.int .i64) (.pair (.int .i64) (.pair (.int .i64) (.pair (.int .i64) (.sl (.int .u8)))))))))) x0), .c (.clo 162 [])] [] k = (fun  (k0 : (Int) → Option Ans) =>
  (L_slices_IndexFunc_api_Item_api_Item_177_0 fuel (x0, (↑x0.length : Int), (0 : Int))
    (fun ret0_0 =>
      k0 ret0_0)
    (fun () =>
      k0 ((-1 : Int))))) (fun r => match r with | r0 => k (.c (.int .i64 r0), [])) := by
  kernel_rfl
theorem F227_177_eq (fuel : Nat) (x0 : (List (Int × (Int × (Int × (Bool × (Int × (Int × (Int × (Int × (List Int))))))))))) (k : Ev.Cont) : evalFn tab (G227_177 fuel) (J227_177 fuel) kp227_177 fuel Tryz.f227 [.c (.sl (.pair (.int .i64) (.pair (.int .i64) (.pair (.int .i64) (.pair .bool (.pair (.int .i64) (.pair (.int .i64) (.pair (.int .i64) (.pair (.int .i64) (.sl (.int .u8)))))))))) x0), .c (.clo 162 [])] [] k = F_slices_IndexFunc_api_Item_api_Item_177 fuel x0 (fun r => match r with | r0 => k (.c (.int .i64 r0), [])) :=
  F227_177_eqg fuel (F_text_begun_2 fuel) x0 k
theorem hG227_177 (fuel : Nat) : GOK Tryz.prog (G227_177 fuel) :=
  gok_cons ⟨ok162 fuel, enters_of Tryz.func162 (by kernel_rfl) rfl⟩ <|
  gok_nil
theorem B227_177_0_blk (fuel : Nat) : BlkOK Tryz.prog Tryz.f227.ntmps (.block 0 (.loop (bodyOf 0 Tryz.f227))) (B227_177_0 fuel) :=
  blk_of (blk_of_code tab_ok (hG227_177 fuel) mixed (J := J227_177_0 fuel) (kp := kp227_177) (fuel := fuel) (by kernel_rfl) (fun q hq => by
    rw [(by kernel_rfl : obl (J227_177_0 fuel) (.block 0 (.loop (bodyOf 0 Tryz.f227))) = [])] at hq
    cases hq)) (B227_177_0_ok fuel)
theorem fok227_177 (fuel : Nat) : FnOK Tryz.prog 227 (evalFn tab (G227_177 fuel) (J227_177 fuel) kp227_177 fuel Tryz.f227) :=
  fn_ok tab_ok (hG227_177 fuel) mixed Tryz.func227 (c := (Tryz.f227.body).getD .skip) rfl (fun q hq => by
    rw [(by kernel_rfl : obl (J227_177 fuel) ((Tryz.f227.body).getD .skip) = [(.block 0 (.loop (bodyOf 0 Tryz.f227)), B227_177_0 fuel)])] at hq
    simp only [List.mem_cons, List.not_mem_nil, or_false] at hq
    subst hq
    · exact B227_177_0_blk fuel)
noncomputable def mt227_177 : List Ev.SV → List Ev.Ob → Bool := fun args objs => match args, objs with
  | [.c (.sl (.pair (.int .i64) (.pair (.int .i64) (.pair (.int .i64) (.pair .bool (.pair (.int .i64) (.pair (.int .i64) (.pair (.int .i64) (.pair (.int .i64) (.sl (.int .u8)))))))))) _), .c (.clo q0 [])], [] => Nat.beq q0 162
  | _, _ => false
noncomputable def spg227_177 (F : YF227_177) : Ev.Spec := fun args objs k => match args, objs with
  | [.c (.sl (.pair (.int .i64) (.pair (.int .i64) (.pair (.int .i64) (.pair .bool (.pair (.int .i64) (.pair (.int .i64) (.pair (.int .i64) (.pair (.int .i64) (.sl (.int .u8)))))))))) x0), .c (.clo q0 [])], [] => bif Nat.beq q0 162 then F x0 (fun r => match r with | r0 => k (.c (.int .i64 r0), [])) else none
  | _, _ => none
noncomputable def spec227_177 (fuel : Nat) : Ev.Spec := spg227_177 (F_slices_IndexFunc_api_Item_api_Item_177 fuel)
theorem ok227_177 (fuel : Nat) : FnOK Tryz.prog 227 (spec227_177 fuel) := by
  intro args objs kk r h
  unfold spec227_177 spg227_177 at h
  split at h
  · skip
    obtain ⟨hb, h⟩ := cond_some' h
    simp only [Bool.and_eq_true, Nat.beq_eq, decide_eq_true_eq] at hb
    obtain rfl := hb
    exact fok227_177 fuel _ _ kk r ((F227_177_eq fuel _ kk).trans h)
  · cases h
end Go.Proofs.YtipdidpalcmlhaaGreat

set_option linter.unusedVariables false
set_option linter.unusedSimpArgs false
set_option maxRecDepth 100000
set_option maxHeartbeats 2000000
namespace Go.Proofs.YtipdidpalcmlhaaGreat
open Go Ev
def kp161_177 (i : Nat) : Option (List Nat) := Ev.look i []
noncomputable def Gg161_177 (f227_177 : YF227_177) (f : Nat) : Option Ev.Spec := Ev.look f [(227, spg227_177 f227_177)]
noncomputable def G161_177 (fuel : Nat) : Nat → Option Ev.Spec := Gg161_177 (F_slices_IndexFunc_api_Item_api_Item_177 fuel)
noncomputable def J161_177 (fuel : Nat) (i : Nat) : Option Ev.Blk := Ev.look i []
noncomputable def F_slices_ContainsFunc_api_Item_api_Item_177 (fuel : Nat) (x0 : (List (Int × (Int × (Int × (Bool × (Int × (Int × (Int × (Int × (List Int))))))))))) (k0 : (Bool) → Option Ans) : Option Ans :=
  (F_slices_IndexFunc_api_Item_api_Item_177 fuel (x0)
    (fun y2 =>
      k0 (Decidable.decide (y2 ≥ (0 : Int)))))
abbrev YF161_177 : Type := ((List (Int × (Int × (Int × (Bool × (Int × (Int × (Int × (Int × (List Int))))))))))) → ((Bool) → Option Ans) → Option Ans
theorem F161_177_eqg (fuel : Nat) (f227_177 : YF227_177) (x0 : (List (Int × (Int × (Int × (Bool × (Int × (Int × (Int × (Int × (List Int))))))))))) (k : Ev.Cont) : evalFn tab (Gg161_177 f227_177) (J161_177 fuel) kp161_177 fuel Tryz.f161 [.c (.sl (.pair (.int .i64) (.pair (.int .i64) (.pair (.int .i64) (.pair .bool (.pair (.int .i64) (.pair (.int .i64) (.pair (.int .i64) (.pair (.int .i64) (.sl (.int .u8)))))))))) x0), .c (.clo 162 [])] [] k = (fun  (k0 : (Bool) → Option Ans) =>
  (f227_177 (x0)
    (fun y2 =>
      k0 (Decidable.decide (y2 ≥ (0 : Int)))))) (fun r => match r with | r0 => k (.c (.bool r0), [])) := by
  kernel_rfl
theorem F161_177_eq (fuel : Nat) (x0 : (List (Int × (Int × (Int × (Bool × (Int × (Int × (Int × (Int × (List Int))))))))))) (k : Ev.Cont) : evalFn tab (G161_177 fuel) (J161_177 fuel) kp161_177 fuel Tryz.f161 [.c (.sl (.pair (.int .i64) (.pair (.int .i64) (.pair (.int .i64) (.pair .bool (.pair (.int .i64) (.pair (.int .i64) (.pair (.int .i64) (.pair (.int .i64) (.sl (.int .u8)))))))))) x0), .c (.clo 162 [])] [] k = F_slices_ContainsFunc_api_Item_api_Item_177 fuel x0 (fun r => match r with | r0 => k (.c (.bool r0), [])) :=
  F161_177_eqg fuel (F_slices_IndexFunc_api_Item_api_Item_177 fuel) x0 k
theorem hG161_177 (fuel : Nat) : GOK Tryz.prog (G161_177 fuel) :=
  gok_cons ⟨ok227_177 fuel, enters_of Tryz.func227 (by kernel_rfl) rfl⟩ <|
  gok_nil
theorem fok161_177 (fuel : Nat) : FnOK Tryz.prog 161 (evalFn tab (G161_177 fuel) (J161_177 fuel) kp161_177 fuel Tryz.f161) :=
  fn_ok tab_ok (hG161_177 fuel) mixed Tryz.func161 (c := (Tryz.f161.body).getD .skip) rfl (fun q hq => by
    rw [(by kernel_rfl : obl (J161_177 fuel) ((Tryz.f161.body).getD .skip) = [])] at hq
    cases hq)
noncomputable def mt161_177 : List Ev.SV → List Ev.Ob → Bool := fun args objs => match args, objs with
  | [.c (.sl (.pair (.int .i64) (.pair (.int .i64) (.pair (.int .i64) (.pair .bool (.pair (.int .i64) (.pair (.int .i64) (.pair (.int .i64) (.pair (.int .i64) (.sl (.int .u8)))))))))) _), .c (.clo q0 [])], [] => Nat.beq q0 162
  | _, _ => false
noncomputable def spg161_177 (F : YF161_177) : Ev.Spec := fun args objs k => match args, objs with
  | [.c (.sl (.pair (.int .i64) (.pair (.int .i64) (.pair (.int .i64) (.pair .bool (.pair (.int .i64) (.pair (.int .i64) (.pair (.int .i64) (.pair (.int .i64) (.sl (.int .u8)))))))))) x0), .c (.clo q0 [])], [] => bif Nat.beq q0 162 then F x0 (fun r => match r with | r0 => k (.c (.bool r0), [])) else none
  | _, _ => none
noncomputable def spec161_177 (fuel : Nat) : Ev.Spec := spg161_177 (F_slices_ContainsFunc_api_Item_api_Item_177 fuel)
theorem ok161_177 (fuel : Nat) : FnOK Tryz.prog 161 (spec161_177 fuel) := by
  intro args objs kk r h
  unfold spec161_177 spg161_177 at h
  split at h
  · skip
    obtain ⟨hb, h⟩ := cond_some' h
    simp only [Bool.and_eq_true, Nat.beq_eq, decide_eq_true_eq] at hb
    obtain rfl := hb
    exact fok161_177 fuel _ _ kk r ((F161_177_eq fuel _ kk).trans h)
  · cases h
end Go.Proofs.YtipdidpalcmlhaaGreat

set_option linter.unusedVariables false
set_option linter.unusedSimpArgs false
set_option maxRecDepth 100000
set_option maxHeartbeats 2000000
namespace Go.Proofs.YtipdidpalcmlhaaGreat
open Go Ev
def kp194 (i : Nat) : Option (List Nat) := Ev.look i [(2, [0, 1, 7, 8]), (100000, []), (400000, [4])]
noncomputable def Gg194 (f : Nat) : Option Ev.Spec := Ev.look f []
noncomputable def G194 (fuel : Nat) : Nat → Option Ev.Spec := Gg194
noncomputable def S_slices_Index_int_int_0 (fuel : Nat) (v : (List Int) × Int × Int × Int) (c : ((List Int) × Int × Int × Int) → Option Ans) (B : (Int → Option Ans) × (Unit → Option Ans)) : Option Ans := match v, B with
  | (x0, x1, x2, x3), (ret, b) =>
   bif Decidable.decide (x3 < x2) then
      bif Decidable.decide ((0 : Int) ≤ x3 ∧ x3 < (↑x0.length : Int)) then
      bif x1 == x0.getD x3.toNat (0 : Int) then
        ret x3
       else
        c (x0, x1, x2, Go.IntKind.i64.wrap (x3 + (1 : Int)))
      else none
     else
      b ()
noncomputable def L_slices_Index_int_int_0 (fuel : Nat) (v : (List Int) × Int × Int × Int) (ret : (Int → Option Ans)) (b : (Unit → Option Ans)) : Option Ans := iter (S_slices_Index_int_int_0 fuel) fuel v (ret, b)
noncomputable def J194_0 (fuel : Nat) (i : Nat) : Option Ev.Blk := Ev.look i []
noncomputable def T194_0 (v : (List Int) × Int × Int × Int) : Ev.St := match v with | (x0, x1, x2, x3) => ⟨[(0, .c (.sl (.int .i64) x0)), (1, .c (.int .i64 x1)), (7, .c (.int .i64 x2)), (8, .c (.int .i64 x3))], [], 0, 0⟩
noncomputable def E194_0 (K : Ev.Ex → Ev.St → Option Ans) : (Int → Option Ans) × (Unit → Option Ans) := ((fun v => match v with | x0 => K .ret ⟨[(4, .c (.int .i64 x0))], [], 0, 0⟩), (fun v => match v with | () => K .normal ⟨[], [], 0, 0⟩))
theorem S194_0_ok (fuel : Nat) (R : Ev.St → Option Ans) (K : Ev.Ex → Ev.St → Option Ans) (x0 : (List Int)) (x1 : Int) (x2 : Int) (x3 : Int) : evalCode tab (G194 fuel) (J194_0 fuel) kp194 fuel (bodyOf 0 Tryz.f194) (T194_0 (x0, x1, x2, x3)) (lc kp194 2 0 R K) = S_slices_Index_int_int_0 fuel (x0, x1, x2, x3) (fun v => R (T194_0 v)) (E194_0 K) := by
  kernel_rfl
noncomputable def B194_0 (fuel : Nat) : Ev.Blk := fun st K => match canonO (kp194 2) st with
  | some s => (match s with
    | ⟨[(q0, .c (.sl (.int .i64) x0)), (q1, .c (.int .i64 x1)), (q2, .c (.int .i64 x2)), (q3, .c (.int .i64 x3))], [], q4, q5⟩ => bif Nat.beq q0 0 && Nat.beq q1 1 && Nat.beq q2 7 && Nat.beq q3 8 && Nat.beq q4 0 && Nat.beq q5 0 then iter (S_slices_Index_int_int_0 fuel) fuel (x0, x1, x2, x3) (E194_0 K) else none
    | _ => none)
  | none => none
theorem B194_0_ok (fuel : Nat) (st : Ev.St) (K : Ev.Ex → Ev.St → Option Ans) (r : Ans) (h : B194_0 fuel st K = some r) : evalCode tab (G194 fuel) (J194_0 fuel) kp194 fuel (.block 0 (.loop (bodyOf 0 Tryz.f194))) st K = some r := by
  unfold B194_0 at h
  split at h
  · rename_i s hs
    split at h
    · skip
      obtain ⟨hb, h⟩ := cond_some' h
      simp only [Bool.and_eq_true, Nat.beq_eq, decide_eq_true_eq] at hb
      obtain ⟨⟨⟨⟨⟨rfl, rfl⟩, rfl⟩, rfl⟩, rfl⟩, rfl⟩ := hb
      exact blk_loop (S := T194_0) (ks := E194_0) (step := S_slices_Index_int_int_0 fuel) (v := (_, _, _, _)) (by kernel_rfl) (by kernel_rfl) (fun R K v => by obtain ⟨x0, x1, x2, x3⟩ := v; exact S194_0_ok fuel R K x0 x1 x2 x3) hs h
    · cases h
  · cases h
noncomputable def J194 (fuel : Nat) (i : Nat) : Option Ev.Blk := Ev.look i [(100000, B194_0 fuel)]
noncomputable def F_slices_Index_int_int (fuel : Nat) (x0 : (List Int)) (x1 : Int) (k0 : (Int) → Option Ans) : Option Ans :=
  (L_slices_Index_int_int_0 fuel (x0, x1, (↑x0.length : Int), (0 : Int))
    (fun ret0_0 =>
      k0 ret0_0)
    (fun () =>
      k0 ((-1 : Int))))
abbrev YF194 : Type := ((List Int)) → (Int) → ((Int) → Option Ans) → Option Ans
theorem F194_eq (fuel : Nat) (x0 : (List Int)) (x1 : Int) (k : Ev.Cont) : evalFn tab (G194 fuel) (J194 fuel) kp194 fuel Tryz.f194 [.c (.sl (.int .i64) x0), .c (.int .i64 x1)] [] k = F_slices_Index_int_int fuel x0 x1 (fun r => match r with | r0 => k (.c (.int .i64 r0), [])) := by
  kernel_rfl
theorem hG194 (fuel : Nat) : GOK Tryz.prog (G194 fuel) :=
  gok_nil
theorem B194_0_blk (fuel : Nat) : BlkOK Tryz.prog Tryz.f194.ntmps (.block 0 (.loop (bodyOf 0 Tryz.f194))) (B194_0 fuel) :=
  blk_of (blk_of_code tab_ok (hG194 fuel) mixed (J := J194_0 fuel) (kp := kp194) (fuel := fuel) (by kernel_rfl) (fun q hq => by
    rw [(by kernel_rfl : obl (J194_0 fuel) (.block 0 (.loop (bodyOf 0 Tryz.f194))) = [])] at hq
    cases hq)) (B194_0_ok fuel)
theorem fok194 (fuel : Nat) : FnOK Tryz.prog 194 (evalFn tab (G194 fuel) (J194 fuel) kp194 fuel Tryz.f194) :=
  fn_ok tab_ok (hG194 fuel) mixed Tryz.func194 (c := (Tryz.f194.body).getD .skip) rfl (fun q hq => by
    rw [(by kernel_rfl : obl (J194 fuel) ((Tryz.f194.body).getD .skip) = [(.block 0 (.loop (bodyOf 0 Tryz.f194)), B194_0 fuel)])] at hq
    simp only [List.mem_cons, List.not_mem_nil, or_false] at hq
    subst hq
    · exact B194_0_blk fuel)
noncomputable def mt194 : List Ev.SV → List Ev.Ob → Bool := fun args objs => match args, objs with
  | [.c (.sl (.int .i64) _), .c (.int .i64 _)], [] => true
  | _, _ => false
noncomputable def spg194 (F : YF194) : Ev.Spec := fun args objs k => match args, objs with
  | [.c (.sl (.int .i64) x0), .c (.int .i64 x1)], [] => bif true then F x0 x1 (fun r => match r with | r0 => k (.c (.int .i64 r0), [])) else none
  | _, _ => none
noncomputable def spec194 (fuel : Nat) : Ev.Spec := spg194 (F_slices_Index_int_int fuel)
theorem ok194 (fuel : Nat) : FnOK Tryz.prog 194 (spec194 fuel) := by
  intro args objs kk r h
  unfold spec194 spg194 at h
  split at h
  · skip
    obtain ⟨hb, h⟩ := cond_some' h
    simp only [Bool.and_eq_true, Nat.beq_eq, decide_eq_true_eq] at hb
    clear hb
    exact fok194 fuel _ _ kk r ((F194_eq fuel _ _ kk).trans h)
  · cases h
end Go.Proofs.YtipdidpalcmlhaaGreat

set_option linter.unusedVariables false
set_option linter.unusedSimpArgs false
set_option maxRecDepth 100000
set_option maxHeartbeats 2000000
namespace Go.Proofs.YtipdidpalcmlhaaGreat
open Go Ev
def kp102 (i : Nat) : Option (List Nat) := Ev.look i []
noncomputable def Gg102 (f194 : YF194) (f : Nat) : Option Ev.Spec := Ev.look f [(194, spg194 f194)]
noncomputable def G102 (fuel : Nat) : Nat → Option Ev.Spec := Gg102 (F_slices_Index_int_int fuel)
noncomputable def J102 (fuel : Nat) (i : Nat) : Option Ev.Blk := Ev.look i []
noncomputable def F_slices_Contains_int_int (fuel : Nat) (x0 : (List Int)) (x1 : Int) (k0 : (Bool) → Option Ans) : Option Ans :=
  (F_slices_Index_int_int fuel (x0) (x1)
    (fun y2 =>
      k0 (Decidable.decide (y2 ≥ (0 : Int)))))
abbrev YF102 : Type := ((List Int)) → (Int) → ((Bool) → Option Ans) → Option Ans
theorem F102_eqg (fuel : Nat) (f194 : YF194) (x0 : (List Int)) (x1 : Int) (k : Ev.Cont) : evalFn tab (Gg102 f194) (J102 fuel) kp102 fuel Tryz.f102 [.c (.sl (.int .i64) x0), .c (.int .i64 x1)] [] k = (fun  (k0 : (Bool) → Option Ans) =>
  (f194 (x0) (x1)
    (fun y2 =>
      k0 (Decidable.decide (y2 ≥ (0 : Int)))))) (fun r => match r with | r0 => k (.c (.bool r0), [])) := by
  kernel_rfl
theorem F102_eq (fuel : Nat) (x0 : (List Int)) (x1 : Int) (k : Ev.Cont) : evalFn tab (G102 fuel) (J102 fuel) kp102 fuel Tryz.f102 [.c (.sl (.int .i64) x0), .c (.int .i64 x1)] [] k = F_slices_Contains_int_int fuel x0 x1 (fun r => match r with | r0 => k (.c (.bool r0), [])) :=
  F102_eqg fuel (F_slices_Index_int_int fuel) x0 x1 k
theorem hG102 (fuel : Nat) : GOK Tryz.prog (G102 fuel) :=
  gok_cons ⟨ok194 fuel, enters_of Tryz.func194 (by kernel_rfl) rfl⟩ <|
  gok_nil
theorem fok102 (fuel : Nat) : FnOK Tryz.prog 102 (evalFn tab (G102 fuel) (J102 fuel) kp102 fuel Tryz.f102) :=
  fn_ok tab_ok (hG102 fuel) mixed Tryz.func102 (c := (Tryz.f102.body).getD .skip) rfl (fun q hq => by
    rw [(by kernel_rfl : obl (J102 fuel) ((Tryz.f102.body).getD .skip) = [])] at hq
    cases hq)
noncomputable def mt102 : List Ev.SV → List Ev.Ob → Bool := fun args objs => match args, objs with
  | [.c (.sl (.int .i64) _), .c (.int .i64 _)], [] => true
  | _, _ => false
noncomputable def spg102 (F : YF102) : Ev.Spec := fun args objs k => match args, objs with
  | [.c (.sl (.int .i64) x0), .c (.int .i64 x1)], [] => bif true then F x0 x1 (fun r => match r with | r0 => k (.c (.bool r0), [])) else none
  | _, _ => none
noncomputable def spec102 (fuel : Nat) : Ev.Spec := spg102 (F_slices_Contains_int_int fuel)
theorem ok102 (fuel : Nat) : FnOK Tryz.prog 102 (spec102 fuel) := by
  intro args objs kk r h
  unfold spec102 spg102 at h
  split at h
  · skip
    obtain ⟨hb, h⟩ := cond_some' h
    simp only [Bool.and_eq_true, Nat.beq_eq, decide_eq_true_eq] at hb
    clear hb
    exact fok102 fuel _ _ kk r ((F102_eq fuel _ _ kk).trans h)
  · cases h
end Go.Proofs.YtipdidpalcmlhaaGreat

set_option linter.unusedVariables false
set_option linter.unusedSimpArgs false
set_option maxRecDepth 100000
set_option maxHeartbeats 2000000
namespace Go.Proofs.YtipdidpalcmlhaaGreat
open Go Ev
def kp31 (i : Nat) : Option (List Nat) := Ev.look i []
noncomputable def Gg31 (f102 : YF102) (f : Nat) : Option Ev.Spec := Ev.look f [(102, spg102 f102)]
noncomputable def G31 (fuel : Nat) : Nat → Option Ev.Spec := Gg31 (F_slices_Contains_int_int fuel)
noncomputable def J31 (fuel : Nat) (i : Nat) : Option Ev.Blk := Ev.look i []
noncomputable def F_text_Valid (fuel : Nat) (x0 : Int) (x1 : Int) (x2 : Bool) (x3 : Int) (x4 : Int) (x5 : Int) (x6 : Bool) (x7 : Int) (k0 : (Bool) → Option Ans) : Option Ans :=
  (F_slices_Contains_int_int fuel ([(1 : Int), (2 : Int), (4 : Int), (8 : Int)]) (x0)
    (fun y2 =>
      bif y2 then
       bif Decidable.decide (x1 ≥ (0 : Int)) then
        bif Decidable.decide (x1 ≤ (3 : Int)) then
         bif Decidable.decide (x3 ≥ (-16 : Int)) then
          bif Decidable.decide (x3 ≤ (16 : Int)) then
           bif Decidable.decide (x4 ≥ (0 : Int)) then
            bif Decidable.decide (x4 ≤ (4 : Int)) then
             bif x5 == (0 : Int) then
              bif x7 == (0 : Int) then
               k0 Bool.true
              else
               k0 (x7 == (1 : Int))
             else
              bif x5 == (1 : Int) then
               bif x7 == (0 : Int) then
                k0 Bool.true
               else
                k0 (x7 == (1 : Int))
              else
               k0 Bool.false
            else
             k0 Bool.false
           else
            k0 Bool.false
          else
           k0 Bool.false
         else
          k0 Bool.false
        else
         k0 Bool.false
       else
        k0 Bool.false
      else
       k0 Bool.false))
abbrev YF31 : Type := (Int) → (Int) → (Bool) → (Int) → (Int) → (Int) → (Bool) → (Int) → ((Bool) → Option Ans) → Option Ans
theorem F31_eqg (fuel : Nat) (f102 : YF102) (x0 : Int) (x1 : Int) (x2 : Bool) (x3 : Int) (x4 : Int) (x5 : Int) (x6 : Bool) (x7 : Int) (k : Ev.Cont) : evalFn tab (Gg31 f102) (J31 fuel) kp31 fuel Tryz.f31 [.agg [.int .i64 x0, .int .i64 x1, .bool x2, .int .i64 x3, .int .i64 x4, .int .i64 x5, .bool x6, .int .i64 x7]] [] k = (fun  (k0 : (Bool) → Option Ans) =>
  (f102 ([(1 : Int), (2 : Int), (4 : Int), (8 : Int)]) (x0)
    (fun y2 =>
      bif y2 then
       bif Decidable.decide (x1 ≥ (0 : Int)) then
        bif Decidable.decide (x1 ≤ (3 : Int)) then
         bif Decidable.decide (x3 ≥ (-16 : Int)) then
          bif Decidable.decide (x3 ≤ (16 : Int)) then
           bif Decidable.decide (x4 ≥ (0 : Int)) then
            bif Decidable.decide (x4 ≤ (4 : Int)) then
             bif x5 == (0 : Int) then
              bif x7 == (0 : Int) then
               k0 Bool.true
              else
               k0 (x7 == (1 : Int))
             else
              bif x5 == (1 : Int) then
               bif x7 == (0 : Int) then
                k0 Bool.true
               else
                k0 (x7 == (1 : Int))
              else
               k0 Bool.false
            else
             k0 Bool.false
           else
            k0 Bool.false
          else
           k0 Bool.false
         else
          k0 Bool.false
        else
         k0 Bool.false
       else
        k0 Bool.false
      else
       k0 Bool.false))) (fun r => match r with | r0 => k (.c (.bool r0), [])) := by
  kernel_rfl
theorem F31_eq (fuel : Nat) (x0 : Int) (x1 : Int) (x2 : Bool) (x3 : Int) (x4 : Int) (x5 : Int) (x6 : Bool) (x7 : Int) (k : Ev.Cont) : evalFn tab (G31 fuel) (J31 fuel) kp31 fuel Tryz.f31 [.agg [.int .i64 x0, .int .i64 x1, .bool x2, .int .i64 x3, .int .i64 x4, .int .i64 x5, .bool x6, .int .i64 x7]] [] k = F_text_Valid fuel x0 x1 x2 x3 x4 x5 x6 x7 (fun r => match r with | r0 => k (.c (.bool r0), [])) :=
  F31_eqg fuel (F_slices_Contains_int_int fuel) x0 x1 x2 x3 x4 x5 x6 x7 k
theorem hG31 (fuel : Nat) : GOK Tryz.prog (G31 fuel) :=
  gok_cons ⟨ok102 fuel, enters_of Tryz.func102 (by kernel_rfl) rfl⟩ <|
  gok_nil
theorem fok31 (fuel : Nat) : FnOK Tryz.prog 31 (evalFn tab (G31 fuel) (J31 fuel) kp31 fuel Tryz.f31) :=
  fn_ok tab_ok (hG31 fuel) mixed Tryz.func31 (c := (Tryz.f31.body).getD .skip) rfl (fun q hq => by
    rw [(by kernel_rfl : obl (J31 fuel) ((Tryz.f31.body).getD .skip) = [])] at hq
    cases hq)
noncomputable def mt31 : List Ev.SV → List Ev.Ob → Bool := fun args objs => match args, objs with
  | [.agg [.int .i64 _, .int .i64 _, .bool _, .int .i64 _, .int .i64 _, .int .i64 _, .bool _, .int .i64 _]], [] => true
  | _, _ => false
noncomputable def spg31 (F : YF31) : Ev.Spec := fun args objs k => match args, objs with
  | [.agg [.int .i64 x0, .int .i64 x1, .bool x2, .int .i64 x3, .int .i64 x4, .int .i64 x5, .bool x6, .int .i64 x7]], [] => bif true then F x0 x1 x2 x3 x4 x5 x6 x7 (fun r => match r with | r0 => k (.c (.bool r0), [])) else none
  | _, _ => none
noncomputable def spec31 (fuel : Nat) : Ev.Spec := spg31 (F_text_Valid fuel)
theorem ok31 (fuel : Nat) : FnOK Tryz.prog 31 (spec31 fuel) := by
  intro args objs kk r h
  unfold spec31 spg31 at h
  split at h
  · skip
    obtain ⟨hb, h⟩ := cond_some' h
    simp only [Bool.and_eq_true, Nat.beq_eq, decide_eq_true_eq] at hb
    clear hb
    exact fok31 fuel _ _ kk r ((F31_eq fuel _ _ _ _ _ _ _ _ kk).trans h)
  · cases h
end Go.Proofs.YtipdidpalcmlhaaGreat

set_option linter.unusedVariables false
set_option linter.unusedSimpArgs false
set_option maxRecDepth 100000
set_option maxHeartbeats 2000000
namespace Go.Proofs.YtipdidpalcmlhaaGreat
open Go Ev
def kp73 (i : Nat) : Option (List Nat) := Ev.look i []
noncomputable def Gg73 (f31 : YF31) (f158_261 : YF158_261) (f161_177 : YF161_177) (f : Nat) : Option Ev.Spec := Ev.look f [(31, spg31 f31), (158, spg158_261 f158_261), (161, spg161_177 f161_177)]
noncomputable def G73 (fuel : Nat) : Nat → Option Ev.Spec := Gg73 (F_text_Valid fuel) (F_slices_ContainsFunc_api_Bitmap_api_Bitmap_261 fuel) (F_slices_ContainsFunc_api_Item_api_Item_177 fuel)
noncomputable def J73 (fuel : Nat) (i : Nat) : Option Ev.Blk := Ev.look i []
noncomputable def F_text_begun (fuel : Nat) (x0 : Int) (x1 : Int) (x2 : Bool) (x3 : Int) (x4 : Int) (x5 : Int) (x6 : Bool) (x7 : Int) (x8 : (List (Int × Int × (List Int)))) (x9 : (List (Int × Int × Int × Bool × Int × Int × (Int × Int × (List Int))))) (k0 : (Int) → Option Ans) : Option Ans :=
  (F_text_Valid fuel (x0) (x1) (x2) (x3) (x4) (x5) (x6) (x7)
    (fun y2 =>
      bif !y2 then
       k0 ((2 : Int))
      else
       (F_slices_ContainsFunc_api_Bitmap_api_Bitmap_261 fuel (x8)
         (fun y7 =>
           bif y7 then
            k0 ((30 : Int))
           else
            (F_slices_ContainsFunc_api_Item_api_Item_177 fuel (x9)
              (fun y12 =>
                bif y12 then
                 k0 ((30 : Int))
                else
                 k0 ((0 : Int))))))))
abbrev YF73 : Type := (Int) → (Int) → (Bool) → (Int) → (Int) → (Int) → (Bool) → (Int) → ((List (Int × Int × (List Int)))) → ((List (Int × Int × Int × Bool × Int × Int × (Int × Int × (List Int))))) → ((Int) → Option Ans) → Option Ans
theorem F73_eqg (fuel : Nat) (f31 : YF31) (f158_261 : YF158_261) (f161_177 : YF161_177) (x0 : Int) (x1 : Int) (x2 : Bool) (x3 : Int) (x4 : Int) (x5 : Int) (x6 : Bool) (x7 : Int) (x8 : (List (Int × Int × (List Int)))) (x9 : (List (Int × Int × Int × Bool × Int × Int × (Int × Int × (List Int))))) (k : Ev.Cont) : evalFn tab (Gg73 f31 f158_261 f161_177) (J73 fuel) kp73 fuel Tryz.f73 [.agg [.int .i64 x0, .int .i64 x1, .bool x2, .int .i64 x3, .int .i64 x4, .int .i64 x5, .bool x6, .int .i64 x7], .c (.sl (.pair (.int .i64) (.pair (.int .i64) (.sl (.int .u8)))) x8), .c (.sl (.pair (.int .i64) (.pair (.int .i64) (.pair (.int .i64) (.pair .bool (.pair (.int .i64) (.pair (.int .i64) (.pair (.int .i64) (.pair (.int .i64) (.sl (.int .u8)))))))))) x9)] [] k = (fun  (k0 : (Int) → Option Ans) =>
  (f31 (x0) (x1) (x2) (x3) (x4) (x5) (x6) (x7)
    (fun y2 =>
      bif !y2 then
       k0 ((2 : Int))
      else
       (f158_261 (x8)
         (fun y7 =>
           bif y7 then
            k0 ((30 : Int))
           else
            (f161_177 (x9)
              (fun y12 =>
                bif y12 then
                 k0 ((30 : Int))
                else
                 k0 ((0 : Int))))))))) (fun r => match r with | r0 => k (.c (.int .i64 r0), [])) := by
  kernel_rfl
theorem F73_eq (fuel : Nat) (x0 : Int) (x1 : Int) (x2 : Bool) (x3 : Int) (x4 : Int) (x5 : Int) (x6 : Bool) (x7 : Int) (x8 : (List (Int × Int × (List Int)))) (x9 : (List (Int × Int × Int × Bool × Int × Int × (Int × Int × (List Int))))) (k : Ev.Cont) : evalFn tab (G73 fuel) (J73 fuel) kp73 fuel Tryz.f73 [.agg [.int .i64 x0, .int .i64 x1, .bool x2, .int .i64 x3, .int .i64 x4, .int .i64 x5, .bool x6, .int .i64 x7], .c (.sl (.pair (.int .i64) (.pair (.int .i64) (.sl (.int .u8)))) x8), .c (.sl (.pair (.int .i64) (.pair (.int .i64) (.pair (.int .i64) (.pair .bool (.pair (.int .i64) (.pair (.int .i64) (.pair (.int .i64) (.pair (.int .i64) (.sl (.int .u8)))))))))) x9)] [] k = F_text_begun fuel x0 x1 x2 x3 x4 x5 x6 x7 x8 x9 (fun r => match r with | r0 => k (.c (.int .i64 r0), [])) :=
  F73_eqg fuel (F_text_Valid fuel) (F_slices_ContainsFunc_api_Bitmap_api_Bitmap_261 fuel) (F_slices_ContainsFunc_api_Item_api_Item_177 fuel) x0 x1 x2 x3 x4 x5 x6 x7 x8 x9 k
theorem hG73 (fuel : Nat) : GOK Tryz.prog (G73 fuel) :=
  gok_cons ⟨ok31 fuel, enters_of Tryz.func31 (by kernel_rfl) rfl⟩ <|
  gok_cons ⟨ok158_261 fuel, enters_of Tryz.func158 (by kernel_rfl) rfl⟩ <|
  gok_cons ⟨ok161_177 fuel, enters_of Tryz.func161 (by kernel_rfl) rfl⟩ <|
  gok_nil
theorem fok73 (fuel : Nat) : FnOK Tryz.prog 73 (evalFn tab (G73 fuel) (J73 fuel) kp73 fuel Tryz.f73) :=
  fn_ok tab_ok (hG73 fuel) mixed Tryz.func73 (c := (Tryz.f73.body).getD .skip) rfl (fun q hq => by
    rw [(by kernel_rfl : obl (J73 fuel) ((Tryz.f73.body).getD .skip) = [])] at hq
    cases hq)
noncomputable def mt73 : List Ev.SV → List Ev.Ob → Bool := fun args objs => match args, objs with
  | [.agg [.int .i64 _, .int .i64 _, .bool _, .int .i64 _, .int .i64 _, .int .i64 _, .bool _, .int .i64 _], .c (.sl (.pair (.int .i64) (.pair (.int .i64) (.sl (.int .u8)))) _), .c (.sl (.pair (.int .i64) (.pair (.int .i64) (.pair (.int .i64) (.pair .bool (.pair (.int .i64) (.pair (.int .i64) (.pair (.int .i64) (.pair (.int .i64) (.sl (.int .u8)))))))))) _)], [] => true
  | _, _ => false
noncomputable def spg73 (F : YF73) : Ev.Spec := fun args objs k => match args, objs with
  | [.agg [.int .i64 x0, .int .i64 x1, .bool x2, .int .i64 x3, .int .i64 x4, .int .i64 x5, .bool x6, .int .i64 x7], .c (.sl (.pair (.int .i64) (.pair (.int .i64) (.sl (.int .u8)))) x8), .c (.sl (.pair (.int .i64) (.pair (.int .i64) (.pair (.int .i64) (.pair .bool (.pair (.int .i64) (.pair (.int .i64) (.pair (.int .i64) (.pair (.int .i64) (.sl (.int .u8)))))))))) x9)], [] => bif true then F x0 x1 x2 x3 x4 x5 x6 x7 x8 x9 (fun r => match r with | r0 => k (.c (.int .i64 r0), [])) else none
  | _, _ => none
noncomputable def spec73 (fuel : Nat) : Ev.Spec := spg73 (F_text_begun fuel)
theorem ok73 (fuel : Nat) : FnOK Tryz.prog 73 (spec73 fuel) := by
  intro args objs kk r h
  unfold spec73 spg73 at h
  split at h
  · skip
    obtain ⟨hb, h⟩ := cond_some' h
    simp only [Bool.and_eq_true, Nat.beq_eq, decide_eq_true_eq] at hb
    clear hb
    exact fok73 fuel _ _ kk r ((F73_eq fuel _ _ _ _ _ _ _ _ _ _ kk).trans h)
  · cases h
end Go.Proofs.YtipdidpalcmlhaaGreat

set_option linter.unusedVariables false
set_option linter.unusedSimpArgs false
set_option maxRecDepth 100000
set_option maxHeartbeats 2000000
namespace Go.Proofs.YtipdidpalcmlhaaGreat
open Go Ev
def kp103 (i : Nat) : Option (List Nat) := Ev.look i []
noncomputable def Gg103 (f : Nat) : Option Ev.Spec := Ev.look f []
noncomputable def G103 (fuel : Nat) : Nat → Option Ev.Spec := Gg103
noncomputable def J103 (fuel : Nat) (i : Nat) : Option Ev.Blk := Ev.look i []
noncomputable def F_text_corner (fuel : Nat) (x0 : Int) (x1 : Int) (x2 : Bool) (x3 : Int) (x4 : Int) (x5 : Int) (x6 : Bool) (x7 : Int) (x8 : Int) (x9 : Int) (x10 : (List Int)) (k0 : (Int × Int) → Option Ans) : Option Ans :=
  bif x1.tmod (2 : Int) == (1 : Int) then
   bif Decidable.decide (x1 ≥ (2 : Int)) then
    k0 (Go.IntKind.i64.wrap (x8 - (1 : Int)), Go.IntKind.i64.wrap (x9 - (1 : Int)))
   else
    k0 (Go.IntKind.i64.wrap (x8 - (1 : Int)), (0 : Int))
  else
   bif Decidable.decide (x1 ≥ (2 : Int)) then
    k0 ((0 : Int), Go.IntKind.i64.wrap (x9 - (1 : Int)))
   else
    k0 ((0 : Int), (0 : Int))
abbrev YF103 : Type := (Int) → (Int) → (Bool) → (Int) → (Int) → (Int) → (Bool) → (Int) → (Int) → (Int) → ((List Int)) → ((Int × Int) → Option Ans) → Option Ans
theorem F103_eq (fuel : Nat) (x0 : Int) (x1 : Int) (x2 : Bool) (x3 : Int) (x4 : Int) (x5 : Int) (x6 : Bool) (x7 : Int) (x8 : Int) (x9 : Int) (x10 : (List Int)) (k : Ev.Cont) : evalFn tab (G103 fuel) (J103 fuel) kp103 fuel Tryz.f103 [.agg [.int .i64 x0, .int .i64 x1, .bool x2, .int .i64 x3, .int .i64 x4, .int .i64 x5, .bool x6, .int .i64 x7], .agg [.int .i64 x8, .int .i64 x9, .sl (.int .u8) x10]] [] k = F_text_corner fuel x0 x1 x2 x3 x4 x5 x6 x7 x8 x9 x10 (fun r => match r with | (r0, r1) => k (.tup [(false, [.int .i64 r0]), (false, [.int .i64 r1])], [])) := by
  kernel_rfl
theorem hG103 (fuel : Nat) : GOK Tryz.prog (G103 fuel) :=
  gok_nil
theorem fok103 (fuel : Nat) : FnOK Tryz.prog 103 (evalFn tab (G103 fuel) (J103 fuel) kp103 fuel Tryz.f103) :=
  fn_ok tab_ok (hG103 fuel) mixed Tryz.func103 (c := (Tryz.f103.body).getD .skip) rfl (fun q hq => by
    rw [(by kernel_rfl : obl (J103 fuel) ((Tryz.f103.body).getD .skip) = [])] at hq
    cases hq)
noncomputable def mt103 : List Ev.SV → List Ev.Ob → Bool := fun args objs => match args, objs with
  | [.agg [.int .i64 _, .int .i64 _, .bool _, .int .i64 _, .int .i64 _, .int .i64 _, .bool _, .int .i64 _], .agg [.int .i64 _, .int .i64 _, .sl (.int .u8) _]], [] => true
  | _, _ => false
noncomputable def spg103 (F : YF103) : Ev.Spec := fun args objs k => match args, objs with
  | [.agg [.int .i64 x0, .int .i64 x1, .bool x2, .int .i64 x3, .int .i64 x4, .int .i64 x5, .bool x6, .int .i64 x7], .agg [.int .i64 x8, .int .i64 x9, .sl (.int .u8) x10]], [] => bif true then F x0 x1 x2 x3 x4 x5 x6 x7 x8 x9 x10 (fun r => match r with | (r0, r1) => k (.tup [(false, [.int .i64 r0]), (false, [.int .i64 r1])], [])) else none
  | _, _ => none
noncomputable def spec103 (fuel : Nat) : Ev.Spec := spg103 (F_text_corner fuel)
theorem ok103 (fuel : Nat) : FnOK Tryz.prog 103 (spec103 fuel) := by
  intro args objs kk r h
  unfold spec103 spg103 at h
  split at h
  · skip
    obtain ⟨hb, h⟩ := cond_some' h
    simp only [Bool.and_eq_true, Nat.beq_eq, decide_eq_true_eq] at hb
    clear hb
    exact fok103 fuel _ _ kk r ((F103_eq fuel _ _ _ _ _ _ _ _ _ _ _ kk).trans h)
  · cases h
end Go.Proofs.YtipdidpalcmlhaaGreat

set_option linter.unusedVariables false
set_option linter.unusedSimpArgs false
set_option maxRecDepth 100000
set_option maxHeartbeats 2000000
namespace Go.Proofs.YtipdidpalcmlhaaGreat
open Go Ev
def kp93 (i : Nat) : Option (List Nat) := Ev.look i []
noncomputable def Gg93 (f : Nat) : Option Ev.Spec := Ev.look f []
noncomputable def G93 (fuel : Nat) : Nat → Option Ev.Spec := Gg93
noncomputable def J93 (fuel : Nat) (i : Nat) : Option Ev.Blk := Ev.look i []
noncomputable def F_text_near (fuel : Nat) (x0 : Int) (x1 : Int) (k0 : (Bool) → Option Ans) : Option Ans :=
  bif Decidable.decide (x0 ≥ Go.IntKind.i64.wrap ((0 : Int) - x1)) then
   k0 (Decidable.decide (x0 ≤ x1))
  else
   k0 Bool.false
abbrev YF93 : Type := (Int) → (Int) → ((Bool) → Option Ans) → Option Ans
theorem F93_eq (fuel : Nat) (x0 : Int) (x1 : Int) (k : Ev.Cont) : evalFn tab (G93 fuel) (J93 fuel) kp93 fuel Tryz.f93 [.c (.int .i64 x0), .c (.int .i64 x1)] [] k = F_text_near fuel x0 x1 (fun r => match r with | r0 => k (.c (.bool r0), [])) := by
  kernel_rfl
theorem hG93 (fuel : Nat) : GOK Tryz.prog (G93 fuel) :=
  gok_nil
theorem fok93 (fuel : Nat) : FnOK Tryz.prog 93 (evalFn tab (G93 fuel) (J93 fuel) kp93 fuel Tryz.f93) :=
  fn_ok tab_ok (hG93 fuel) mixed Tryz.func93 (c := (Tryz.f93.body).getD .skip) rfl (fun q hq => by
    rw [(by kernel_rfl : obl (J93 fuel) ((Tryz.f93.body).getD .skip) = [])] at hq
    cases hq)
noncomputable def mt93 : List Ev.SV → List Ev.Ob → Bool := fun args objs => match args, objs with
  | [.c (.int .i64 _), .c (.int .i64 _)], [] => true
  | _, _ => false
noncomputable def spg93 (F : YF93) : Ev.Spec := fun args objs k => match args, objs with
  | [.c (.int .i64 x0), .c (.int .i64 x1)], [] => bif true then F x0 x1 (fun r => match r with | r0 => k (.c (.bool r0), [])) else none
  | _, _ => none
noncomputable def spec93 (fuel : Nat) : Ev.Spec := spg93 (F_text_near fuel)
theorem ok93 (fuel : Nat) : FnOK Tryz.prog 93 (spec93 fuel) := by
  intro args objs kk r h
  unfold spec93 spg93 at h
  split at h
  · skip
    obtain ⟨hb, h⟩ := cond_some' h
    simp only [Bool.and_eq_true, Nat.beq_eq, decide_eq_true_eq] at hb
    clear hb
    exact fok93 fuel _ _ kk r ((F93_eq fuel _ _ kk).trans h)
  · cases h
end Go.Proofs.YtipdidpalcmlhaaGreat

set_option linter.unusedVariables false
set_option linter.unusedSimpArgs false
set_option maxRecDepth 100000
set_option maxHeartbeats 2000000
namespace Go.Proofs.YtipdidpalcmlhaaGreat
open Go Ev
def kp104 (i : Nat) : Option (List Nat) := Ev.look i []
noncomputable def Gg104 (f93 : YF93) (f : Nat) : Option Ev.Spec := Ev.look f [(93, spg93 f93)]
noncomputable def G104 (fuel : Nat) : Nat → Option Ev.Spec := Gg104 (F_text_near fuel)
noncomputable def J104 (fuel : Nat) (i : Nat) : Option Ev.Blk := Ev.look i []
noncomputable def F_text_rightItem (fuel : Nat) (x0 : Int) (x1 : Int) (x2 : Bool) (x3 : Int) (x4 : Int) (x5 : Int) (x6 : Bool) (x7 : Int) (x8 : Int) (x9 : Int) (x10 : Int) (x11 : Int) (x12 : Bool) (x13 : Int) (x14 : Int) (x15 : Int) (x16 : Int) (x17 : (List Int)) (k0 : (Bool) → Option Ans) : Option Ans :=
  bif Decidable.decide (x9 < (0 : Int)) then
   k0 Bool.false
  else
   bif Decidable.decide (x9 ≥ x8) then
    k0 Bool.false
   else
    (F_text_near fuel (x10) ((100000 : Int))
      (fun y4 =>
        bif !y4 then
         k0 Bool.false
        else
         (F_text_near fuel (x11) ((100000 : Int))
           (fun y9 =>
             bif !y9 then
              k0 Bool.false
             else
              bif !x12 then
               bif x13 == (0 : Int) then
                bif x14 == (0 : Int) then
                 bif x15 == (0 : Int) then
                  bif x16 == (0 : Int) then
                   k0 ((↑x17.length : Int) == (0 : Int))
                  else
                   k0 Bool.false
                 else
                  k0 Bool.false
                else
                 k0 Bool.false
               else
                k0 Bool.false
              else
               bif x6 then
                (F_text_near fuel (x13) ((200 : Int))
                  (fun y16 =>
                    bif y16 then
                     (F_text_near fuel (x14) ((200 : Int))
                       (fun y21 =>
                         k0 y21))
                    else
                     k0 Bool.false))
               else
                k0 Bool.false))))
abbrev YF104 : Type := (Int) → (Int) → (Bool) → (Int) → (Int) → (Int) → (Bool) → (Int) → (Int) → (Int) → (Int) → (Int) → (Bool) → (Int) → (Int) → (Int) → (Int) → ((List Int)) → ((Bool) → Option Ans) → Option Ans
theorem F104_eqg (fuel : Nat) (f93 : YF93) (x0 : Int) (x1 : Int) (x2 : Bool) (x3 : Int) (x4 : Int) (x5 : Int) (x6 : Bool) (x7 : Int) (x8 : Int) (x9 : Int) (x10 : Int) (x11 : Int) (x12 : Bool) (x13 : Int) (x14 : Int) (x15 : Int) (x16 : Int) (x17 : (List Int)) (k : Ev.Cont) : evalFn tab (Gg104 f93) (J104 fuel) kp104 fuel Tryz.f104 [.agg [.int .i64 x0, .int .i64 x1, .bool x2, .int .i64 x3, .int .i64 x4, .int .i64 x5, .bool x6, .int .i64 x7], .c (.int .i64 x8), .agg [.int .i64 x9, .int .i64 x10, .int .i64 x11, .bool x12, .int .i64 x13, .int .i64 x14, .int .i64 x15, .int .i64 x16, .sl (.int .u8) x17]] [] k = (fun  (k0 : (Bool) → Option Ans) =>
  bif Decidable.decide (x9 < (0 : Int)) then
   k0 Bool.false
  else
   bif Decidable.decide (x9 ≥ x8) then
    k0 Bool.false
   else
    (f93 (x10) ((100000 : Int))
      (fun y4 =>
        bif !y4 then
         k0 Bool.false
        else
         (f93 (x11) ((100000 : Int))
           (fun y9 =>
             bif !y9 then
              k0 Bool.false
             else
              bif !x12 then
               bif x13 == (0 : Int) then
                bif x14 == (0 : Int) then
                 bif x15 == (0 : Int) then
                  bif x16 == (0 : Int) then
                   k0 ((↑x17.length : Int) == (0 : Int))
                  else
                   k0 Bool.false
                 else
                  k0 Bool.false
                else
                 k0 Bool.false
               else
                k0 Bool.false
              else
               bif x6 then
                (f93 (x13) ((200 : Int))
                  (fun y16 =>
                    bif y16 then
                     (f93 (x14) ((200 : Int))
                       (fun y21 =>
                         k0 y21))
                    else
                     k0 Bool.false))
               else
                k0 Bool.false))))) (fun r => match r with | r0 => k (.c (.bool r0), [])) := by
  kernel_rfl
theorem F104_eq (fuel : Nat) (x0 : Int) (x1 : Int) (x2 : Bool) (x3 : Int) (x4 : Int) (x5 : Int) (x6 : Bool) (x7 : Int) (x8 : Int) (x9 : Int) (x10 : Int) (x11 : Int) (x12 : Bool) (x13 : Int) (x14 : Int) (x15 : Int) (x16 : Int) (x17 : (List Int)) (k : Ev.Cont) : evalFn tab (G104 fuel) (J104 fuel) kp104 fuel Tryz.f104 [.agg [.int .i64 x0, .int .i64 x1, .bool x2, .int .i64 x3, .int .i64 x4, .int .i64 x5, .bool x6, .int .i64 x7], .c (.int .i64 x8), .agg [.int .i64 x9, .int .i64 x10, .int .i64 x11, .bool x12, .int .i64 x13, .int .i64 x14, .int .i64 x15, .int .i64 x16, .sl (.int .u8) x17]] [] k = F_text_rightItem fuel x0 x1 x2 x3 x4 x5 x6 x7 x8 x9 x10 x11 x12 x13 x14 x15 x16 x17 (fun r => match r with | r0 => k (.c (.bool r0), [])) :=
  F104_eqg fuel (F_text_near fuel) x0 x1 x2 x3 x4 x5 x6 x7 x8 x9 x10 x11 x12 x13 x14 x15 x16 x17 k
theorem hG104 (fuel : Nat) : GOK Tryz.prog (G104 fuel) :=
  gok_cons ⟨ok93 fuel, enters_of Tryz.func93 (by kernel_rfl) rfl⟩ <|
  gok_nil
theorem fok104 (fuel : Nat) : FnOK Tryz.prog 104 (evalFn tab (G104 fuel) (J104 fuel) kp104 fuel Tryz.f104) :=
  fn_ok tab_ok (hG104 fuel) mixed Tryz.func104 (c := (Tryz.f104.body).getD .skip) rfl (fun q hq => by
    rw [(by kernel_rfl : obl (J104 fuel) ((Tryz.f104.body).getD .skip) = [])] at hq
    cases hq)
noncomputable def mt104 : List Ev.SV → List Ev.Ob → Bool := fun args objs => match args, objs with
  | [.agg [.int .i64 _, .int .i64 _, .bool _, .int .i64 _, .int .i64 _, .int .i64 _, .bool _, .int .i64 _], .c (.int .i64 _), .agg [.int .i64 _, .int .i64 _, .int .i64 _, .bool _, .int .i64 _, .int .i64 _, .int .i64 _, .int .i64 _, .sl (.int .u8) _]], [] => true
  | _, _ => false
noncomputable def spg104 (F : YF104) : Ev.Spec := fun args objs k => match args, objs with
  | [.agg [.int .i64 x0, .int .i64 x1, .bool x2, .int .i64 x3, .int .i64 x4, .int .i64 x5, .bool x6, .int .i64 x7], .c (.int .i64 x8), .agg [.int .i64 x9, .int .i64 x10, .int .i64 x11, .bool x12, .int .i64 x13, .int .i64 x14, .int .i64 x15, .int .i64 x16, .sl (.int .u8) x17]], [] => bif true then F x0 x1 x2 x3 x4 x5 x6 x7 x8 x9 x10 x11 x12 x13 x14 x15 x16 x17 (fun r => match r with | r0 => k (.c (.bool r0), [])) else none
  | _, _ => none
noncomputable def spec104 (fuel : Nat) : Ev.Spec := spg104 (F_text_rightItem fuel)
theorem ok104 (fuel : Nat) : FnOK Tryz.prog 104 (spec104 fuel) := by
  intro args objs kk r h
  unfold spec104 spg104 at h
  split at h
  · skip
    obtain ⟨hb, h⟩ := cond_some' h
    simp only [Bool.and_eq_true, Nat.beq_eq, decide_eq_true_eq] at hb
    clear hb
    exact fok104 fuel _ _ kk r ((F104_eq fuel _ _ _ _ _ _ _ _ _ _ _ _ _ _ _ _ _ _ kk).trans h)
  · cases h
end Go.Proofs.YtipdidpalcmlhaaGreat

set_option linter.unusedVariables false
set_option linter.unusedSimpArgs false
set_option maxRecDepth 100000
set_option maxHeartbeats 2000000
namespace Go.Proofs.YtipdidpalcmlhaaGreat
open Go Ev
def kp33 (i : Nat) : Option (List Nat) := Ev.look i []
noncomputable def Gg33 (f73 : YF73) (f93 : YF93) (f103 : YF103) (f104 : YF104) (f : Nat) : Option Ev.Spec := Ev.look f [(73, spg73 f73), (93, spg93 f93), (103, spg103 f103), (104, spg104 f104)]
noncomputable def G33 (fuel : Nat) : Nat → Option Ev.Spec := Gg33 (F_text_begun fuel) (F_text_near fuel) (F_text_corner fuel) (F_text_rightItem fuel)
noncomputable def J33 (fuel : Nat) (i : Nat) : Option Ev.Blk := Ev.look i []
noncomputable def F_text_At (fuel : Nat) (x0 : Int) (x1 : Int) (x2 : Bool) (x3 : Int) (x4 : Int) (x5 : Int) (x6 : Bool) (x7 : Int) (x8 : Int) (x9 : Int) (x10 : (List Int)) (x11 : Int) (x12 : Int) (x13 : Int) (k0 : (Int × Int × Int × Bool × Int × Int × Int × Int × Int × (List Int)) → Option Ans) : Option Ans :=
  (F_text_begun fuel (x0) (x1) (x2) (x3) (x4) (x5) (x6) (x7) ([(x8, x9, x10)]) ([])
    (fun y2 =>
      bif y2 != (0 : Int) then
       k0 ((0 : Int), (0 : Int), (0 : Int), Bool.false, (0 : Int), (0 : Int), (0 : Int), (0 : Int), y2, [])
      else
       (F_text_corner fuel (x0) (x1) (x2) (x3) (x4) (x5) (x6) (x7) (x8) (x9) (x10)
         (fun (y7_0, y7_1) =>
           (F_text_near fuel (x12) ((200000 : Int))
             (fun y11 =>
               bif !y11 then
                k0 ((0 : Int), (0 : Int), (0 : Int), Bool.false, (0 : Int), (0 : Int), (0 : Int), (0 : Int), (2 : Int), [])
               else
                (F_text_near fuel (x13) ((200000 : Int))
                  (fun y16 =>
                    bif !y16 then
                     k0 ((0 : Int), (0 : Int), (0 : Int), Bool.false, (0 : Int), (0 : Int), (0 : Int), (0 : Int), (2 : Int), [])
                    else
                     bif x2 then
                      (F_text_rightItem fuel (x0) (x1) (x2) (x3) (x4) (x5) (x6) (x7) ((60 : Int)) (x11) (Go.IntKind.i64.wrap (x13 + y7_1)) (Go.IntKind.i64.wrap (x12 + y7_0)) (Bool.false) ((0 : Int)) ((0 : Int)) ((0 : Int)) ((0 : Int)) ([])
                        (fun y22 =>
                          bif !y22 then
                           k0 ((0 : Int), (0 : Int), (0 : Int), Bool.false, (0 : Int), (0 : Int), (0 : Int), (0 : Int), (2 : Int), [])
                          else
                           k0 (x11, Go.IntKind.i64.wrap (x13 + y7_1), Go.IntKind.i64.wrap (x12 + y7_0), Bool.false, (0 : Int), (0 : Int), (0 : Int), (0 : Int), (0 : Int), [])))
                     else
                      (F_text_rightItem fuel (x0) (x1) (x2) (x3) (x4) (x5) (x6) (x7) ((60 : Int)) (x11) (Go.IntKind.i64.wrap (x12 + y7_0)) (Go.IntKind.i64.wrap (x13 + y7_1)) (Bool.false) ((0 : Int)) ((0 : Int)) ((0 : Int)) ((0 : Int)) ([])
                        (fun y22 =>
                          bif !y22 then
                           k0 ((0 : Int), (0 : Int), (0 : Int), Bool.false, (0 : Int), (0 : Int), (0 : Int), (0 : Int), (2 : Int), [])
                          else
                           k0 (x11, Go.IntKind.i64.wrap (x12 + y7_0), Go.IntKind.i64.wrap (x13 + y7_1), Bool.false, (0 : Int), (0 : Int), (0 : Int), (0 : Int), (0 : Int), [])))))))))))
abbrev YF33 : Type := (Int) → (Int) → (Bool) → (Int) → (Int) → (Int) → (Bool) → (Int) → (Int) → (Int) → ((List Int)) → (Int) → (Int) → (Int) → ((Int × Int × Int × Bool × Int × Int × Int × Int × Int × (List Int)) → Option Ans) → Option Ans
theorem F33_eqg (fuel : Nat) (f73 : YF73) (f93 : YF93) (f103 : YF103) (f104 : YF104) (x0 : Int) (x1 : Int) (x2 : Bool) (x3 : Int) (x4 : Int) (x5 : Int) (x6 : Bool) (x7 : Int) (x8 : Int) (x9 : Int) (x10 : (List Int)) (x11 : Int) (x12 : Int) (x13 : Int) (k : Ev.Cont) : evalFn tab (Gg33 f73 f93 f103 f104) (J33 fuel) kp33 fuel Tryz.f33 [.agg [.int .i64 x0, .int .i64 x1, .bool x2, .int .i64 x3, .int .i64 x4, .int .i64 x5, .bool x6, .int .i64 x7], .agg [.int .i64 x8, .int .i64 x9, .sl (.int .u8) x10], .c (.int .i64 x11), .c (.int .i64 x12), .c (.int .i64 x13)] [] k = (fun  (k0 : (Int × Int × Int × Bool × Int × Int × Int × Int × Int × (List Int)) → Option Ans) =>
  (f73 (x0) (x1) (x2) (x3) (x4) (x5) (x6) (x7) ([(x8, x9, x10)]) ([])
    (fun y2 =>
      bif y2 != (0 : Int) then
       k0 ((0 : Int), (0 : Int), (0 : Int), Bool.false, (0 : Int), (0 : Int), (0 : Int), (0 : Int), y2, [])
      else
       (f103 (x0) (x1) (x2) (x3) (x4) (x5) (x6) (x7) (x8) (x9) (x10)
         (fun (y7_0, y7_1) =>
           (f93 (x12) ((200000 : Int))
             (fun y11 =>
               bif !y11 then
                k0 ((0 : Int), (0 : Int), (0 : Int), Bool.false, (0 : Int), (0 : Int), (0 : Int), (0 : Int), (2 : Int), [])
               else
                (f93 (x13) ((200000 : Int))
                  (fun y16 =>
                    bif !y16 then
                     k0 ((0 : Int), (0 : Int), (0 : Int), Bool.false, (0 : Int), (0 : Int), (0 : Int), (0 : Int), (2 : Int), [])
                    else
                     bif x2 then
                      (f104 (x0) (x1) (x2) (x3) (x4) (x5) (x6) (x7) ((60 : Int)) (x11) (Go.IntKind.i64.wrap (x13 + y7_1)) (Go.IntKind.i64.wrap (x12 + y7_0)) (Bool.false) ((0 : Int)) ((0 : Int)) ((0 : Int)) ((0 : Int)) ([])
                        (fun y22 =>
                          bif !y22 then
                           k0 ((0 : Int), (0 : Int), (0 : Int), Bool.false, (0 : Int), (0 : Int), (0 : Int), (0 : Int), (2 : Int), [])
                          else
                           k0 (x11, Go.IntKind.i64.wrap (x13 + y7_1), Go.IntKind.i64.wrap (x12 + y7_0), Bool.false, (0 : Int), (0 : Int), (0 : Int), (0 : Int), (0 : Int), [])))
                     else
                      (f104 (x0) (x1) (x2) (x3) (x4) (x5) (x6) (x7) ((60 : Int)) (x11) (Go.IntKind.i64.wrap (x12 + y7_0)) (Go.IntKind.i64.wrap (x13 + y7_1)) (Bool.false) ((0 : Int)) ((0 : Int)) ((0 : Int)) ((0 : Int)) ([])
                        (fun y22 =>
                          bif !y22 then
                           k0 ((0 : Int), (0 : Int), (0 : Int), Bool.false, (0 : Int), (0 : Int), (0 : Int), (0 : Int), (2 : Int), [])
                          else
                           k0 (x11, Go.IntKind.i64.wrap (x12 + y7_0), Go.IntKind.i64.wrap (x13 + y7_1), Bool.false, (0 : Int), (0 : Int), (0 : Int), (0 : Int), (0 : Int), [])))))))))))) (fun r => match r with | (r0, r1, r2, r3, r4, r5, r6, r7, r8, r9) => k (.tup [(true, [.int .i64 r0, .int .i64 r1, .int .i64 r2, .bool r3, .int .i64 r4, .int .i64 r5, .int .i64 r6, .int .i64 r7, .own 0]), (false, [.int .i64 r8])], [.vec 5 (.int .u8) r9 true])) := by
  kernel_rfl
theorem F33_eq (fuel : Nat) (x0 : Int) (x1 : Int) (x2 : Bool) (x3 : Int) (x4 : Int) (x5 : Int) (x6 : Bool) (x7 : Int) (x8 : Int) (x9 : Int) (x10 : (List Int)) (x11 : Int) (x12 : Int) (x13 : Int) (k : Ev.Cont) : evalFn tab (G33 fuel) (J33 fuel) kp33 fuel Tryz.f33 [.agg [.int .i64 x0, .int .i64 x1, .bool x2, .int .i64 x3, .int .i64 x4, .int .i64 x5, .bool x6, .int .i64 x7], .agg [.int .i64 x8, .int .i64 x9, .sl (.int .u8) x10], .c (.int .i64 x11), .c (.int .i64 x12), .c (.int .i64 x13)] [] k = F_text_At fuel x0 x1 x2 x3 x4 x5 x6 x7 x8 x9 x10 x11 x12 x13 (fun r => match r with | (r0, r1, r2, r3, r4, r5, r6, r7, r8, r9) => k (.tup [(true, [.int .i64 r0, .int .i64 r1, .int .i64 r2, .bool r3, .int .i64 r4, .int .i64 r5, .int .i64 r6, .int .i64 r7, .own 0]), (false, [.int .i64 r8])], [.vec 5 (.int .u8) r9 true])) :=
  F33_eqg fuel (F_text_begun fuel) (F_text_near fuel) (F_text_corner fuel) (F_text_rightItem fuel) x0 x1 x2 x3 x4 x5 x6 x7 x8 x9 x10 x11 x12 x13 k
theorem hG33 (fuel : Nat) : GOK Tryz.prog (G33 fuel) :=
  gok_cons ⟨ok73 fuel, enters_of Tryz.func73 (by kernel_rfl) rfl⟩ <|
  gok_cons ⟨ok93 fuel, enters_of Tryz.func93 (by kernel_rfl) rfl⟩ <|
  gok_cons ⟨ok103 fuel, enters_of Tryz.func103 (by kernel_rfl) rfl⟩ <|
  gok_cons ⟨ok104 fuel, enters_of Tryz.func104 (by kernel_rfl) rfl⟩ <|
  gok_nil
theorem fok33 (fuel : Nat) : FnOK Tryz.prog 33 (evalFn tab (G33 fuel) (J33 fuel) kp33 fuel Tryz.f33) :=
  fn_ok tab_ok (hG33 fuel) mixed Tryz.func33 (c := (Tryz.f33.body).getD .skip) rfl (fun q hq => by
    rw [(by kernel_rfl : obl (J33 fuel) ((Tryz.f33.body).getD .skip) = [])] at hq
    cases hq)
noncomputable def mt33 : List Ev.SV → List Ev.Ob → Bool := fun args objs => match args, objs with
  | [.agg [.int .i64 _, .int .i64 _, .bool _, .int .i64 _, .int .i64 _, .int .i64 _, .bool _, .int .i64 _], .agg [.int .i64 _, .int .i64 _, .sl (.int .u8) _], .c (.int .i64 _), .c (.int .i64 _), .c (.int .i64 _)], [] => true
  | _, _ => false
noncomputable def spg33 (F : YF33) : Ev.Spec := fun args objs k => match args, objs with
  | [.agg [.int .i64 x0, .int .i64 x1, .bool x2, .int .i64 x3, .int .i64 x4, .int .i64 x5, .bool x6, .int .i64 x7], .agg [.int .i64 x8, .int .i64 x9, .sl (.int .u8) x10], .c (.int .i64 x11), .c (.int .i64 x12), .c (.int .i64 x13)], [] => bif true then F x0 x1 x2 x3 x4 x5 x6 x7 x8 x9 x10 x11 x12 x13 (fun r => match r with | (r0, r1, r2, r3, r4, r5, r6, r7, r8, r9) => k (.tup [(true, [.int .i64 r0, .int .i64 r1, .int .i64 r2, .bool r3, .int .i64 r4, .int .i64 r5, .int .i64 r6, .int .i64 r7, .own 0]), (false, [.int .i64 r8])], [.vec 5 (.int .u8) r9 true])) else none
  | _, _ => none
noncomputable def spec33 (fuel : Nat) : Ev.Spec := spg33 (F_text_At fuel)
theorem ok33 (fuel : Nat) : FnOK Tryz.prog 33 (spec33 fuel) := by
  intro args objs kk r h
  unfold spec33 spg33 at h
  split at h
  · skip
    obtain ⟨hb, h⟩ := cond_some' h
    simp only [Bool.and_eq_true, Nat.beq_eq, decide_eq_true_eq] at hb
    clear hb
    exact fok33 fuel _ _ kk r ((F33_eq fuel _ _ _ _ _ _ _ _ _ _ _ _ _ _ kk).trans h)
  · cases h
end Go.Proofs.YtipdidpalcmlhaaGreat

set_option linter.unusedVariables false
set_option linter.unusedSimpArgs false
set_option maxRecDepth 100000
set_option maxHeartbeats 2000000
namespace Go.Proofs.YtipdidpalcmlhaaGreat
open Go Ev
def kp199 (i : Nat) : Option (List Nat) := Ev.look i []
noncomputable def Gg199 (f : Nat) : Option Ev.Spec := Ev.look f []
noncomputable def G199 (fuel : Nat) : Nat → Option Ev.Spec := Gg199
noncomputable def J199 (fuel : Nat) (i : Nat) : Option Ev.Blk := Ev.look i []
noncomputable def F_bitmap_at (fuel : Nat) (x0 : Int) (x1 : Int) (x2 : (List Int)) (x3 : Int) (x4 : Int) (k0 : (Int) → Option Ans) : Option Ans :=
  bif Decidable.decide (x3 < (0 : Int)) then
   k0 ((0 : Int))
  else
   bif Decidable.decide (x4 < (0 : Int)) then
    k0 ((0 : Int))
   else
    bif Decidable.decide (x3 ≥ x0) then
     k0 ((0 : Int))
    else
     bif Decidable.decide (x4 ≥ x1) then
      k0 ((0 : Int))
     else
      bif Decidable.decide ((0 : Int) ≤ Go.IntKind.i64.wrap (Go.IntKind.i64.wrap (x4 * x0) + x3) ∧ Go.IntKind.i64.wrap (Go.IntKind.i64.wrap (x4 * x0) + x3) < (↑x2.length : Int)) then
      k0 (x2.getD (Go.IntKind.i64.wrap (Go.IntKind.i64.wrap (x4 * x0) + x3)).toNat (0 : Int))
      else none
abbrev YF199 : Type := (Int) → (Int) → ((List Int)) → (Int) → (Int) → ((Int) → Option Ans) → Option Ans
theorem F199_eq (fuel : Nat) (x0 : Int) (x1 : Int) (x2 : (List Int)) (x3 : Int) (x4 : Int) (k : Ev.Cont) : evalFn tab (G199 fuel) (J199 fuel) kp199 fuel Tryz.f199 [.agg [.int .i64 x0, .int .i64 x1, .sl (.int .u8) x2], .c (.int .i64 x3), .c (.int .i64 x4)] [] k = F_bitmap_at fuel x0 x1 x2 x3 x4 (fun r => match r with | r0 => k (.c (.int .u8 r0), [])) := by
  kernel_rfl
theorem hG199 (fuel : Nat) : GOK Tryz.prog (G199 fuel) :=
  gok_nil
theorem fok199 (fuel : Nat) : FnOK Tryz.prog 199 (evalFn tab (G199 fuel) (J199 fuel) kp199 fuel Tryz.f199) :=
  fn_ok tab_ok (hG199 fuel) mixed Tryz.func199 (c := (Tryz.f199.body).getD .skip) rfl (fun q hq => by
    rw [(by kernel_rfl : obl (J199 fuel) ((Tryz.f199.body).getD .skip) = [])] at hq
    cases hq)
noncomputable def mt199 : List Ev.SV → List Ev.Ob → Bool := fun args objs => match args, objs with
  | [.agg [.int .i64 _, .int .i64 _, .sl (.int .u8) _], .c (.int .i64 _), .c (.int .i64 _)], [] => true
  | _, _ => false
noncomputable def spg199 (F : YF199) : Ev.Spec := fun args objs k => match args, objs with
  | [.agg [.int .i64 x0, .int .i64 x1, .sl (.int .u8) x2], .c (.int .i64 x3), .c (.int .i64 x4)], [] => bif true then F x0 x1 x2 x3 x4 (fun r => match r with | r0 => k (.c (.int .u8 r0), [])) else none
  | _, _ => none
noncomputable def spec199 (fuel : Nat) : Ev.Spec := spg199 (F_bitmap_at fuel)
theorem ok199 (fuel : Nat) : FnOK Tryz.prog 199 (spec199 fuel) := by
  intro args objs kk r h
  unfold spec199 spg199 at h
  split at h
  · skip
    obtain ⟨hb, h⟩ := cond_some' h
    simp only [Bool.and_eq_true, Nat.beq_eq, decide_eq_true_eq] at hb
    clear hb
    exact fok199 fuel _ _ kk r ((F199_eq fuel _ _ _ _ _ kk).trans h)
  · cases h
end Go.Proofs.YtipdidpalcmlhaaGreat

set_option linter.unusedVariables false
set_option linter.unusedSimpArgs false
set_option maxRecDepth 100000
set_option maxHeartbeats 2000000
namespace Go.Proofs.YtipdidpalcmlhaaGreat
open Go Ev
def kp245 (i : Nat) : Option (List Nat) := Ev.look i []
noncomputable def Gg245 (f : Nat) : Option Ev.Spec := Ev.look f []
noncomputable def G245 (fuel : Nat) : Nat → Option Ev.Spec := Gg245
noncomputable def J245 (fuel : Nat) (i : Nat) : Option Ev.Blk := Ev.look i []
noncomputable def F_bytes_Clone (fuel : Nat) (x0 : (List Int)) (k0 : ((List Int)) → Option Ans) : Option Ans :=
  bif Decidable.decide ((↑x0.length : Int) = (0 : Int)) then
   both (k0 [])
    (bif Decidable.decide (((0 : Nat) + x0.length) * (1 : Nat) ≤ (140737488355328 : Nat) ∧ (0 : Nat) + x0.length ≤ (140737488355328 : Nat)) then
     k0 ([] ++ x0)
     else none)
  else
   bif Decidable.decide (((0 : Nat) + x0.length) * (1 : Nat) ≤ (140737488355328 : Nat) ∧ (0 : Nat) + x0.length ≤ (140737488355328 : Nat)) then
   k0 ([] ++ x0)
   else none
abbrev YF245 : Type := ((List Int)) → (((List Int)) → Option Ans) → Option Ans
theorem F245_eq (fuel : Nat) (x0 : (List Int)) (k : Ev.Cont) : evalFn tab (G245 fuel) (J245 fuel) kp245 fuel Tryz.f245 [.c (.sl (.int .u8) x0)] [] k = F_bytes_Clone fuel x0 (fun r => match r with | r0 => k (.c (.own 0), [.vec 5 (.int .u8) r0 true])) := by
  kernel_rfl
theorem hG245 (fuel : Nat) : GOK Tryz.prog (G245 fuel) :=
  gok_nil
theorem fok245 (fuel : Nat) : FnOK Tryz.prog 245 (evalFn tab (G245 fuel) (J245 fuel) kp245 fuel Tryz.f245) :=
  fn_ok tab_ok (hG245 fuel) mixed Tryz.func245 (c := (Tryz.f245.body).getD .skip) rfl (fun q hq => by
    rw [(by kernel_rfl : obl (J245 fuel) ((Tryz.f245.body).getD .skip) = [])] at hq
    cases hq)
noncomputable def mt245 : List Ev.SV → List Ev.Ob → Bool := fun args objs => match args, objs with
  | [.c (.sl (.int .u8) _)], [] => true
  | _, _ => false
noncomputable def spg245 (F : YF245) : Ev.Spec := fun args objs k => match args, objs with
  | [.c (.sl (.int .u8) x0)], [] => bif true then F x0 (fun r => match r with | r0 => k (.c (.own 0), [.vec 5 (.int .u8) r0 true])) else none
  | _, _ => none
noncomputable def spec245 (fuel : Nat) : Ev.Spec := spg245 (F_bytes_Clone fuel)
theorem ok245 (fuel : Nat) : FnOK Tryz.prog 245 (spec245 fuel) := by
  intro args objs kk r h
  unfold spec245 spg245 at h
  split at h
  · skip
    obtain ⟨hb, h⟩ := cond_some' h
    simp only [Bool.and_eq_true, Nat.beq_eq, decide_eq_true_eq] at hb
    clear hb
    exact fok245 fuel _ _ kk r ((F245_eq fuel _ kk).trans h)
  · cases h
end Go.Proofs.YtipdidpalcmlhaaGreat

set_option linter.unusedVariables false
set_option linter.unusedSimpArgs false
set_option maxRecDepth 100000
set_option maxHeartbeats 2000000
namespace Go.Proofs.YtipdidpalcmlhaaGreat
open Go Ev
def kp197 (i : Nat) : Option (List Nat) := Ev.look i [(200001, [1])]
noncomputable def Gg197 (f245 : YF245) (f : Nat) : Option Ev.Spec := Ev.look f [(245, spg245 f245)]
noncomputable def G197 (fuel : Nat) : Nat → Option Ev.Spec := Gg197 (F_bytes_Clone fuel)
noncomputable def J197 (fuel : Nat) (i : Nat) : Option Ev.Blk := Ev.look i []
noncomputable def F_bitmap_clone (fuel : Nat) (x0 : Int) (x1 : Int) (x2 : (List Int)) (k0 : (Int × Int × (List Int)) → Option Ans) : Option Ans :=
  (F_bytes_Clone fuel (x2)
    (fun y2 =>
      k0 (x0, x1, y2)))
abbrev YF197 : Type := (Int) → (Int) → ((List Int)) → ((Int × Int × (List Int)) → Option Ans) → Option Ans
theorem F197_eqg (fuel : Nat) (f245 : YF245) (x0 : Int) (x1 : Int) (x2 : (List Int)) (k : Ev.Cont) : evalFn tab (Gg197 f245) (J197 fuel) kp197 fuel Tryz.f197 [.agg [.int .i64 x0, .int .i64 x1, .sl (.int .u8) x2]] [] k = (fun  (k0 : (Int × Int × (List Int)) → Option Ans) =>
  (f245 (x2)
    (fun y2 =>
      k0 (x0, x1, y2)))) (fun r => match r with | (r0, r1, r2) => k (.agg [.int .i64 r0, .int .i64 r1, .own 0], [.vec 5 (.int .u8) r2 true])) := by
  kernel_rfl
theorem F197_eq (fuel : Nat) (x0 : Int) (x1 : Int) (x2 : (List Int)) (k : Ev.Cont) : evalFn tab (G197 fuel) (J197 fuel) kp197 fuel Tryz.f197 [.agg [.int .i64 x0, .int .i64 x1, .sl (.int .u8) x2]] [] k = F_bitmap_clone fuel x0 x1 x2 (fun r => match r with | (r0, r1, r2) => k (.agg [.int .i64 r0, .int .i64 r1, .own 0], [.vec 5 (.int .u8) r2 true])) :=
  F197_eqg fuel (F_bytes_Clone fuel) x0 x1 x2 k
theorem hG197 (fuel : Nat) : GOK Tryz.prog (G197 fuel) :=
  gok_cons ⟨ok245 fuel, enters_of Tryz.func245 (by kernel_rfl) rfl⟩ <|
  gok_nil
theorem fok197 (fuel : Nat) : FnOK Tryz.prog 197 (evalFn tab (G197 fuel) (J197 fuel) kp197 fuel Tryz.f197) :=
  fn_ok tab_ok (hG197 fuel) mixed Tryz.func197 (c := (Tryz.f197.body).getD .skip) rfl (fun q hq => by
    rw [(by kernel_rfl : obl (J197 fuel) ((Tryz.f197.body).getD .skip) = [])] at hq
    cases hq)
noncomputable def mt197 : List Ev.SV → List Ev.Ob → Bool := fun args objs => match args, objs with
  | [.agg [.int .i64 _, .int .i64 _, .sl (.int .u8) _]], [] => true
  | _, _ => false
noncomputable def spg197 (F : YF197) : Ev.Spec := fun args objs k => match args, objs with
  | [.agg [.int .i64 x0, .int .i64 x1, .sl (.int .u8) x2]], [] => bif true then F x0 x1 x2 (fun r => match r with | (r0, r1, r2) => k (.agg [.int .i64 r0, .int .i64 r1, .own 0], [.vec 5 (.int .u8) r2 true])) else none
  | _, _ => none
noncomputable def spec197 (fuel : Nat) : Ev.Spec := spg197 (F_bitmap_clone fuel)
theorem ok197 (fuel : Nat) : FnOK Tryz.prog 197 (spec197 fuel) := by
  intro args objs kk r h
  unfold spec197 spg197 at h
  split at h
  · skip
    obtain ⟨hb, h⟩ := cond_some' h
    simp only [Bool.and_eq_true, Nat.beq_eq, decide_eq_true_eq] at hb
    clear hb
    exact fok197 fuel _ _ kk r ((F197_eq fuel _ _ _ kk).trans h)
  · cases h
end Go.Proofs.YtipdidpalcmlhaaGreat

set_option linter.unusedVariables false
set_option linter.unusedSimpArgs false
set_option maxRecDepth 100000
set_option maxHeartbeats 2000000
namespace Go.Proofs.YtipdidpalcmlhaaGreat
open Go Ev
def kp198 (i : Nat) : Option (List Nat) := Ev.look i []
noncomputable def Gg198 (f : Nat) : Option Ev.Spec := Ev.look f []
noncomputable def G198 (fuel : Nat) : Nat → Option Ev.Spec := Gg198
noncomputable def J198 (fuel : Nat) (i : Nat) : Option Ev.Blk := Ev.look i []
noncomputable def F_bitmap_combine (fuel : Nat) (x0 : Int) (x1 : Int) (x2 : Int) (k0 : (Int) → Option Ans) : Option Ans :=
  bif x2 == (1 : Int) then
   k0 (Ev.ior Go.IntKind.u8 x0 x1)
  else
   bif x2 == (2 : Int) then
    k0 (Ev.iand Go.IntKind.u8 x0 x1)
   else
    bif x2 == (3 : Int) then
     k0 (Ev.ixor Go.IntKind.u8 x0 x1)
    else
     bif x2 == (4 : Int) then
      k0 (Ev.ixor Go.IntKind.u8 (Go.IntKind.u8.wrap ((1 : Int) - x0)) x1)
     else
      k0 x1
abbrev YF198 : Type := (Int) → (Int) → (Int) → ((Int) → Option Ans) → Option Ans
theorem F198_eq (fuel : Nat) (x0 : Int) (x1 : Int) (x2 : Int) (k : Ev.Cont) : evalFn tab (G198 fuel) (J198 fuel) kp198 fuel Tryz.f198 [.c (.int .u8 x0), .c (.int .u8 x1), .c (.int .i64 x2)] [] k = F_bitmap_combine fuel x0 x1 x2 (fun r => match r with | r0 => k (.c (.int .u8 r0), [])) := by
  kernel_rfl
theorem hG198 (fuel : Nat) : GOK Tryz.prog (G198 fuel) :=
  gok_nil
theorem fok198 (fuel : Nat) : FnOK Tryz.prog 198 (evalFn tab (G198 fuel) (J198 fuel) kp198 fuel Tryz.f198) :=
  fn_ok tab_ok (hG198 fuel) mixed Tryz.func198 (c := (Tryz.f198.body).getD .skip) rfl (fun q hq => by
    rw [(by kernel_rfl : obl (J198 fuel) ((Tryz.f198.body).getD .skip) = [])] at hq
    cases hq)
noncomputable def mt198 : List Ev.SV → List Ev.Ob → Bool := fun args objs => match args, objs with
  | [.c (.int .u8 _), .c (.int .u8 _), .c (.int .i64 _)], [] => true
  | _, _ => false
noncomputable def spg198 (F : YF198) : Ev.Spec := fun args objs k => match args, objs with
  | [.c (.int .u8 x0), .c (.int .u8 x1), .c (.int .i64 x2)], [] => bif true then F x0 x1 x2 (fun r => match r with | r0 => k (.c (.int .u8 r0), [])) else none
  | _, _ => none
noncomputable def spec198 (fuel : Nat) : Ev.Spec := spg198 (F_bitmap_combine fuel)
theorem ok198 (fuel : Nat) : FnOK Tryz.prog 198 (spec198 fuel) := by
  intro args objs kk r h
  unfold spec198 spg198 at h
  split at h
  · skip
    obtain ⟨hb, h⟩ := cond_some' h
    simp only [Bool.and_eq_true, Nat.beq_eq, decide_eq_true_eq] at hb
    clear hb
    exact fok198 fuel _ _ kk r ((F198_eq fuel _ _ _ kk).trans h)
  · cases h
end Go.Proofs.YtipdidpalcmlhaaGreat

set_option linter.unusedVariables false
set_option linter.unusedSimpArgs false
set_option maxRecDepth 100000
set_option maxHeartbeats 2000000
namespace Go.Proofs.YtipdidpalcmlhaaGreat
open Go Ev
def kp196 (i : Nat) : Option (List Nat) := Ev.look i []
noncomputable def Gg196 (f : Nat) : Option Ev.Spec := Ev.look f []
noncomputable def G196 (fuel : Nat) : Nat → Option Ev.Spec := Gg196
noncomputable def J196 (fuel : Nat) (i : Nat) : Option Ev.Blk := Ev.look i []
noncomputable def F_bitmap_isShift (fuel : Nat) (x0 : Int) (x1 : Int) (k0 : (Bool) → Option Ans) : Option Ans :=
  bif Decidable.decide ((bif Decidable.decide (x1 < x0) then x1 else x0) ≥ (-100000 : Int)) then
   k0 (Decidable.decide ((bif Decidable.decide (x1 > x0) then x1 else x0) ≤ (100000 : Int)))
  else
   k0 Bool.false
abbrev YF196 : Type := (Int) → (Int) → ((Bool) → Option Ans) → Option Ans
theorem F196_eq (fuel : Nat) (x0 : Int) (x1 : Int) (k : Ev.Cont) : evalFn tab (G196 fuel) (J196 fuel) kp196 fuel Tryz.f196 [.c (.int .i64 x0), .c (.int .i64 x1)] [] k = F_bitmap_isShift fuel x0 x1 (fun r => match r with | r0 => k (.c (.bool r0), [])) := by
  kernel_rfl
theorem hG196 (fuel : Nat) : GOK Tryz.prog (G196 fuel) :=
  gok_nil
theorem fok196 (fuel : Nat) : FnOK Tryz.prog 196 (evalFn tab (G196 fuel) (J196 fuel) kp196 fuel Tryz.f196) :=
  fn_ok tab_ok (hG196 fuel) mixed Tryz.func196 (c := (Tryz.f196.body).getD .skip) rfl (fun q hq => by
    rw [(by kernel_rfl : obl (J196 fuel) ((Tryz.f196.body).getD .skip) = [])] at hq
    cases hq)
noncomputable def mt196 : List Ev.SV → List Ev.Ob → Bool := fun args objs => match args, objs with
  | [.c (.int .i64 _), .c (.int .i64 _)], [] => true
  | _, _ => false
noncomputable def spg196 (F : YF196) : Ev.Spec := fun args objs k => match args, objs with
  | [.c (.int .i64 x0), .c (.int .i64 x1)], [] => bif true then F x0 x1 (fun r => match r with | r0 => k (.c (.bool r0), [])) else none
  | _, _ => none
noncomputable def spec196 (fuel : Nat) : Ev.Spec := spg196 (F_bitmap_isShift fuel)
theorem ok196 (fuel : Nat) : FnOK Tryz.prog 196 (spec196 fuel) := by
  intro args objs kk r h
  unfold spec196 spg196 at h
  split at h
  · skip
    obtain ⟨hb, h⟩ := cond_some' h
    simp only [Bool.and_eq_true, Nat.beq_eq, decide_eq_true_eq] at hb
    clear hb
    exact fok196 fuel _ _ kk r ((F196_eq fuel _ _ kk).trans h)
  · cases h
end Go.Proofs.YtipdidpalcmlhaaGreat

