/- What the functions that TextOne reaches do: their typed texts, each with the proof that the machine does it. No condition. -/
import Derived.Test.YtipdidpalcmlhaaGreatEvX
import Derived.Test.YtipdidpalcmlhaaGreatFsTextOne3
set_option linter.unusedVariables false
set_option linter.unusedSimpArgs false
set_option linter.unusedSectionVars false
set_option linter.unusedVariables false
set_option linter.unusedSimpArgs false
set_option maxRecDepth 100000
set_option maxHeartbeats 2000000
namespace Go.Proofs.YtipdidpalcmlhaaGreat
open Go Ev
def kp106 (i : Nat) : Option (List Nat) := Ev.look i [(7, [2, 3, 4, 5, 6, 10, 12, 45, 46]), (10, [2, 3, 4, 5, 6, 10, 12, 13, 45, 46, 50, 51]), (100001, [10, 12]), (100003, [2, 3, 4, 5, 6, 10, 12, 45, 46]), (200015, [6]), (400001, [10, 11]), (400003, [10, 11])]
noncomputable def Gg106 (f122 : YF122) (f196 : YF196) (f197 : YF197) (f198 : YF198) (f199 : YF199) (f : Nat) : Option Ev.Spec := Ev.look f [(122, spg122 f122), (196, spg196 f196), (197, spg197 f197), (198, spg198 f198), (199, spg199 f199)]
noncomputable def G106 (fuel : Nat) : Nat → Option Ev.Spec := Gg106 (F_bitmap_Valid fuel) (F_bitmap_isShift fuel) (F_bitmap_clone fuel) (F_bitmap_combine fuel) (F_bitmap_at fuel)
noncomputable def S_bitmap_Draw_3 (fuel : Nat) (v : Int × Int × Int × Int × Int × Int × Int × Int × Int × Int × (List Int) × Int × Int × (List Int) × Int × Int × Int × Int × (List Int) × (List Int)) (c : (Int × Int × Int × Int × Int × Int × Int × Int × Int × Int × (List Int) × Int × Int × (List Int) × Int × Int × Int × Int × (List Int) × (List Int)) → Option Ans) (B : (Int × Int × Int × Int × Int × Int × Int × (List Int) × Int × Int × (List Int) × Int × Int × Int × Int × (List Int) × (List Int) → Option Ans)) : Option Ans := match v, B with
  | (x0, x1, x2, x3, x4, x5, x6, x7, x8, x9, x10, x11, x12, x13, x14, x15, x16, x17, x18, x19), b =>
   bif Decidable.decide (x7 < x6) then
      bif Decidable.decide (Go.IntKind.i64.wrap (x0 + x7) ≥ (0 : Int)) then
       bif Decidable.decide (Go.IntKind.i64.wrap (x1 + x3) ≥ (0 : Int)) then
        bif Decidable.decide (Go.IntKind.i64.wrap (x0 + x7) < x8) then
         bif Decidable.decide (Go.IntKind.i64.wrap (x1 + x3) < x9) then
          bif Decidable.decide ((0 : Int) ≤ Go.IntKind.i64.wrap (Go.IntKind.i64.wrap (Go.IntKind.i64.wrap (x1 + x3) * x8) + Go.IntKind.i64.wrap (x0 + x7)) ∧ Go.IntKind.i64.wrap (Go.IntKind.i64.wrap (Go.IntKind.i64.wrap (x1 + x3) * x8) + Go.IntKind.i64.wrap (x0 + x7)) < (↑x19.length : Int)) then
          both ((F_bitmap_at fuel (x11) (x12) (x13) (x7) (x3)
               (fun y10 =>
                 (F_bitmap_combine fuel (x19.getD (Go.IntKind.i64.wrap (Go.IntKind.i64.wrap (Go.IntKind.i64.wrap (x1 + x3) * x8) + Go.IntKind.i64.wrap (x0 + x7))).toNat (0 : Int)) (y10) (x2)
                   (fun y14 =>
                     c (x0, x1, x2, x3, x4, x5, x6, Go.IntKind.i64.wrap (x7 + (1 : Int)), x8, x9, x10, x11, x12, x13, x14, x15, x16, x17, x18, x19.set (Go.IntKind.i64.wrap (Go.IntKind.i64.wrap (Go.IntKind.i64.wrap (x1 + x3) * x8) + Go.IntKind.i64.wrap (x0 + x7))).toNat y14))))))
            ((F_bitmap_at fuel (x11) (x12) (x13) (x7) (x3)
               (fun y10 =>
                 (F_bitmap_combine fuel (x19.getD (Go.IntKind.i64.wrap (Go.IntKind.i64.wrap (Go.IntKind.i64.wrap (x1 + x3) * x8) + Go.IntKind.i64.wrap (x0 + x7))).toNat (0 : Int)) (y10) (x2)
                   (fun y14 =>
                     c (x0, x1, x2, x3, x4, x5, x6, Go.IntKind.i64.wrap (x7 + (1 : Int)), x8, x9, x10, x11, x12, x13, x14, x15, x16, x17, x18, x19.set (Go.IntKind.i64.wrap (Go.IntKind.i64.wrap (Go.IntKind.i64.wrap (x1 + x3) * x8) + Go.IntKind.i64.wrap (x0 + x7))).toNat y14))))))
          else none
         else
          c (x0, x1, x2, x3, x4, x5, x6, Go.IntKind.i64.wrap (x7 + (1 : Int)), x8, x9, x10, x11, x12, x13, x14, x15, x16, x17, x18, x19)
        else
         c (x0, x1, x2, x3, x4, x5, x6, Go.IntKind.i64.wrap (x7 + (1 : Int)), x8, x9, x10, x11, x12, x13, x14, x15, x16, x17, x18, x19)
       else
        c (x0, x1, x2, x3, x4, x5, x6, Go.IntKind.i64.wrap (x7 + (1 : Int)), x8, x9, x10, x11, x12, x13, x14, x15, x16, x17, x18, x19)
      else
       c (x0, x1, x2, x3, x4, x5, x6, Go.IntKind.i64.wrap (x7 + (1 : Int)), x8, x9, x10, x11, x12, x13, x14, x15, x16, x17, x18, x19)
     else
      b (x0, x1, x2, x4, x5, x8, x9, x10, x11, x12, x13, x14, x15, x16, x17, x18, x19)
noncomputable def L_bitmap_Draw_3 (fuel : Nat) (v : Int × Int × Int × Int × Int × Int × Int × Int × Int × Int × (List Int) × Int × Int × (List Int) × Int × Int × Int × Int × (List Int) × (List Int)) (b : (Int × Int × Int × Int × Int × Int × Int × (List Int) × Int × Int × (List Int) × Int × Int × Int × Int × (List Int) × (List Int) → Option Ans)) : Option Ans := iter (S_bitmap_Draw_3 fuel) fuel v b
noncomputable def J106_3 (fuel : Nat) (i : Nat) : Option Ev.Blk := Ev.look i []
noncomputable def T106_3 (v : Int × Int × Int × Int × Int × Int × Int × Int × Int × Int × (List Int) × Int × Int × (List Int) × Int × Int × Int × Int × (List Int) × (List Int)) : Ev.St := match v with | (x0, x1, x2, x3, x4, x5, x6, x7, x8, x9, x10, x11, x12, x13, x14, x15, x16, x17, x18, x19) => ⟨[(2, .c (.int .i64 x0)), (3, .c (.int .i64 x1)), (4, .c (.int .i64 x2)), (5, .c (.ptr 0 0)), (6, .c (.ptr 1 0)), (10, .c (.ptr 2 0)), (12, .c (.ptr 3 0)), (13, .c (.int .i64 x3)), (45, .c (.int .i64 x4)), (46, .c (.int .i64 x5)), (50, .c (.int .i64 x6)), (51, .c (.int .i64 x7))], [(0, .cells 51 [.int .i64 x8, .int .i64 x9, .sl (.int .u8) x10]), (1, .cells 51 [.int .i64 x11, .int .i64 x12, .sl (.int .u8) x13]), (2, .cells 51 [.int .i64 x14, .int .i64 x15, .own 4]), (3, .cells 51 [.int .i64 x16, .int .i64 x17, .own 5]), (4, .vec 5 (.int .u8) x18 true), (5, .vec 5 (.int .u8) x19 true)], 6, 0⟩
noncomputable def E106_3 (K : Ev.Ex → Ev.St → Option Ans) : (Int × Int × Int × Int × Int × Int × Int × (List Int) × Int × Int × (List Int) × Int × Int × Int × Int × (List Int) × (List Int) → Option Ans) := (fun v => match v with | (x0, x1, x2, x3, x4, x5, x6, x7, x8, x9, x10, x11, x12, x13, x14, x15, x16) => K .normal ⟨[(2, .c (.int .i64 x0)), (3, .c (.int .i64 x1)), (4, .c (.int .i64 x2)), (5, .c (.ptr 0 0)), (6, .c (.ptr 1 0)), (10, .c (.ptr 2 0)), (12, .c (.ptr 3 0)), (45, .c (.int .i64 x3)), (46, .c (.int .i64 x4))], [(0, .cells 51 [.int .i64 x5, .int .i64 x6, .sl (.int .u8) x7]), (1, .cells 51 [.int .i64 x8, .int .i64 x9, .sl (.int .u8) x10]), (2, .cells 51 [.int .i64 x11, .int .i64 x12, .own 4]), (3, .cells 51 [.int .i64 x13, .int .i64 x14, .own 5]), (4, .vec 5 (.int .u8) x15 true), (5, .vec 5 (.int .u8) x16 true)], 6, 0⟩)
theorem S106_3_okg (fuel : Nat) (f122 : YF122) (f196 : YF196) (f197 : YF197) (f198 : YF198) (f199 : YF199) (R : Ev.St → Option Ans) (K : Ev.Ex → Ev.St → Option Ans) (x0 : Int) (x1 : Int) (x2 : Int) (x3 : Int) (x4 : Int) (x5 : Int) (x6 : Int) (x7 : Int) (x8 : Int) (x9 : Int) (x10 : (List Int)) (x11 : Int) (x12 : Int) (x13 : (List Int)) (x14 : Int) (x15 : Int) (x16 : Int) (x17 : Int) (x18 : (List Int)) (x19 : (List Int)) : evalCode tab (Gg106 f122 f196 f197 f198 f199) (J106_3 fuel) kp106 fuel (bodyOf 3 Tryz.f106) (T106_3 (x0, x1, x2, x3, x4, x5, x6, x7, x8, x9, x10, x11, x12, x13, x14, x15, x16, x17, x18, x19)) (lc kp106 10 3 R K) = (fun (c : (Int × Int × Int × Int × Int × Int × Int × Int × Int × Int × (List Int) × Int × Int × (List Int) × Int × Int × Int × Int × (List Int) × (List Int)) → Option Ans) (B : (Int × Int × Int × Int × Int × Int × Int × (List Int) × Int × Int × (List Int) × Int × Int × Int × Int × (List Int) × (List Int) → Option Ans)) => match B with
  | b =>
   bif Decidable.decide (x7 < x6) then
      bif Decidable.decide (Go.IntKind.i64.wrap (x0 + x7) ≥ (0 : Int)) then
       bif Decidable.decide (Go.IntKind.i64.wrap (x1 + x3) ≥ (0 : Int)) then
        bif Decidable.decide (Go.IntKind.i64.wrap (x0 + x7) < x8) then
         bif Decidable.decide (Go.IntKind.i64.wrap (x1 + x3) < x9) then
          bif Decidable.decide ((0 : Int) ≤ Go.IntKind.i64.wrap (Go.IntKind.i64.wrap (Go.IntKind.i64.wrap (x1 + x3) * x8) + Go.IntKind.i64.wrap (x0 + x7)) ∧ Go.IntKind.i64.wrap (Go.IntKind.i64.wrap (Go.IntKind.i64.wrap (x1 + x3) * x8) + Go.IntKind.i64.wrap (x0 + x7)) < (↑x19.length : Int)) then
          both ((f199 (x11) (x12) (x13) (x7) (x3)
               (fun y10 =>
                 (f198 (x19.getD (Go.IntKind.i64.wrap (Go.IntKind.i64.wrap (Go.IntKind.i64.wrap (x1 + x3) * x8) + Go.IntKind.i64.wrap (x0 + x7))).toNat (0 : Int)) (y10) (x2)
                   (fun y14 =>
                     c (x0, x1, x2, x3, x4, x5, x6, Go.IntKind.i64.wrap (x7 + (1 : Int)), x8, x9, x10, x11, x12, x13, x14, x15, x16, x17, x18, x19.set (Go.IntKind.i64.wrap (Go.IntKind.i64.wrap (Go.IntKind.i64.wrap (x1 + x3) * x8) + Go.IntKind.i64.wrap (x0 + x7))).toNat y14))))))
            ((f199 (x11) (x12) (x13) (x7) (x3)
               (fun y10 =>
                 (f198 (x19.getD (Go.IntKind.i64.wrap (Go.IntKind.i64.wrap (Go.IntKind.i64.wrap (x1 + x3) * x8) + Go.IntKind.i64.wrap (x0 + x7))).toNat (0 : Int)) (y10) (x2)
                   (fun y14 =>
                     c (x0, x1, x2, x3, x4, x5, x6, Go.IntKind.i64.wrap (x7 + (1 : Int)), x8, x9, x10, x11, x12, x13, x14, x15, x16, x17, x18, x19.set (Go.IntKind.i64.wrap (Go.IntKind.i64.wrap (Go.IntKind.i64.wrap (x1 + x3) * x8) + Go.IntKind.i64.wrap (x0 + x7))).toNat y14))))))
          else none
         else
          c (x0, x1, x2, x3, x4, x5, x6, Go.IntKind.i64.wrap (x7 + (1 : Int)), x8, x9, x10, x11, x12, x13, x14, x15, x16, x17, x18, x19)
        else
         c (x0, x1, x2, x3, x4, x5, x6, Go.IntKind.i64.wrap (x7 + (1 : Int)), x8, x9, x10, x11, x12, x13, x14, x15, x16, x17, x18, x19)
       else
        c (x0, x1, x2, x3, x4, x5, x6, Go.IntKind.i64.wrap (x7 + (1 : Int)), x8, x9, x10, x11, x12, x13, x14, x15, x16, x17, x18, x19)
      else
       c (x0, x1, x2, x3, x4, x5, x6, Go.IntKind.i64.wrap (x7 + (1 : Int)), x8, x9, x10, x11, x12, x13, x14, x15, x16, x17, x18, x19)
     else
      b (x0, x1, x2, x4, x5, x8, x9, x10, x11, x12, x13, x14, x15, x16, x17, x18, x19)) (fun v => R (T106_3 v)) (E106_3 K) := by
  kernel_rfl
theorem S106_3_ok (fuel : Nat) (R : Ev.St → Option Ans) (K : Ev.Ex → Ev.St → Option Ans) (x0 : Int) (x1 : Int) (x2 : Int) (x3 : Int) (x4 : Int) (x5 : Int) (x6 : Int) (x7 : Int) (x8 : Int) (x9 : Int) (x10 : (List Int)) (x11 : Int) (x12 : Int) (x13 : (List Int)) (x14 : Int) (x15 : Int) (x16 : Int) (x17 : Int) (x18 : (List Int)) (x19 : (List Int)) : evalCode tab (G106 fuel) (J106_3 fuel) kp106 fuel (bodyOf 3 Tryz.f106) (T106_3 (x0, x1, x2, x3, x4, x5, x6, x7, x8, x9, x10, x11, x12, x13, x14, x15, x16, x17, x18, x19)) (lc kp106 10 3 R K) = S_bitmap_Draw_3 fuel (x0, x1, x2, x3, x4, x5, x6, x7, x8, x9, x10, x11, x12, x13, x14, x15, x16, x17, x18, x19) (fun v => R (T106_3 v)) (E106_3 K) :=
  S106_3_okg fuel (F_bitmap_Valid fuel) (F_bitmap_isShift fuel) (F_bitmap_clone fuel) (F_bitmap_combine fuel) (F_bitmap_at fuel) R K x0 x1 x2 x3 x4 x5 x6 x7 x8 x9 x10 x11 x12 x13 x14 x15 x16 x17 x18 x19
noncomputable def B106_3 (fuel : Nat) : Ev.Blk := fun st K => match canonO (kp106 10) st with
  | some s => (match s with
    | ⟨[(q0, .c (.int .i64 x0)), (q1, .c (.int .i64 x1)), (q2, .c (.int .i64 x2)), (q3, .c (.ptr q4 q5)), (q6, .c (.ptr q7 q8)), (q9, .c (.ptr q10 q11)), (q12, .c (.ptr q13 q14)), (q15, .c (.int .i64 x3)), (q16, .c (.int .i64 x4)), (q17, .c (.int .i64 x5)), (q18, .c (.int .i64 x6)), (q19, .c (.int .i64 x7))], [(q20, .cells q21 [.int .i64 x8, .int .i64 x9, .sl (.int .u8) x10]), (q22, .cells q23 [.int .i64 x11, .int .i64 x12, .sl (.int .u8) x13]), (q24, .cells q25 [.int .i64 x14, .int .i64 x15, .own q26]), (q27, .cells q28 [.int .i64 x16, .int .i64 x17, .own q29]), (q30, .vec q31 (.int .u8) x18 true), (q32, .vec q33 (.int .u8) x19 true)], q34, q35⟩ => bif Nat.beq q0 2 && Nat.beq q1 3 && Nat.beq q2 4 && Nat.beq q3 5 && Nat.beq q4 0 && Nat.beq q5 0 && Nat.beq q6 6 && Nat.beq q7 1 && Nat.beq q8 0 && Nat.beq q9 10 && Nat.beq q10 2 && Nat.beq q11 0 && Nat.beq q12 12 && Nat.beq q13 3 && Nat.beq q14 0 && Nat.beq q15 13 && Nat.beq q16 45 && Nat.beq q17 46 && Nat.beq q18 50 && Nat.beq q19 51 && Nat.beq q20 0 && Nat.beq q21 51 && Nat.beq q22 1 && Nat.beq q23 51 && Nat.beq q24 2 && Nat.beq q25 51 && Nat.beq q26 4 && Nat.beq q27 3 && Nat.beq q28 51 && Nat.beq q29 5 && Nat.beq q30 4 && Nat.beq q31 5 && Nat.beq q32 5 && Nat.beq q33 5 && Nat.beq q34 6 && Nat.beq q35 0 then iter (S_bitmap_Draw_3 fuel) fuel (x0, x1, x2, x3, x4, x5, x6, x7, x8, x9, x10, x11, x12, x13, x14, x15, x16, x17, x18, x19) (E106_3 K) else none
    | _ => none)
  | none => none
theorem B106_3_ok (fuel : Nat) (st : Ev.St) (K : Ev.Ex → Ev.St → Option Ans) (r : Ans) (h : B106_3 fuel st K = some r) : evalCode tab (G106 fuel) (J106_3 fuel) kp106 fuel (.block 3 (.loop (bodyOf 3 Tryz.f106))) st K = some r := by
  unfold B106_3 at h
  split at h
  · rename_i s hs
    split at h
    · skip
      obtain ⟨hb, h⟩ := cond_some' h
      simp only [Bool.and_eq_true, Nat.beq_eq, decide_eq_true_eq] at hb
      obtain ⟨⟨⟨⟨⟨⟨⟨⟨⟨⟨⟨⟨⟨⟨⟨⟨⟨⟨⟨⟨⟨⟨⟨⟨⟨⟨⟨⟨⟨⟨⟨⟨⟨⟨⟨rfl, rfl⟩, rfl⟩, rfl⟩, rfl⟩, rfl⟩, rfl⟩, rfl⟩, rfl⟩, rfl⟩, rfl⟩, rfl⟩, rfl⟩, rfl⟩, rfl⟩, rfl⟩, rfl⟩, rfl⟩, rfl⟩, rfl⟩, rfl⟩, rfl⟩, rfl⟩, rfl⟩, rfl⟩, rfl⟩, rfl⟩, rfl⟩, rfl⟩, rfl⟩, rfl⟩, rfl⟩, rfl⟩, rfl⟩, rfl⟩, rfl⟩ := hb
      exact blk_loop (S := T106_3) (ks := E106_3) (step := S_bitmap_Draw_3 fuel) (v := (_, _, _, _, _, _, _, _, _, _, _, _, _, _, _, _, _, _, _, _)) (by kernel_rfl) (by kernel_rfl) (fun R K v => by obtain ⟨x0, x1, x2, x3, x4, x5, x6, x7, x8, x9, x10, x11, x12, x13, x14, x15, x16, x17, x18, x19⟩ := v; exact S106_3_ok fuel R K x0 x1 x2 x3 x4 x5 x6 x7 x8 x9 x10 x11 x12 x13 x14 x15 x16 x17 x18 x19) hs h
    · cases h
  · cases h
noncomputable def S_bitmap_Draw_1 (fuel : Nat) (v : Int × Int × Int × Int × Int × Int × Int × (List Int) × Int × Int × (List Int) × Int × Int × Int × Int × (List Int) × (List Int)) (c : (Int × Int × Int × Int × Int × Int × Int × (List Int) × Int × Int × (List Int) × Int × Int × Int × Int × (List Int) × (List Int)) → Option Ans) (B : (Int × Int × Int × Int × (List Int) × (List Int) → Option Ans)) : Option Ans := match v, B with
  | (x0, x1, x2, x3, x4, x5, x6, x7, x8, x9, x10, x11, x12, x13, x14, x15, x16), b =>
   bif Decidable.decide (x4 < x3) then
      (L_bitmap_Draw_3 fuel (x0, x1, x2, x4, x3, x4, x8, (0 : Int), x5, x6, x7, x8, x9, x10, x11, x12, x13, x14, x15, x16)
        (fun (b3_0, b3_1, b3_2, b3_3, b3_4, b3_5, b3_6, b3_7, b3_8, b3_9, b3_10, b3_11, b3_12, b3_13, b3_14, b3_15, b3_16) =>
          c (b3_0, b3_1, b3_2, b3_3, Go.IntKind.i64.wrap (b3_4 + (1 : Int)), b3_5, b3_6, b3_7, b3_8, b3_9, b3_10, b3_11, b3_12, b3_13, b3_14, b3_15, b3_16)))
     else
      b (x11, x12, x13, x14, x15, x16)
noncomputable def L_bitmap_Draw_1 (fuel : Nat) (v : Int × Int × Int × Int × Int × Int × Int × (List Int) × Int × Int × (List Int) × Int × Int × Int × Int × (List Int) × (List Int)) (b : (Int × Int × Int × Int × (List Int) × (List Int) → Option Ans)) : Option Ans := iter (S_bitmap_Draw_1 fuel) fuel v b
noncomputable def J106_1 (fuel : Nat) (i : Nat) : Option Ev.Blk := Ev.look i [(100003, B106_3 fuel)]
noncomputable def T106_1 (v : Int × Int × Int × Int × Int × Int × Int × (List Int) × Int × Int × (List Int) × Int × Int × Int × Int × (List Int) × (List Int)) : Ev.St := match v with | (x0, x1, x2, x3, x4, x5, x6, x7, x8, x9, x10, x11, x12, x13, x14, x15, x16) => ⟨[(2, .c (.int .i64 x0)), (3, .c (.int .i64 x1)), (4, .c (.int .i64 x2)), (5, .c (.ptr 0 0)), (6, .c (.ptr 1 0)), (10, .c (.ptr 2 0)), (12, .c (.ptr 3 0)), (45, .c (.int .i64 x3)), (46, .c (.int .i64 x4))], [(0, .cells 51 [.int .i64 x5, .int .i64 x6, .sl (.int .u8) x7]), (1, .cells 51 [.int .i64 x8, .int .i64 x9, .sl (.int .u8) x10]), (2, .cells 51 [.int .i64 x11, .int .i64 x12, .own 4]), (3, .cells 51 [.int .i64 x13, .int .i64 x14, .own 5]), (4, .vec 5 (.int .u8) x15 true), (5, .vec 5 (.int .u8) x16 true)], 6, 0⟩
noncomputable def E106_1 (K : Ev.Ex → Ev.St → Option Ans) : (Int × Int × Int × Int × (List Int) × (List Int) → Option Ans) := (fun v => match v with | (x0, x1, x2, x3, x4, x5) => K .normal ⟨[(10, .c (.ptr 0 0)), (12, .c (.ptr 1 0))], [(0, .cells 51 [.int .i64 x0, .int .i64 x1, .own 2]), (1, .cells 51 [.int .i64 x2, .int .i64 x3, .own 3]), (2, .vec 5 (.int .u8) x4 true), (3, .vec 5 (.int .u8) x5 true)], 4, 0⟩)
theorem S106_1_okg (fuel : Nat) (f122 : YF122) (f196 : YF196) (f197 : YF197) (f198 : YF198) (f199 : YF199) (R : Ev.St → Option Ans) (K : Ev.Ex → Ev.St → Option Ans) (x0 : Int) (x1 : Int) (x2 : Int) (x3 : Int) (x4 : Int) (x5 : Int) (x6 : Int) (x7 : (List Int)) (x8 : Int) (x9 : Int) (x10 : (List Int)) (x11 : Int) (x12 : Int) (x13 : Int) (x14 : Int) (x15 : (List Int)) (x16 : (List Int)) : evalCode tab (Gg106 f122 f196 f197 f198 f199) (J106_1 fuel) kp106 fuel (bodyOf 1 Tryz.f106) (T106_1 (x0, x1, x2, x3, x4, x5, x6, x7, x8, x9, x10, x11, x12, x13, x14, x15, x16)) (lc kp106 7 1 R K) = (fun (c : (Int × Int × Int × Int × Int × Int × Int × (List Int) × Int × Int × (List Int) × Int × Int × Int × Int × (List Int) × (List Int)) → Option Ans) (B : (Int × Int × Int × Int × (List Int) × (List Int) → Option Ans)) => match B with
  | b =>
   bif Decidable.decide (x4 < x3) then
      (L_bitmap_Draw_3 fuel (x0, x1, x2, x4, x3, x4, x8, (0 : Int), x5, x6, x7, x8, x9, x10, x11, x12, x13, x14, x15, x16)
        (fun (b3_0, b3_1, b3_2, b3_3, b3_4, b3_5, b3_6, b3_7, b3_8, b3_9, b3_10, b3_11, b3_12, b3_13, b3_14, b3_15, b3_16) =>
          c (b3_0, b3_1, b3_2, b3_3, Go.IntKind.i64.wrap (b3_4 + (1 : Int)), b3_5, b3_6, b3_7, b3_8, b3_9, b3_10, b3_11, b3_12, b3_13, b3_14, b3_15, b3_16)))
     else
      b (x11, x12, x13, x14, x15, x16)) (fun v => R (T106_1 v)) (E106_1 K) := by
  kernel_rfl
theorem S106_1_ok (fuel : Nat) (R : Ev.St → Option Ans) (K : Ev.Ex → Ev.St → Option Ans) (x0 : Int) (x1 : Int) (x2 : Int) (x3 : Int) (x4 : Int) (x5 : Int) (x6 : Int) (x7 : (List Int)) (x8 : Int) (x9 : Int) (x10 : (List Int)) (x11 : Int) (x12 : Int) (x13 : Int) (x14 : Int) (x15 : (List Int)) (x16 : (List Int)) : evalCode tab (G106 fuel) (J106_1 fuel) kp106 fuel (bodyOf 1 Tryz.f106) (T106_1 (x0, x1, x2, x3, x4, x5, x6, x7, x8, x9, x10, x11, x12, x13, x14, x15, x16)) (lc kp106 7 1 R K) = S_bitmap_Draw_1 fuel (x0, x1, x2, x3, x4, x5, x6, x7, x8, x9, x10, x11, x12, x13, x14, x15, x16) (fun v => R (T106_1 v)) (E106_1 K) :=
  S106_1_okg fuel (F_bitmap_Valid fuel) (F_bitmap_isShift fuel) (F_bitmap_clone fuel) (F_bitmap_combine fuel) (F_bitmap_at fuel) R K x0 x1 x2 x3 x4 x5 x6 x7 x8 x9 x10 x11 x12 x13 x14 x15 x16
noncomputable def B106_1 (fuel : Nat) : Ev.Blk := fun st K => match canonO (kp106 7) st with
  | some s => (match s with
    | ⟨[(q0, .c (.int .i64 x0)), (q1, .c (.int .i64 x1)), (q2, .c (.int .i64 x2)), (q3, .c (.ptr q4 q5)), (q6, .c (.ptr q7 q8)), (q9, .c (.ptr q10 q11)), (q12, .c (.ptr q13 q14)), (q15, .c (.int .i64 x3)), (q16, .c (.int .i64 x4))], [(q17, .cells q18 [.int .i64 x5, .int .i64 x6, .sl (.int .u8) x7]), (q19, .cells q20 [.int .i64 x8, .int .i64 x9, .sl (.int .u8) x10]), (q21, .cells q22 [.int .i64 x11, .int .i64 x12, .own q23]), (q24, .cells q25 [.int .i64 x13, .int .i64 x14, .own q26]), (q27, .vec q28 (.int .u8) x15 true), (q29, .vec q30 (.int .u8) x16 true)], q31, q32⟩ => bif Nat.beq q0 2 && Nat.beq q1 3 && Nat.beq q2 4 && Nat.beq q3 5 && Nat.beq q4 0 && Nat.beq q5 0 && Nat.beq q6 6 && Nat.beq q7 1 && Nat.beq q8 0 && Nat.beq q9 10 && Nat.beq q10 2 && Nat.beq q11 0 && Nat.beq q12 12 && Nat.beq q13 3 && Nat.beq q14 0 && Nat.beq q15 45 && Nat.beq q16 46 && Nat.beq q17 0 && Nat.beq q18 51 && Nat.beq q19 1 && Nat.beq q20 51 && Nat.beq q21 2 && Nat.beq q22 51 && Nat.beq q23 4 && Nat.beq q24 3 && Nat.beq q25 51 && Nat.beq q26 5 && Nat.beq q27 4 && Nat.beq q28 5 && Nat.beq q29 5 && Nat.beq q30 5 && Nat.beq q31 6 && Nat.beq q32 0 then iter (S_bitmap_Draw_1 fuel) fuel (x0, x1, x2, x3, x4, x5, x6, x7, x8, x9, x10, x11, x12, x13, x14, x15, x16) (E106_1 K) else none
    | _ => none)
  | none => none
theorem B106_1_ok (fuel : Nat) (st : Ev.St) (K : Ev.Ex → Ev.St → Option Ans) (r : Ans) (h : B106_1 fuel st K = some r) : evalCode tab (G106 fuel) (J106_1 fuel) kp106 fuel (.block 1 (.loop (bodyOf 1 Tryz.f106))) st K = some r := by
  unfold B106_1 at h
  split at h
  · rename_i s hs
    split at h
    · skip
      obtain ⟨hb, h⟩ := cond_some' h
      simp only [Bool.and_eq_true, Nat.beq_eq, decide_eq_true_eq] at hb
      obtain ⟨⟨⟨⟨⟨⟨⟨⟨⟨⟨⟨⟨⟨⟨⟨⟨⟨⟨⟨⟨⟨⟨⟨⟨⟨⟨⟨⟨⟨⟨⟨⟨rfl, rfl⟩, rfl⟩, rfl⟩, rfl⟩, rfl⟩, rfl⟩, rfl⟩, rfl⟩, rfl⟩, rfl⟩, rfl⟩, rfl⟩, rfl⟩, rfl⟩, rfl⟩, rfl⟩, rfl⟩, rfl⟩, rfl⟩, rfl⟩, rfl⟩, rfl⟩, rfl⟩, rfl⟩, rfl⟩, rfl⟩, rfl⟩, rfl⟩, rfl⟩, rfl⟩, rfl⟩, rfl⟩ := hb
      exact blk_loop (S := T106_1) (ks := E106_1) (step := S_bitmap_Draw_1 fuel) (v := (_, _, _, _, _, _, _, _, _, _, _, _, _, _, _, _, _)) (by kernel_rfl) (by kernel_rfl) (fun R K v => by obtain ⟨x0, x1, x2, x3, x4, x5, x6, x7, x8, x9, x10, x11, x12, x13, x14, x15, x16⟩ := v; exact S106_1_ok fuel R K x0 x1 x2 x3 x4 x5 x6 x7 x8 x9 x10 x11 x12 x13 x14 x15 x16) hs h
    · cases h
  · cases h
noncomputable def J106 (fuel : Nat) (i : Nat) : Option Ev.Blk := Ev.look i [(100003, B106_3 fuel), (100001, B106_1 fuel)]
noncomputable def F_bitmap_Draw (fuel : Nat) (x0 : Int) (x1 : Int) (x2 : (List Int)) (x3 : Int) (x4 : Int) (x5 : (List Int)) (x6 : Int) (x7 : Int) (x8 : Int) (k0 : (Int × Int × Int × (List Int)) → Option Ans) : Option Ans :=
  (F_bitmap_Valid fuel (x0) (x1) (x2)
    (fun y2 =>
      bif !y2 then
       k0 ((0 : Int), (0 : Int), (30 : Int), [])
      else
       (F_bitmap_Valid fuel (x3) (x4) (x5)
         (fun y7 =>
           bif !y7 then
            k0 ((0 : Int), (0 : Int), (30 : Int), [])
           else
            bif Decidable.decide (x8 < (0 : Int)) then
             k0 ((0 : Int), (0 : Int), (2 : Int), [])
            else
             bif Decidable.decide (x8 > (4 : Int)) then
              k0 ((0 : Int), (0 : Int), (2 : Int), [])
             else
              (F_bitmap_isShift fuel (x6) (x7)
                (fun y14 =>
                  bif !y14 then
                   k0 ((0 : Int), (0 : Int), (2 : Int), [])
                  else
                   (F_bitmap_clone fuel (x0) (x1) (x2)
                     (fun (y19_0, y19_1, y19_2) =>
                       (L_bitmap_Draw_1 fuel (x6, x7, x8, x4, (0 : Int), x0, x1, x2, x3, x4, x5, (0 : Int), (0 : Int), y19_0, y19_1, [], y19_2)
                         (fun (b1_0, b1_1, b1_2, b1_3, b1_4, b1_5) =>
                           k0 (b1_2, b1_3, (0 : Int), b1_5)))))))))))
abbrev YF106 : Type := (Int) → (Int) → ((List Int)) → (Int) → (Int) → ((List Int)) → (Int) → (Int) → (Int) → ((Int × Int × Int × (List Int)) → Option Ans) → Option Ans
theorem F106_eqg (fuel : Nat) (f122 : YF122) (f196 : YF196) (f197 : YF197) (f198 : YF198) (f199 : YF199) (x0 : Int) (x1 : Int) (x2 : (List Int)) (x3 : Int) (x4 : Int) (x5 : (List Int)) (x6 : Int) (x7 : Int) (x8 : Int) (k : Ev.Cont) : evalFn tab (Gg106 f122 f196 f197 f198 f199) (J106 fuel) kp106 fuel Tryz.f106 [.agg [.int .i64 x0, .int .i64 x1, .sl (.int .u8) x2], .agg [.int .i64 x3, .int .i64 x4, .sl (.int .u8) x5], .c (.int .i64 x6), .c (.int .i64 x7), .c (.int .i64 x8)] [] k = (fun  (k0 : (Int × Int × Int × (List Int)) → Option Ans) =>
  (f122 (x0) (x1) (x2)
    (fun y2 =>
      bif !y2 then
       k0 ((0 : Int), (0 : Int), (30 : Int), [])
      else
       (f122 (x3) (x4) (x5)
         (fun y7 =>
           bif !y7 then
            k0 ((0 : Int), (0 : Int), (30 : Int), [])
           else
            bif Decidable.decide (x8 < (0 : Int)) then
             k0 ((0 : Int), (0 : Int), (2 : Int), [])
            else
             bif Decidable.decide (x8 > (4 : Int)) then
              k0 ((0 : Int), (0 : Int), (2 : Int), [])
             else
              (f196 (x6) (x7)
                (fun y14 =>
                  bif !y14 then
                   k0 ((0 : Int), (0 : Int), (2 : Int), [])
                  else
                   (f197 (x0) (x1) (x2)
                     (fun (y19_0, y19_1, y19_2) =>
                       (L_bitmap_Draw_1 fuel (x6, x7, x8, x4, (0 : Int), x0, x1, x2, x3, x4, x5, (0 : Int), (0 : Int), y19_0, y19_1, [], y19_2)
                         (fun (b1_0, b1_1, b1_2, b1_3, b1_4, b1_5) =>
                           k0 (b1_2, b1_3, (0 : Int), b1_5)))))))))))) (fun r => match r with | (r0, r1, r2, r3) => k (.tup [(true, [.int .i64 r0, .int .i64 r1, .own 0]), (false, [.int .i64 r2])], [.vec 5 (.int .u8) r3 true])) := by
  kernel_rfl
theorem F106_eq (fuel : Nat) (x0 : Int) (x1 : Int) (x2 : (List Int)) (x3 : Int) (x4 : Int) (x5 : (List Int)) (x6 : Int) (x7 : Int) (x8 : Int) (k : Ev.Cont) : evalFn tab (G106 fuel) (J106 fuel) kp106 fuel Tryz.f106 [.agg [.int .i64 x0, .int .i64 x1, .sl (.int .u8) x2], .agg [.int .i64 x3, .int .i64 x4, .sl (.int .u8) x5], .c (.int .i64 x6), .c (.int .i64 x7), .c (.int .i64 x8)] [] k = F_bitmap_Draw fuel x0 x1 x2 x3 x4 x5 x6 x7 x8 (fun r => match r with | (r0, r1, r2, r3) => k (.tup [(true, [.int .i64 r0, .int .i64 r1, .own 0]), (false, [.int .i64 r2])], [.vec 5 (.int .u8) r3 true])) :=
  F106_eqg fuel (F_bitmap_Valid fuel) (F_bitmap_isShift fuel) (F_bitmap_clone fuel) (F_bitmap_combine fuel) (F_bitmap_at fuel) x0 x1 x2 x3 x4 x5 x6 x7 x8 k
theorem hG106 (fuel : Nat) : GOK Tryz.prog (G106 fuel) :=
  gok_cons ⟨ok122 fuel, enters_of Tryz.func122 (by kernel_rfl) rfl⟩ <|
  gok_cons ⟨ok196 fuel, enters_of Tryz.func196 (by kernel_rfl) rfl⟩ <|
  gok_cons ⟨ok197 fuel, enters_of Tryz.func197 (by kernel_rfl) rfl⟩ <|
  gok_cons ⟨ok198 fuel, enters_of Tryz.func198 (by kernel_rfl) rfl⟩ <|
  gok_cons ⟨ok199 fuel, enters_of Tryz.func199 (by kernel_rfl) rfl⟩ <|
  gok_nil
theorem B106_3_blk (fuel : Nat) : BlkOK Tryz.prog Tryz.f106.ntmps (.block 3 (.loop (bodyOf 3 Tryz.f106))) (B106_3 fuel) :=
  blk_of (blk_of_code tab_ok (hG106 fuel) mixed (J := J106_3 fuel) (kp := kp106) (fuel := fuel) (by kernel_rfl) (fun q hq => by
    rw [(by kernel_rfl : obl (J106_3 fuel) (.block 3 (.loop (bodyOf 3 Tryz.f106))) = [])] at hq
    cases hq)) (B106_3_ok fuel)
theorem B106_1_blk (fuel : Nat) : BlkOK Tryz.prog Tryz.f106.ntmps (.block 1 (.loop (bodyOf 1 Tryz.f106))) (B106_1 fuel) :=
  blk_of (blk_of_code tab_ok (hG106 fuel) mixed (J := J106_1 fuel) (kp := kp106) (fuel := fuel) (by kernel_rfl) (fun q hq => by
    rw [(by kernel_rfl : obl (J106_1 fuel) (.block 1 (.loop (bodyOf 1 Tryz.f106))) = [(.block 3 (.loop (bodyOf 3 Tryz.f106)), B106_3 fuel)])] at hq
    simp only [List.mem_cons, List.not_mem_nil, or_false] at hq
    subst hq
    · exact B106_3_blk fuel)) (B106_1_ok fuel)
theorem fok106 (fuel : Nat) : FnOK Tryz.prog 106 (evalFn tab (G106 fuel) (J106 fuel) kp106 fuel Tryz.f106) :=
  fn_ok tab_ok (hG106 fuel) mixed Tryz.func106 (c := (Tryz.f106.body).getD .skip) rfl (fun q hq => by
    rw [(by kernel_rfl : obl (J106 fuel) ((Tryz.f106.body).getD .skip) = [(.block 1 (.loop (bodyOf 1 Tryz.f106)), B106_1 fuel)])] at hq
    simp only [List.mem_cons, List.not_mem_nil, or_false] at hq
    subst hq
    · exact B106_1_blk fuel)
noncomputable def mt106 : List Ev.SV → List Ev.Ob → Bool := fun args objs => match args, objs with
  | [.agg [.int .i64 _, .int .i64 _, .sl (.int .u8) _], .agg [.int .i64 _, .int .i64 _, .sl (.int .u8) _], .c (.int .i64 _), .c (.int .i64 _), .c (.int .i64 _)], [] => true
  | _, _ => false
noncomputable def spg106 (F : YF106) : Ev.Spec := fun args objs k => match args, objs with
  | [.agg [.int .i64 x0, .int .i64 x1, .sl (.int .u8) x2], .agg [.int .i64 x3, .int .i64 x4, .sl (.int .u8) x5], .c (.int .i64 x6), .c (.int .i64 x7), .c (.int .i64 x8)], [] => bif true then F x0 x1 x2 x3 x4 x5 x6 x7 x8 (fun r => match r with | (r0, r1, r2, r3) => k (.tup [(true, [.int .i64 r0, .int .i64 r1, .own 0]), (false, [.int .i64 r2])], [.vec 5 (.int .u8) r3 true])) else none
  | _, _ => none
noncomputable def spec106 (fuel : Nat) : Ev.Spec := spg106 (F_bitmap_Draw fuel)
theorem ok106 (fuel : Nat) : FnOK Tryz.prog 106 (spec106 fuel) := by
  intro args objs kk r h
  unfold spec106 spg106 at h
  split at h
  · skip
    obtain ⟨hb, h⟩ := cond_some' h
    simp only [Bool.and_eq_true, Nat.beq_eq, decide_eq_true_eq] at hb
    clear hb
    exact fok106 fuel _ _ kk r ((F106_eq fuel _ _ _ _ _ _ _ _ _ kk).trans h)
  · cases h
end Go.Proofs.YtipdidpalcmlhaaGreat

set_option linter.unusedVariables false
set_option linter.unusedSimpArgs false
set_option maxRecDepth 100000
set_option maxHeartbeats 2000000
namespace Go.Proofs.YtipdidpalcmlhaaGreat
open Go Ev
def kp195 (i : Nat) : Option (List Nat) := Ev.look i []
noncomputable def Gg195 (f212 : YF212) (f : Nat) : Option Ev.Spec := Ev.look f [(212, spg212 f212)]
noncomputable def G195 (fuel : Nat) : Nat → Option Ev.Spec := Gg195 (F_bitmap_fits fuel)
noncomputable def J195 (fuel : Nat) (i : Nat) : Option Ev.Blk := Ev.look i []
noncomputable def F_bitmap_blank (fuel : Nat) (x0 : Int) (x1 : Int) (k0 : (Int × Int × Int × (List Int)) → Option Ans) : Option Ans :=
  (F_bitmap_fits fuel (x0) (x1)
    (fun y2 =>
      bif !y2 then
       k0 ((0 : Int), (0 : Int), (4 : Int), [])
      else
       bif Decidable.decide ((0 : Int) ≤ Go.IntKind.i64.wrap (x0 * x1) ∧ Go.IntKind.i64.wrap (x0 * x1) = Go.IntKind.i64.wrap (x0 * x1) ∧ (↑(1 : Nat) : Int) * Go.IntKind.i64.wrap (x0 * x1) ≤ (281474976710656 : Int) ∧ Go.IntKind.i64.wrap (x0 * x1) ≤ (281474976710656 : Int)) then
       k0 (x0, x1, (0 : Int), List.replicate (Go.IntKind.i64.wrap (x0 * x1)).toNat (0 : Int))
       else none))
abbrev YF195 : Type := (Int) → (Int) → ((Int × Int × Int × (List Int)) → Option Ans) → Option Ans
theorem F195_eqg (fuel : Nat) (f212 : YF212) (x0 : Int) (x1 : Int) (k : Ev.Cont) : evalFn tab (Gg195 f212) (J195 fuel) kp195 fuel Tryz.f195 [.c (.int .i64 x0), .c (.int .i64 x1)] [] k = (fun  (k0 : (Int × Int × Int × (List Int)) → Option Ans) =>
  (f212 (x0) (x1)
    (fun y2 =>
      bif !y2 then
       k0 ((0 : Int), (0 : Int), (4 : Int), [])
      else
       bif Decidable.decide ((0 : Int) ≤ Go.IntKind.i64.wrap (x0 * x1) ∧ Go.IntKind.i64.wrap (x0 * x1) = Go.IntKind.i64.wrap (x0 * x1) ∧ (↑(1 : Nat) : Int) * Go.IntKind.i64.wrap (x0 * x1) ≤ (281474976710656 : Int) ∧ Go.IntKind.i64.wrap (x0 * x1) ≤ (281474976710656 : Int)) then
       k0 (x0, x1, (0 : Int), List.replicate (Go.IntKind.i64.wrap (x0 * x1)).toNat (0 : Int))
       else none))) (fun r => match r with | (r0, r1, r2, r3) => k (.tup [(true, [.int .i64 r0, .int .i64 r1, .own 0]), (false, [.int .i64 r2])], [.vec 5 (.int .u8) r3 true])) := by
  kernel_rfl
theorem F195_eq (fuel : Nat) (x0 : Int) (x1 : Int) (k : Ev.Cont) : evalFn tab (G195 fuel) (J195 fuel) kp195 fuel Tryz.f195 [.c (.int .i64 x0), .c (.int .i64 x1)] [] k = F_bitmap_blank fuel x0 x1 (fun r => match r with | (r0, r1, r2, r3) => k (.tup [(true, [.int .i64 r0, .int .i64 r1, .own 0]), (false, [.int .i64 r2])], [.vec 5 (.int .u8) r3 true])) :=
  F195_eqg fuel (F_bitmap_fits fuel) x0 x1 k
theorem hG195 (fuel : Nat) : GOK Tryz.prog (G195 fuel) :=
  gok_cons ⟨ok212 fuel, enters_of Tryz.func212 (by kernel_rfl) rfl⟩ <|
  gok_nil
theorem fok195 (fuel : Nat) : FnOK Tryz.prog 195 (evalFn tab (G195 fuel) (J195 fuel) kp195 fuel Tryz.f195) :=
  fn_ok tab_ok (hG195 fuel) mixed Tryz.func195 (c := (Tryz.f195.body).getD .skip) rfl (fun q hq => by
    rw [(by kernel_rfl : obl (J195 fuel) ((Tryz.f195.body).getD .skip) = [])] at hq
    cases hq)
noncomputable def mt195 : List Ev.SV → List Ev.Ob → Bool := fun args objs => match args, objs with
  | [.c (.int .i64 _), .c (.int .i64 _)], [] => true
  | _, _ => false
noncomputable def spg195 (F : YF195) : Ev.Spec := fun args objs k => match args, objs with
  | [.c (.int .i64 x0), .c (.int .i64 x1)], [] => bif true then F x0 x1 (fun r => match r with | (r0, r1, r2, r3) => k (.tup [(true, [.int .i64 r0, .int .i64 r1, .own 0]), (false, [.int .i64 r2])], [.vec 5 (.int .u8) r3 true])) else none
  | _, _ => none
noncomputable def spec195 (fuel : Nat) : Ev.Spec := spg195 (F_bitmap_blank fuel)
theorem ok195 (fuel : Nat) : FnOK Tryz.prog 195 (spec195 fuel) := by
  intro args objs kk r h
  unfold spec195 spg195 at h
  split at h
  · skip
    obtain ⟨hb, h⟩ := cond_some' h
    simp only [Bool.and_eq_true, Nat.beq_eq, decide_eq_true_eq] at hb
    clear hb
    exact fok195 fuel _ _ kk r ((F195_eq fuel _ _ kk).trans h)
  · cases h
end Go.Proofs.YtipdidpalcmlhaaGreat

set_option linter.unusedVariables false
set_option linter.unusedSimpArgs false
set_option maxRecDepth 100000
set_option maxHeartbeats 2000000
namespace Go.Proofs.YtipdidpalcmlhaaGreat
open Go Ev
def kp105 (i : Nat) : Option (List Nat) := Ev.look i [(5, [2, 6, 8, 9, 34, 35]), (100000, [6, 8, 9]), (400000, [6, 7])]
noncomputable def Gg105 (f195 : YF195) (f : Nat) : Option Ev.Spec := Ev.look f [(195, spg195 f195)]
noncomputable def G105 (fuel : Nat) : Nat → Option Ev.Spec := Gg105 (F_bitmap_blank fuel)
noncomputable def S_bitmap_New_0 (fuel : Nat) (v : Int × Int × Int × Int × Int × Int × Int × Int × (List Int) × (List Int)) (c : (Int × Int × Int × Int × Int × Int × Int × Int × (List Int) × (List Int)) → Option Ans) (B : (Int × Int × Int × Int × Int × (List Int) × (List Int) → Option Ans)) : Option Ans := match v, B with
  | (x0, x1, x2, x3, x4, x5, x6, x7, x8, x9), b =>
   bif Decidable.decide (x3 < x2) then
      bif Decidable.decide ((0 : Int) ≤ x3 ∧ x3 < (↑x9.length : Int)) then
      c (x0, x1, x2, Go.IntKind.i64.wrap (x3 + (1 : Int)), x4, x5, x6, x7, x8, x9.set x3.toNat (Go.IntKind.u8.wrap x0))
      else none
     else
      b (x1, x4, x5, x6, x7, x8, x9)
noncomputable def L_bitmap_New_0 (fuel : Nat) (v : Int × Int × Int × Int × Int × Int × Int × Int × (List Int) × (List Int)) (b : (Int × Int × Int × Int × Int × (List Int) × (List Int) → Option Ans)) : Option Ans := iter (S_bitmap_New_0 fuel) fuel v b
noncomputable def J105_0 (fuel : Nat) (i : Nat) : Option Ev.Blk := Ev.look i []
noncomputable def T105_0 (v : Int × Int × Int × Int × Int × Int × Int × Int × (List Int) × (List Int)) : Ev.St := match v with | (x0, x1, x2, x3, x4, x5, x6, x7, x8, x9) => ⟨[(2, .c (.int .i64 x0)), (6, .c (.ptr 0 0)), (8, .c (.ptr 1 0)), (9, .c (.int .i64 x1)), (34, .c (.int .i64 x2)), (35, .c (.int .i64 x3))], [(0, .cells 51 [.int .i64 x4, .int .i64 x5, .own 2]), (1, .cells 51 [.int .i64 x6, .int .i64 x7, .own 3]), (2, .vec 5 (.int .u8) x8 true), (3, .vec 5 (.int .u8) x9 true)], 4, 0⟩
noncomputable def E105_0 (K : Ev.Ex → Ev.St → Option Ans) : (Int × Int × Int × Int × Int × (List Int) × (List Int) → Option Ans) := (fun v => match v with | (x0, x1, x2, x3, x4, x5, x6) => K .normal ⟨[(6, .c (.ptr 0 0)), (8, .c (.ptr 1 0)), (9, .c (.int .i64 x0))], [(0, .cells 51 [.int .i64 x1, .int .i64 x2, .own 2]), (1, .cells 51 [.int .i64 x3, .int .i64 x4, .own 3]), (2, .vec 5 (.int .u8) x5 true), (3, .vec 5 (.int .u8) x6 true)], 4, 0⟩)
theorem S105_0_okg (fuel : Nat) (f195 : YF195) (R : Ev.St → Option Ans) (K : Ev.Ex → Ev.St → Option Ans) (x0 : Int) (x1 : Int) (x2 : Int) (x3 : Int) (x4 : Int) (x5 : Int) (x6 : Int) (x7 : Int) (x8 : (List Int)) (x9 : (List Int)) : evalCode tab (Gg105 f195) (J105_0 fuel) kp105 fuel (bodyOf 0 Tryz.f105) (T105_0 (x0, x1, x2, x3, x4, x5, x6, x7, x8, x9)) (lc kp105 5 0 R K) = (fun (c : (Int × Int × Int × Int × Int × Int × Int × Int × (List Int) × (List Int)) → Option Ans) (B : (Int × Int × Int × Int × Int × (List Int) × (List Int) → Option Ans)) => match B with
  | b =>
   bif Decidable.decide (x3 < x2) then
      bif Decidable.decide ((0 : Int) ≤ x3 ∧ x3 < (↑x9.length : Int)) then
      c (x0, x1, x2, Go.IntKind.i64.wrap (x3 + (1 : Int)), x4, x5, x6, x7, x8, x9.set x3.toNat (Go.IntKind.u8.wrap x0))
      else none
     else
      b (x1, x4, x5, x6, x7, x8, x9)) (fun v => R (T105_0 v)) (E105_0 K) := by
  kernel_rfl
theorem S105_0_ok (fuel : Nat) (R : Ev.St → Option Ans) (K : Ev.Ex → Ev.St → Option Ans) (x0 : Int) (x1 : Int) (x2 : Int) (x3 : Int) (x4 : Int) (x5 : Int) (x6 : Int) (x7 : Int) (x8 : (List Int)) (x9 : (List Int)) : evalCode tab (G105 fuel) (J105_0 fuel) kp105 fuel (bodyOf 0 Tryz.f105) (T105_0 (x0, x1, x2, x3, x4, x5, x6, x7, x8, x9)) (lc kp105 5 0 R K) = S_bitmap_New_0 fuel (x0, x1, x2, x3, x4, x5, x6, x7, x8, x9) (fun v => R (T105_0 v)) (E105_0 K) :=
  S105_0_okg fuel (F_bitmap_blank fuel) R K x0 x1 x2 x3 x4 x5 x6 x7 x8 x9
noncomputable def B105_0 (fuel : Nat) : Ev.Blk := fun st K => match canonO (kp105 5) st with
  | some s => (match s with
    | ⟨[(q0, .c (.int .i64 x0)), (q1, .c (.ptr q2 q3)), (q4, .c (.ptr q5 q6)), (q7, .c (.int .i64 x1)), (q8, .c (.int .i64 x2)), (q9, .c (.int .i64 x3))], [(q10, .cells q11 [.int .i64 x4, .int .i64 x5, .own q12]), (q13, .cells q14 [.int .i64 x6, .int .i64 x7, .own q15]), (q16, .vec q17 (.int .u8) x8 true), (q18, .vec q19 (.int .u8) x9 true)], q20, q21⟩ => bif Nat.beq q0 2 && Nat.beq q1 6 && Nat.beq q2 0 && Nat.beq q3 0 && Nat.beq q4 8 && Nat.beq q5 1 && Nat.beq q6 0 && Nat.beq q7 9 && Nat.beq q8 34 && Nat.beq q9 35 && Nat.beq q10 0 && Nat.beq q11 51 && Nat.beq q12 2 && Nat.beq q13 1 && Nat.beq q14 51 && Nat.beq q15 3 && Nat.beq q16 2 && Nat.beq q17 5 && Nat.beq q18 3 && Nat.beq q19 5 && Nat.beq q20 4 && Nat.beq q21 0 then iter (S_bitmap_New_0 fuel) fuel (x0, x1, x2, x3, x4, x5, x6, x7, x8, x9) (E105_0 K) else none
    | _ => none)
  | none => none
theorem B105_0_ok (fuel : Nat) (st : Ev.St) (K : Ev.Ex → Ev.St → Option Ans) (r : Ans) (h : B105_0 fuel st K = some r) : evalCode tab (G105 fuel) (J105_0 fuel) kp105 fuel (.block 0 (.loop (bodyOf 0 Tryz.f105))) st K = some r := by
  unfold B105_0 at h
  split at h
  · rename_i s hs
    split at h
    · skip
      obtain ⟨hb, h⟩ := cond_some' h
      simp only [Bool.and_eq_true, Nat.beq_eq, decide_eq_true_eq] at hb
      obtain ⟨⟨⟨⟨⟨⟨⟨⟨⟨⟨⟨⟨⟨⟨⟨⟨⟨⟨⟨⟨⟨rfl, rfl⟩, rfl⟩, rfl⟩, rfl⟩, rfl⟩, rfl⟩, rfl⟩, rfl⟩, rfl⟩, rfl⟩, rfl⟩, rfl⟩, rfl⟩, rfl⟩, rfl⟩, rfl⟩, rfl⟩, rfl⟩, rfl⟩, rfl⟩, rfl⟩ := hb
      exact blk_loop (S := T105_0) (ks := E105_0) (step := S_bitmap_New_0 fuel) (v := (_, _, _, _, _, _, _, _, _, _)) (by kernel_rfl) (by kernel_rfl) (fun R K v => by obtain ⟨x0, x1, x2, x3, x4, x5, x6, x7, x8, x9⟩ := v; exact S105_0_ok fuel R K x0 x1 x2 x3 x4 x5 x6 x7 x8 x9) hs h
    · cases h
  · cases h
noncomputable def J105 (fuel : Nat) (i : Nat) : Option Ev.Blk := Ev.look i [(100000, B105_0 fuel)]
noncomputable def F_bitmap_New (fuel : Nat) (x0 : Int) (x1 : Int) (x2 : Int) (k0 : (Int × Int × Int × (List Int)) → Option Ans) : Option Ans :=
  bif Decidable.decide (x0 < (0 : Int)) then
   k0 ((0 : Int), (0 : Int), (2 : Int), [])
  else
   bif Decidable.decide (x1 < (0 : Int)) then
    k0 ((0 : Int), (0 : Int), (2 : Int), [])
   else
    bif x2 != (0 : Int) then
     bif x2 != (1 : Int) then
      k0 ((0 : Int), (0 : Int), (2 : Int), [])
     else
      (F_bitmap_blank fuel (x0) (x1)
        (fun (y6_0, y6_1, y6_2, y6_3) =>
          (L_bitmap_New_0 fuel (x2, y6_2, (↑y6_3.length : Int), (0 : Int), (0 : Int), (0 : Int), y6_0, y6_1, [], y6_3)
            (fun (b0_0, b0_1, b0_2, b0_3, b0_4, b0_5, b0_6) =>
              k0 (b0_3, b0_4, b0_0, b0_6)))))
    else
     (F_bitmap_blank fuel (x0) (x1)
       (fun (y5_0, y5_1, y5_2, y5_3) =>
         (L_bitmap_New_0 fuel (x2, y5_2, (↑y5_3.length : Int), (0 : Int), (0 : Int), (0 : Int), y5_0, y5_1, [], y5_3)
           (fun (b0_0, b0_1, b0_2, b0_3, b0_4, b0_5, b0_6) =>
             k0 (b0_3, b0_4, b0_0, b0_6)))))
abbrev YF105 : Type := (Int) → (Int) → (Int) → ((Int × Int × Int × (List Int)) → Option Ans) → Option Ans
theorem F105_eqg (fuel : Nat) (f195 : YF195) (x0 : Int) (x1 : Int) (x2 : Int) (k : Ev.Cont) : evalFn tab (Gg105 f195) (J105 fuel) kp105 fuel Tryz.f105 [.c (.int .i64 x0), .c (.int .i64 x1), .c (.int .i64 x2)] [] k = (fun  (k0 : (Int × Int × Int × (List Int)) → Option Ans) =>
  bif Decidable.decide (x0 < (0 : Int)) then
   k0 ((0 : Int), (0 : Int), (2 : Int), [])
  else
   bif Decidable.decide (x1 < (0 : Int)) then
    k0 ((0 : Int), (0 : Int), (2 : Int), [])
   else
    bif x2 != (0 : Int) then
     bif x2 != (1 : Int) then
      k0 ((0 : Int), (0 : Int), (2 : Int), [])
     else
      (f195 (x0) (x1)
        (fun (y6_0, y6_1, y6_2, y6_3) =>
          (L_bitmap_New_0 fuel (x2, y6_2, (↑y6_3.length : Int), (0 : Int), (0 : Int), (0 : Int), y6_0, y6_1, [], y6_3)
            (fun (b0_0, b0_1, b0_2, b0_3, b0_4, b0_5, b0_6) =>
              k0 (b0_3, b0_4, b0_0, b0_6)))))
    else
     (f195 (x0) (x1)
       (fun (y5_0, y5_1, y5_2, y5_3) =>
         (L_bitmap_New_0 fuel (x2, y5_2, (↑y5_3.length : Int), (0 : Int), (0 : Int), (0 : Int), y5_0, y5_1, [], y5_3)
           (fun (b0_0, b0_1, b0_2, b0_3, b0_4, b0_5, b0_6) =>
             k0 (b0_3, b0_4, b0_0, b0_6)))))) (fun r => match r with | (r0, r1, r2, r3) => k (.tup [(true, [.int .i64 r0, .int .i64 r1, .own 0]), (false, [.int .i64 r2])], [.vec 5 (.int .u8) r3 true])) := by
  kernel_rfl
theorem F105_eq (fuel : Nat) (x0 : Int) (x1 : Int) (x2 : Int) (k : Ev.Cont) : evalFn tab (G105 fuel) (J105 fuel) kp105 fuel Tryz.f105 [.c (.int .i64 x0), .c (.int .i64 x1), .c (.int .i64 x2)] [] k = F_bitmap_New fuel x0 x1 x2 (fun r => match r with | (r0, r1, r2, r3) => k (.tup [(true, [.int .i64 r0, .int .i64 r1, .own 0]), (false, [.int .i64 r2])], [.vec 5 (.int .u8) r3 true])) :=
  F105_eqg fuel (F_bitmap_blank fuel) x0 x1 x2 k
theorem hG105 (fuel : Nat) : GOK Tryz.prog (G105 fuel) :=
  gok_cons ⟨ok195 fuel, enters_of Tryz.func195 (by kernel_rfl) rfl⟩ <|
  gok_nil
theorem B105_0_blk (fuel : Nat) : BlkOK Tryz.prog Tryz.f105.ntmps (.block 0 (.loop (bodyOf 0 Tryz.f105))) (B105_0 fuel) :=
  blk_of (blk_of_code tab_ok (hG105 fuel) mixed (J := J105_0 fuel) (kp := kp105) (fuel := fuel) (by kernel_rfl) (fun q hq => by
    rw [(by kernel_rfl : obl (J105_0 fuel) (.block 0 (.loop (bodyOf 0 Tryz.f105))) = [])] at hq
    cases hq)) (B105_0_ok fuel)
theorem fok105 (fuel : Nat) : FnOK Tryz.prog 105 (evalFn tab (G105 fuel) (J105 fuel) kp105 fuel Tryz.f105) :=
  fn_ok tab_ok (hG105 fuel) mixed Tryz.func105 (c := (Tryz.f105.body).getD .skip) rfl (fun q hq => by
    rw [(by kernel_rfl : obl (J105 fuel) ((Tryz.f105.body).getD .skip) = [(.block 0 (.loop (bodyOf 0 Tryz.f105)), B105_0 fuel)])] at hq
    simp only [List.mem_cons, List.not_mem_nil, or_false] at hq
    subst hq
    · exact B105_0_blk fuel)
noncomputable def mt105 : List Ev.SV → List Ev.Ob → Bool := fun args objs => match args, objs with
  | [.c (.int .i64 _), .c (.int .i64 _), .c (.int .i64 _)], [] => true
  | _, _ => false
noncomputable def spg105 (F : YF105) : Ev.Spec := fun args objs k => match args, objs with
  | [.c (.int .i64 x0), .c (.int .i64 x1), .c (.int .i64 x2)], [] => bif true then F x0 x1 x2 (fun r => match r with | (r0, r1, r2, r3) => k (.tup [(true, [.int .i64 r0, .int .i64 r1, .own 0]), (false, [.int .i64 r2])], [.vec 5 (.int .u8) r3 true])) else none
  | _, _ => none
noncomputable def spec105 (fuel : Nat) : Ev.Spec := spg105 (F_bitmap_New fuel)
theorem ok105 (fuel : Nat) : FnOK Tryz.prog 105 (spec105 fuel) := by
  intro args objs kk r h
  unfold spec105 spg105 at h
  split at h
  · skip
    obtain ⟨hb, h⟩ := cond_some' h
    simp only [Bool.and_eq_true, Nat.beq_eq, decide_eq_true_eq] at hb
    clear hb
    exact fok105 fuel _ _ kk r ((F105_eq fuel _ _ _ kk).trans h)
  · cases h
end Go.Proofs.YtipdidpalcmlhaaGreat

set_option linter.unusedVariables false
set_option linter.unusedSimpArgs false
set_option maxRecDepth 100000
set_option maxHeartbeats 2000000
namespace Go.Proofs.YtipdidpalcmlhaaGreat
open Go Ev
def kp107 (i : Nat) : Option (List Nat) := Ev.look i []
noncomputable def Gg107 (f : Nat) : Option Ev.Spec := Ev.look f []
noncomputable def G107 (fuel : Nat) : Nat → Option Ev.Spec := Gg107
noncomputable def J107 (fuel : Nat) (i : Nat) : Option Ev.Blk := Ev.look i []
noncomputable def F_text_drawn (fuel : Nat) (x0 : (List (Int × Int × (List Int)))) (x1 : Int) (x2 : Int) (x3 : Int) (x4 : Bool) (x5 : Int) (x6 : Int) (x7 : Int) (x8 : Int) (x9 : (List Int)) (k0 : (Int × Int × (List Int)) → Option Ans) : Option Ans :=
  bif x4 then
   k0 (x7, x8, x9)
  else
   bif Decidable.decide ((0 : Int) ≤ x1 ∧ x1 < (↑x0.length : Int)) then
   k0 ((x0.getD x1.toNat ((0 : Int), (0 : Int), [])).fst, (x0.getD x1.toNat ((0 : Int), (0 : Int), [])).snd.fst, (x0.getD x1.toNat ((0 : Int), (0 : Int), [])).snd.snd)
   else none
abbrev YF107 : Type := ((List (Int × Int × (List Int)))) → (Int) → (Int) → (Int) → (Bool) → (Int) → (Int) → (Int) → (Int) → ((List Int)) → ((Int × Int × (List Int)) → Option Ans) → Option Ans
theorem F107_eq (fuel : Nat) (x0 : (List (Int × Int × (List Int)))) (x1 : Int) (x2 : Int) (x3 : Int) (x4 : Bool) (x5 : Int) (x6 : Int) (x7 : Int) (x8 : Int) (x9 : (List Int)) (k : Ev.Cont) : evalFn tab (G107 fuel) (J107 fuel) kp107 fuel Tryz.f107 [.c (.sl (.pair (.int .i64) (.pair (.int .i64) (.sl (.int .u8)))) x0), .agg [.int .i64 x1, .int .i64 x2, .int .i64 x3, .bool x4, .int .i64 x5, .int .i64 x6, .int .i64 x7, .int .i64 x8, .sl (.int .u8) x9]] [] k = F_text_drawn fuel x0 x1 x2 x3 x4 x5 x6 x7 x8 x9 (fun r => match r with | (r0, r1, r2) => k (.agg [.int .i64 r0, .int .i64 r1, .sl (.int .u8) r2], [])) := by
  kernel_rfl
theorem hG107 (fuel : Nat) : GOK Tryz.prog (G107 fuel) :=
  gok_nil
theorem fok107 (fuel : Nat) : FnOK Tryz.prog 107 (evalFn tab (G107 fuel) (J107 fuel) kp107 fuel Tryz.f107) :=
  fn_ok tab_ok (hG107 fuel) mixed Tryz.func107 (c := (Tryz.f107.body).getD .skip) rfl (fun q hq => by
    rw [(by kernel_rfl : obl (J107 fuel) ((Tryz.f107.body).getD .skip) = [])] at hq
    cases hq)
noncomputable def mt107 : List Ev.SV → List Ev.Ob → Bool := fun args objs => match args, objs with
  | [.c (.sl (.pair (.int .i64) (.pair (.int .i64) (.sl (.int .u8)))) _), .agg [.int .i64 _, .int .i64 _, .int .i64 _, .bool _, .int .i64 _, .int .i64 _, .int .i64 _, .int .i64 _, .sl (.int .u8) _]], [] => true
  | _, _ => false
noncomputable def spg107 (F : YF107) : Ev.Spec := fun args objs k => match args, objs with
  | [.c (.sl (.pair (.int .i64) (.pair (.int .i64) (.sl (.int .u8)))) x0), .agg [.int .i64 x1, .int .i64 x2, .int .i64 x3, .bool x4, .int .i64 x5, .int .i64 x6, .int .i64 x7, .int .i64 x8, .sl (.int .u8) x9]], [] => bif true then F x0 x1 x2 x3 x4 x5 x6 x7 x8 x9 (fun r => match r with | (r0, r1, r2) => k (.agg [.int .i64 r0, .int .i64 r1, .sl (.int .u8) r2], [])) else none
  | _, _ => none
noncomputable def spec107 (fuel : Nat) : Ev.Spec := spg107 (F_text_drawn fuel)
theorem ok107 (fuel : Nat) : FnOK Tryz.prog 107 (spec107 fuel) := by
  intro args objs kk r h
  unfold spec107 spg107 at h
  split at h
  · skip
    obtain ⟨hb, h⟩ := cond_some' h
    simp only [Bool.and_eq_true, Nat.beq_eq, decide_eq_true_eq] at hb
    clear hb
    exact fok107 fuel _ _ kk r ((F107_eq fuel _ _ _ _ _ _ _ _ _ _ kk).trans h)
  · cases h
end Go.Proofs.YtipdidpalcmlhaaGreat

set_option linter.unusedVariables false
set_option linter.unusedSimpArgs false
set_option maxRecDepth 100000
set_option maxHeartbeats 2000000
namespace Go.Proofs.YtipdidpalcmlhaaGreat
open Go Ev
def kp99 (i : Nat) : Option (List Nat) := Ev.look i [(200001, [5]), (200004, [3, 5])]
noncomputable def Gg99 (f103 : YF103) (f107 : YF107) (f : Nat) : Option Ev.Spec := Ev.look f [(103, spg103 f103), (107, spg107 f107)]
noncomputable def G99 (fuel : Nat) : Nat → Option Ev.Spec := Gg99 (F_text_corner fuel) (F_text_drawn fuel)
noncomputable def J99 (fuel : Nat) (i : Nat) : Option Ev.Blk := Ev.look i []
noncomputable def F_text_place (fuel : Nat) (x0 : Int) (x1 : Int) (x2 : Bool) (x3 : Int) (x4 : Int) (x5 : Int) (x6 : Bool) (x7 : Int) (x8 : (List (Int × Int × (List Int)))) (x9 : Int) (x10 : Int) (x11 : Int) (x12 : Bool) (x13 : Int) (x14 : Int) (x15 : Int) (x16 : Int) (x17 : (List Int)) (k0 : (Int × Int) → Option Ans) : Option Ans :=
  bif x2 then
   (F_text_drawn fuel (x8) (x9) (x10) (x11) (x12) (x13) (x14) (x15) (x16) (x17)
     (fun (y3_0, y3_1, y3_2) =>
       (F_text_corner fuel (x0) (x1) (x2) (x3) (x4) (x5) (x6) (x7) (y3_0) (y3_1) (y3_2)
         (fun (y7_0, y7_1) =>
           k0 (Go.IntKind.i64.wrap (x11 - y7_0), Go.IntKind.i64.wrap (x10 - y7_1))))))
  else
   (F_text_drawn fuel (x8) (x9) (x10) (x11) (x12) (x13) (x14) (x15) (x16) (x17)
     (fun (y3_0, y3_1, y3_2) =>
       (F_text_corner fuel (x0) (x1) (x2) (x3) (x4) (x5) (x6) (x7) (y3_0) (y3_1) (y3_2)
         (fun (y7_0, y7_1) =>
           k0 (Go.IntKind.i64.wrap (x10 - y7_0), Go.IntKind.i64.wrap (x11 - y7_1))))))
abbrev YF99 : Type := (Int) → (Int) → (Bool) → (Int) → (Int) → (Int) → (Bool) → (Int) → ((List (Int × Int × (List Int)))) → (Int) → (Int) → (Int) → (Bool) → (Int) → (Int) → (Int) → (Int) → ((List Int)) → ((Int × Int) → Option Ans) → Option Ans
theorem F99_eqg (fuel : Nat) (f103 : YF103) (f107 : YF107) (x0 : Int) (x1 : Int) (x2 : Bool) (x3 : Int) (x4 : Int) (x5 : Int) (x6 : Bool) (x7 : Int) (x8 : (List (Int × Int × (List Int)))) (x9 : Int) (x10 : Int) (x11 : Int) (x12 : Bool) (x13 : Int) (x14 : Int) (x15 : Int) (x16 : Int) (x17 : (List Int)) (k : Ev.Cont) : evalFn tab (Gg99 f103 f107) (J99 fuel) kp99 fuel Tryz.f99 [.agg [.int .i64 x0, .int .i64 x1, .bool x2, .int .i64 x3, .int .i64 x4, .int .i64 x5, .bool x6, .int .i64 x7], .c (.sl (.pair (.int .i64) (.pair (.int .i64) (.sl (.int .u8)))) x8), .agg [.int .i64 x9, .int .i64 x10, .int .i64 x11, .bool x12, .int .i64 x13, .int .i64 x14, .int .i64 x15, .int .i64 x16, .sl (.int .u8) x17]] [] k = (fun  (k0 : (Int × Int) → Option Ans) =>
  bif x2 then
   (f107 (x8) (x9) (x10) (x11) (x12) (x13) (x14) (x15) (x16) (x17)
     (fun (y3_0, y3_1, y3_2) =>
       (f103 (x0) (x1) (x2) (x3) (x4) (x5) (x6) (x7) (y3_0) (y3_1) (y3_2)
         (fun (y7_0, y7_1) =>
           k0 (Go.IntKind.i64.wrap (x11 - y7_0), Go.IntKind.i64.wrap (x10 - y7_1))))))
  else
   (f107 (x8) (x9) (x10) (x11) (x12) (x13) (x14) (x15) (x16) (x17)
     (fun (y3_0, y3_1, y3_2) =>
       (f103 (x0) (x1) (x2) (x3) (x4) (x5) (x6) (x7) (y3_0) (y3_1) (y3_2)
         (fun (y7_0, y7_1) =>
           k0 (Go.IntKind.i64.wrap (x10 - y7_0), Go.IntKind.i64.wrap (x11 - y7_1))))))) (fun r => match r with | (r0, r1) => k (.tup [(false, [.int .i64 r0]), (false, [.int .i64 r1])], [])) := by
  kernel_rfl
theorem F99_eq (fuel : Nat) (x0 : Int) (x1 : Int) (x2 : Bool) (x3 : Int) (x4 : Int) (x5 : Int) (x6 : Bool) (x7 : Int) (x8 : (List (Int × Int × (List Int)))) (x9 : Int) (x10 : Int) (x11 : Int) (x12 : Bool) (x13 : Int) (x14 : Int) (x15 : Int) (x16 : Int) (x17 : (List Int)) (k : Ev.Cont) : evalFn tab (G99 fuel) (J99 fuel) kp99 fuel Tryz.f99 [.agg [.int .i64 x0, .int .i64 x1, .bool x2, .int .i64 x3, .int .i64 x4, .int .i64 x5, .bool x6, .int .i64 x7], .c (.sl (.pair (.int .i64) (.pair (.int .i64) (.sl (.int .u8)))) x8), .agg [.int .i64 x9, .int .i64 x10, .int .i64 x11, .bool x12, .int .i64 x13, .int .i64 x14, .int .i64 x15, .int .i64 x16, .sl (.int .u8) x17]] [] k = F_text_place fuel x0 x1 x2 x3 x4 x5 x6 x7 x8 x9 x10 x11 x12 x13 x14 x15 x16 x17 (fun r => match r with | (r0, r1) => k (.tup [(false, [.int .i64 r0]), (false, [.int .i64 r1])], [])) :=
  F99_eqg fuel (F_text_corner fuel) (F_text_drawn fuel) x0 x1 x2 x3 x4 x5 x6 x7 x8 x9 x10 x11 x12 x13 x14 x15 x16 x17 k
theorem hG99 (fuel : Nat) : GOK Tryz.prog (G99 fuel) :=
  gok_cons ⟨ok103 fuel, enters_of Tryz.func103 (by kernel_rfl) rfl⟩ <|
  gok_cons ⟨ok107 fuel, enters_of Tryz.func107 (by kernel_rfl) rfl⟩ <|
  gok_nil
theorem fok99 (fuel : Nat) : FnOK Tryz.prog 99 (evalFn tab (G99 fuel) (J99 fuel) kp99 fuel Tryz.f99) :=
  fn_ok tab_ok (hG99 fuel) mixed Tryz.func99 (c := (Tryz.f99.body).getD .skip) rfl (fun q hq => by
    rw [(by kernel_rfl : obl (J99 fuel) ((Tryz.f99.body).getD .skip) = [])] at hq
    cases hq)
noncomputable def mt99 : List Ev.SV → List Ev.Ob → Bool := fun args objs => match args, objs with
  | [.agg [.int .i64 _, .int .i64 _, .bool _, .int .i64 _, .int .i64 _, .int .i64 _, .bool _, .int .i64 _], .c (.sl (.pair (.int .i64) (.pair (.int .i64) (.sl (.int .u8)))) _), .agg [.int .i64 _, .int .i64 _, .int .i64 _, .bool _, .int .i64 _, .int .i64 _, .int .i64 _, .int .i64 _, .sl (.int .u8) _]], [] => true
  | _, _ => false
noncomputable def spg99 (F : YF99) : Ev.Spec := fun args objs k => match args, objs with
  | [.agg [.int .i64 x0, .int .i64 x1, .bool x2, .int .i64 x3, .int .i64 x4, .int .i64 x5, .bool x6, .int .i64 x7], .c (.sl (.pair (.int .i64) (.pair (.int .i64) (.sl (.int .u8)))) x8), .agg [.int .i64 x9, .int .i64 x10, .int .i64 x11, .bool x12, .int .i64 x13, .int .i64 x14, .int .i64 x15, .int .i64 x16, .sl (.int .u8) x17]], [] => bif true then F x0 x1 x2 x3 x4 x5 x6 x7 x8 x9 x10 x11 x12 x13 x14 x15 x16 x17 (fun r => match r with | (r0, r1) => k (.tup [(false, [.int .i64 r0]), (false, [.int .i64 r1])], [])) else none
  | _, _ => none
noncomputable def spec99 (fuel : Nat) : Ev.Spec := spg99 (F_text_place fuel)
theorem ok99 (fuel : Nat) : FnOK Tryz.prog 99 (spec99 fuel) := by
  intro args objs kk r h
  unfold spec99 spg99 at h
  split at h
  · skip
    obtain ⟨hb, h⟩ := cond_some' h
    simp only [Bool.and_eq_true, Nat.beq_eq, decide_eq_true_eq] at hb
    clear hb
    exact fok99 fuel _ _ kk r ((F99_eq fuel _ _ _ _ _ _ _ _ _ _ _ _ _ _ _ _ _ _ kk).trans h)
  · cases h
end Go.Proofs.YtipdidpalcmlhaaGreat

set_option linter.unusedVariables false
set_option linter.unusedSimpArgs false
set_option maxRecDepth 100000
set_option maxHeartbeats 2000000
namespace Go.Proofs.YtipdidpalcmlhaaGreat
open Go Ev
def kp164_e36 (i : Nat) : Option (List Nat) := Ev.look i []
noncomputable def Gg164_e36 (f104 : YF104) (f : Nat) : Option Ev.Spec := Ev.look f [(104, spg104 f104)]
noncomputable def G164_e36 (fuel : Nat) : Nat → Option Ev.Spec := Gg164_e36 (F_text_rightItem fuel)
noncomputable def J164_e36 (fuel : Nat) (i : Nat) : Option Ev.Blk := Ev.look i []
noncomputable def F_text_right_1_e36 (fuel : Nat) (x0 : Int) (x1 : Int) (x2 : Int) (x3 : Bool) (x4 : Int) (x5 : Int) (x6 : Int) (x7 : Int) (x8 : (List Int)) (x9 : Int) (x10 : Int) (x11 : Bool) (x12 : Int) (x13 : Int) (x14 : Int) (x15 : Bool) (x16 : Int) (x17 : Int) (k0 : (Bool × Int × Int × Bool × Int × Int × Int × Bool × Int × Int) → Option Ans) : Option Ans :=
  (F_text_rightItem fuel (x9) (x10) (x11) (x12) (x13) (x14) (x15) (x16) (x17) (x0) (x1) (x2) (x3) (x4) (x5) (x6) (x7) (x8)
    (fun y2 =>
      k0 (!y2, x9, x10, x11, x12, x13, x14, x15, x16, x17)))
abbrev YF164_e36 : Type := (Int) → (Int) → (Int) → (Bool) → (Int) → (Int) → (Int) → (Int) → ((List Int)) → (Int) → (Int) → (Bool) → (Int) → (Int) → (Int) → (Bool) → (Int) → (Int) → ((Bool × Int × Int × Bool × Int × Int × Int × Bool × Int × Int) → Option Ans) → Option Ans
theorem F164_e36_eqg (fuel : Nat) (f104 : YF104) (x0 : Int) (x1 : Int) (x2 : Int) (x3 : Bool) (x4 : Int) (x5 : Int) (x6 : Int) (x7 : Int) (x8 : (List Int)) (x9 : Int) (x10 : Int) (x11 : Bool) (x12 : Int) (x13 : Int) (x14 : Int) (x15 : Bool) (x16 : Int) (x17 : Int) (k : Ev.Cont) : evalFn tab (Gg164_e36 f104) (J164_e36 fuel) kp164_e36 fuel Tryz.f164 [.agg [.int .i64 x0, .int .i64 x1, .int .i64 x2, .bool x3, .int .i64 x4, .int .i64 x5, .int .i64 x6, .int .i64 x7, .sl (.int .u8) x8], .c (.ptr 0 0), .c (.ptr 1 0)] [.cells 40 [.int .i64 x9, .int .i64 x10, .bool x11, .int .i64 x12, .int .i64 x13, .int .i64 x14, .bool x15, .int .i64 x16], .cells 3 [.int .i64 x17]] k = (fun  (k0 : (Bool × Int × Int × Bool × Int × Int × Int × Bool × Int × Int) → Option Ans) =>
  (f104 (x9) (x10) (x11) (x12) (x13) (x14) (x15) (x16) (x17) (x0) (x1) (x2) (x3) (x4) (x5) (x6) (x7) (x8)
    (fun y2 =>
      k0 (!y2, x9, x10, x11, x12, x13, x14, x15, x16, x17)))) (fun r => match r with | (r0, r1, r2, r3, r4, r5, r6, r7, r8, r9) => k (.c (.bool r0), [.cells 40 [.int .i64 r1, .int .i64 r2, .bool r3, .int .i64 r4, .int .i64 r5, .int .i64 r6, .bool r7, .int .i64 r8], .cells 3 [.int .i64 r9]])) := by
  kernel_rfl
theorem F164_e36_eq (fuel : Nat) (x0 : Int) (x1 : Int) (x2 : Int) (x3 : Bool) (x4 : Int) (x5 : Int) (x6 : Int) (x7 : Int) (x8 : (List Int)) (x9 : Int) (x10 : Int) (x11 : Bool) (x12 : Int) (x13 : Int) (x14 : Int) (x15 : Bool) (x16 : Int) (x17 : Int) (k : Ev.Cont) : evalFn tab (G164_e36 fuel) (J164_e36 fuel) kp164_e36 fuel Tryz.f164 [.agg [.int .i64 x0, .int .i64 x1, .int .i64 x2, .bool x3, .int .i64 x4, .int .i64 x5, .int .i64 x6, .int .i64 x7, .sl (.int .u8) x8], .c (.ptr 0 0), .c (.ptr 1 0)] [.cells 40 [.int .i64 x9, .int .i64 x10, .bool x11, .int .i64 x12, .int .i64 x13, .int .i64 x14, .bool x15, .int .i64 x16], .cells 3 [.int .i64 x17]] k = F_text_right_1_e36 fuel x0 x1 x2 x3 x4 x5 x6 x7 x8 x9 x10 x11 x12 x13 x14 x15 x16 x17 (fun r => match r with | (r0, r1, r2, r3, r4, r5, r6, r7, r8, r9) => k (.c (.bool r0), [.cells 40 [.int .i64 r1, .int .i64 r2, .bool r3, .int .i64 r4, .int .i64 r5, .int .i64 r6, .bool r7, .int .i64 r8], .cells 3 [.int .i64 r9]])) :=
  F164_e36_eqg fuel (F_text_rightItem fuel) x0 x1 x2 x3 x4 x5 x6 x7 x8 x9 x10 x11 x12 x13 x14 x15 x16 x17 k
theorem hG164_e36 (fuel : Nat) : GOK Tryz.prog (G164_e36 fuel) :=
  gok_cons ⟨ok104 fuel, enters_of Tryz.func104 (by kernel_rfl) rfl⟩ <|
  gok_nil
theorem fok164_e36 (fuel : Nat) : FnOK Tryz.prog 164 (evalFn tab (G164_e36 fuel) (J164_e36 fuel) kp164_e36 fuel Tryz.f164) :=
  fn_ok tab_ok (hG164_e36 fuel) mixed Tryz.func164 (c := (Tryz.f164.body).getD .skip) rfl (fun q hq => by
    rw [(by kernel_rfl : obl (J164_e36 fuel) ((Tryz.f164.body).getD .skip) = [])] at hq
    cases hq)
noncomputable def mt164_e36 : List Ev.SV → List Ev.Ob → Bool := fun args objs => match args, objs with
  | [.agg [.int .i64 _, .int .i64 _, .int .i64 _, .bool _, .int .i64 _, .int .i64 _, .int .i64 _, .int .i64 _, .sl (.int .u8) _], .c (.ptr q0 q1), .c (.ptr q2 q3)], [.cells q4 [.int .i64 _, .int .i64 _, .bool _, .int .i64 _, .int .i64 _, .int .i64 _, .bool _, .int .i64 _], .cells q5 [.int .i64 _]] => Nat.beq q0 0 && Nat.beq q1 0 && Nat.beq q2 1 && Nat.beq q3 0 && Nat.beq q4 40 && Nat.beq q5 3
  | _, _ => false
noncomputable def spg164_e36 (F : YF164_e36) : Ev.Spec := fun args objs k => match args, objs with
  | [.agg [.int .i64 x0, .int .i64 x1, .int .i64 x2, .bool x3, .int .i64 x4, .int .i64 x5, .int .i64 x6, .int .i64 x7, .sl (.int .u8) x8], .c (.ptr q0 q1), .c (.ptr q2 q3)], [.cells q4 [.int .i64 x9, .int .i64 x10, .bool x11, .int .i64 x12, .int .i64 x13, .int .i64 x14, .bool x15, .int .i64 x16], .cells q5 [.int .i64 x17]] => bif Nat.beq q0 0 && Nat.beq q1 0 && Nat.beq q2 1 && Nat.beq q3 0 && Nat.beq q4 40 && Nat.beq q5 3 then F x0 x1 x2 x3 x4 x5 x6 x7 x8 x9 x10 x11 x12 x13 x14 x15 x16 x17 (fun r => match r with | (r0, r1, r2, r3, r4, r5, r6, r7, r8, r9) => k (.c (.bool r0), [.cells 40 [.int .i64 r1, .int .i64 r2, .bool r3, .int .i64 r4, .int .i64 r5, .int .i64 r6, .bool r7, .int .i64 r8], .cells 3 [.int .i64 r9]])) else none
  | _, _ => none
noncomputable def spec164_e36 (fuel : Nat) : Ev.Spec := spg164_e36 (F_text_right_1_e36 fuel)
theorem ok164_e36 (fuel : Nat) : FnOK Tryz.prog 164 (spec164_e36 fuel) := by
  intro args objs kk r h
  unfold spec164_e36 spg164_e36 at h
  split at h
  · skip
    obtain ⟨hb, h⟩ := cond_some' h
    simp only [Bool.and_eq_true, Nat.beq_eq, decide_eq_true_eq] at hb
    obtain ⟨⟨⟨⟨⟨rfl, rfl⟩, rfl⟩, rfl⟩, rfl⟩, rfl⟩ := hb
    exact fok164_e36 fuel _ _ kk r ((F164_e36_eq fuel _ _ _ _ _ _ _ _ _ _ _ _ _ _ _ _ _ _ kk).trans h)
  · cases h
end Go.Proofs.YtipdidpalcmlhaaGreat

set_option linter.unusedVariables false
set_option linter.unusedSimpArgs false
set_option maxRecDepth 100000
set_option maxHeartbeats 2000000
namespace Go.Proofs.YtipdidpalcmlhaaGreat
open Go Ev
def kp227_766 (i : Nat) : Option (List Nat) := Ev.look i [(2, [0, 1, 7, 8]), (100000, []), (400000, [4])]
noncomputable def Gg227_766 (f164_e36 : YF164_e36) (f : Nat) : Option Ev.Spec := Ev.look f [(164, spg164_e36 f164_e36)]
noncomputable def G227_766 (fuel : Nat) : Nat → Option Ev.Spec := Gg227_766 (F_text_right_1_e36 fuel)
noncomputable def S_slices_IndexFunc_api_Item_api_Item_766_0 (fuel : Nat) (v : (List (Int × (Int × (Int × (Bool × (Int × (Int × (Int × (Int × (List Int)))))))))) × Int × Int × Int × Int × Bool × Int × Int × Int × Bool × Int × Int) (c : ((List (Int × (Int × (Int × (Bool × (Int × (Int × (Int × (Int × (List Int)))))))))) × Int × Int × Int × Int × Bool × Int × Int × Int × Bool × Int × Int) → Option Ans) (B : (Int × Int × Int × Bool × Int × Int × Int × Bool × Int × Int → Option Ans) × (Int × Int × Bool × Int × Int × Int × Bool × Int × Int → Option Ans)) : Option Ans := match v, B with
  | (x0, x1, x2, x3, x4, x5, x6, x7, x8, x9, x10, x11), (ret, b) =>
   bif Decidable.decide (x2 < x1) then
      bif Decidable.decide ((0 : Int) ≤ x2 ∧ x2 < (↑x0.length : Int)) then
      (F_text_right_1_e36 fuel ((x0.getD x2.toNat ((0 : Int), (0 : Int), (0 : Int), Bool.false, (0 : Int), (0 : Int), (0 : Int), (0 : Int), [])).fst) ((x0.getD x2.toNat ((0 : Int), (0 : Int), (0 : Int), Bool.false, (0 : Int), (0 : Int), (0 : Int), (0 : Int), [])).snd.fst) ((x0.getD x2.toNat ((0 : Int), (0 : Int), (0 : Int), Bool.false, (0 : Int), (0 : Int), (0 : Int), (0 : Int), [])).snd.snd.fst) ((x0.getD x2.toNat ((0 : Int), (0 : Int), (0 : Int), Bool.false, (0 : Int), (0 : Int), (0 : Int), (0 : Int), [])).snd.snd.snd.fst) ((x0.getD x2.toNat ((0 : Int), (0 : Int), (0 : Int), Bool.false, (0 : Int), (0 : Int), (0 : Int), (0 : Int), [])).snd.snd.snd.snd.fst) ((x0.getD x2.toNat ((0 : Int), (0 : Int), (0 : Int), Bool.false, (0 : Int), (0 : Int), (0 : Int), (0 : Int), [])).snd.snd.snd.snd.snd.fst) ((x0.getD x2.toNat ((0 : Int), (0 : Int), (0 : Int), Bool.false, (0 : Int), (0 : Int), (0 : Int), (0 : Int), [])).snd.snd.snd.snd.snd.snd.fst) ((x0.getD x2.toNat ((0 : Int), (0 : Int), (0 : Int), Bool.false, (0 : Int), (0 : Int), (0 : Int), (0 : Int), [])).snd.snd.snd.snd.snd.snd.snd.fst) ((x0.getD x2.toNat ((0 : Int), (0 : Int), (0 : Int), Bool.false, (0 : Int), (0 : Int), (0 : Int), (0 : Int), [])).snd.snd.snd.snd.snd.snd.snd.snd) (x3) (x4) (x5) (x6) (x7) (x8) (x9) (x10) (x11)
         (fun (y4_0, y4_1, y4_2, y4_3, y4_4, y4_5, y4_6, y4_7, y4_8, y4_9) =>
           bif y4_0 then
            ret (x2, y4_1, y4_2, y4_3, y4_4, y4_5, y4_6, y4_7, y4_8, y4_9)
           else
            c (x0, x1, Go.IntKind.i64.wrap (x2 + (1 : Int)), y4_1, y4_2, y4_3, y4_4, y4_5, y4_6, y4_7, y4_8, y4_9)))
      else none
     else
      b (x3, x4, x5, x6, x7, x8, x9, x10, x11)
noncomputable def L_slices_IndexFunc_api_Item_api_Item_766_0 (fuel : Nat) (v : (List (Int × (Int × (Int × (Bool × (Int × (Int × (Int × (Int × (List Int)))))))))) × Int × Int × Int × Int × Bool × Int × Int × Int × Bool × Int × Int) (ret : (Int × Int × Int × Bool × Int × Int × Int × Bool × Int × Int → Option Ans)) (b : (Int × Int × Bool × Int × Int × Int × Bool × Int × Int → Option Ans)) : Option Ans := iter (S_slices_IndexFunc_api_Item_api_Item_766_0 fuel) fuel v (ret, b)
noncomputable def J227_766_0 (fuel : Nat) (i : Nat) : Option Ev.Blk := Ev.look i []
noncomputable def T227_766_0 (v : (List (Int × (Int × (Int × (Bool × (Int × (Int × (Int × (Int × (List Int)))))))))) × Int × Int × Int × Int × Bool × Int × Int × Int × Bool × Int × Int) : Ev.St := match v with | (x0, x1, x2, x3, x4, x5, x6, x7, x8, x9, x10, x11) => ⟨[(0, .c (.sl (.pair (.int .i64) (.pair (.int .i64) (.pair (.int .i64) (.pair .bool (.pair (.int .i64) (.pair (.int .i64) (.pair (.int .i64) (.pair (.int .i64) (.sl (.int .u8)))))))))) x0)), (1, .c (.clo 164 [0, 1])), (7, .c (.int .i64 x1)), (8, .c (.int .i64 x2))], [(0, .cells 40 [.int .i64 x3, .int .i64 x4, .bool x5, .int .i64 x6, .int .i64 x7, .int .i64 x8, .bool x9, .int .i64 x10]), (1, .cells 3 [.int .i64 x11])], 2, 2⟩
noncomputable def E227_766_0 (K : Ev.Ex → Ev.St → Option Ans) : (Int × Int × Int × Bool × Int × Int × Int × Bool × Int × Int → Option Ans) × (Int × Int × Bool × Int × Int × Int × Bool × Int × Int → Option Ans) := ((fun v => match v with | (x0, x1, x2, x3, x4, x5, x6, x7, x8, x9) => K .ret ⟨[(4, .c (.int .i64 x0))], [(0, .cells 40 [.int .i64 x1, .int .i64 x2, .bool x3, .int .i64 x4, .int .i64 x5, .int .i64 x6, .bool x7, .int .i64 x8]), (1, .cells 3 [.int .i64 x9])], 2, 2⟩), (fun v => match v with | (x0, x1, x2, x3, x4, x5, x6, x7, x8) => K .normal ⟨[], [(0, .cells 40 [.int .i64 x0, .int .i64 x1, .bool x2, .int .i64 x3, .int .i64 x4, .int .i64 x5, .bool x6, .int .i64 x7]), (1, .cells 3 [.int .i64 x8])], 2, 2⟩))
theorem S227_766_0_okg (fuel : Nat) (f164_e36 : YF164_e36) (R : Ev.St → Option Ans) (K : Ev.Ex → Ev.St → Option Ans) (x0 : (List (Int × (Int × (Int × (Bool × (Int × (Int × (Int × (Int × (List Int))))))))))) (x1 : Int) (x2 : Int) (x3 : Int) (x4 : Int) (x5 : Bool) (x6 : Int) (x7 : Int) (x8 : Int) (x9 : Bool) (x10 : Int) (x11 : Int) : evalCode tab (Gg227_766 f164_e36) (J227_766_0 fuel) kp227_766 fuel (bodyOf 0 Tryz.f227) (T227_766_0 (x0, x1, x2, x3, x4, x5, x6, x7, x8, x9, x10, x11)) (lc kp227_766 2 0 R K) = (fun (c : ((List (Int × (Int × (Int × (Bool × (Int × (Int × (Int × (Int × (List Int)))))))))) × Int × Int × Int × Int × Bool × Int × Int × Int × Bool × Int × Int) → Option Ans) (B : (Int × Int × Int × Bool × Int × Int × Int × Bool × Int × Int → Option Ans) × (Int × Int × Bool × Int × Int × Int × Bool × Int × Int → Option Ans)) => match B with
  | (ret, b) =>
   bif Decidable.decide (x2 < x1) then
      bif Decidable.decide ((0 : Int) ≤ x2 ∧ x2 < (↑x0.length : Int)) then
      (f164_e36 ((x0.getD x2.toNat ((0 : Int), (0 : Int), (0 : Int), Bool.false, (0 : Int), (0 : Int), (0 : Int), (0 : Int), [])).fst) ((x0.getD x2.toNat ((0 : Int), (0 : Int), (0 : Int), Bool.false, (0 : Int), (0 : Int), (0 : Int), (0 : Int), [])).snd.fst) ((x0.getD x2.toNat ((0 : Int), (0 : Int), (0 : Int), Bool.false, (0 : Int), (0 : Int), (0 : Int), (0 : Int), [])).snd.snd.fst) ((x0.getD x2.toNat ((0 : Int), (0 : Int), (0 : Int), Bool.false, (0 : Int), (0 : Int), (0 : Int), (0 : Int), [])).snd.snd.snd.fst) ((x0.getD x2.toNat ((0 : Int), (0 : Int), (0 : Int), Bool.false, (0 : Int), (0 : Int), (0 : Int), (0 : Int), [])).snd.snd.snd.snd.fst) ((x0.getD x2.toNat ((0 : Int), (0 : Int), (0 : Int), Bool.false, (0 : Int), (0 : Int), (0 : Int), (0 : Int), [])).snd.snd.snd.snd.snd.fst) ((x0.getD x2.toNat ((0 : Int), (0 : Int), (0 : Int), Bool.false, (0 : Int), (0 : Int), (0 : Int), (0 : Int), [])).snd.snd.snd.snd.snd.snd.fst) ((x0.getD x2.toNat ((0 : Int), (0 : Int), (0 : Int), Bool.false, (0 : Int), (0 : Int), (0 : Int), (0 : Int), [])).snd.snd.snd.snd.snd.snd.snd.fst) ((x0.getD x2.toNat ((0 : Int), (0 : Int), (0 : Int), Bool.false, (0 : Int), (0 : Int), (0 : Int), (0 : Int), [])).snd.snd.snd.snd.snd.snd.snd.snd) (x3) (x4) (x5) (x6) (x7) (x8) (x9) (x10) (x11)
         (fun (y4_0, y4_1, y4_2, y4_3, y4_4, y4_5, y4_6, y4_7, y4_8, y4_9) =>
           bif y4_0 then
            ret (x2, y4_1, y4_2, y4_3, y4_4, y4_5, y4_6, y4_7, y4_8, y4_9)
           else
            c (x0, x1, Go.IntKind.i64.wrap (x2 + (1 : Int)), y4_1, y4_2, y4_3, y4_4, y4_5, y4_6, y4_7, y4_8, y4_9)))
      else none
     else
      b (x3, x4, x5, x6, x7, x8, x9, x10, x11)) (fun v => R (T227_766_0 v)) (E227_766_0 K) := by
  kernel_rfl
theorem S227_766_0_ok (fuel : Nat) (R : Ev.St → Option Ans) (K : Ev.Ex → Ev.St → Option Ans) (x0 : (List (Int × (Int × (Int × (Bool × (Int × (Int × (Int × (Int × (List Int))))))))))) (x1 : Int) (x2 : Int) (x3 : Int) (x4 : Int) (x5 : Bool) (x6 : Int) (x7 : Int) (x8 : Int) (x9 : Bool) (x10 : Int) (x11 : Int) : evalCode tab (G227_766 fuel) (J227_766_0 fuel) kp227_766 fuel (bodyOf 0 Tryz.f227) (T227_766_0 (x0, x1, x2, x3, x4, x5, x6, x7, x8, x9, x10, x11)) (lc kp227_766 2 0 R K) = S_slices_IndexFunc_api_Item_api_Item_766_0 fuel (x0, x1, x2, x3, x4, x5, x6, x7, x8, x9, x10, x11) (fun v => R (T227_766_0 v)) (E227_766_0 K) :=
  S227_766_0_okg fuel (F_text_right_1_e36 fuel) R K x0 x1 x2 x3 x4 x5 x6 x7 x8 x9 x10 x11
noncomputable def B227_766_0 (fuel : Nat) : Ev.Blk := fun st K => match canonO (kp227_766 2) st with
  | some s => (match s with
    | ⟨[(q0, .c (.sl (.pair (.int .i64) (.pair (.int .i64) (.pair (.int .i64) (.pair .bool (.pair (.int .i64) (.pair (.int .i64) (.pair (.int .i64) (.pair (.int .i64) (.sl (.int .u8)))))))))) x0)), (q1, .c (.clo q2 [q3, q4])), (q5, .c (.int .i64 x1)), (q6, .c (.int .i64 x2))], [(q7, .cells q8 [.int .i64 x3, .int .i64 x4, .bool x5, .int .i64 x6, .int .i64 x7, .int .i64 x8, .bool x9, .int .i64 x10]), (q9, .cells q10 [.int .i64 x11])], q11, q12⟩ => bif Nat.beq q0 0 && Nat.beq q1 1 && Nat.beq q2 164 && Nat.beq q3 0 && Nat.beq q4 1 && Nat.beq q5 7 && Nat.beq q6 8 && Nat.beq q7 0 && Nat.beq q8 40 && Nat.beq q9 1 && Nat.beq q10 3 && Nat.beq q11 2 && Nat.beq q12 2 then iter (S_slices_IndexFunc_api_Item_api_Item_766_0 fuel) fuel (x0, x1, x2, x3, x4, x5, x6, x7, x8, x9, x10, x11) (E227_766_0 K) else none
    | _ => none)
  | none => none
theorem B227_766_0_ok (fuel : Nat) (st : Ev.St) (K : Ev.Ex → Ev.St → Option Ans) (r : Ans) (h : B227_766_0 fuel st K = some r) : evalCode tab (G227_766 fuel) (J227_766_0 fuel) kp227_766 fuel (.block 0 (.loop (bodyOf 0 Tryz.f227))) st K = some r := by
  unfold B227_766_0 at h
  split at h
  · rename_i s hs
    split at h
    · skip
      obtain ⟨hb, h⟩ := cond_some' h
      simp only [Bool.and_eq_true, Nat.beq_eq, decide_eq_true_eq] at hb
      obtain ⟨⟨⟨⟨⟨⟨⟨⟨⟨⟨⟨⟨rfl, rfl⟩, rfl⟩, rfl⟩, rfl⟩, rfl⟩, rfl⟩, rfl⟩, rfl⟩, rfl⟩, rfl⟩, rfl⟩, rfl⟩ := hb
      exact blk_loop (S := T227_766_0) (ks := E227_766_0) (step := S_slices_IndexFunc_api_Item_api_Item_766_0 fuel) (v := (_, _, _, _, _, _, _, _, _, _, _, _)) (by kernel_rfl) (by kernel_rfl) (fun R K v => by obtain ⟨x0, x1, x2, x3, x4, x5, x6, x7, x8, x9, x10, x11⟩ := v; exact S227_766_0_ok fuel R K x0 x1 x2 x3 x4 x5 x6 x7 x8 x9 x10 x11) hs h
    · cases h
  · cases h
noncomputable def J227_766 (fuel : Nat) (i : Nat) : Option Ev.Blk := Ev.look i [(100000, B227_766_0 fuel)]
noncomputable def F_slices_IndexFunc_api_Item_api_Item_766 (fuel : Nat) (x0 : (List (Int × (Int × (Int × (Bool × (Int × (Int × (Int × (Int × (List Int))))))))))) (x1 : Int) (x2 : Int) (x3 : Bool) (x4 : Int) (x5 : Int) (x6 : Int) (x7 : Bool) (x8 : Int) (x9 : Int) (k0 : (Int × Int × Int × Bool × Int × Int × Int × Bool × Int × Int) → Option Ans) : Option Ans :=
  (L_slices_IndexFunc_api_Item_api_Item_766_0 fuel (x0, (↑x0.length : Int), (0 : Int), x1, x2, x3, x4, x5, x6, x7, x8, x9)
    (fun (ret0_0, ret0_1, ret0_2, ret0_3, ret0_4, ret0_5, ret0_6, ret0_7, ret0_8, ret0_9) =>
      k0 (ret0_0, ret0_1, ret0_2, ret0_3, ret0_4, ret0_5, ret0_6, ret0_7, ret0_8, ret0_9))
    (fun (b0_0, b0_1, b0_2, b0_3, b0_4, b0_5, b0_6, b0_7, b0_8) =>
      k0 ((-1 : Int), b0_0, b0_1, b0_2, b0_3, b0_4, b0_5, b0_6, b0_7, b0_8)))
abbrev YF227_766 : Type := ((List (Int × (Int × (Int × (Bool × (Int × (Int × (Int × (Int × (List Int))))))))))) → (Int) → (Int) → (Bool) → (Int) → (Int) → (Int) → (Bool) → (Int) → (Int) → ((Int × Int × Int × Bool × Int × Int × Int × Bool × Int × Int) → Option Ans) → Option Ans
theorem F227_766_eqg (fuel : Nat) (f164_e36 : YF164_e36) (x0 : (List (Int × (Int × (Int × (Bool × (Int × (Int × (Int × (Int × (List Int))))))))))) (x1 : Int) (x2 : Int) (x3 : Bool) (x4 : Int) (x5 : Int) (x6 : Int) (x7 : Bool) (x8 : Int) (x9 : Int) (k : Ev.Cont) : evalFn tab (Gg227_766 f164_e36) (J227_766 fuel) kp227_766 fuel Tryz.f227 [.c (.sl (.pair (.int .i64) (.pair (.int .i64) (.pair (.int .i64) (.pair .bool (.pair (.int .i64) (.pair (.int .i64) (.pair (.int .i64) (.pair (.int .i64) (.sl (.int .u8)))))))))) x0), .c (.clo 164 [0, 1])] [.cells 40 [.int .i64 x1, .int .i64 x2, .bool x3, .int .i64 x4, .int .i64 x5, .int .i64 x6, .bool x7, .int .i64 x8], .cells 3 [.int .i64 x9]] k = (fun  (k0 : (Int × Int × Int × Bool × Int × Int × Int × Bool × Int × Int) → Option Ans) =>
  (L_slices_IndexFunc_api_Item_api_Item_766_0 fuel (x0, (↑x0.length : Int), (0 : Int), x1, x2, x3, x4, x5, x6, x7, x8, x9)
    (fun (ret0_0, ret0_1, ret0_2, ret0_3, ret0_4, ret0_5, ret0_6, ret0_7, ret0_8, ret0_9) =>
      k0 (ret0_0, ret0_1, ret0_2, ret0_3, ret0_4, ret0_5, ret0_6, ret0_7, ret0_8, ret0_9))
    (fun (b0_0, b0_1, b0_2, b0_3, b0_4, b0_5, b0_6, b0_7, b0_8) =>
      k0 ((-1 : Int), b0_0, b0_1, b0_2, b0_3, b0_4, b0_5, b0_6, b0_7, b0_8)))) (fun r => match r with | (r0, r1, r2, r3, r4, r5, r6, r7, r8, r9) => k (.c (.int .i64 r0), [.cells 40 [.int .i64 r1, .int .i64 r2, .bool r3, .int .i64 r4, .int .i64 r5, .int .i64 r6, .bool r7, .int .i64 r8], .cells 3 [.int .i64 r9]])) := by
  kernel_rfl
theorem F227_766_eq (fuel : Nat) (x0 : (List (Int × (Int × (Int × (Bool × (Int × (Int × (Int × (Int × (List Int))))))))))) (x1 : Int) (x2 : Int) (x3 : Bool) (x4 : Int) (x5 : Int) (x6 : Int) (x7 : Bool) (x8 : Int) (x9 : Int) (k : Ev.Cont) : evalFn tab (G227_766 fuel) (J227_766 fuel) kp227_766 fuel Tryz.f227 [.c (.sl (.pair (.int .i64) (.pair (.int .i64) (.pair (.int .i64) (.pair .bool (.pair (.int .i64) (.pair (.int .i64) (.pair (.int .i64) (.pair (.int .i64) (.sl (.int .u8)))))))))) x0), .c (.clo 164 [0, 1])] [.cells 40 [.int .i64 x1, .int .i64 x2, .bool x3, .int .i64 x4, .int .i64 x5, .int .i64 x6, .bool x7, .int .i64 x8], .cells 3 [.int .i64 x9]] k = F_slices_IndexFunc_api_Item_api_Item_766 fuel x0 x1 x2 x3 x4 x5 x6 x7 x8 x9 (fun r => match r with | (r0, r1, r2, r3, r4, r5, r6, r7, r8, r9) => k (.c (.int .i64 r0), [.cells 40 [.int .i64 r1, .int .i64 r2, .bool r3, .int .i64 r4, .int .i64 r5, .int .i64 r6, .bool r7, .int .i64 r8], .cells 3 [.int .i64 r9]])) :=
  F227_766_eqg fuel (F_text_right_1_e36 fuel) x0 x1 x2 x3 x4 x5 x6 x7 x8 x9 k
theorem hG227_766 (fuel : Nat) : GOK Tryz.prog (G227_766 fuel) :=
  gok_cons ⟨ok164_e36 fuel, enters_of Tryz.func164 (by kernel_rfl) rfl⟩ <|
  gok_nil
theorem B227_766_0_blk (fuel : Nat) : BlkOK Tryz.prog Tryz.f227.ntmps (.block 0 (.loop (bodyOf 0 Tryz.f227))) (B227_766_0 fuel) :=
  blk_of (blk_of_code tab_ok (hG227_766 fuel) mixed (J := J227_766_0 fuel) (kp := kp227_766) (fuel := fuel) (by kernel_rfl) (fun q hq => by
    rw [(by kernel_rfl : obl (J227_766_0 fuel) (.block 0 (.loop (bodyOf 0 Tryz.f227))) = [])] at hq
    cases hq)) (B227_766_0_ok fuel)
theorem fok227_766 (fuel : Nat) : FnOK Tryz.prog 227 (evalFn tab (G227_766 fuel) (J227_766 fuel) kp227_766 fuel Tryz.f227) :=
  fn_ok tab_ok (hG227_766 fuel) mixed Tryz.func227 (c := (Tryz.f227.body).getD .skip) rfl (fun q hq => by
    rw [(by kernel_rfl : obl (J227_766 fuel) ((Tryz.f227.body).getD .skip) = [(.block 0 (.loop (bodyOf 0 Tryz.f227)), B227_766_0 fuel)])] at hq
    simp only [List.mem_cons, List.not_mem_nil, or_false] at hq
    subst hq
    · exact B227_766_0_blk fuel)
noncomputable def mt227_766 : List Ev.SV → List Ev.Ob → Bool := fun args objs => match args, objs with
  | [.c (.sl (.pair (.int .i64) (.pair (.int .i64) (.pair (.int .i64) (.pair .bool (.pair (.int .i64) (.pair (.int .i64) (.pair (.int .i64) (.pair (.int .i64) (.sl (.int .u8)))))))))) _), .c (.clo q0 [q1, q2])], [.cells q3 [.int .i64 _, .int .i64 _, .bool _, .int .i64 _, .int .i64 _, .int .i64 _, .bool _, .int .i64 _], .cells q4 [.int .i64 _]] => Nat.beq q0 164 && Nat.beq q1 0 && Nat.beq q2 1 && Nat.beq q3 40 && Nat.beq q4 3
  | _, _ => false
noncomputable def spg227_766 (F : YF227_766) : Ev.Spec := fun args objs k => match args, objs with
  | [.c (.sl (.pair (.int .i64) (.pair (.int .i64) (.pair (.int .i64) (.pair .bool (.pair (.int .i64) (.pair (.int .i64) (.pair (.int .i64) (.pair (.int .i64) (.sl (.int .u8)))))))))) x0), .c (.clo q0 [q1, q2])], [.cells q3 [.int .i64 x1, .int .i64 x2, .bool x3, .int .i64 x4, .int .i64 x5, .int .i64 x6, .bool x7, .int .i64 x8], .cells q4 [.int .i64 x9]] => bif Nat.beq q0 164 && Nat.beq q1 0 && Nat.beq q2 1 && Nat.beq q3 40 && Nat.beq q4 3 then F x0 x1 x2 x3 x4 x5 x6 x7 x8 x9 (fun r => match r with | (r0, r1, r2, r3, r4, r5, r6, r7, r8, r9) => k (.c (.int .i64 r0), [.cells 40 [.int .i64 r1, .int .i64 r2, .bool r3, .int .i64 r4, .int .i64 r5, .int .i64 r6, .bool r7, .int .i64 r8], .cells 3 [.int .i64 r9]])) else none
  | _, _ => none
noncomputable def spec227_766 (fuel : Nat) : Ev.Spec := spg227_766 (F_slices_IndexFunc_api_Item_api_Item_766 fuel)
theorem ok227_766 (fuel : Nat) : FnOK Tryz.prog 227 (spec227_766 fuel) := by
  intro args objs kk r h
  unfold spec227_766 spg227_766 at h
  split at h
  · skip
    obtain ⟨hb, h⟩ := cond_some' h
    simp only [Bool.and_eq_true, Nat.beq_eq, decide_eq_true_eq] at hb
    obtain ⟨⟨⟨⟨rfl, rfl⟩, rfl⟩, rfl⟩, rfl⟩ := hb
    exact fok227_766 fuel _ _ kk r ((F227_766_eq fuel _ _ _ _ _ _ _ _ _ _ kk).trans h)
  · cases h
end Go.Proofs.YtipdidpalcmlhaaGreat

set_option linter.unusedVariables false
set_option linter.unusedSimpArgs false
set_option maxRecDepth 100000
set_option maxHeartbeats 2000000
namespace Go.Proofs.YtipdidpalcmlhaaGreat
open Go Ev
def kp161_766 (i : Nat) : Option (List Nat) := Ev.look i []
noncomputable def Gg161_766 (f227_766 : YF227_766) (f : Nat) : Option Ev.Spec := Ev.look f [(227, spg227_766 f227_766)]
noncomputable def G161_766 (fuel : Nat) : Nat → Option Ev.Spec := Gg161_766 (F_slices_IndexFunc_api_Item_api_Item_766 fuel)
noncomputable def J161_766 (fuel : Nat) (i : Nat) : Option Ev.Blk := Ev.look i []
noncomputable def F_slices_ContainsFunc_api_Item_api_Item_766 (fuel : Nat) (x0 : (List (Int × (Int × (Int × (Bool × (Int × (Int × (Int × (Int × (List Int))))))))))) (x1 : Int) (x2 : Int) (x3 : Bool) (x4 : Int) (x5 : Int) (x6 : Int) (x7 : Bool) (x8 : Int) (x9 : Int) (k0 : (Bool × Int × Int × Bool × Int × Int × Int × Bool × Int × Int) → Option Ans) : Option Ans :=
  (F_slices_IndexFunc_api_Item_api_Item_766 fuel (x0) (x1) (x2) (x3) (x4) (x5) (x6) (x7) (x8) (x9)
    (fun (y2_0, y2_1, y2_2, y2_3, y2_4, y2_5, y2_6, y2_7, y2_8, y2_9) =>
      k0 (Decidable.decide (y2_0 ≥ (0 : Int)), y2_1, y2_2, y2_3, y2_4, y2_5, y2_6, y2_7, y2_8, y2_9)))
abbrev YF161_766 : Type := ((List (Int × (Int × (Int × (Bool × (Int × (Int × (Int × (Int × (List Int))))))))))) → (Int) → (Int) → (Bool) → (Int) → (Int) → (Int) → (Bool) → (Int) → (Int) → ((Bool × Int × Int × Bool × Int × Int × Int × Bool × Int × Int) → Option Ans) → Option Ans
theorem F161_766_eqg (fuel : Nat) (f227_766 : YF227_766) (x0 : (List (Int × (Int × (Int × (Bool × (Int × (Int × (Int × (Int × (List Int))))))))))) (x1 : Int) (x2 : Int) (x3 : Bool) (x4 : Int) (x5 : Int) (x6 : Int) (x7 : Bool) (x8 : Int) (x9 : Int) (k : Ev.Cont) : evalFn tab (Gg161_766 f227_766) (J161_766 fuel) kp161_766 fuel Tryz.f161 [.c (.sl (.pair (.int .i64) (.pair (.int .i64) (.pair (.int .i64) (.pair .bool (.pair (.int .i64) (.pair (.int .i64) (.pair (.int .i64) (.pair (.int .i64) (.sl (.int .u8)))))))))) x0), .c (.clo 164 [0, 1])] [.cells 40 [.int .i64 x1, .int .i64 x2, .bool x3, .int .i64 x4, .int .i64 x5, .int .i64 x6, .bool x7, .int .i64 x8], .cells 3 [.int .i64 x9]] k = (fun  (k0 : (Bool × Int × Int × Bool × Int × Int × Int × Bool × Int × Int) → Option Ans) =>
  (f227_766 (x0) (x1) (x2) (x3) (x4) (x5) (x6) (x7) (x8) (x9)
    (fun (y2_0, y2_1, y2_2, y2_3, y2_4, y2_5, y2_6, y2_7, y2_8, y2_9) =>
      k0 (Decidable.decide (y2_0 ≥ (0 : Int)), y2_1, y2_2, y2_3, y2_4, y2_5, y2_6, y2_7, y2_8, y2_9)))) (fun r => match r with | (r0, r1, r2, r3, r4, r5, r6, r7, r8, r9) => k (.c (.bool r0), [.cells 40 [.int .i64 r1, .int .i64 r2, .bool r3, .int .i64 r4, .int .i64 r5, .int .i64 r6, .bool r7, .int .i64 r8], .cells 3 [.int .i64 r9]])) := by
  kernel_rfl
theorem F161_766_eq (fuel : Nat) (x0 : (List (Int × (Int × (Int × (Bool × (Int × (Int × (Int × (Int × (List Int))))))))))) (x1 : Int) (x2 : Int) (x3 : Bool) (x4 : Int) (x5 : Int) (x6 : Int) (x7 : Bool) (x8 : Int) (x9 : Int) (k : Ev.Cont) : evalFn tab (G161_766 fuel) (J161_766 fuel) kp161_766 fuel Tryz.f161 [.c (.sl (.pair (.int .i64) (.pair (.int .i64) (.pair (.int .i64) (.pair .bool (.pair (.int .i64) (.pair (.int .i64) (.pair (.int .i64) (.pair (.int .i64) (.sl (.int .u8)))))))))) x0), .c (.clo 164 [0, 1])] [.cells 40 [.int .i64 x1, .int .i64 x2, .bool x3, .int .i64 x4, .int .i64 x5, .int .i64 x6, .bool x7, .int .i64 x8], .cells 3 [.int .i64 x9]] k = F_slices_ContainsFunc_api_Item_api_Item_766 fuel x0 x1 x2 x3 x4 x5 x6 x7 x8 x9 (fun r => match r with | (r0, r1, r2, r3, r4, r5, r6, r7, r8, r9) => k (.c (.bool r0), [.cells 40 [.int .i64 r1, .int .i64 r2, .bool r3, .int .i64 r4, .int .i64 r5, .int .i64 r6, .bool r7, .int .i64 r8], .cells 3 [.int .i64 r9]])) :=
  F161_766_eqg fuel (F_slices_IndexFunc_api_Item_api_Item_766 fuel) x0 x1 x2 x3 x4 x5 x6 x7 x8 x9 k
theorem hG161_766 (fuel : Nat) : GOK Tryz.prog (G161_766 fuel) :=
  gok_cons ⟨ok227_766 fuel, enters_of Tryz.func227 (by kernel_rfl) rfl⟩ <|
  gok_nil
theorem fok161_766 (fuel : Nat) : FnOK Tryz.prog 161 (evalFn tab (G161_766 fuel) (J161_766 fuel) kp161_766 fuel Tryz.f161) :=
  fn_ok tab_ok (hG161_766 fuel) mixed Tryz.func161 (c := (Tryz.f161.body).getD .skip) rfl (fun q hq => by
    rw [(by kernel_rfl : obl (J161_766 fuel) ((Tryz.f161.body).getD .skip) = [])] at hq
    cases hq)
noncomputable def mt161_766 : List Ev.SV → List Ev.Ob → Bool := fun args objs => match args, objs with
  | [.c (.sl (.pair (.int .i64) (.pair (.int .i64) (.pair (.int .i64) (.pair .bool (.pair (.int .i64) (.pair (.int .i64) (.pair (.int .i64) (.pair (.int .i64) (.sl (.int .u8)))))))))) _), .c (.clo q0 [q1, q2])], [.cells q3 [.int .i64 _, .int .i64 _, .bool _, .int .i64 _, .int .i64 _, .int .i64 _, .bool _, .int .i64 _], .cells q4 [.int .i64 _]] => Nat.beq q0 164 && Nat.beq q1 0 && Nat.beq q2 1 && Nat.beq q3 40 && Nat.beq q4 3
  | _, _ => false
noncomputable def spg161_766 (F : YF161_766) : Ev.Spec := fun args objs k => match args, objs with
  | [.c (.sl (.pair (.int .i64) (.pair (.int .i64) (.pair (.int .i64) (.pair .bool (.pair (.int .i64) (.pair (.int .i64) (.pair (.int .i64) (.pair (.int .i64) (.sl (.int .u8)))))))))) x0), .c (.clo q0 [q1, q2])], [.cells q3 [.int .i64 x1, .int .i64 x2, .bool x3, .int .i64 x4, .int .i64 x5, .int .i64 x6, .bool x7, .int .i64 x8], .cells q4 [.int .i64 x9]] => bif Nat.beq q0 164 && Nat.beq q1 0 && Nat.beq q2 1 && Nat.beq q3 40 && Nat.beq q4 3 then F x0 x1 x2 x3 x4 x5 x6 x7 x8 x9 (fun r => match r with | (r0, r1, r2, r3, r4, r5, r6, r7, r8, r9) => k (.c (.bool r0), [.cells 40 [.int .i64 r1, .int .i64 r2, .bool r3, .int .i64 r4, .int .i64 r5, .int .i64 r6, .bool r7, .int .i64 r8], .cells 3 [.int .i64 r9]])) else none
  | _, _ => none
noncomputable def spec161_766 (fuel : Nat) : Ev.Spec := spg161_766 (F_slices_ContainsFunc_api_Item_api_Item_766 fuel)
theorem ok161_766 (fuel : Nat) : FnOK Tryz.prog 161 (spec161_766 fuel) := by
  intro args objs kk r h
  unfold spec161_766 spg161_766 at h
  split at h
  · skip
    obtain ⟨hb, h⟩ := cond_some' h
    simp only [Bool.and_eq_true, Nat.beq_eq, decide_eq_true_eq] at hb
    obtain ⟨⟨⟨⟨rfl, rfl⟩, rfl⟩, rfl⟩, rfl⟩ := hb
    exact fok161_766 fuel _ _ kk r ((F161_766_eq fuel _ _ _ _ _ _ _ _ _ _ kk).trans h)
  · cases h
end Go.Proofs.YtipdidpalcmlhaaGreat

set_option linter.unusedVariables false
set_option linter.unusedSimpArgs false
set_option maxRecDepth 100000
set_option maxHeartbeats 2000000
namespace Go.Proofs.YtipdidpalcmlhaaGreat
open Go Ev
def kp77 (i : Nat) : Option (List Nat) := Ev.look i []
noncomputable def Gg77 (f161_766 : YF161_766) (f : Nat) : Option Ev.Spec := Ev.look f [(161, spg161_766 f161_766)]
noncomputable def G77 (fuel : Nat) : Nat → Option Ev.Spec := Gg77 (F_slices_ContainsFunc_api_Item_api_Item_766 fuel)
noncomputable def J77 (fuel : Nat) (i : Nat) : Option Ev.Blk := Ev.look i []
noncomputable def F_text_right (fuel : Nat) (x0 : Int) (x1 : Int) (x2 : Bool) (x3 : Int) (x4 : Int) (x5 : Int) (x6 : Bool) (x7 : Int) (x8 : Int) (x9 : (List (Int × Int × Int × Bool × Int × Int × (Int × Int × (List Int))))) (k0 : (Bool) → Option Ans) : Option Ans :=
  bif Decidable.decide (x8 ≤ (60 : Int)) then
   bif Decidable.decide ((↑x9.length : Int) ≤ (300 : Int)) then
    (F_slices_ContainsFunc_api_Item_api_Item_766 fuel (x9) (x0) (x1) (x2) (x3) (x4) (x5) (x6) (x7) (x8)
      (fun (y4_0, y4_1, y4_2, y4_3, y4_4, y4_5, y4_6, y4_7, y4_8, y4_9) =>
        k0 !y4_0))
   else
    k0 Bool.false
  else
   k0 Bool.false
abbrev YF77 : Type := (Int) → (Int) → (Bool) → (Int) → (Int) → (Int) → (Bool) → (Int) → (Int) → ((List (Int × Int × Int × Bool × Int × Int × (Int × Int × (List Int))))) → ((Bool) → Option Ans) → Option Ans
theorem F77_eqg (fuel : Nat) (f161_766 : YF161_766) (x0 : Int) (x1 : Int) (x2 : Bool) (x3 : Int) (x4 : Int) (x5 : Int) (x6 : Bool) (x7 : Int) (x8 : Int) (x9 : (List (Int × Int × Int × Bool × Int × Int × (Int × Int × (List Int))))) (k : Ev.Cont) : evalFn tab (Gg77 f161_766) (J77 fuel) kp77 fuel Tryz.f77 [.agg [.int .i64 x0, .int .i64 x1, .bool x2, .int .i64 x3, .int .i64 x4, .int .i64 x5, .bool x6, .int .i64 x7], .c (.int .i64 x8), .c (.sl (.pair (.int .i64) (.pair (.int .i64) (.pair (.int .i64) (.pair .bool (.pair (.int .i64) (.pair (.int .i64) (.pair (.int .i64) (.pair (.int .i64) (.sl (.int .u8)))))))))) x9)] [] k = (fun  (k0 : (Bool) → Option Ans) =>
  bif Decidable.decide (x8 ≤ (60 : Int)) then
   bif Decidable.decide ((↑x9.length : Int) ≤ (300 : Int)) then
    (f161_766 (x9) (x0) (x1) (x2) (x3) (x4) (x5) (x6) (x7) (x8)
      (fun (y4_0, y4_1, y4_2, y4_3, y4_4, y4_5, y4_6, y4_7, y4_8, y4_9) =>
        k0 !y4_0))
   else
    k0 Bool.false
  else
   k0 Bool.false) (fun r => match r with | r0 => k (.c (.bool r0), [])) := by
  kernel_rfl
theorem F77_eq (fuel : Nat) (x0 : Int) (x1 : Int) (x2 : Bool) (x3 : Int) (x4 : Int) (x5 : Int) (x6 : Bool) (x7 : Int) (x8 : Int) (x9 : (List (Int × Int × Int × Bool × Int × Int × (Int × Int × (List Int))))) (k : Ev.Cont) : evalFn tab (G77 fuel) (J77 fuel) kp77 fuel Tryz.f77 [.agg [.int .i64 x0, .int .i64 x1, .bool x2, .int .i64 x3, .int .i64 x4, .int .i64 x5, .bool x6, .int .i64 x7], .c (.int .i64 x8), .c (.sl (.pair (.int .i64) (.pair (.int .i64) (.pair (.int .i64) (.pair .bool (.pair (.int .i64) (.pair (.int .i64) (.pair (.int .i64) (.pair (.int .i64) (.sl (.int .u8)))))))))) x9)] [] k = F_text_right fuel x0 x1 x2 x3 x4 x5 x6 x7 x8 x9 (fun r => match r with | r0 => k (.c (.bool r0), [])) :=
  F77_eqg fuel (F_slices_ContainsFunc_api_Item_api_Item_766 fuel) x0 x1 x2 x3 x4 x5 x6 x7 x8 x9 k
theorem hG77 (fuel : Nat) : GOK Tryz.prog (G77 fuel) :=
  gok_cons ⟨ok161_766 fuel, enters_of Tryz.func161 (by kernel_rfl) rfl⟩ <|
  gok_nil
theorem fok77 (fuel : Nat) : FnOK Tryz.prog 77 (evalFn tab (G77 fuel) (J77 fuel) kp77 fuel Tryz.f77) :=
  fn_ok tab_ok (hG77 fuel) mixed Tryz.func77 (c := (Tryz.f77.body).getD .skip) rfl (fun q hq => by
    rw [(by kernel_rfl : obl (J77 fuel) ((Tryz.f77.body).getD .skip) = [])] at hq
    cases hq)
noncomputable def mt77 : List Ev.SV → List Ev.Ob → Bool := fun args objs => match args, objs with
  | [.agg [.int .i64 _, .int .i64 _, .bool _, .int .i64 _, .int .i64 _, .int .i64 _, .bool _, .int .i64 _], .c (.int .i64 _), .c (.sl (.pair (.int .i64) (.pair (.int .i64) (.pair (.int .i64) (.pair .bool (.pair (.int .i64) (.pair (.int .i64) (.pair (.int .i64) (.pair (.int .i64) (.sl (.int .u8)))))))))) _)], [] => true
  | _, _ => false
noncomputable def spg77 (F : YF77) : Ev.Spec := fun args objs k => match args, objs with
  | [.agg [.int .i64 x0, .int .i64 x1, .bool x2, .int .i64 x3, .int .i64 x4, .int .i64 x5, .bool x6, .int .i64 x7], .c (.int .i64 x8), .c (.sl (.pair (.int .i64) (.pair (.int .i64) (.pair (.int .i64) (.pair .bool (.pair (.int .i64) (.pair (.int .i64) (.pair (.int .i64) (.pair (.int .i64) (.sl (.int .u8)))))))))) x9)], [] => bif true then F x0 x1 x2 x3 x4 x5 x6 x7 x8 x9 (fun r => match r with | r0 => k (.c (.bool r0), [])) else none
  | _, _ => none
noncomputable def spec77 (fuel : Nat) : Ev.Spec := spg77 (F_text_right fuel)
theorem ok77 (fuel : Nat) : FnOK Tryz.prog 77 (spec77 fuel) := by
  intro args objs kk r h
  unfold spec77 spg77 at h
  split at h
  · skip
    obtain ⟨hb, h⟩ := cond_some' h
    simp only [Bool.and_eq_true, Nat.beq_eq, decide_eq_true_eq] at hb
    clear hb
    exact fok77 fuel _ _ kk r ((F77_eq fuel _ _ _ _ _ _ _ _ _ _ kk).trans h)
  · cases h
end Go.Proofs.YtipdidpalcmlhaaGreat

set_option linter.unusedVariables false
set_option linter.unusedSimpArgs false
set_option maxRecDepth 100000
set_option maxHeartbeats 2000000
namespace Go.Proofs.YtipdidpalcmlhaaGreat
open Go Ev
def kp36 (i : Nat) : Option (List Nat) := Ev.look i [(10, [1, 5, 10, 13, 47, 48, 49]), (100001, [10, 13]), (200013, [5, 13, 16]), (400001, [10, 11])]
noncomputable def Gg36 (f73 : YF73) (f77 : YF77) (f99 : YF99) (f105 : YF105) (f106 : YF106) (f107 : YF107) (f : Nat) : Option Ev.Spec := Ev.look f [(73, spg73 f73), (77, spg77 f77), (99, spg99 f99), (105, spg105 f105), (106, spg106 f106), (107, spg107 f107)]
noncomputable def G36 (fuel : Nat) : Nat → Option Ev.Spec := Gg36 (F_text_begun fuel) (F_text_right fuel) (F_text_place fuel) (F_bitmap_New fuel) (F_bitmap_Draw fuel) (F_text_drawn fuel)
noncomputable def S_text_Render_1 (fuel : Nat) (v : (List (Int × (Int × (List Int)))) × (List (Int × (Int × (Int × (Bool × (Int × (Int × (Int × (Int × (List Int)))))))))) × Int × Int × Int × Int × Bool × Int × Int × Int × Bool × Int × Int × Int × Int × Int × (List Int) × (List Int)) (c : ((List (Int × (Int × (List Int)))) × (List (Int × (Int × (Int × (Bool × (Int × (Int × (Int × (Int × (List Int)))))))))) × Int × Int × Int × Int × Bool × Int × Int × Int × Bool × Int × Int × Int × Int × Int × (List Int) × (List Int)) → Option Ans) (B : (Int × Int × Int × Int × (List Int) × (List Int) → Option Ans)) : Option Ans := match v, B with
  | (x0, x1, x2, x3, x4, x5, x6, x7, x8, x9, x10, x11, x12, x13, x14, x15, x16, x17), b =>
   bif Decidable.decide (x3 < x2) then
      bif Decidable.decide ((0 : Int) ≤ x3 ∧ x3 < (↑x1.length : Int)) then
      (F_text_place fuel (x4) (x5) (x6) (x7) (x8) (x9) (x10) (x11) (x0) ((x1.getD x3.toNat ((0 : Int), (0 : Int), (0 : Int), Bool.false, (0 : Int), (0 : Int), (0 : Int), (0 : Int), [])).fst) ((x1.getD x3.toNat ((0 : Int), (0 : Int), (0 : Int), Bool.false, (0 : Int), (0 : Int), (0 : Int), (0 : Int), [])).snd.fst) ((x1.getD x3.toNat ((0 : Int), (0 : Int), (0 : Int), Bool.false, (0 : Int), (0 : Int), (0 : Int), (0 : Int), [])).snd.snd.fst) ((x1.getD x3.toNat ((0 : Int), (0 : Int), (0 : Int), Bool.false, (0 : Int), (0 : Int), (0 : Int), (0 : Int), [])).snd.snd.snd.fst) ((x1.getD x3.toNat ((0 : Int), (0 : Int), (0 : Int), Bool.false, (0 : Int), (0 : Int), (0 : Int), (0 : Int), [])).snd.snd.snd.snd.fst) ((x1.getD x3.toNat ((0 : Int), (0 : Int), (0 : Int), Bool.false, (0 : Int), (0 : Int), (0 : Int), (0 : Int), [])).snd.snd.snd.snd.snd.fst) ((x1.getD x3.toNat ((0 : Int), (0 : Int), (0 : Int), Bool.false, (0 : Int), (0 : Int), (0 : Int), (0 : Int), [])).snd.snd.snd.snd.snd.snd.fst) ((x1.getD x3.toNat ((0 : Int), (0 : Int), (0 : Int), Bool.false, (0 : Int), (0 : Int), (0 : Int), (0 : Int), [])).snd.snd.snd.snd.snd.snd.snd.fst) ((x1.getD x3.toNat ((0 : Int), (0 : Int), (0 : Int), Bool.false, (0 : Int), (0 : Int), (0 : Int), (0 : Int), [])).snd.snd.snd.snd.snd.snd.snd.snd)
         (fun (y4_0, y4_1) =>
           both ((F_text_drawn fuel (x0) ((x1.getD x3.toNat ((0 : Int), (0 : Int), (0 : Int), Bool.false, (0 : Int), (0 : Int), (0 : Int), (0 : Int), [])).fst) ((x1.getD x3.toNat ((0 : Int), (0 : Int), (0 : Int), Bool.false, (0 : Int), (0 : Int), (0 : Int), (0 : Int), [])).snd.fst) ((x1.getD x3.toNat ((0 : Int), (0 : Int), (0 : Int), Bool.false, (0 : Int), (0 : Int), (0 : Int), (0 : Int), [])).snd.snd.fst) ((x1.getD x3.toNat ((0 : Int), (0 : Int), (0 : Int), Bool.false, (0 : Int), (0 : Int), (0 : Int), (0 : Int), [])).snd.snd.snd.fst) ((x1.getD x3.toNat ((0 : Int), (0 : Int), (0 : Int), Bool.false, (0 : Int), (0 : Int), (0 : Int), (0 : Int), [])).snd.snd.snd.snd.fst) ((x1.getD x3.toNat ((0 : Int), (0 : Int), (0 : Int), Bool.false, (0 : Int), (0 : Int), (0 : Int), (0 : Int), [])).snd.snd.snd.snd.snd.fst) ((x1.getD x3.toNat ((0 : Int), (0 : Int), (0 : Int), Bool.false, (0 : Int), (0 : Int), (0 : Int), (0 : Int), [])).snd.snd.snd.snd.snd.snd.fst) ((x1.getD x3.toNat ((0 : Int), (0 : Int), (0 : Int), Bool.false, (0 : Int), (0 : Int), (0 : Int), (0 : Int), [])).snd.snd.snd.snd.snd.snd.snd.fst) ((x1.getD x3.toNat ((0 : Int), (0 : Int), (0 : Int), Bool.false, (0 : Int), (0 : Int), (0 : Int), (0 : Int), [])).snd.snd.snd.snd.snd.snd.snd.snd)
               (fun (y10_0, y10_1, y10_2) =>
                 both ((F_bitmap_Draw fuel (x14) (x15) (x17) (y10_0) (y10_1) (y10_2) (y4_0) (y4_1) (x8)
                     (fun (y16_0, y16_1, y16_2, y16_3) =>
                       bif y16_2 == (0 : Int) then
                        c (x0, x1, x2, Go.IntKind.i64.wrap (x3 + (1 : Int)), x4, x5, x6, x7, x8, x9, x10, x11, x12, x13, y16_0, y16_1, x16, y16_3)
                       else
                        c (x0, x1, x2, Go.IntKind.i64.wrap (x3 + (1 : Int)), x4, x5, x6, x7, x8, x9, x10, x11, x12, x13, x14, x15, x16, x17))))
                  ((F_bitmap_Draw fuel (x14) (x15) (x17) (y10_0) (y10_1) (y10_2) (y4_0) (y4_1) (x8)
                     (fun (y16_0, y16_1, y16_2, y16_3) =>
                       bif y16_2 == (0 : Int) then
                        c (x0, x1, x2, Go.IntKind.i64.wrap (x3 + (1 : Int)), x4, x5, x6, x7, x8, x9, x10, x11, x12, x13, y16_0, y16_1, x16, y16_3)
                       else
                        c (x0, x1, x2, Go.IntKind.i64.wrap (x3 + (1 : Int)), x4, x5, x6, x7, x8, x9, x10, x11, x12, x13, x14, x15, x16, x17)))))))
            ((F_text_drawn fuel (x0) ((x1.getD x3.toNat ((0 : Int), (0 : Int), (0 : Int), Bool.false, (0 : Int), (0 : Int), (0 : Int), (0 : Int), [])).fst) ((x1.getD x3.toNat ((0 : Int), (0 : Int), (0 : Int), Bool.false, (0 : Int), (0 : Int), (0 : Int), (0 : Int), [])).snd.fst) ((x1.getD x3.toNat ((0 : Int), (0 : Int), (0 : Int), Bool.false, (0 : Int), (0 : Int), (0 : Int), (0 : Int), [])).snd.snd.fst) ((x1.getD x3.toNat ((0 : Int), (0 : Int), (0 : Int), Bool.false, (0 : Int), (0 : Int), (0 : Int), (0 : Int), [])).snd.snd.snd.fst) ((x1.getD x3.toNat ((0 : Int), (0 : Int), (0 : Int), Bool.false, (0 : Int), (0 : Int), (0 : Int), (0 : Int), [])).snd.snd.snd.snd.fst) ((x1.getD x3.toNat ((0 : Int), (0 : Int), (0 : Int), Bool.false, (0 : Int), (0 : Int), (0 : Int), (0 : Int), [])).snd.snd.snd.snd.snd.fst) ((x1.getD x3.toNat ((0 : Int), (0 : Int), (0 : Int), Bool.false, (0 : Int), (0 : Int), (0 : Int), (0 : Int), [])).snd.snd.snd.snd.snd.snd.fst) ((x1.getD x3.toNat ((0 : Int), (0 : Int), (0 : Int), Bool.false, (0 : Int), (0 : Int), (0 : Int), (0 : Int), [])).snd.snd.snd.snd.snd.snd.snd.fst) ((x1.getD x3.toNat ((0 : Int), (0 : Int), (0 : Int), Bool.false, (0 : Int), (0 : Int), (0 : Int), (0 : Int), [])).snd.snd.snd.snd.snd.snd.snd.snd)
               (fun (y10_0, y10_1, y10_2) =>
                 (F_bitmap_Draw fuel (x14) (x15) (x17) (y10_0) (y10_1) (y10_2) (y4_0) (y4_1) (x8)
                   (fun (y14_0, y14_1, y14_2, y14_3) =>
                     bif y14_2 == (0 : Int) then
                      c (x0, x1, x2, Go.IntKind.i64.wrap (x3 + (1 : Int)), x4, x5, x6, x7, x8, x9, x10, x11, x12, x13, y14_0, y14_1, x16, y14_3)
                     else
                      c (x0, x1, x2, Go.IntKind.i64.wrap (x3 + (1 : Int)), x4, x5, x6, x7, x8, x9, x10, x11, x12, x13, x14, x15, x16, x17))))))))
      else none
     else
      b (x12, x13, x14, x15, x16, x17)
noncomputable def L_text_Render_1 (fuel : Nat) (v : (List (Int × (Int × (List Int)))) × (List (Int × (Int × (Int × (Bool × (Int × (Int × (Int × (Int × (List Int)))))))))) × Int × Int × Int × Int × Bool × Int × Int × Int × Bool × Int × Int × Int × Int × Int × (List Int) × (List Int)) (b : (Int × Int × Int × Int × (List Int) × (List Int) → Option Ans)) : Option Ans := iter (S_text_Render_1 fuel) fuel v b
noncomputable def J36_1 (fuel : Nat) (i : Nat) : Option Ev.Blk := Ev.look i []
noncomputable def T36_1 (v : (List (Int × (Int × (List Int)))) × (List (Int × (Int × (Int × (Bool × (Int × (Int × (Int × (Int × (List Int)))))))))) × Int × Int × Int × Int × Bool × Int × Int × Int × Bool × Int × Int × Int × Int × Int × (List Int) × (List Int)) : Ev.St := match v with | (x0, x1, x2, x3, x4, x5, x6, x7, x8, x9, x10, x11, x12, x13, x14, x15, x16, x17) => ⟨[(1, .c (.sl (.pair (.int .i64) (.pair (.int .i64) (.sl (.int .u8)))) x0)), (5, .c (.ptr 0 0)), (10, .c (.ptr 1 0)), (13, .c (.ptr 2 0)), (47, .c (.sl (.pair (.int .i64) (.pair (.int .i64) (.pair (.int .i64) (.pair .bool (.pair (.int .i64) (.pair (.int .i64) (.pair (.int .i64) (.pair (.int .i64) (.sl (.int .u8)))))))))) x1)), (48, .c (.int .i64 x2)), (49, .c (.int .i64 x3))], [(0, .cells 40 [.int .i64 x4, .int .i64 x5, .bool x6, .int .i64 x7, .int .i64 x8, .int .i64 x9, .bool x10, .int .i64 x11]), (1, .cells 51 [.int .i64 x12, .int .i64 x13, .own 3]), (2, .cells 51 [.int .i64 x14, .int .i64 x15, .own 4]), (3, .vec 5 (.int .u8) x16 true), (4, .vec 5 (.int .u8) x17 true)], 5, 0⟩
noncomputable def E36_1 (K : Ev.Ex → Ev.St → Option Ans) : (Int × Int × Int × Int × (List Int) × (List Int) → Option Ans) := (fun v => match v with | (x0, x1, x2, x3, x4, x5) => K .normal ⟨[(10, .c (.ptr 0 0)), (13, .c (.ptr 1 0))], [(0, .cells 51 [.int .i64 x0, .int .i64 x1, .own 2]), (1, .cells 51 [.int .i64 x2, .int .i64 x3, .own 3]), (2, .vec 5 (.int .u8) x4 true), (3, .vec 5 (.int .u8) x5 true)], 4, 0⟩)
theorem S36_1_okg (fuel : Nat) (f73 : YF73) (f77 : YF77) (f99 : YF99) (f105 : YF105) (f106 : YF106) (f107 : YF107) (R : Ev.St → Option Ans) (K : Ev.Ex → Ev.St → Option Ans) (x0 : (List (Int × (Int × (List Int))))) (x1 : (List (Int × (Int × (Int × (Bool × (Int × (Int × (Int × (Int × (List Int))))))))))) (x2 : Int) (x3 : Int) (x4 : Int) (x5 : Int) (x6 : Bool) (x7 : Int) (x8 : Int) (x9 : Int) (x10 : Bool) (x11 : Int) (x12 : Int) (x13 : Int) (x14 : Int) (x15 : Int) (x16 : (List Int)) (x17 : (List Int)) : evalCode tab (Gg36 f73 f77 f99 f105 f106 f107) (J36_1 fuel) kp36 fuel (bodyOf 1 Tryz.f36) (T36_1 (x0, x1, x2, x3, x4, x5, x6, x7, x8, x9, x10, x11, x12, x13, x14, x15, x16, x17)) (lc kp36 10 1 R K) = (fun (c : ((List (Int × (Int × (List Int)))) × (List (Int × (Int × (Int × (Bool × (Int × (Int × (Int × (Int × (List Int)))))))))) × Int × Int × Int × Int × Bool × Int × Int × Int × Bool × Int × Int × Int × Int × Int × (List Int) × (List Int)) → Option Ans) (B : (Int × Int × Int × Int × (List Int) × (List Int) → Option Ans)) => match B with
  | b =>
   bif Decidable.decide (x3 < x2) then
      bif Decidable.decide ((0 : Int) ≤ x3 ∧ x3 < (↑x1.length : Int)) then
      (f99 (x4) (x5) (x6) (x7) (x8) (x9) (x10) (x11) (x0) ((x1.getD x3.toNat ((0 : Int), (0 : Int), (0 : Int), Bool.false, (0 : Int), (0 : Int), (0 : Int), (0 : Int), [])).fst) ((x1.getD x3.toNat ((0 : Int), (0 : Int), (0 : Int), Bool.false, (0 : Int), (0 : Int), (0 : Int), (0 : Int), [])).snd.fst) ((x1.getD x3.toNat ((0 : Int), (0 : Int), (0 : Int), Bool.false, (0 : Int), (0 : Int), (0 : Int), (0 : Int), [])).snd.snd.fst) ((x1.getD x3.toNat ((0 : Int), (0 : Int), (0 : Int), Bool.false, (0 : Int), (0 : Int), (0 : Int), (0 : Int), [])).snd.snd.snd.fst) ((x1.getD x3.toNat ((0 : Int), (0 : Int), (0 : Int), Bool.false, (0 : Int), (0 : Int), (0 : Int), (0 : Int), [])).snd.snd.snd.snd.fst) ((x1.getD x3.toNat ((0 : Int), (0 : Int), (0 : Int), Bool.false, (0 : Int), (0 : Int), (0 : Int), (0 : Int), [])).snd.snd.snd.snd.snd.fst) ((x1.getD x3.toNat ((0 : Int), (0 : Int), (0 : Int), Bool.false, (0 : Int), (0 : Int), (0 : Int), (0 : Int), [])).snd.snd.snd.snd.snd.snd.fst) ((x1.getD x3.toNat ((0 : Int), (0 : Int), (0 : Int), Bool.false, (0 : Int), (0 : Int), (0 : Int), (0 : Int), [])).snd.snd.snd.snd.snd.snd.snd.fst) ((x1.getD x3.toNat ((0 : Int), (0 : Int), (0 : Int), Bool.false, (0 : Int), (0 : Int), (0 : Int), (0 : Int), [])).snd.snd.snd.snd.snd.snd.snd.snd)
         (fun (y4_0, y4_1) =>
           both ((f107 (x0) ((x1.getD x3.toNat ((0 : Int), (0 : Int), (0 : Int), Bool.false, (0 : Int), (0 : Int), (0 : Int), (0 : Int), [])).fst) ((x1.getD x3.toNat ((0 : Int), (0 : Int), (0 : Int), Bool.false, (0 : Int), (0 : Int), (0 : Int), (0 : Int), [])).snd.fst) ((x1.getD x3.toNat ((0 : Int), (0 : Int), (0 : Int), Bool.false, (0 : Int), (0 : Int), (0 : Int), (0 : Int), [])).snd.snd.fst) ((x1.getD x3.toNat ((0 : Int), (0 : Int), (0 : Int), Bool.false, (0 : Int), (0 : Int), (0 : Int), (0 : Int), [])).snd.snd.snd.fst) ((x1.getD x3.toNat ((0 : Int), (0 : Int), (0 : Int), Bool.false, (0 : Int), (0 : Int), (0 : Int), (0 : Int), [])).snd.snd.snd.snd.fst) ((x1.getD x3.toNat ((0 : Int), (0 : Int), (0 : Int), Bool.false, (0 : Int), (0 : Int), (0 : Int), (0 : Int), [])).snd.snd.snd.snd.snd.fst) ((x1.getD x3.toNat ((0 : Int), (0 : Int), (0 : Int), Bool.false, (0 : Int), (0 : Int), (0 : Int), (0 : Int), [])).snd.snd.snd.snd.snd.snd.fst) ((x1.getD x3.toNat ((0 : Int), (0 : Int), (0 : Int), Bool.false, (0 : Int), (0 : Int), (0 : Int), (0 : Int), [])).snd.snd.snd.snd.snd.snd.snd.fst) ((x1.getD x3.toNat ((0 : Int), (0 : Int), (0 : Int), Bool.false, (0 : Int), (0 : Int), (0 : Int), (0 : Int), [])).snd.snd.snd.snd.snd.snd.snd.snd)
               (fun (y10_0, y10_1, y10_2) =>
                 both ((f106 (x14) (x15) (x17) (y10_0) (y10_1) (y10_2) (y4_0) (y4_1) (x8)
                     (fun (y16_0, y16_1, y16_2, y16_3) =>
                       bif y16_2 == (0 : Int) then
                        c (x0, x1, x2, Go.IntKind.i64.wrap (x3 + (1 : Int)), x4, x5, x6, x7, x8, x9, x10, x11, x12, x13, y16_0, y16_1, x16, y16_3)
                       else
                        c (x0, x1, x2, Go.IntKind.i64.wrap (x3 + (1 : Int)), x4, x5, x6, x7, x8, x9, x10, x11, x12, x13, x14, x15, x16, x17))))
                  ((f106 (x14) (x15) (x17) (y10_0) (y10_1) (y10_2) (y4_0) (y4_1) (x8)
                     (fun (y16_0, y16_1, y16_2, y16_3) =>
                       bif y16_2 == (0 : Int) then
                        c (x0, x1, x2, Go.IntKind.i64.wrap (x3 + (1 : Int)), x4, x5, x6, x7, x8, x9, x10, x11, x12, x13, y16_0, y16_1, x16, y16_3)
                       else
                        c (x0, x1, x2, Go.IntKind.i64.wrap (x3 + (1 : Int)), x4, x5, x6, x7, x8, x9, x10, x11, x12, x13, x14, x15, x16, x17)))))))
            ((f107 (x0) ((x1.getD x3.toNat ((0 : Int), (0 : Int), (0 : Int), Bool.false, (0 : Int), (0 : Int), (0 : Int), (0 : Int), [])).fst) ((x1.getD x3.toNat ((0 : Int), (0 : Int), (0 : Int), Bool.false, (0 : Int), (0 : Int), (0 : Int), (0 : Int), [])).snd.fst) ((x1.getD x3.toNat ((0 : Int), (0 : Int), (0 : Int), Bool.false, (0 : Int), (0 : Int), (0 : Int), (0 : Int), [])).snd.snd.fst) ((x1.getD x3.toNat ((0 : Int), (0 : Int), (0 : Int), Bool.false, (0 : Int), (0 : Int), (0 : Int), (0 : Int), [])).snd.snd.snd.fst) ((x1.getD x3.toNat ((0 : Int), (0 : Int), (0 : Int), Bool.false, (0 : Int), (0 : Int), (0 : Int), (0 : Int), [])).snd.snd.snd.snd.fst) ((x1.getD x3.toNat ((0 : Int), (0 : Int), (0 : Int), Bool.false, (0 : Int), (0 : Int), (0 : Int), (0 : Int), [])).snd.snd.snd.snd.snd.fst) ((x1.getD x3.toNat ((0 : Int), (0 : Int), (0 : Int), Bool.false, (0 : Int), (0 : Int), (0 : Int), (0 : Int), [])).snd.snd.snd.snd.snd.snd.fst) ((x1.getD x3.toNat ((0 : Int), (0 : Int), (0 : Int), Bool.false, (0 : Int), (0 : Int), (0 : Int), (0 : Int), [])).snd.snd.snd.snd.snd.snd.snd.fst) ((x1.getD x3.toNat ((0 : Int), (0 : Int), (0 : Int), Bool.false, (0 : Int), (0 : Int), (0 : Int), (0 : Int), [])).snd.snd.snd.snd.snd.snd.snd.snd)
               (fun (y10_0, y10_1, y10_2) =>
                 (f106 (x14) (x15) (x17) (y10_0) (y10_1) (y10_2) (y4_0) (y4_1) (x8)
                   (fun (y14_0, y14_1, y14_2, y14_3) =>
                     bif y14_2 == (0 : Int) then
                      c (x0, x1, x2, Go.IntKind.i64.wrap (x3 + (1 : Int)), x4, x5, x6, x7, x8, x9, x10, x11, x12, x13, y14_0, y14_1, x16, y14_3)
                     else
                      c (x0, x1, x2, Go.IntKind.i64.wrap (x3 + (1 : Int)), x4, x5, x6, x7, x8, x9, x10, x11, x12, x13, x14, x15, x16, x17))))))))
      else none
     else
      b (x12, x13, x14, x15, x16, x17)) (fun v => R (T36_1 v)) (E36_1 K) := by
  kernel_rfl
theorem S36_1_ok (fuel : Nat) (R : Ev.St → Option Ans) (K : Ev.Ex → Ev.St → Option Ans) (x0 : (List (Int × (Int × (List Int))))) (x1 : (List (Int × (Int × (Int × (Bool × (Int × (Int × (Int × (Int × (List Int))))))))))) (x2 : Int) (x3 : Int) (x4 : Int) (x5 : Int) (x6 : Bool) (x7 : Int) (x8 : Int) (x9 : Int) (x10 : Bool) (x11 : Int) (x12 : Int) (x13 : Int) (x14 : Int) (x15 : Int) (x16 : (List Int)) (x17 : (List Int)) : evalCode tab (G36 fuel) (J36_1 fuel) kp36 fuel (bodyOf 1 Tryz.f36) (T36_1 (x0, x1, x2, x3, x4, x5, x6, x7, x8, x9, x10, x11, x12, x13, x14, x15, x16, x17)) (lc kp36 10 1 R K) = S_text_Render_1 fuel (x0, x1, x2, x3, x4, x5, x6, x7, x8, x9, x10, x11, x12, x13, x14, x15, x16, x17) (fun v => R (T36_1 v)) (E36_1 K) :=
  S36_1_okg fuel (F_text_begun fuel) (F_text_right fuel) (F_text_place fuel) (F_bitmap_New fuel) (F_bitmap_Draw fuel) (F_text_drawn fuel) R K x0 x1 x2 x3 x4 x5 x6 x7 x8 x9 x10 x11 x12 x13 x14 x15 x16 x17
noncomputable def B36_1 (fuel : Nat) : Ev.Blk := fun st K => match canonO (kp36 10) st with
  | some s => (match s with
    | ⟨[(q0, .c (.sl (.pair (.int .i64) (.pair (.int .i64) (.sl (.int .u8)))) x0)), (q1, .c (.ptr q2 q3)), (q4, .c (.ptr q5 q6)), (q7, .c (.ptr q8 q9)), (q10, .c (.sl (.pair (.int .i64) (.pair (.int .i64) (.pair (.int .i64) (.pair .bool (.pair (.int .i64) (.pair (.int .i64) (.pair (.int .i64) (.pair (.int .i64) (.sl (.int .u8)))))))))) x1)), (q11, .c (.int .i64 x2)), (q12, .c (.int .i64 x3))], [(q13, .cells q14 [.int .i64 x4, .int .i64 x5, .bool x6, .int .i64 x7, .int .i64 x8, .int .i64 x9, .bool x10, .int .i64 x11]), (q15, .cells q16 [.int .i64 x12, .int .i64 x13, .own q17]), (q18, .cells q19 [.int .i64 x14, .int .i64 x15, .own q20]), (q21, .vec q22 (.int .u8) x16 true), (q23, .vec q24 (.int .u8) x17 true)], q25, q26⟩ => bif Nat.beq q0 1 && Nat.beq q1 5 && Nat.beq q2 0 && Nat.beq q3 0 && Nat.beq q4 10 && Nat.beq q5 1 && Nat.beq q6 0 && Nat.beq q7 13 && Nat.beq q8 2 && Nat.beq q9 0 && Nat.beq q10 47 && Nat.beq q11 48 && Nat.beq q12 49 && Nat.beq q13 0 && Nat.beq q14 40 && Nat.beq q15 1 && Nat.beq q16 51 && Nat.beq q17 3 && Nat.beq q18 2 && Nat.beq q19 51 && Nat.beq q20 4 && Nat.beq q21 3 && Nat.beq q22 5 && Nat.beq q23 4 && Nat.beq q24 5 && Nat.beq q25 5 && Nat.beq q26 0 then iter (S_text_Render_1 fuel) fuel (x0, x1, x2, x3, x4, x5, x6, x7, x8, x9, x10, x11, x12, x13, x14, x15, x16, x17) (E36_1 K) else none
    | _ => none)
  | none => none
theorem B36_1_ok (fuel : Nat) (st : Ev.St) (K : Ev.Ex → Ev.St → Option Ans) (r : Ans) (h : B36_1 fuel st K = some r) : evalCode tab (G36 fuel) (J36_1 fuel) kp36 fuel (.block 1 (.loop (bodyOf 1 Tryz.f36))) st K = some r := by
  unfold B36_1 at h
  split at h
  · rename_i s hs
    split at h
    · skip
      obtain ⟨hb, h⟩ := cond_some' h
      simp only [Bool.and_eq_true, Nat.beq_eq, decide_eq_true_eq] at hb
      obtain ⟨⟨⟨⟨⟨⟨⟨⟨⟨⟨⟨⟨⟨⟨⟨⟨⟨⟨⟨⟨⟨⟨⟨⟨⟨⟨rfl, rfl⟩, rfl⟩, rfl⟩, rfl⟩, rfl⟩, rfl⟩, rfl⟩, rfl⟩, rfl⟩, rfl⟩, rfl⟩, rfl⟩, rfl⟩, rfl⟩, rfl⟩, rfl⟩, rfl⟩, rfl⟩, rfl⟩, rfl⟩, rfl⟩, rfl⟩, rfl⟩, rfl⟩, rfl⟩, rfl⟩ := hb
      exact blk_loop (S := T36_1) (ks := E36_1) (step := S_text_Render_1 fuel) (v := (_, _, _, _, _, _, _, _, _, _, _, _, _, _, _, _, _, _)) (by kernel_rfl) (by kernel_rfl) (fun R K v => by obtain ⟨x0, x1, x2, x3, x4, x5, x6, x7, x8, x9, x10, x11, x12, x13, x14, x15, x16, x17⟩ := v; exact S36_1_ok fuel R K x0 x1 x2 x3 x4 x5 x6 x7 x8 x9 x10 x11 x12 x13 x14 x15 x16 x17) hs h
    · cases h
  · cases h
noncomputable def J36 (fuel : Nat) (i : Nat) : Option Ev.Blk := Ev.look i [(100001, B36_1 fuel)]
noncomputable def F_text_Render (fuel : Nat) (x0 : Int) (x1 : Int) (x2 : Bool) (x3 : Int) (x4 : Int) (x5 : Int) (x6 : Bool) (x7 : Int) (x8 : (List (Int × Int × (List Int)))) (x9 : (List (Int × Int × Int × Bool × Int × Int × (Int × Int × (List Int))))) (x10 : Int) (x11 : Int) (k0 : (Int × Int × Int × (List Int)) → Option Ans) : Option Ans :=
  (F_text_begun fuel (x0) (x1) (x2) (x3) (x4) (x5) (x6) (x7) (x8) (x9)
    (fun y2 =>
      bif y2 != (0 : Int) then
       k0 ((0 : Int), (0 : Int), y2, [])
      else
       (F_bitmap_New fuel (x10) (x11) ((0 : Int))
         (fun (y7_0, y7_1, y7_2, y7_3) =>
           bif y7_2 != (0 : Int) then
            k0 ((0 : Int), (0 : Int), (30 : Int), [])
           else
            (F_text_right fuel (x0) (x1) (x2) (x3) (x4) (x5) (x6) (x7) ((↑x8.length : Int)) (x9)
              (fun y12 =>
                bif !y12 then
                 k0 ((0 : Int), (0 : Int), (2 : Int), [])
                else
                 (L_text_Render_1 fuel (x8, x9, (↑x9.length : Int), (0 : Int), x0, x1, x2, x3, x4, x5, x6, x7, (0 : Int), (0 : Int), y7_0, y7_1, [], y7_3)
                   (fun (b1_0, b1_1, b1_2, b1_3, b1_4, b1_5) =>
                     k0 (b1_2, b1_3, (0 : Int), b1_5)))))))))
abbrev YF36 : Type := (Int) → (Int) → (Bool) → (Int) → (Int) → (Int) → (Bool) → (Int) → ((List (Int × Int × (List Int)))) → ((List (Int × Int × Int × Bool × Int × Int × (Int × Int × (List Int))))) → (Int) → (Int) → ((Int × Int × Int × (List Int)) → Option Ans) → Option Ans
theorem F36_eqg (fuel : Nat) (f73 : YF73) (f77 : YF77) (f99 : YF99) (f105 : YF105) (f106 : YF106) (f107 : YF107) (x0 : Int) (x1 : Int) (x2 : Bool) (x3 : Int) (x4 : Int) (x5 : Int) (x6 : Bool) (x7 : Int) (x8 : (List (Int × Int × (List Int)))) (x9 : (List (Int × Int × Int × Bool × Int × Int × (Int × Int × (List Int))))) (x10 : Int) (x11 : Int) (k : Ev.Cont) : evalFn tab (Gg36 f73 f77 f99 f105 f106 f107) (J36 fuel) kp36 fuel Tryz.f36 [.agg [.int .i64 x0, .int .i64 x1, .bool x2, .int .i64 x3, .int .i64 x4, .int .i64 x5, .bool x6, .int .i64 x7], .c (.sl (.pair (.int .i64) (.pair (.int .i64) (.sl (.int .u8)))) x8), .c (.sl (.pair (.int .i64) (.pair (.int .i64) (.pair (.int .i64) (.pair .bool (.pair (.int .i64) (.pair (.int .i64) (.pair (.int .i64) (.pair (.int .i64) (.sl (.int .u8)))))))))) x9), .c (.int .i64 x10), .c (.int .i64 x11)] [] k = (fun  (k0 : (Int × Int × Int × (List Int)) → Option Ans) =>
  (f73 (x0) (x1) (x2) (x3) (x4) (x5) (x6) (x7) (x8) (x9)
    (fun y2 =>
      bif y2 != (0 : Int) then
       k0 ((0 : Int), (0 : Int), y2, [])
      else
       (f105 (x10) (x11) ((0 : Int))
         (fun (y7_0, y7_1, y7_2, y7_3) =>
           bif y7_2 != (0 : Int) then
            k0 ((0 : Int), (0 : Int), (30 : Int), [])
           else
            (f77 (x0) (x1) (x2) (x3) (x4) (x5) (x6) (x7) ((↑x8.length : Int)) (x9)
              (fun y12 =>
                bif !y12 then
                 k0 ((0 : Int), (0 : Int), (2 : Int), [])
                else
                 (L_text_Render_1 fuel (x8, x9, (↑x9.length : Int), (0 : Int), x0, x1, x2, x3, x4, x5, x6, x7, (0 : Int), (0 : Int), y7_0, y7_1, [], y7_3)
                   (fun (b1_0, b1_1, b1_2, b1_3, b1_4, b1_5) =>
                     k0 (b1_2, b1_3, (0 : Int), b1_5)))))))))) (fun r => match r with | (r0, r1, r2, r3) => k (.tup [(true, [.int .i64 r0, .int .i64 r1, .own 0]), (false, [.int .i64 r2])], [.vec 5 (.int .u8) r3 true])) := by
  kernel_rfl
theorem F36_eq (fuel : Nat) (x0 : Int) (x1 : Int) (x2 : Bool) (x3 : Int) (x4 : Int) (x5 : Int) (x6 : Bool) (x7 : Int) (x8 : (List (Int × Int × (List Int)))) (x9 : (List (Int × Int × Int × Bool × Int × Int × (Int × Int × (List Int))))) (x10 : Int) (x11 : Int) (k : Ev.Cont) : evalFn tab (G36 fuel) (J36 fuel) kp36 fuel Tryz.f36 [.agg [.int .i64 x0, .int .i64 x1, .bool x2, .int .i64 x3, .int .i64 x4, .int .i64 x5, .bool x6, .int .i64 x7], .c (.sl (.pair (.int .i64) (.pair (.int .i64) (.sl (.int .u8)))) x8), .c (.sl (.pair (.int .i64) (.pair (.int .i64) (.pair (.int .i64) (.pair .bool (.pair (.int .i64) (.pair (.int .i64) (.pair (.int .i64) (.pair (.int .i64) (.sl (.int .u8)))))))))) x9), .c (.int .i64 x10), .c (.int .i64 x11)] [] k = F_text_Render fuel x0 x1 x2 x3 x4 x5 x6 x7 x8 x9 x10 x11 (fun r => match r with | (r0, r1, r2, r3) => k (.tup [(true, [.int .i64 r0, .int .i64 r1, .own 0]), (false, [.int .i64 r2])], [.vec 5 (.int .u8) r3 true])) :=
  F36_eqg fuel (F_text_begun fuel) (F_text_right fuel) (F_text_place fuel) (F_bitmap_New fuel) (F_bitmap_Draw fuel) (F_text_drawn fuel) x0 x1 x2 x3 x4 x5 x6 x7 x8 x9 x10 x11 k
theorem hG36 (fuel : Nat) : GOK Tryz.prog (G36 fuel) :=
  gok_cons ⟨ok73 fuel, enters_of Tryz.func73 (by kernel_rfl) rfl⟩ <|
  gok_cons ⟨ok77 fuel, enters_of Tryz.func77 (by kernel_rfl) rfl⟩ <|
  gok_cons ⟨ok99 fuel, enters_of Tryz.func99 (by kernel_rfl) rfl⟩ <|
  gok_cons ⟨ok105 fuel, enters_of Tryz.func105 (by kernel_rfl) rfl⟩ <|
  gok_cons ⟨ok106 fuel, enters_of Tryz.func106 (by kernel_rfl) rfl⟩ <|
  gok_cons ⟨ok107 fuel, enters_of Tryz.func107 (by kernel_rfl) rfl⟩ <|
  gok_nil
theorem B36_1_blk (fuel : Nat) : BlkOK Tryz.prog Tryz.f36.ntmps (.block 1 (.loop (bodyOf 1 Tryz.f36))) (B36_1 fuel) :=
  blk_of (blk_of_code tab_ok (hG36 fuel) mixed (J := J36_1 fuel) (kp := kp36) (fuel := fuel) (by kernel_rfl) (fun q hq => by
    rw [(by kernel_rfl : obl (J36_1 fuel) (.block 1 (.loop (bodyOf 1 Tryz.f36))) = [])] at hq
    cases hq)) (B36_1_ok fuel)
theorem fok36 (fuel : Nat) : FnOK Tryz.prog 36 (evalFn tab (G36 fuel) (J36 fuel) kp36 fuel Tryz.f36) :=
  fn_ok tab_ok (hG36 fuel) mixed Tryz.func36 (c := (Tryz.f36.body).getD .skip) rfl (fun q hq => by
    rw [(by kernel_rfl : obl (J36 fuel) ((Tryz.f36.body).getD .skip) = [(.block 1 (.loop (bodyOf 1 Tryz.f36)), B36_1 fuel)])] at hq
    simp only [List.mem_cons, List.not_mem_nil, or_false] at hq
    subst hq
    · exact B36_1_blk fuel)
noncomputable def mt36 : List Ev.SV → List Ev.Ob → Bool := fun args objs => match args, objs with
  | [.agg [.int .i64 _, .int .i64 _, .bool _, .int .i64 _, .int .i64 _, .int .i64 _, .bool _, .int .i64 _], .c (.sl (.pair (.int .i64) (.pair (.int .i64) (.sl (.int .u8)))) _), .c (.sl (.pair (.int .i64) (.pair (.int .i64) (.pair (.int .i64) (.pair .bool (.pair (.int .i64) (.pair (.int .i64) (.pair (.int .i64) (.pair (.int .i64) (.sl (.int .u8)))))))))) _), .c (.int .i64 _), .c (.int .i64 _)], [] => true
  | _, _ => false
noncomputable def spg36 (F : YF36) : Ev.Spec := fun args objs k => match args, objs with
  | [.agg [.int .i64 x0, .int .i64 x1, .bool x2, .int .i64 x3, .int .i64 x4, .int .i64 x5, .bool x6, .int .i64 x7], .c (.sl (.pair (.int .i64) (.pair (.int .i64) (.sl (.int .u8)))) x8), .c (.sl (.pair (.int .i64) (.pair (.int .i64) (.pair (.int .i64) (.pair .bool (.pair (.int .i64) (.pair (.int .i64) (.pair (.int .i64) (.pair (.int .i64) (.sl (.int .u8)))))))))) x9), .c (.int .i64 x10), .c (.int .i64 x11)], [] => bif true then F x0 x1 x2 x3 x4 x5 x6 x7 x8 x9 x10 x11 (fun r => match r with | (r0, r1, r2, r3) => k (.tup [(true, [.int .i64 r0, .int .i64 r1, .own 0]), (false, [.int .i64 r2])], [.vec 5 (.int .u8) r3 true])) else none
  | _, _ => none
noncomputable def spec36 (fuel : Nat) : Ev.Spec := spg36 (F_text_Render fuel)
theorem ok36 (fuel : Nat) : FnOK Tryz.prog 36 (spec36 fuel) := by
  intro args objs kk r h
  unfold spec36 spg36 at h
  split at h
  · skip
    obtain ⟨hb, h⟩ := cond_some' h
    simp only [Bool.and_eq_true, Nat.beq_eq, decide_eq_true_eq] at hb
    clear hb
    exact fok36 fuel _ _ kk r ((F36_eq fuel _ _ _ _ _ _ _ _ _ _ _ _ kk).trans h)
  · cases h
end Go.Proofs.YtipdidpalcmlhaaGreat

set_option linter.unusedVariables false
set_option linter.unusedSimpArgs false
set_option maxRecDepth 100000
set_option maxHeartbeats 2000000
namespace Go.Proofs.YtipdidpalcmlhaaGreat
open Go Ev
def kp11 (i : Nat) : Option (List Nat) := Ev.look i [(12, [2, 3, 5, 11, 61]), (15, [2, 3, 5, 11, 12, 61, 64]), (100000, []), (100002, [2, 3, 5, 11, 61]), (200017, [5, 11]), (400000, [8]), (400002, [8])]
noncomputable def Gg11 (f22 : YF22) (f32 : YF32) (f33 : YF33) (f36 : YF36) (f39 : YF39) (f40 : YF40) (f : Nat) : Option Ev.Spec := Ev.look f [(22, spg22 f22), (32, spg32 f32), (33, spg33 f33), (36, spg36 f36), (39, spg39 f39), (40, spg40 f40)]
noncomputable def G11 (fuel : Nat) : Nat → Option Ev.Spec := Gg11 (F_law10_Awake fuel) (F_ref10_Valid fuel) (F_text_At fuel) (F_text_Render fuel) (F_ref10_IsShape fuel) (F_ref06_Pix fuel)
noncomputable def S_law10_TextOne_2 (fuel : Nat) (v : Int × Int × Int × Int × Int × Int × Int × (List Int) × Int × Int × (List Int)) (c : (Int × Int × Int × Int × Int × Int × Int × (List Int) × Int × Int × (List Int)) → Option Ans) (B : (Bool → Option Ans) × (Int × Int × Int × Int × Int × (List Int) × Int × Int × (List Int) → Option Ans)) : Option Ans := match v, B with
  | (x0, x1, x2, x3, x4, x5, x6, x7, x8, x9, x10), (ret, b) =>
   bif Decidable.decide (x4 < (80 : Int)) then
      (F_ref06_Pix fuel (x8) (x9) (x10) (x4) (x2)
        (fun y3 =>
          (F_ref06_Pix fuel (x5) (x6) (x7) (Go.IntKind.i64.wrap (x4 - Go.IntKind.i64.wrap x0)) (Go.IntKind.i64.wrap (x2 - Go.IntKind.i64.wrap x1))
            (fun y7 =>
              bif y3 != y7 then
               ret Bool.false
              else
               c (x0, x1, x2, x3, Go.IntKind.i64.wrap (x4 + (1 : Int)), x5, x6, x7, x8, x9, x10)))))
     else
      b (x0, x1, x3, x5, x6, x7, x8, x9, x10)
noncomputable def L_law10_TextOne_2 (fuel : Nat) (v : Int × Int × Int × Int × Int × Int × Int × (List Int) × Int × Int × (List Int)) (ret : (Bool → Option Ans)) (b : (Int × Int × Int × Int × Int × (List Int) × Int × Int × (List Int) → Option Ans)) : Option Ans := iter (S_law10_TextOne_2 fuel) fuel v (ret, b)
noncomputable def J11_2 (fuel : Nat) (i : Nat) : Option Ev.Blk := Ev.look i []
noncomputable def T11_2 (v : Int × Int × Int × Int × Int × Int × Int × (List Int) × Int × Int × (List Int)) : Ev.St := match v with | (x0, x1, x2, x3, x4, x5, x6, x7, x8, x9, x10) => ⟨[(2, .c (.int .u8 x0)), (3, .c (.int .u8 x1)), (5, .c (.ptr 0 0)), (11, .c (.ptr 1 0)), (12, .c (.int .i64 x2)), (61, .c (.int .i64 x3)), (64, .c (.int .i64 x4))], [(0, .cells 51 [.int .i64 x5, .int .i64 x6, .sl (.int .u8) x7]), (1, .cells 51 [.int .i64 x8, .int .i64 x9, .own 2]), (2, .vec 5 (.int .u8) x10 true)], 3, 0⟩
noncomputable def E11_2 (K : Ev.Ex → Ev.St → Option Ans) : (Bool → Option Ans) × (Int × Int × Int × Int × Int × (List Int) × Int × Int × (List Int) → Option Ans) := ((fun v => match v with | x0 => K .ret ⟨[(8, .c (.bool x0))], [], 0, 0⟩), (fun v => match v with | (x0, x1, x2, x3, x4, x5, x6, x7, x8) => K .normal ⟨[(2, .c (.int .u8 x0)), (3, .c (.int .u8 x1)), (5, .c (.ptr 0 0)), (11, .c (.ptr 1 0)), (61, .c (.int .i64 x2))], [(0, .cells 51 [.int .i64 x3, .int .i64 x4, .sl (.int .u8) x5]), (1, .cells 51 [.int .i64 x6, .int .i64 x7, .own 2]), (2, .vec 5 (.int .u8) x8 true)], 3, 0⟩))
theorem S11_2_okg (fuel : Nat) (f22 : YF22) (f32 : YF32) (f33 : YF33) (f36 : YF36) (f39 : YF39) (f40 : YF40) (R : Ev.St → Option Ans) (K : Ev.Ex → Ev.St → Option Ans) (x0 : Int) (x1 : Int) (x2 : Int) (x3 : Int) (x4 : Int) (x5 : Int) (x6 : Int) (x7 : (List Int)) (x8 : Int) (x9 : Int) (x10 : (List Int)) : evalCode tab (Gg11 f22 f32 f33 f36 f39 f40) (J11_2 fuel) kp11 fuel (bodyOf 2 Tryz.f11) (T11_2 (x0, x1, x2, x3, x4, x5, x6, x7, x8, x9, x10)) (lc kp11 15 2 R K) = (fun (c : (Int × Int × Int × Int × Int × Int × Int × (List Int) × Int × Int × (List Int)) → Option Ans) (B : (Bool → Option Ans) × (Int × Int × Int × Int × Int × (List Int) × Int × Int × (List Int) → Option Ans)) => match B with
  | (ret, b) =>
   bif Decidable.decide (x4 < (80 : Int)) then
      (f40 (x8) (x9) (x10) (x4) (x2)
        (fun y3 =>
          (f40 (x5) (x6) (x7) (Go.IntKind.i64.wrap (x4 - Go.IntKind.i64.wrap x0)) (Go.IntKind.i64.wrap (x2 - Go.IntKind.i64.wrap x1))
            (fun y7 =>
              bif y3 != y7 then
               ret Bool.false
              else
               c (x0, x1, x2, x3, Go.IntKind.i64.wrap (x4 + (1 : Int)), x5, x6, x7, x8, x9, x10)))))
     else
      b (x0, x1, x3, x5, x6, x7, x8, x9, x10)) (fun v => R (T11_2 v)) (E11_2 K) := by
  kernel_rfl
theorem S11_2_ok (fuel : Nat) (R : Ev.St → Option Ans) (K : Ev.Ex → Ev.St → Option Ans) (x0 : Int) (x1 : Int) (x2 : Int) (x3 : Int) (x4 : Int) (x5 : Int) (x6 : Int) (x7 : (List Int)) (x8 : Int) (x9 : Int) (x10 : (List Int)) : evalCode tab (G11 fuel) (J11_2 fuel) kp11 fuel (bodyOf 2 Tryz.f11) (T11_2 (x0, x1, x2, x3, x4, x5, x6, x7, x8, x9, x10)) (lc kp11 15 2 R K) = S_law10_TextOne_2 fuel (x0, x1, x2, x3, x4, x5, x6, x7, x8, x9, x10) (fun v => R (T11_2 v)) (E11_2 K) :=
  S11_2_okg fuel (F_law10_Awake fuel) (F_ref10_Valid fuel) (F_text_At fuel) (F_text_Render fuel) (F_ref10_IsShape fuel) (F_ref06_Pix fuel) R K x0 x1 x2 x3 x4 x5 x6 x7 x8 x9 x10
noncomputable def B11_2 (fuel : Nat) : Ev.Blk := fun st K => match canonO (kp11 15) st with
  | some s => (match s with
    | ⟨[(q0, .c (.int .u8 x0)), (q1, .c (.int .u8 x1)), (q2, .c (.ptr q3 q4)), (q5, .c (.ptr q6 q7)), (q8, .c (.int .i64 x2)), (q9, .c (.int .i64 x3)), (q10, .c (.int .i64 x4))], [(q11, .cells q12 [.int .i64 x5, .int .i64 x6, .sl (.int .u8) x7]), (q13, .cells q14 [.int .i64 x8, .int .i64 x9, .own q15]), (q16, .vec q17 (.int .u8) x10 true)], q18, q19⟩ => bif Nat.beq q0 2 && Nat.beq q1 3 && Nat.beq q2 5 && Nat.beq q3 0 && Nat.beq q4 0 && Nat.beq q5 11 && Nat.beq q6 1 && Nat.beq q7 0 && Nat.beq q8 12 && Nat.beq q9 61 && Nat.beq q10 64 && Nat.beq q11 0 && Nat.beq q12 51 && Nat.beq q13 1 && Nat.beq q14 51 && Nat.beq q15 2 && Nat.beq q16 2 && Nat.beq q17 5 && Nat.beq q18 3 && Nat.beq q19 0 then iter (S_law10_TextOne_2 fuel) fuel (x0, x1, x2, x3, x4, x5, x6, x7, x8, x9, x10) (E11_2 K) else none
    | _ => none)
  | none => none
theorem B11_2_ok (fuel : Nat) (st : Ev.St) (K : Ev.Ex → Ev.St → Option Ans) (r : Ans) (h : B11_2 fuel st K = some r) : evalCode tab (G11 fuel) (J11_2 fuel) kp11 fuel (.block 2 (.loop (bodyOf 2 Tryz.f11))) st K = some r := by
  unfold B11_2 at h
  split at h
  · rename_i s hs
    split at h
    · skip
      obtain ⟨hb, h⟩ := cond_some' h
      simp only [Bool.and_eq_true, Nat.beq_eq, decide_eq_true_eq] at hb
      obtain ⟨⟨⟨⟨⟨⟨⟨⟨⟨⟨⟨⟨⟨⟨⟨⟨⟨⟨⟨rfl, rfl⟩, rfl⟩, rfl⟩, rfl⟩, rfl⟩, rfl⟩, rfl⟩, rfl⟩, rfl⟩, rfl⟩, rfl⟩, rfl⟩, rfl⟩, rfl⟩, rfl⟩, rfl⟩, rfl⟩, rfl⟩, rfl⟩ := hb
      exact blk_loop (S := T11_2) (ks := E11_2) (step := S_law10_TextOne_2 fuel) (v := (_, _, _, _, _, _, _, _, _, _, _)) (by kernel_rfl) (by kernel_rfl) (fun R K v => by obtain ⟨x0, x1, x2, x3, x4, x5, x6, x7, x8, x9, x10⟩ := v; exact S11_2_ok fuel R K x0 x1 x2 x3 x4 x5 x6 x7 x8 x9 x10) hs h
    · cases h
  · cases h
noncomputable def S_law10_TextOne_0 (fuel : Nat) (v : Int × Int × Int × Int × Int × (List Int) × Int × Int × (List Int)) (c : (Int × Int × Int × Int × Int × (List Int) × Int × Int × (List Int)) → Option Ans) (B : (Bool → Option Ans) × (Unit → Option Ans)) : Option Ans := match v, B with
  | (x0, x1, x2, x3, x4, x5, x6, x7, x8), (ret, b) =>
   bif Decidable.decide (x2 < (80 : Int)) then
      (L_law10_TextOne_2 fuel (x0, x1, x2, x2, (0 : Int), x3, x4, x5, x6, x7, x8)
        (fun ret2_0 =>
          ret ret2_0)
        (fun (b2_0, b2_1, b2_2, b2_3, b2_4, b2_5, b2_6, b2_7, b2_8) =>
          c (b2_0, b2_1, Go.IntKind.i64.wrap (b2_2 + (1 : Int)), b2_3, b2_4, b2_5, b2_6, b2_7, b2_8)))
     else
      b ()
noncomputable def L_law10_TextOne_0 (fuel : Nat) (v : Int × Int × Int × Int × Int × (List Int) × Int × Int × (List Int)) (ret : (Bool → Option Ans)) (b : (Unit → Option Ans)) : Option Ans := iter (S_law10_TextOne_0 fuel) fuel v (ret, b)
noncomputable def J11_0 (fuel : Nat) (i : Nat) : Option Ev.Blk := Ev.look i [(100002, B11_2 fuel)]
noncomputable def T11_0 (v : Int × Int × Int × Int × Int × (List Int) × Int × Int × (List Int)) : Ev.St := match v with | (x0, x1, x2, x3, x4, x5, x6, x7, x8) => ⟨[(2, .c (.int .u8 x0)), (3, .c (.int .u8 x1)), (5, .c (.ptr 0 0)), (11, .c (.ptr 1 0)), (61, .c (.int .i64 x2))], [(0, .cells 51 [.int .i64 x3, .int .i64 x4, .sl (.int .u8) x5]), (1, .cells 51 [.int .i64 x6, .int .i64 x7, .own 2]), (2, .vec 5 (.int .u8) x8 true)], 3, 0⟩
noncomputable def E11_0 (K : Ev.Ex → Ev.St → Option Ans) : (Bool → Option Ans) × (Unit → Option Ans) := ((fun v => match v with | x0 => K .ret ⟨[(8, .c (.bool x0))], [], 0, 0⟩), (fun v => match v with | () => K .normal ⟨[], [], 0, 0⟩))
theorem S11_0_okg (fuel : Nat) (f22 : YF22) (f32 : YF32) (f33 : YF33) (f36 : YF36) (f39 : YF39) (f40 : YF40) (R : Ev.St → Option Ans) (K : Ev.Ex → Ev.St → Option Ans) (x0 : Int) (x1 : Int) (x2 : Int) (x3 : Int) (x4 : Int) (x5 : (List Int)) (x6 : Int) (x7 : Int) (x8 : (List Int)) : evalCode tab (Gg11 f22 f32 f33 f36 f39 f40) (J11_0 fuel) kp11 fuel (bodyOf 0 Tryz.f11) (T11_0 (x0, x1, x2, x3, x4, x5, x6, x7, x8)) (lc kp11 12 0 R K) = (fun (c : (Int × Int × Int × Int × Int × (List Int) × Int × Int × (List Int)) → Option Ans) (B : (Bool → Option Ans) × (Unit → Option Ans)) => match B with
  | (ret, b) =>
   bif Decidable.decide (x2 < (80 : Int)) then
      (L_law10_TextOne_2 fuel (x0, x1, x2, x2, (0 : Int), x3, x4, x5, x6, x7, x8)
        (fun ret2_0 =>
          ret ret2_0)
        (fun (b2_0, b2_1, b2_2, b2_3, b2_4, b2_5, b2_6, b2_7, b2_8) =>
          c (b2_0, b2_1, Go.IntKind.i64.wrap (b2_2 + (1 : Int)), b2_3, b2_4, b2_5, b2_6, b2_7, b2_8)))
     else
      b ()) (fun v => R (T11_0 v)) (E11_0 K) := by
  kernel_rfl
theorem S11_0_ok (fuel : Nat) (R : Ev.St → Option Ans) (K : Ev.Ex → Ev.St → Option Ans) (x0 : Int) (x1 : Int) (x2 : Int) (x3 : Int) (x4 : Int) (x5 : (List Int)) (x6 : Int) (x7 : Int) (x8 : (List Int)) : evalCode tab (G11 fuel) (J11_0 fuel) kp11 fuel (bodyOf 0 Tryz.f11) (T11_0 (x0, x1, x2, x3, x4, x5, x6, x7, x8)) (lc kp11 12 0 R K) = S_law10_TextOne_0 fuel (x0, x1, x2, x3, x4, x5, x6, x7, x8) (fun v => R (T11_0 v)) (E11_0 K) :=
  S11_0_okg fuel (F_law10_Awake fuel) (F_ref10_Valid fuel) (F_text_At fuel) (F_text_Render fuel) (F_ref10_IsShape fuel) (F_ref06_Pix fuel) R K x0 x1 x2 x3 x4 x5 x6 x7 x8
noncomputable def B11_0 (fuel : Nat) : Ev.Blk := fun st K => match canonO (kp11 12) st with
  | some s => (match s with
    | ⟨[(q0, .c (.int .u8 x0)), (q1, .c (.int .u8 x1)), (q2, .c (.ptr q3 q4)), (q5, .c (.ptr q6 q7)), (q8, .c (.int .i64 x2))], [(q9, .cells q10 [.int .i64 x3, .int .i64 x4, .sl (.int .u8) x5]), (q11, .cells q12 [.int .i64 x6, .int .i64 x7, .own q13]), (q14, .vec q15 (.int .u8) x8 true)], q16, q17⟩ => bif Nat.beq q0 2 && Nat.beq q1 3 && Nat.beq q2 5 && Nat.beq q3 0 && Nat.beq q4 0 && Nat.beq q5 11 && Nat.beq q6 1 && Nat.beq q7 0 && Nat.beq q8 61 && Nat.beq q9 0 && Nat.beq q10 51 && Nat.beq q11 1 && Nat.beq q12 51 && Nat.beq q13 2 && Nat.beq q14 2 && Nat.beq q15 5 && Nat.beq q16 3 && Nat.beq q17 0 then iter (S_law10_TextOne_0 fuel) fuel (x0, x1, x2, x3, x4, x5, x6, x7, x8) (E11_0 K) else none
    | _ => none)
  | none => none
theorem B11_0_ok (fuel : Nat) (st : Ev.St) (K : Ev.Ex → Ev.St → Option Ans) (r : Ans) (h : B11_0 fuel st K = some r) : evalCode tab (G11 fuel) (J11_0 fuel) kp11 fuel (.block 0 (.loop (bodyOf 0 Tryz.f11))) st K = some r := by
  unfold B11_0 at h
  split at h
  · rename_i s hs
    split at h
    · skip
      obtain ⟨hb, h⟩ := cond_some' h
      simp only [Bool.and_eq_true, Nat.beq_eq, decide_eq_true_eq] at hb
      obtain ⟨⟨⟨⟨⟨⟨⟨⟨⟨⟨⟨⟨⟨⟨⟨⟨⟨rfl, rfl⟩, rfl⟩, rfl⟩, rfl⟩, rfl⟩, rfl⟩, rfl⟩, rfl⟩, rfl⟩, rfl⟩, rfl⟩, rfl⟩, rfl⟩, rfl⟩, rfl⟩, rfl⟩, rfl⟩ := hb
      exact blk_loop (S := T11_0) (ks := E11_0) (step := S_law10_TextOne_0 fuel) (v := (_, _, _, _, _, _, _, _, _)) (by kernel_rfl) (by kernel_rfl) (fun R K v => by obtain ⟨x0, x1, x2, x3, x4, x5, x6, x7, x8⟩ := v; exact S11_0_ok fuel R K x0 x1 x2 x3 x4 x5 x6 x7 x8) hs h
    · cases h
  · cases h
noncomputable def J11 (fuel : Nat) (i : Nat) : Option Ev.Blk := Ev.look i [(100002, B11_2 fuel), (100000, B11_0 fuel)]
noncomputable def F_law10_TextOne (fuel : Nat) (x0 : Int) (x1 : Int) (x2 : Bool) (x3 : Int) (x4 : Int) (x5 : Int) (x6 : Bool) (x7 : Int) (x8 : Int) (x9 : Int) (x10 : (List Int)) (x11 : Int) (x12 : Int) (k0 : (Bool) → Option Ans) : Option Ans :=
  (F_ref10_Valid fuel (x0) (x1) (x2) (x3) ((1 : Int)) (x5) (x6) (x7)
    (fun y2 =>
      bif !y2 then
       (F_law10_Awake fuel
         (fun y7 =>
           k0 y7))
      else
       (F_ref10_IsShape fuel (x8) (x9) (x10)
         (fun y7 =>
           bif !y7 then
            (F_law10_Awake fuel
              (fun y12 =>
                k0 y12))
           else
            (F_text_At fuel (x0) (x1) (x2) (x3) ((1 : Int)) (x5) (x6) (x7) (x8) (x9) (x10) ((0 : Int)) (Go.IntKind.i64.wrap (x11.tmod (40 : Int))) (Go.IntKind.i64.wrap (x12.tmod (40 : Int)))
              (fun (y12_0, y12_1, y12_2, y12_3, y12_4, y12_5, y12_6, y12_7, y12_8, y12_9) =>
                bif y12_8 != (0 : Int) then
                 k0 Bool.false
                else
                 (F_text_Render fuel (x0) (x1) (x2) (x3) ((1 : Int)) (x5) (x6) (x7) ([(x8, x9, x10)]) ([(y12_0, y12_1, y12_2, y12_3, y12_4, y12_5, y12_6, y12_7, y12_9)]) ((80 : Int)) ((80 : Int))
                   (fun (y17_0, y17_1, y17_2, y17_3) =>
                     bif y17_2 != (0 : Int) then
                      k0 Bool.false
                     else
                      bif y17_0 != (80 : Int) then
                       k0 Bool.false
                      else
                       bif y17_1 != (80 : Int) then
                        k0 Bool.false
                       else
                        (L_law10_TextOne_0 fuel (x11.tmod (40 : Int), x12.tmod (40 : Int), (0 : Int), x8, x9, x10, y17_0, y17_1, y17_3)
                          (fun ret0_0 =>
                            k0 ret0_0)
                          (fun () =>
                            (F_law10_Awake fuel
                              (fun y28 =>
                                k0 y28))))))))))))
abbrev YF11 : Type := (Int) → (Int) → (Bool) → (Int) → (Int) → (Int) → (Bool) → (Int) → (Int) → (Int) → ((List Int)) → (Int) → (Int) → ((Bool) → Option Ans) → Option Ans
theorem F11_eqg (fuel : Nat) (f22 : YF22) (f32 : YF32) (f33 : YF33) (f36 : YF36) (f39 : YF39) (f40 : YF40) (x0 : Int) (x1 : Int) (x2 : Bool) (x3 : Int) (x4 : Int) (x5 : Int) (x6 : Bool) (x7 : Int) (x8 : Int) (x9 : Int) (x10 : (List Int)) (x11 : Int) (x12 : Int) (k : Ev.Cont) : evalFn tab (Gg11 f22 f32 f33 f36 f39 f40) (J11 fuel) kp11 fuel Tryz.f11 [.agg [.int .i64 x0, .int .i64 x1, .bool x2, .int .i64 x3, .int .i64 x4, .int .i64 x5, .bool x6, .int .i64 x7], .agg [.int .i64 x8, .int .i64 x9, .sl (.int .u8) x10], .c (.int .u8 x11), .c (.int .u8 x12)] [] k = (fun  (k0 : (Bool) → Option Ans) =>
  (f32 (x0) (x1) (x2) (x3) ((1 : Int)) (x5) (x6) (x7)
    (fun y2 =>
      bif !y2 then
       (f22
         (fun y7 =>
           k0 y7))
      else
       (f39 (x8) (x9) (x10)
         (fun y7 =>
           bif !y7 then
            (f22
              (fun y12 =>
                k0 y12))
           else
            (f33 (x0) (x1) (x2) (x3) ((1 : Int)) (x5) (x6) (x7) (x8) (x9) (x10) ((0 : Int)) (Go.IntKind.i64.wrap (x11.tmod (40 : Int))) (Go.IntKind.i64.wrap (x12.tmod (40 : Int)))
              (fun (y12_0, y12_1, y12_2, y12_3, y12_4, y12_5, y12_6, y12_7, y12_8, y12_9) =>
                bif y12_8 != (0 : Int) then
                 k0 Bool.false
                else
                 (f36 (x0) (x1) (x2) (x3) ((1 : Int)) (x5) (x6) (x7) ([(x8, x9, x10)]) ([(y12_0, y12_1, y12_2, y12_3, y12_4, y12_5, y12_6, y12_7, y12_9)]) ((80 : Int)) ((80 : Int))
                   (fun (y17_0, y17_1, y17_2, y17_3) =>
                     bif y17_2 != (0 : Int) then
                      k0 Bool.false
                     else
                      bif y17_0 != (80 : Int) then
                       k0 Bool.false
                      else
                       bif y17_1 != (80 : Int) then
                        k0 Bool.false
                       else
                        (L_law10_TextOne_0 fuel (x11.tmod (40 : Int), x12.tmod (40 : Int), (0 : Int), x8, x9, x10, y17_0, y17_1, y17_3)
                          (fun ret0_0 =>
                            k0 ret0_0)
                          (fun () =>
                            (f22
                              (fun y28 =>
                                k0 y28))))))))))))) (fun r => match r with | r0 => k (.c (.bool r0), [])) := by
  kernel_rfl
theorem F11_eq (fuel : Nat) (x0 : Int) (x1 : Int) (x2 : Bool) (x3 : Int) (x4 : Int) (x5 : Int) (x6 : Bool) (x7 : Int) (x8 : Int) (x9 : Int) (x10 : (List Int)) (x11 : Int) (x12 : Int) (k : Ev.Cont) : evalFn tab (G11 fuel) (J11 fuel) kp11 fuel Tryz.f11 [.agg [.int .i64 x0, .int .i64 x1, .bool x2, .int .i64 x3, .int .i64 x4, .int .i64 x5, .bool x6, .int .i64 x7], .agg [.int .i64 x8, .int .i64 x9, .sl (.int .u8) x10], .c (.int .u8 x11), .c (.int .u8 x12)] [] k = F_law10_TextOne fuel x0 x1 x2 x3 x4 x5 x6 x7 x8 x9 x10 x11 x12 (fun r => match r with | r0 => k (.c (.bool r0), [])) :=
  F11_eqg fuel (F_law10_Awake fuel) (F_ref10_Valid fuel) (F_text_At fuel) (F_text_Render fuel) (F_ref10_IsShape fuel) (F_ref06_Pix fuel) x0 x1 x2 x3 x4 x5 x6 x7 x8 x9 x10 x11 x12 k
theorem hG11 (fuel : Nat) : GOK Tryz.prog (G11 fuel) :=
  gok_cons ⟨ok22 fuel, enters_of Tryz.func22 (by kernel_rfl) rfl⟩ <|
  gok_cons ⟨ok32 fuel, enters_of Tryz.func32 (by kernel_rfl) rfl⟩ <|
  gok_cons ⟨ok33 fuel, enters_of Tryz.func33 (by kernel_rfl) rfl⟩ <|
  gok_cons ⟨ok36 fuel, enters_of Tryz.func36 (by kernel_rfl) rfl⟩ <|
  gok_cons ⟨ok39 fuel, enters_of Tryz.func39 (by kernel_rfl) rfl⟩ <|
  gok_cons ⟨ok40 fuel, enters_of Tryz.func40 (by kernel_rfl) rfl⟩ <|
  gok_nil
theorem B11_2_blk (fuel : Nat) : BlkOK Tryz.prog Tryz.f11.ntmps (.block 2 (.loop (bodyOf 2 Tryz.f11))) (B11_2 fuel) :=
  blk_of (blk_of_code tab_ok (hG11 fuel) mixed (J := J11_2 fuel) (kp := kp11) (fuel := fuel) (by kernel_rfl) (fun q hq => by
    rw [(by kernel_rfl : obl (J11_2 fuel) (.block 2 (.loop (bodyOf 2 Tryz.f11))) = [])] at hq
    cases hq)) (B11_2_ok fuel)
theorem B11_0_blk (fuel : Nat) : BlkOK Tryz.prog Tryz.f11.ntmps (.block 0 (.loop (bodyOf 0 Tryz.f11))) (B11_0 fuel) :=
  blk_of (blk_of_code tab_ok (hG11 fuel) mixed (J := J11_0 fuel) (kp := kp11) (fuel := fuel) (by kernel_rfl) (fun q hq => by
    rw [(by kernel_rfl : obl (J11_0 fuel) (.block 0 (.loop (bodyOf 0 Tryz.f11))) = [(.block 2 (.loop (bodyOf 2 Tryz.f11)), B11_2 fuel)])] at hq
    simp only [List.mem_cons, List.not_mem_nil, or_false] at hq
    subst hq
    · exact B11_2_blk fuel)) (B11_0_ok fuel)
theorem fok11 (fuel : Nat) : FnOK Tryz.prog 11 (evalFn tab (G11 fuel) (J11 fuel) kp11 fuel Tryz.f11) :=
  fn_ok tab_ok (hG11 fuel) mixed Tryz.func11 (c := (Tryz.f11.body).getD .skip) rfl (fun q hq => by
    rw [(by kernel_rfl : obl (J11 fuel) ((Tryz.f11.body).getD .skip) = [(.block 0 (.loop (bodyOf 0 Tryz.f11)), B11_0 fuel)])] at hq
    simp only [List.mem_cons, List.not_mem_nil, or_false] at hq
    subst hq
    · exact B11_0_blk fuel)
noncomputable def mt11 : List Ev.SV → List Ev.Ob → Bool := fun args objs => match args, objs with
  | [.agg [.int .i64 _, .int .i64 _, .bool _, .int .i64 _, .int .i64 _, .int .i64 _, .bool _, .int .i64 _], .agg [.int .i64 _, .int .i64 _, .sl (.int .u8) _], .c (.int .u8 _), .c (.int .u8 _)], [] => true
  | _, _ => false
noncomputable def spg11 (F : YF11) : Ev.Spec := fun args objs k => match args, objs with
  | [.agg [.int .i64 x0, .int .i64 x1, .bool x2, .int .i64 x3, .int .i64 x4, .int .i64 x5, .bool x6, .int .i64 x7], .agg [.int .i64 x8, .int .i64 x9, .sl (.int .u8) x10], .c (.int .u8 x11), .c (.int .u8 x12)], [] => bif true then F x0 x1 x2 x3 x4 x5 x6 x7 x8 x9 x10 x11 x12 (fun r => match r with | r0 => k (.c (.bool r0), [])) else none
  | _, _ => none
noncomputable def spec11 (fuel : Nat) : Ev.Spec := spg11 (F_law10_TextOne fuel)
theorem ok11 (fuel : Nat) : FnOK Tryz.prog 11 (spec11 fuel) := by
  intro args objs kk r h
  unfold spec11 spg11 at h
  split at h
  · skip
    obtain ⟨hb, h⟩ := cond_some' h
    simp only [Bool.and_eq_true, Nat.beq_eq, decide_eq_true_eq] at hb
    clear hb
    exact fok11 fuel _ _ kk r ((F11_eq fuel _ _ _ _ _ _ _ _ _ _ _ _ _ kk).trans h)
  · cases h
end Go.Proofs.YtipdidpalcmlhaaGreat

