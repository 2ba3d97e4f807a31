/- What the functions that TonePatterns reaches do: their typed texts, each with the proof that the machine does it. No condition. -/
import Derived.Test.YtipdidpalcmlhaaEvX
import Derived.Test.YtipdidpalcmlhaaFsTonePatterns2
import Derived.Test.YtipdidpalcmlhaaFsTonePatterns3
import Derived.Test.YtipdidpalcmlhaaFsTonePatterns1
set_option linter.unusedVariables false
set_option linter.unusedSimpArgs false
set_option linter.unusedVariables false
set_option linter.unusedSimpArgs false
set_option maxRecDepth 100000
set_option maxHeartbeats 2000000
namespace Go.Proofs.Ytipdidpalcmlhaa
open Go Ev
def kp86_fd3 (i : Nat) : Option (List Nat) := Ev.look i [(13, [0, 1, 3, 4, 8, 11, 12, 18, 66, 67]), (100000, [3, 4, 12, 18]), (200009, [8, 11]), (400000, [12, 13])]
noncomputable def Gg86_fd3 (f25 : YF25) (f64 : YF64) (f65 : YF65) (f121 : YF121) (f136_aa3 : YF136_aa3) (f137 : YF137) (f138 : YF138) (f139_40a : YF139_40a) (f140_894 : YF140_894) (f : Nat) : Option Ev.Spec := Ev.look f [(25, spg25 f25), (64, spg64 f64), (65, spg65 f65), (121, spg121 f121), (136, spg136_aa3 f136_aa3), (137, spg137 f137), (138, spg138 f138), (139, spg139_40a f139_40a), (140, spg140_894 f140_894)]
noncomputable def G86_fd3 (fuel : Nat) : Nat → Option Ev.Spec := Gg86_fd3 (F_bitmap_New fuel) (F_generic_Valid fuel) (F_bitmap_Valid fuel) (F_generic_newPlane fuel) (F_coder_Decoder_Get_aa3 fuel) (F_generic_sides fuel) (F_generic_fits fuel) (F_coder_Decoder_Model_40a fuel) (F_generic_plane_row_894 fuel)
noncomputable def Sg_generic_Get_fd3_0 (fuel : Nat) (f25 : YF25) (f64 : YF64) (f65 : YF65) (f121 : YF121) (f136_aa3 : YF136_aa3) (f137 : YF137) (f138 : YF138) (f139_40a : YF139_40a) (f140_894 : YF140_894) (x0 x1 : Int) (x2 x3 : Int) (x4 x5 : Int) (x6 x7 : Int) (x8 x9 x10 : Int) (x11 x12 : Bool) (x13 x14 : (List Int)) (x15 x16 x17 : Int) (x18 : Bool) (x19 x20 x21 : Int) (x22 : (List Int)) (x23 x24 : Int) (x25 x26 : Int) (x27 x28 : (List Int)) (x29 : (List (Int × Int))) (c : (Int × Int × Int × Int × Int × Int × Int × Int × Int × Int × Int × Bool × Bool × (List Int) × (List Int) × Int × Int × Int × Bool × Int × Int × Int × (List Int) × Int × Int × Int × Int × (List Int) × (List Int) × (List (Int × Int))) → Option Ans) (B : (Int × Int × Int × Int × Int × Int × Int × Bool × Bool × (List Int) × (List Int) × Int × Int × (List Int) → Option Ans) × (Int × Int × Int × Int × Int × Int × Int × Int × Bool × Bool × (List Int) × (List Int) × Int × Int × Int × Int × (List Int) × (List Int) × (List (Int × Int)) → Option Ans)) : Option Ans := match B with
 | (ret, b) =>
  bif decide (x4 < x3) then
  (f140_894 (x0) (x15) (x16) (x17) (x18) (x19) (x4) (x20) (x21) (x22) (x25) (x26) (x5) (x6) (x7) (x8) (x9) (x10) (x11) (x12) (x28) (x29) (x13) (x14)
  (fun (y3_0, y3_1, y3_2, y3_3, y3_4, y3_5, y3_6, y3_7, y3_8, y3_9, y3_10, y3_11, y3_12, y3_13, y3_14) =>
  bif y3_0 != (0 : Int) then
  ret (y3_0, y3_3, y3_4, y3_5, y3_6, y3_7, y3_8, y3_9, y3_10, y3_13, y3_14, (0 : Int), (0 : Int), [])
  else
  c (x0, x1, x2, x3, IntKind.i64.wrap (x4 + (1 : Int)), y3_3, y3_4, y3_5, y3_6, y3_7, y3_8, y3_9, y3_10, y3_13, y3_14, x15, x16, x17, x18, x19, x20, x21, x22, x23, x24, y3_1, y3_2, x27, y3_11, y3_12)))
  else
  b (x1, x2, x5, x6, x7, x8, x9, x10, x11, x12, x13, x14, x23, x24, x25, x26, x27, x28, x29)
noncomputable def S_generic_Get_fd3_0 (fuel : Nat) (v : Int × Int × Int × Int × Int × Int × Int × Int × Int × Int × Int × Bool × Bool × (List Int) × (List Int) × Int × Int × Int × Bool × Int × Int × Int × (List Int) × Int × Int × Int × Int × (List Int) × (List Int) × (List (Int × Int))) (c : (Int × Int × Int × Int × Int × Int × Int × Int × Int × Int × Int × Bool × Bool × (List Int) × (List Int) × Int × Int × Int × Bool × Int × Int × Int × (List Int) × Int × Int × Int × Int × (List Int) × (List Int) × (List (Int × Int))) → Option Ans) (B : (Int × Int × Int × Int × Int × Int × Int × Bool × Bool × (List Int) × (List Int) × Int × Int × (List Int) → Option Ans) × (Int × Int × Int × Int × Int × Int × Int × Int × Bool × Bool × (List Int) × (List Int) × Int × Int × Int × Int × (List Int) × (List Int) × (List (Int × Int)) → Option Ans)) : Option Ans := match v with
 | (x0, x1, x2, x3, x4, x5, x6, x7, x8, x9, x10, x11, x12, x13, x14, x15, x16, x17, x18, x19, x20, x21, x22, x23, x24, x25, x26, x27, x28, x29) => Sg_generic_Get_fd3_0 fuel (F_bitmap_New fuel) (F_generic_Valid fuel) (F_bitmap_Valid fuel) (F_generic_newPlane fuel) (F_coder_Decoder_Get_aa3 fuel) (F_generic_sides fuel) (F_generic_fits fuel) (F_coder_Decoder_Model_40a fuel) (F_generic_plane_row_894 fuel) x0 x1 x2 x3 x4 x5 x6 x7 x8 x9 x10 x11 x12 x13 x14 x15 x16 x17 x18 x19 x20 x21 x22 x23 x24 x25 x26 x27 x28 x29 c B
noncomputable def L_generic_Get_fd3_0 (fuel : Nat) (v : Int × Int × Int × Int × Int × Int × Int × Int × Int × Int × Int × Bool × Bool × (List Int) × (List Int) × Int × Int × Int × Bool × Int × Int × Int × (List Int) × Int × Int × Int × Int × (List Int) × (List Int) × (List (Int × Int))) (ret : (Int × Int × Int × Int × Int × Int × Int × Bool × Bool × (List Int) × (List Int) × Int × Int × (List Int) → Option Ans)) (b : (Int × Int × Int × Int × Int × Int × Int × Int × Bool × Bool × (List Int) × (List Int) × Int × Int × Int × Int × (List Int) × (List Int) × (List (Int × Int)) → Option Ans)) : Option Ans := iter (S_generic_Get_fd3_0 fuel) fuel v (ret, b)
noncomputable def J86_fd3_0 (fuel : Nat) (i : Nat) : Option Ev.Blk := Ev.look i []
noncomputable def T86_fd3_0 (v : Int × Int × Int × Int × Int × Int × Int × Int × Int × Int × Int × Bool × Bool × (List Int) × (List Int) × Int × Int × Int × Bool × Int × Int × Int × (List Int) × Int × Int × Int × Int × (List Int) × (List Int) × (List (Int × Int))) : Ev.St := match v with | (x0, x1, x2, x3, x4, x5, x6, x7, x8, x9, x10, x11, x12, x13, x14, x15, x16, x17, x18, x19, x20, x21, x22, x23, x24, x25, x26, x27, x28, x29) => ⟨[(0, .c (.ptr 0 0)), (1, .c (.int .i64 x0)), (3, .c (.int .i64 x1)), (4, .c (.int .i64 x2)), (8, .c (.ptr 3 0)), (11, .c (.ptr 4 0)), (12, .c (.ptr 5 0)), (18, .c (.ptr 6 0)), (66, .c (.int .i64 x3)), (67, .c (.int .i64 x4))], [(0, .cells 163 (.int .i64 x5 :: .own 1 :: ctb (.int .u64 x6 :: .int .u64 x7 :: .own 2 :: .int .i64 x8 :: .int .u64 x9 :: .int .i64 x10 :: .bool x11 :: .bool x12 :: []))), (1, .vec 3 (.int .i64) x13 false), (2, .vec 5 (.int .u8) x14 false), (3, .cells 24 [.int .i64 x15, .int .i64 x16, .int .i64 x17, .bool x18, .int .i64 x19]), (4, .cells 35 [.int .i64 x20, .int .i64 x21, .sl (.int .u8) x22]), (5, .cells 35 [.int .i64 x23, .int .i64 x24, .own 7]), (6, .cells 174 [.int .i64 x25, .int .i64 x26, .own 8, .own 9]), (7, .vec 5 (.int .u8) x27 true), (8, .vec 5 (.int .u8) x28 true), (9, .vec 22 (.pair (.int .i64) (.int .i64)) x29 true)], 10, 3⟩
noncomputable def E86_fd3_0 (K : Ev.Ex → Ev.St → Option Ans) : (Int × Int × Int × Int × Int × Int × Int × Bool × Bool × (List Int) × (List Int) × Int × Int × (List Int) → Option Ans) × (Int × Int × Int × Int × Int × Int × Int × Int × Bool × Bool × (List Int) × (List Int) × Int × Int × Int × Int × (List Int) × (List Int) × (List (Int × Int)) → Option Ans) := ((fun v => match v with | (x0, x1, x2, x3, x4, x5, x6, x7, x8, x9, x10, x11, x12, x13) => K .ret ⟨[(12, .c (.ptr 3 0)), (13, .c (.int .i64 x0))], [(0, .cells 163 (.int .i64 x1 :: .own 1 :: ctb (.int .u64 x2 :: .int .u64 x3 :: .own 2 :: .int .i64 x4 :: .int .u64 x5 :: .int .i64 x6 :: .bool x7 :: .bool x8 :: []))), (1, .vec 3 (.int .i64) x9 false), (2, .vec 5 (.int .u8) x10 false), (3, .cells 35 [.int .i64 x11, .int .i64 x12, .own 4]), (4, .vec 5 (.int .u8) x13 true)], 5, 3⟩), (fun v => match v with | (x0, x1, x2, x3, x4, x5, x6, x7, x8, x9, x10, x11, x12, x13, x14, x15, x16, x17, x18) => K .normal ⟨[(3, .c (.int .i64 x0)), (4, .c (.int .i64 x1)), (12, .c (.ptr 3 0)), (18, .c (.ptr 4 0))], [(0, .cells 163 (.int .i64 x2 :: .own 1 :: ctb (.int .u64 x3 :: .int .u64 x4 :: .own 2 :: .int .i64 x5 :: .int .u64 x6 :: .int .i64 x7 :: .bool x8 :: .bool x9 :: []))), (1, .vec 3 (.int .i64) x10 false), (2, .vec 5 (.int .u8) x11 false), (3, .cells 35 [.int .i64 x12, .int .i64 x13, .own 5]), (4, .cells 174 [.int .i64 x14, .int .i64 x15, .own 6, .own 7]), (5, .vec 5 (.int .u8) x16 true), (6, .vec 5 (.int .u8) x17 true), (7, .vec 22 (.pair (.int .i64) (.int .i64)) x18 true)], 8, 3⟩))
theorem S86_fd3_0_okg (fuel : Nat) (f25 : YF25) (f64 : YF64) (f65 : YF65) (f121 : YF121) (f136_aa3 : YF136_aa3) (f137 : YF137) (f138 : YF138) (f139_40a : YF139_40a) (f140_894 : YF140_894) (R : Ev.St → Option Ans) (K : Ev.Ex → Ev.St → Option Ans) (x0 x1 : Int) (x2 x3 : Int) (x4 x5 : Int) (x6 x7 : Int) (x8 x9 x10 : Int) (x11 x12 : Bool) (x13 x14 : (List Int)) (x15 x16 x17 : Int) (x18 : Bool) (x19 x20 x21 : Int) (x22 : (List Int)) (x23 x24 : Int) (x25 x26 : Int) (x27 x28 : (List Int)) (x29 : (List (Int × Int))) : evalCode tab (Gg86_fd3 f25 f64 f65 f121 f136_aa3 f137 f138 f139_40a f140_894) (J86_fd3_0 fuel) kp86_fd3 fuel (bodyOf 0 Try.f86) (T86_fd3_0 (x0, x1, x2, x3, x4, x5, x6, x7, x8, x9, x10, x11, x12, x13, x14, x15, x16, x17, x18, x19, x20, x21, x22, x23, x24, x25, x26, x27, x28, x29)) (lc kp86_fd3 13 0 R K) = Sg_generic_Get_fd3_0 fuel f25 f64 f65 f121 f136_aa3 f137 f138 f139_40a f140_894 x0 x1 x2 x3 x4 x5 x6 x7 x8 x9 x10 x11 x12 x13 x14 x15 x16 x17 x18 x19 x20 x21 x22 x23 x24 x25 x26 x27 x28 x29 (fun v => R (T86_fd3_0 v)) (E86_fd3_0 K) := by
  kernel_rfl
noncomputable def B86_fd3_0 (fuel : Nat) : Ev.Blk := fun st K => match canonO (kp86_fd3 13) st with
 | some s => (match s with
 | ⟨[(q0, .c (.ptr q1 q2)), (q3, .c (.int .i64 x0)), (q4, .c (.int .i64 x1)), (q5, .c (.int .i64 x2)), (q6, .c (.ptr q7 q8)), (q9, .c (.ptr q10 q11)), (q12, .c (.ptr q13 q14)), (q15, .c (.ptr q16 q17)), (q18, .c (.int .i64 x3)), (q19, .c (.int .i64 x4))], [(q20, .cells q21 cs0), (q22, .vec q23 (.int .i64) x13 false), (q24, .vec q25 (.int .u8) x14 false), (q26, .cells q27 [.int .i64 x15, .int .i64 x16, .int .i64 x17, .bool x18, .int .i64 x19]), (q28, .cells q29 [.int .i64 x20, .int .i64 x21, .sl (.int .u8) x22]), (q30, .cells q31 [.int .i64 x23, .int .i64 x24, .own q32]), (q33, .cells q34 [.int .i64 x25, .int .i64 x26, .own q35, .own q36]), (q37, .vec q38 (.int .u8) x27 true), (q39, .vec q40 (.int .u8) x28 true), (q41, .vec q42 (.pair (.int .i64) (.int .i64)) x29 true)], q43, q44⟩ => (match splitRun 2 ctn cs0 with | some ([.int .i64 x5, .own q45], [.int .u64 x6, .int .u64 x7, .own q46, .int .i64 x8, .int .u64 x9, .int .i64 x10, .bool x11, .bool x12]) => bif Nat.beq q0 0 && Nat.beq q1 0 && Nat.beq q2 0 && Nat.beq q3 1 && Nat.beq q4 3 && Nat.beq q5 4 && Nat.beq q6 8 && Nat.beq q7 3 && Nat.beq q8 0 && Nat.beq q9 11 && Nat.beq q10 4 && Nat.beq q11 0 && Nat.beq q12 12 && Nat.beq q13 5 && Nat.beq q14 0 && Nat.beq q15 18 && Nat.beq q16 6 && Nat.beq q17 0 && Nat.beq q18 66 && Nat.beq q19 67 && Nat.beq q20 0 && Nat.beq q21 163 && Nat.beq q22 1 && Nat.beq q23 3 && Nat.beq q24 2 && Nat.beq q25 5 && Nat.beq q26 3 && Nat.beq q27 24 && Nat.beq q28 4 && Nat.beq q29 35 && Nat.beq q30 5 && Nat.beq q31 35 && Nat.beq q32 7 && Nat.beq q33 6 && Nat.beq q34 174 && Nat.beq q35 8 && Nat.beq q36 9 && Nat.beq q37 7 && Nat.beq q38 5 && Nat.beq q39 8 && Nat.beq q40 5 && Nat.beq q41 9 && Nat.beq q42 22 && Nat.beq q43 10 && Nat.beq q44 3 && Nat.beq q45 1 && Nat.beq q46 2 then iter (S_generic_Get_fd3_0 fuel) fuel (x0, x1, x2, x3, x4, x5, x6, x7, x8, x9, x10, x11, x12, x13, x14, x15, x16, x17, x18, x19, x20, x21, x22, x23, x24, x25, x26, x27, x28, x29) (E86_fd3_0 K) else none | _ => none)
 | _ => none)
 | none => none
theorem B86_fd3_0_ok (fuel : Nat) (st : Ev.St) (K : Ev.Ex → Ev.St → Option Ans) (r : Ans) (h : B86_fd3_0 fuel st K = some r) : evalCode tab (G86_fd3 fuel) (J86_fd3_0 fuel) kp86_fd3 fuel (.block 0 (.loop (bodyOf 0 Try.f86))) st K = some r := by
  unfold B86_fd3_0 at h
  split at h
  · rename_i s hs
    split at h
    · skip
      split at h
      rotate_left 1
      · cases h
      rename_i hsp
      have esp := splitRun_eq hsp
      subst esp
      obtain ⟨hb, h⟩ := cond_some' h
      simp only [Bool.and_eq_true, Nat.beq_eq, decide_eq_true_eq] at hb
      obtain ⟨⟨⟨⟨⟨⟨⟨⟨⟨⟨⟨⟨⟨⟨⟨⟨⟨⟨⟨⟨⟨⟨⟨⟨⟨⟨⟨⟨⟨⟨⟨⟨⟨⟨⟨⟨⟨⟨⟨⟨⟨⟨⟨⟨⟨⟨rfl, rfl⟩, rfl⟩, rfl⟩, rfl⟩, rfl⟩, rfl⟩, rfl⟩, rfl⟩, rfl⟩, rfl⟩, rfl⟩, rfl⟩, rfl⟩, rfl⟩, rfl⟩, rfl⟩, rfl⟩, rfl⟩, rfl⟩, rfl⟩, rfl⟩, rfl⟩, rfl⟩, rfl⟩, rfl⟩, rfl⟩, rfl⟩, rfl⟩, rfl⟩, rfl⟩, rfl⟩, rfl⟩, rfl⟩, rfl⟩, rfl⟩, rfl⟩, rfl⟩, rfl⟩, rfl⟩, rfl⟩, rfl⟩, rfl⟩, rfl⟩, rfl⟩, rfl⟩, rfl⟩ := hb
      exact blk_loop (S := T86_fd3_0) (ks := E86_fd3_0) (step := S_generic_Get_fd3_0 fuel) (v := (_, _, _, _, _, _, _, _, _, _, _, _, _, _, _, _, _, _, _, _, _, _, _, _, _, _, _, _, _, _)) (by kernel_rfl) (by kernel_rfl) (fun R K v => by obtain ⟨x0, x1, x2, x3, x4, x5, x6, x7, x8, x9, x10, x11, x12, x13, x14, x15, x16, x17, x18, x19, x20, x21, x22, x23, x24, x25, x26, x27, x28, x29⟩ := v; exact S86_fd3_0_okg fuel (F_bitmap_New fuel) (F_generic_Valid fuel) (F_bitmap_Valid fuel) (F_generic_newPlane fuel) (F_coder_Decoder_Get_aa3 fuel) (F_generic_sides fuel) (F_generic_fits fuel) (F_coder_Decoder_Model_40a fuel) (F_generic_plane_row_894 fuel) R K x0 x1 x2 x3 x4 x5 x6 x7 x8 x9 x10 x11 x12 x13 x14 x15 x16 x17 x18 x19 x20 x21 x22 x23 x24 x25 x26 x27 x28 x29) hs h
    · cases h
  · cases h
noncomputable def J86_fd3 (fuel : Nat) (i : Nat) : Option Ev.Blk := Ev.look i [(100000, B86_fd3_0 fuel)]
noncomputable def Fg_generic_Get_fd3 (fuel : Nat) (f25 : YF25) (f64 : YF64) (f65 : YF65) (f121 : YF121) (f136_aa3 : YF136_aa3) (f137 : YF137) (f138 : YF138) (f139_40a : YF139_40a) (f140_894 : YF140_894) (x0 x1 : Int) (x2 x3 : Int) (x4 : Bool) (x5 x6 : Int) (x7 x8 x9 : Int) (x10 : (List Int)) (x11 x12 : Int) (x13 x14 : Int) (x15 x16 : Int) (x17 x18 : Bool) (x19 x20 : (List Int)) (k0 : (Int × Int × Int × Int × Int × Int × Int × Int × Int × Bool × Bool × (List Int) × (List Int) × (List Int)) → Option Ans) : Option Ans :=
  (f136_aa3 ((-1 : Int)) (x11) (x12) (x13) (x14) (x15) (x16) (x17) (x18) (x19) (x20)
  (fun (y2_0, y2_1, y2_2, y2_3, y2_4, y2_5, y2_6, y2_7, y2_8, y2_9, y2_10, y2_11) =>
  bif y2_1 == (7 : Int) then
  k0 ((0 : Int), (0 : Int), y2_1, y2_2, y2_3, y2_4, y2_5, y2_6, y2_7, y2_8, y2_9, y2_10, y2_11, [])
  else
  (f64 (x1) (x2) (x3) (x4) (x5)
  (fun y7 =>
  bif !y7 then
  k0 ((0 : Int), (0 : Int), (2 : Int), y2_2, y2_3, y2_4, y2_5, y2_6, y2_7, y2_8, y2_9, y2_10, y2_11, [])
  else
  (f25 (x6) (x7) ((0 : Int))
  (fun (y12_0, y12_1, y12_2, y12_3) =>
  bif y12_2 != (0 : Int) then
  k0 ((0 : Int), (0 : Int), (30 : Int), y2_2, y2_3, y2_4, y2_5, y2_6, y2_7, y2_8, y2_9, y2_10, y2_11, [])
  else
  (f65 (x8) (x9) (x10)
  (fun y17 =>
  bif !y17 then
  k0 ((0 : Int), (0 : Int), (30 : Int), y2_2, y2_3, y2_4, y2_5, y2_6, y2_7, y2_8, y2_9, y2_10, y2_11, [])
  else
  (f137 (x8) (x9) (x10) (x6) (x7)
  (fun y22 =>
  bif !y22 then
  k0 ((0 : Int), (0 : Int), (2 : Int), y2_2, y2_3, y2_4, y2_5, y2_6, y2_7, y2_8, y2_9, y2_10, y2_11, [])
  else
  (f139_40a (y2_2) (y2_3) (y2_4) (y2_5) (y2_6) (y2_7) (y2_8) (y2_9) (y2_10) (y2_11)
  (fun (y27_0, y27_1, y27_2, y27_3, y27_4, y27_5, y27_6, y27_7, y27_8, y27_9, y27_10, y27_11) =>
  (f138 (y27_0) (y27_11) (x0) (x1) (x2) (x3) (x4) (x5)
  (fun y31 =>
  bif !y31 then
  k0 ((0 : Int), (0 : Int), (2 : Int), y27_1, y27_2, y27_3, y27_4, y27_5, y27_6, y27_7, y27_8, y27_9, y27_10, [])
  else
  (f121 (x1) (x2) (x3) (x4) (x5) (x6) (x7)
  (fun (y36_0, y36_1, y36_2, y36_3) =>
  (L_generic_Get_fd3_0 fuel (x0, x6, x7, x7, (0 : Int), y27_1, y27_2, y27_3, y27_4, y27_5, y27_6, y27_7, y27_8, y27_9, y27_10, x1, x2, x3, x4, x5, x8, x9, x10, (0 : Int), (0 : Int), y36_0, y36_1, [], y36_2, y36_3)
  (fun (ret0_0, ret0_1, ret0_2, ret0_3, ret0_4, ret0_5, ret0_6, ret0_7, ret0_8, ret0_9, ret0_10, ret0_11, ret0_12, ret0_13) =>
  k0 (ret0_11, ret0_12, ret0_0, ret0_1, ret0_2, ret0_3, ret0_4, ret0_5, ret0_6, ret0_7, ret0_8, ret0_9, ret0_10, ret0_13))
  (fun (b0_0, b0_1, b0_2, b0_3, b0_4, b0_5, b0_6, b0_7, b0_8, b0_9, b0_10, b0_11, b0_12, b0_13, b0_14, b0_15, b0_16, b0_17, b0_18) =>
  k0 (b0_0, b0_1, (0 : Int), b0_2, b0_3, b0_4, b0_5, b0_6, b0_7, b0_8, b0_9, b0_10, b0_11, b0_17)))))))))))))))))))
noncomputable def F_generic_Get_fd3 (fuel : Nat) (x0 x1 : Int) (x2 x3 : Int) (x4 : Bool) (x5 x6 : Int) (x7 x8 x9 : Int) (x10 : (List Int)) (x11 x12 : Int) (x13 x14 : Int) (x15 x16 : Int) (x17 x18 : Bool) (x19 x20 : (List Int)) (k0 : (Int × Int × Int × Int × Int × Int × Int × Int × Int × Bool × Bool × (List Int) × (List Int) × (List Int)) → Option Ans) : Option Ans := Fg_generic_Get_fd3 fuel (F_bitmap_New fuel) (F_generic_Valid fuel) (F_bitmap_Valid fuel) (F_generic_newPlane fuel) (F_coder_Decoder_Get_aa3 fuel) (F_generic_sides fuel) (F_generic_fits fuel) (F_coder_Decoder_Model_40a fuel) (F_generic_plane_row_894 fuel) x0 x1 x2 x3 x4 x5 x6 x7 x8 x9 x10 x11 x12 x13 x14 x15 x16 x17 x18 x19 x20 k0
abbrev YF86_fd3 : Type := (Int) → (Int) → (Int) → (Int) → (Bool) → (Int) → (Int) → (Int) → (Int) → (Int) → ((List Int)) → (Int) → (Int) → (Int) → (Int) → (Int) → (Int) → (Bool) → (Bool) → ((List Int)) → ((List Int)) → ((Int × Int × Int × Int × Int × Int × Int × Int × Int × Bool × Bool × (List Int) × (List Int) × (List Int)) → Option Ans) → Option Ans
theorem F86_fd3_eqg (fuel : Nat) (f25 : YF25) (f64 : YF64) (f65 : YF65) (f121 : YF121) (f136_aa3 : YF136_aa3) (f137 : YF137) (f138 : YF138) (f139_40a : YF139_40a) (f140_894 : YF140_894) (x0 x1 : Int) (x2 x3 : Int) (x4 : Bool) (x5 x6 : Int) (x7 x8 x9 : Int) (x10 : (List Int)) (x11 x12 : Int) (x13 x14 : Int) (x15 x16 : Int) (x17 x18 : Bool) (x19 x20 : (List Int)) (k : Ev.Cont) : evalFn tab (Gg86_fd3 f25 f64 f65 f121 f136_aa3 f137 f138 f139_40a f140_894) (J86_fd3 fuel) kp86_fd3 fuel Try.f86 [.c (.ptr 0 0), .c (.int .i64 x0), .agg [.int .i64 x1, .int .i64 x2, .int .i64 x3, .bool x4, .int .i64 x5], .c (.int .i64 x6), .c (.int .i64 x7), .agg [.int .i64 x8, .int .i64 x9, .sl (.int .u8) x10]] [.cells 163 (.int .i64 x11 :: .own 1 :: ctb (.int .u64 x12 :: .int .u64 x13 :: .own 2 :: .int .i64 x14 :: .int .u64 x15 :: .int .i64 x16 :: .bool x17 :: .bool x18 :: [])), .vec 3 (.int .i64) x19 false, .vec 5 (.int .u8) x20 false] k = Fg_generic_Get_fd3 fuel f25 f64 f65 f121 f136_aa3 f137 f138 f139_40a f140_894 x0 x1 x2 x3 x4 x5 x6 x7 x8 x9 x10 x11 x12 x13 x14 x15 x16 x17 x18 x19 x20 (fun r => match r with | (r0, r1, r2, r3, r4, r5, r6, r7, r8, r9, r10, r11, r12, r13) => k (.tup [(true, [.int .i64 r0, .int .i64 r1, .own 3]), (false, [.int .i64 r2])], [.cells 163 (.int .i64 r3 :: .own 1 :: ctb (.int .u64 r4 :: .int .u64 r5 :: .own 2 :: .int .i64 r6 :: .int .u64 r7 :: .int .i64 r8 :: .bool r9 :: .bool r10 :: [])), .vec 3 (.int .i64) r11 false, .vec 5 (.int .u8) r12 false, .vec 5 (.int .u8) r13 true])) := by
  kernel_rfl
theorem hG86_fd3 (fuel : Nat) : GOK Try.prog (G86_fd3 fuel) :=
  gok_cons ⟨ok25 fuel, enters_of Try.func25 (by kernel_rfl) rfl⟩ <|
  gok_cons ⟨ok64 fuel, enters_of Try.func64 (by kernel_rfl) rfl⟩ <|
  gok_cons ⟨ok65 fuel, enters_of Try.func65 (by kernel_rfl) rfl⟩ <|
  gok_cons ⟨ok121 fuel, enters_of Try.func121 (by kernel_rfl) rfl⟩ <|
  gok_cons ⟨ok136_aa3 fuel, enters_of Try.func136 (by kernel_rfl) rfl⟩ <|
  gok_cons ⟨ok137 fuel, enters_of Try.func137 (by kernel_rfl) rfl⟩ <|
  gok_cons ⟨ok138 fuel, enters_of Try.func138 (by kernel_rfl) rfl⟩ <|
  gok_cons ⟨ok139_40a fuel, enters_of Try.func139 (by kernel_rfl) rfl⟩ <|
  gok_cons ⟨ok140_894 fuel, enters_of Try.func140 (by kernel_rfl) rfl⟩ <|
  gok_nil
theorem B86_fd3_0_blk (fuel : Nat) : BlkOK Try.prog Try.f86.ntmps (.block 0 (.loop (bodyOf 0 Try.f86))) (B86_fd3_0 fuel) :=
  blk_of (blk_of_code tab_ok (hG86_fd3 fuel) mixed (J := J86_fd3_0 fuel) (kp := kp86_fd3) (fuel := fuel) (by kernel_rfl) (fun q hq => by
    rw [(by kernel_rfl : obl (J86_fd3_0 fuel) (.block 0 (.loop (bodyOf 0 Try.f86))) = [])] at hq
    cases hq)) (B86_fd3_0_ok fuel)
theorem fok86_fd3 (fuel : Nat) : FnOK Try.prog 86 (evalFn tab (G86_fd3 fuel) (J86_fd3 fuel) kp86_fd3 fuel Try.f86) :=
  fn_ok tab_ok (hG86_fd3 fuel) mixed Try.func86 (c := (Try.f86.body).getD .skip) rfl (fun q hq => by
    rw [(by kernel_rfl : obl (J86_fd3 fuel) ((Try.f86.body).getD .skip) = [(.block 0 (.loop (bodyOf 0 Try.f86)), B86_fd3_0 fuel)])] at hq
    simp only [List.mem_cons, List.not_mem_nil, or_false] at hq
    subst hq
    · exact B86_fd3_0_blk fuel)
noncomputable def spg86_fd3 (F : YF86_fd3) : Ev.Spec := fun args objs k => match args, objs with
 | [.c (.ptr q0 q1), .c (.int .i64 x0), .agg [.int .i64 x1, .int .i64 x2, .int .i64 x3, .bool x4, .int .i64 x5], .c (.int .i64 x6), .c (.int .i64 x7), .agg [.int .i64 x8, .int .i64 x9, .sl (.int .u8) x10]], [.cells q2 cs0, .vec q3 (.int .i64) x19 false, .vec q4 (.int .u8) x20 false] => (match splitRun 2 ctn cs0 with | some ([.int .i64 x11, .own q5], [.int .u64 x12, .int .u64 x13, .own q6, .int .i64 x14, .int .u64 x15, .int .i64 x16, .bool x17, .bool x18]) => bif Nat.beq q0 0 && Nat.beq q1 0 && Nat.beq q2 163 && Nat.beq q3 3 && Nat.beq q4 5 && Nat.beq q5 1 && Nat.beq q6 2 then F x0 x1 x2 x3 x4 x5 x6 x7 x8 x9 x10 x11 x12 x13 x14 x15 x16 x17 x18 x19 x20 (fun r => match r with | (r0, r1, r2, r3, r4, r5, r6, r7, r8, r9, r10, r11, r12, r13) => k (.tup [(true, [.int .i64 r0, .int .i64 r1, .own 3]), (false, [.int .i64 r2])], [.cells 163 (.int .i64 r3 :: .own 1 :: ctb (.int .u64 r4 :: .int .u64 r5 :: .own 2 :: .int .i64 r6 :: .int .u64 r7 :: .int .i64 r8 :: .bool r9 :: .bool r10 :: [])), .vec 3 (.int .i64) r11 false, .vec 5 (.int .u8) r12 false, .vec 5 (.int .u8) r13 true])) else none | _ => none)
 | _, _ => none
noncomputable def spec86_fd3 (fuel : Nat) : Ev.Spec := spg86_fd3 (F_generic_Get_fd3 fuel)
theorem ok86_fd3 (fuel : Nat) : FnOK Try.prog 86 (spec86_fd3 fuel) := by
  intro args objs kk r h
  unfold spec86_fd3 spg86_fd3 at h
  split at h
  · skip
    split at h
    rotate_left 1
    · cases h
    rename_i hsp
    have esp := splitRun_eq hsp
    subst esp
    obtain ⟨hb, h⟩ := cond_some' h
    simp only [Bool.and_eq_true, Nat.beq_eq, decide_eq_true_eq] at hb
    obtain ⟨⟨⟨⟨⟨⟨rfl, rfl⟩, rfl⟩, rfl⟩, rfl⟩, rfl⟩, rfl⟩ := hb
    exact fok86_fd3 fuel _ _ kk r ((F86_fd3_eqg fuel (F_bitmap_New fuel) (F_generic_Valid fuel) (F_bitmap_Valid fuel) (F_generic_newPlane fuel) (F_coder_Decoder_Get_aa3 fuel) (F_generic_sides fuel) (F_generic_fits fuel) (F_coder_Decoder_Model_40a fuel) (F_generic_plane_row_894 fuel) _ _ _ _ _ _ _ _ _ _ _ _ _ _ _ _ _ _ _ _ _ kk).trans h)
  · cases h
end Go.Proofs.Ytipdidpalcmlhaa

set_option linter.unusedVariables false
set_option linter.unusedSimpArgs false
set_option maxRecDepth 100000
set_option maxHeartbeats 2000000
namespace Go.Proofs.Ytipdidpalcmlhaa
open Go Ev
def kp35 (i : Nat) : Option (List Nat) := Ev.look i [(200003, [4])]
noncomputable def Gg35 (f49 : YF49) (f55 : YF55) (f64 : YF64) (f71 : YF71) (f86_fd3 : YF86_fd3) (f : Nat) : Option Ev.Spec := Ev.look f [(49, spg49 f49), (55, spg55 f55), (64, spg64 f64), (71, spg71 f71), (86, spg86_fd3 f86_fd3)]
noncomputable def G35 (fuel : Nat) : Nat → Option Ev.Spec := Gg35 (F_coder_New fuel) (F_coder_NewDecoder fuel) (F_generic_Valid fuel) (F_generic_contexts fuel) (F_generic_Get_fd3 fuel)
noncomputable def J35 (fuel : Nat) (i : Nat) : Option Ev.Blk := Ev.look i []
noncomputable def Fg_generic_Decode (fuel : Nat) (f49 : YF49) (f55 : YF55) (f64 : YF64) (f71 : YF71) (f86_fd3 : YF86_fd3) (x0 x1 x2 : Int) (x3 : Bool) (x4 : Int) (x5 : (List Int)) (x6 x7 : Int) (k0 : (Int × Int × Int × (List Int)) → Option Ans) : Option Ans :=
  (f64 (x0) (x1) (x2) (x3) (x4)
  (fun y2 =>
  bif !y2 then
  k0 ((0 : Int), (0 : Int), (2 : Int), [])
  else
  both ((f71 (x0) (x1) (x2) (x3) (x4)
  (fun y9 =>
  both ((f49 (x4) (IntKind.i64.wrap (y9 + (1 : Int)))
  (fun (y15_0, y15_1, y15_2) =>
  (f55 (y15_0) (y15_2) (x5)
  (fun y19 =>
  none)
  (fun (y19_0, y19_1, y19_2, y19_3, y19_4, y19_5, y19_6, y19_7, y19_8, y19_9, y19_10) =>
  (f86_fd3 ((0 : Int)) (x0) (x1) (x2) (x3) (x4) (x6) (x7) ((0 : Int)) ((0 : Int)) ([]) (y19_1) (y19_2) (y19_3) (y19_4) (y19_5) (y19_6) (y19_7) (y19_8) (y19_9) (y19_10)
  (fun (y23_0, y23_1, y23_2, y23_3, y23_4, y23_5, y23_6, y23_7, y23_8, y23_9, y23_10, y23_11, y23_12, y23_13) =>
  k0 (y23_0, y23_1, y23_2, y23_13))))))))
  ((f49 (x4) (IntKind.i64.wrap (y9 + (1 : Int)))
  (fun (y15_0, y15_1, y15_2) =>
  (f55 (y15_0) (y15_2) (x5)
  (fun y19 =>
  none)
  (fun (y19_0, y19_1, y19_2, y19_3, y19_4, y19_5, y19_6, y19_7, y19_8, y19_9, y19_10) =>
  (f86_fd3 ((0 : Int)) (x0) (x1) (x2) (x3) (x4) (x6) (x7) ((0 : Int)) ((0 : Int)) ([]) (y19_1) (y19_2) (y19_3) (y19_4) (y19_5) (y19_6) (y19_7) (y19_8) (y19_9) (y19_10)
  (fun (y23_0, y23_1, y23_2, y23_3, y23_4, y23_5, y23_6, y23_7, y23_8, y23_9, y23_10, y23_11, y23_12, y23_13) =>
  k0 (y23_0, y23_1, y23_2, y23_13)))))))))))
  ((f71 (x0) (x1) (x2) (x3) (x4)
  (fun y9 =>
  (f49 (x4) (IntKind.i64.wrap (y9 + (1 : Int)))
  (fun (y13_0, y13_1, y13_2) =>
  (f55 (y13_0) (y13_2) (x5)
  (fun y17 =>
  none)
  (fun (y17_0, y17_1, y17_2, y17_3, y17_4, y17_5, y17_6, y17_7, y17_8, y17_9, y17_10) =>
  (f86_fd3 ((0 : Int)) (x0) (x1) (x2) (x3) (x4) (x6) (x7) ((0 : Int)) ((0 : Int)) ([]) (y17_1) (y17_2) (y17_3) (y17_4) (y17_5) (y17_6) (y17_7) (y17_8) (y17_9) (y17_10)
  (fun (y21_0, y21_1, y21_2, y21_3, y21_4, y21_5, y21_6, y21_7, y21_8, y21_9, y21_10, y21_11, y21_12, y21_13) =>
  k0 (y21_0, y21_1, y21_2, y21_13))))))))))))
noncomputable def F_generic_Decode (fuel : Nat) (x0 x1 x2 : Int) (x3 : Bool) (x4 : Int) (x5 : (List Int)) (x6 x7 : Int) (k0 : (Int × Int × Int × (List Int)) → Option Ans) : Option Ans := Fg_generic_Decode fuel (F_coder_New fuel) (F_coder_NewDecoder fuel) (F_generic_Valid fuel) (F_generic_contexts fuel) (F_generic_Get_fd3 fuel) x0 x1 x2 x3 x4 x5 x6 x7 k0
abbrev YF35 : Type := (Int) → (Int) → (Int) → (Bool) → (Int) → ((List Int)) → (Int) → (Int) → ((Int × Int × Int × (List Int)) → Option Ans) → Option Ans
theorem F35_eqg (fuel : Nat) (f49 : YF49) (f55 : YF55) (f64 : YF64) (f71 : YF71) (f86_fd3 : YF86_fd3) (x0 x1 x2 : Int) (x3 : Bool) (x4 : Int) (x5 : (List Int)) (x6 x7 : Int) (k : Ev.Cont) : evalFn tab (Gg35 f49 f55 f64 f71 f86_fd3) (J35 fuel) kp35 fuel Try.f35 [.agg [.int .i64 x0, .int .i64 x1, .int .i64 x2, .bool x3, .int .i64 x4], .c (.sl (.int .u8) x5), .c (.int .i64 x6), .c (.int .i64 x7)] [] k = Fg_generic_Decode fuel f49 f55 f64 f71 f86_fd3 x0 x1 x2 x3 x4 x5 x6 x7 (fun r => match r with | (r0, r1, r2, r3) => k (.tup [(true, [.int .i64 r0, .int .i64 r1, .own 0]), (false, [.int .i64 r2])], [.vec 5 (.int .u8) r3 true])) := by
  kernel_rfl
theorem hG35 (fuel : Nat) : GOK Try.prog (G35 fuel) :=
  gok_cons ⟨ok49 fuel, enters_of Try.func49 (by kernel_rfl) rfl⟩ <|
  gok_cons ⟨ok55 fuel, enters_of Try.func55 (by kernel_rfl) rfl⟩ <|
  gok_cons ⟨ok64 fuel, enters_of Try.func64 (by kernel_rfl) rfl⟩ <|
  gok_cons ⟨ok71 fuel, enters_of Try.func71 (by kernel_rfl) rfl⟩ <|
  gok_cons ⟨ok86_fd3 fuel, enters_of Try.func86 (by kernel_rfl) rfl⟩ <|
  gok_nil
theorem fok35 (fuel : Nat) : FnOK Try.prog 35 (evalFn tab (G35 fuel) (J35 fuel) kp35 fuel Try.f35) :=
  fn_ok tab_ok (hG35 fuel) mixed Try.func35 (c := (Try.f35.body).getD .skip) rfl (fun q hq => by
    rw [(by kernel_rfl : obl (J35 fuel) ((Try.f35.body).getD .skip) = [])] at hq
    cases hq)
noncomputable def spg35 (F : YF35) : Ev.Spec := fun args objs k => match args, objs with
 | [.agg [.int .i64 x0, .int .i64 x1, .int .i64 x2, .bool x3, .int .i64 x4], .c (.sl (.int .u8) x5), .c (.int .i64 x6), .c (.int .i64 x7)], [] => bif true then F x0 x1 x2 x3 x4 x5 x6 x7 (fun r => match r with | (r0, r1, r2, r3) => k (.tup [(true, [.int .i64 r0, .int .i64 r1, .own 0]), (false, [.int .i64 r2])], [.vec 5 (.int .u8) r3 true])) else none
 | _, _ => none
noncomputable def spec35 (fuel : Nat) : Ev.Spec := spg35 (F_generic_Decode fuel)
theorem ok35 (fuel : Nat) : FnOK Try.prog 35 (spec35 fuel) := by
  intro args objs kk r h
  unfold spec35 spg35 at h
  split at h
  · skip
    obtain ⟨hb, h⟩ := cond_some' h
    simp only [Bool.and_eq_true, Nat.beq_eq, decide_eq_true_eq] at hb
    clear hb
    exact fok35 fuel _ _ kk r ((F35_eqg fuel (F_coder_New fuel) (F_coder_NewDecoder fuel) (F_generic_Valid fuel) (F_generic_contexts fuel) (F_generic_Get_fd3 fuel) _ _ _ _ _ _ _ _ kk).trans h)
  · cases h
end Go.Proofs.Ytipdidpalcmlhaa

set_option linter.unusedVariables false
set_option linter.unusedSimpArgs false
set_option maxRecDepth 100000
set_option maxHeartbeats 2000000
namespace Go.Proofs.Ytipdidpalcmlhaa
open Go Ev
def kp23 (i : Nat) : Option (List Nat) := Ev.look i []
noncomputable def Gg23 (f64 : YF64) (f : Nat) : Option Ev.Spec := Ev.look f [(64, spg64 f64)]
noncomputable def G23 (fuel : Nat) : Nat → Option Ev.Spec := Gg23 (F_generic_Valid fuel)
noncomputable def J23 (fuel : Nat) (i : Nat) : Option Ev.Blk := Ev.look i []
noncomputable def Fg_tone_isPlain (fuel : Nat) (f64 : YF64) (x0 x1 x2 : Int) (x3 : Bool) (x4 : Int) (k0 : (Bool) → Option Ans) : Option Ans :=
  (f64 (x0) (x1) (x2) (x3) (x4)
  (fun y2 =>
  bif y2 then
  k0 !x3
  else
  k0 false))
noncomputable def F_tone_isPlain (fuel : Nat) (x0 x1 x2 : Int) (x3 : Bool) (x4 : Int) (k0 : (Bool) → Option Ans) : Option Ans := Fg_tone_isPlain fuel (F_generic_Valid fuel) x0 x1 x2 x3 x4 k0
abbrev YF23 : Type := (Int) → (Int) → (Int) → (Bool) → (Int) → ((Bool) → Option Ans) → Option Ans
theorem F23_eqg (fuel : Nat) (f64 : YF64) (x0 x1 x2 : Int) (x3 : Bool) (x4 : Int) (k : Ev.Cont) : evalFn tab (Gg23 f64) (J23 fuel) kp23 fuel Try.f23 [.agg [.int .i64 x0, .int .i64 x1, .int .i64 x2, .bool x3, .int .i64 x4]] [] k = Fg_tone_isPlain fuel f64 x0 x1 x2 x3 x4 (fun r => match r with | r0 => k (.c (.bool r0), [])) := by
  kernel_rfl
theorem hG23 (fuel : Nat) : GOK Try.prog (G23 fuel) :=
  gok_cons ⟨ok64 fuel, enters_of Try.func64 (by kernel_rfl) rfl⟩ <|
  gok_nil
theorem fok23 (fuel : Nat) : FnOK Try.prog 23 (evalFn tab (G23 fuel) (J23 fuel) kp23 fuel Try.f23) :=
  fn_ok tab_ok (hG23 fuel) mixed Try.func23 (c := (Try.f23.body).getD .skip) rfl (fun q hq => by
    rw [(by kernel_rfl : obl (J23 fuel) ((Try.f23.body).getD .skip) = [])] at hq
    cases hq)
noncomputable def spg23 (F : YF23) : Ev.Spec := fun args objs k => match args, objs with
 | [.agg [.int .i64 x0, .int .i64 x1, .int .i64 x2, .bool x3, .int .i64 x4]], [] => bif true then F x0 x1 x2 x3 x4 (fun r => match r with | r0 => k (.c (.bool r0), [])) else none
 | _, _ => none
noncomputable def spec23 (fuel : Nat) : Ev.Spec := spg23 (F_tone_isPlain fuel)
theorem ok23 (fuel : Nat) : FnOK Try.prog 23 (spec23 fuel) := by
  intro args objs kk r h
  unfold spec23 spg23 at h
  split at h
  · skip
    obtain ⟨hb, h⟩ := cond_some' h
    simp only [Bool.and_eq_true, Nat.beq_eq, decide_eq_true_eq] at hb
    clear hb
    exact fok23 fuel _ _ kk r ((F23_eqg fuel (F_generic_Valid fuel) _ _ _ _ _ kk).trans h)
  · cases h
end Go.Proofs.Ytipdidpalcmlhaa

set_option linter.unusedVariables false
set_option linter.unusedSimpArgs false
set_option maxRecDepth 100000
set_option maxHeartbeats 2000000
namespace Go.Proofs.Ytipdidpalcmlhaa
open Go Ev
def kp34 (i : Nat) : Option (List Nat) := Ev.look i []
noncomputable def Gg34 (f : Nat) : Option Ev.Spec := Ev.look f []
noncomputable def G34 (fuel : Nat) : Nat → Option Ev.Spec := Gg34
noncomputable def J34 (fuel : Nat) (i : Nat) : Option Ev.Blk := Ev.look i []
noncomputable def F_tone_rightSides (fuel : Nat) (x0 x1 : Int) (k0 : (Bool) → Option Ans) : Option Ans :=
  bif decide (x0 ≥ (1 : Int)) then
  bif decide (x0 ≤ (16 : Int)) then
  bif decide (x1 ≥ (1 : Int)) then
  k0 (decide (x1 ≤ (16 : Int)))
  else
  k0 false
  else
  k0 false
  else
  k0 false
abbrev YF34 : Type := (Int) → (Int) → ((Bool) → Option Ans) → Option Ans
theorem F34_eq (fuel : Nat) (x0 x1 : Int) (k : Ev.Cont) : evalFn tab (G34 fuel) (J34 fuel) kp34 fuel Try.f34 [.c (.int .i64 x0), .c (.int .i64 x1)] [] k = F_tone_rightSides fuel x0 x1 (fun r => match r with | r0 => k (.c (.bool r0), [])) := by
  kernel_rfl
theorem hG34 (fuel : Nat) : GOK Try.prog (G34 fuel) :=
  gok_nil
theorem fok34 (fuel : Nat) : FnOK Try.prog 34 (evalFn tab (G34 fuel) (J34 fuel) kp34 fuel Try.f34) :=
  fn_ok tab_ok (hG34 fuel) mixed Try.func34 (c := (Try.f34.body).getD .skip) rfl (fun q hq => by
    rw [(by kernel_rfl : obl (J34 fuel) ((Try.f34.body).getD .skip) = [])] at hq
    cases hq)
noncomputable def spg34 (F : YF34) : Ev.Spec := fun args objs k => match args, objs with
 | [.c (.int .i64 x0), .c (.int .i64 x1)], [] => bif true then F x0 x1 (fun r => match r with | r0 => k (.c (.bool r0), [])) else none
 | _, _ => none
noncomputable def spec34 (fuel : Nat) : Ev.Spec := spg34 (F_tone_rightSides fuel)
theorem ok34 (fuel : Nat) : FnOK Try.prog 34 (spec34 fuel) := by
  intro args objs kk r h
  unfold spec34 spg34 at h
  split at h
  · skip
    obtain ⟨hb, h⟩ := cond_some' h
    simp only [Bool.and_eq_true, Nat.beq_eq, decide_eq_true_eq] at hb
    clear hb
    exact fok34 fuel _ _ kk r ((F34_eq fuel _ _ kk).trans h)
  · cases h
end Go.Proofs.Ytipdidpalcmlhaa

set_option linter.unusedVariables false
set_option linter.unusedSimpArgs false
set_option maxRecDepth 100000
set_option maxHeartbeats 2000000
namespace Go.Proofs.Ytipdidpalcmlhaa
open Go Ev
def kp10 (i : Nat) : Option (List Nat) := Ev.look i [(11, [3, 4, 14, 16, 60, 61]), (100000, [16]), (400000, [10, 11])]
noncomputable def Gg10 (f23 : YF23) (f25 : YF25) (f34 : YF34) (f35 : YF35) (f36 : YF36) (f : Nat) : Option Ev.Spec := Ev.look f [(23, spg23 f23), (25, spg25 f25), (34, spg34 f34), (35, spg35 f35), (36, spg36 f36)]
noncomputable def G10 (fuel : Nat) : Nat → Option Ev.Spec := Gg10 (F_tone_isPlain fuel) (F_bitmap_New fuel) (F_tone_rightSides fuel) (F_generic_Decode fuel) (F_bitmap_Cut fuel)
noncomputable def Sg_tone_GetPatterns_0 (fuel : Nat) (f23 : YF23) (f25 : YF25) (f34 : YF34) (f35 : YF35) (f36 : YF36) (x0 x1 : Int) (x2 x3 : Int) (x4 x5 : Int) (x6 : (List (Int × (Int × (List Int))))) (x7 : (List Int)) (c : (Int × Int × Int × Int × Int × Int × (List (Int × (Int × (List Int)))) × (List Int)) → Option Ans) (B : ((List (Int × (Int × (List Int)))) → Option Ans)) : Option Ans := match B with
 | b =>
  bif decide (x3 < x2) then
  (f36 (x4) (x5) (x7) (IntKind.i64.wrap (x3 * x0)) ((0 : Int)) (x0) (x1)
  (fun (y3_0, y3_1, y3_2, y3_3) =>
  bif decide ((x6.length + [(y3_0, y3_1, y3_3)].length) * (40 : Nat) ≤ (140737488355328 : Nat) ∧ x6.length + [(y3_0, y3_1, y3_3)].length ≤ (140737488355328 : Nat)) then
  c (x0, x1, x2, IntKind.i64.wrap (x3 + (1 : Int)), x4, x5, x6 ++ [(y3_0, y3_1, y3_3)], x7)
  else none))
  else
  b x6
noncomputable def S_tone_GetPatterns_0 (fuel : Nat) (v : Int × Int × Int × Int × Int × Int × (List (Int × (Int × (List Int)))) × (List Int)) (c : (Int × Int × Int × Int × Int × Int × (List (Int × (Int × (List Int)))) × (List Int)) → Option Ans) (B : ((List (Int × (Int × (List Int)))) → Option Ans)) : Option Ans := match v with
 | (x0, x1, x2, x3, x4, x5, x6, x7) => Sg_tone_GetPatterns_0 fuel (F_tone_isPlain fuel) (F_bitmap_New fuel) (F_tone_rightSides fuel) (F_generic_Decode fuel) (F_bitmap_Cut fuel) x0 x1 x2 x3 x4 x5 x6 x7 c B
noncomputable def L_tone_GetPatterns_0 (fuel : Nat) (v : Int × Int × Int × Int × Int × Int × (List (Int × (Int × (List Int)))) × (List Int)) (b : ((List (Int × (Int × (List Int)))) → Option Ans)) : Option Ans := iter (S_tone_GetPatterns_0 fuel) fuel v b
noncomputable def J10_0 (fuel : Nat) (i : Nat) : Option Ev.Blk := Ev.look i []
noncomputable def T10_0 (v : Int × Int × Int × Int × Int × Int × (List (Int × (Int × (List Int)))) × (List Int)) : Ev.St := match v with | (x0, x1, x2, x3, x4, x5, x6, x7) => ⟨[(3, .c (.int .i64 x0)), (4, .c (.int .i64 x1)), (14, .c (.ptr 0 0)), (16, .c (.own 1)), (60, .c (.int .i64 x2)), (61, .c (.int .i64 x3))], [(0, .cells 35 [.int .i64 x4, .int .i64 x5, .own 2]), (1, .vec 35 (.pair (.int .i64) (.pair (.int .i64) (.sl (.int .u8)))) x6 true), (2, .vec 5 (.int .u8) x7 true)], 3, 0⟩
noncomputable def E10_0 (K : Ev.Ex → Ev.St → Option Ans) : ((List (Int × (Int × (List Int)))) → Option Ans) := (fun v => match v with | x0 => K .normal ⟨[(16, .c (.own 0))], [(0, .vec 35 (.pair (.int .i64) (.pair (.int .i64) (.sl (.int .u8)))) x0 true)], 1, 0⟩)
theorem S10_0_okg (fuel : Nat) (f23 : YF23) (f25 : YF25) (f34 : YF34) (f35 : YF35) (f36 : YF36) (R : Ev.St → Option Ans) (K : Ev.Ex → Ev.St → Option Ans) (x0 x1 : Int) (x2 x3 : Int) (x4 x5 : Int) (x6 : (List (Int × (Int × (List Int))))) (x7 : (List Int)) : evalCode tab (Gg10 f23 f25 f34 f35 f36) (J10_0 fuel) kp10 fuel (bodyOf 0 Try.f10) (T10_0 (x0, x1, x2, x3, x4, x5, x6, x7)) (lc kp10 11 0 R K) = Sg_tone_GetPatterns_0 fuel f23 f25 f34 f35 f36 x0 x1 x2 x3 x4 x5 x6 x7 (fun v => R (T10_0 v)) (E10_0 K) := by
  kernel_rfl
noncomputable def B10_0 (fuel : Nat) : Ev.Blk := fun st K => match canonO (kp10 11) st with
 | some s => (match s with
 | ⟨[(q0, .c (.int .i64 x0)), (q1, .c (.int .i64 x1)), (q2, .c (.ptr q3 q4)), (q5, .c (.own q6)), (q7, .c (.int .i64 x2)), (q8, .c (.int .i64 x3))], [(q9, .cells q10 [.int .i64 x4, .int .i64 x5, .own q11]), (q12, .vec q13 (.pair (.int .i64) (.pair (.int .i64) (.sl (.int .u8)))) x6 true), (q14, .vec q15 (.int .u8) x7 true)], q16, q17⟩ => bif Nat.beq q0 3 && Nat.beq q1 4 && Nat.beq q2 14 && Nat.beq q3 0 && Nat.beq q4 0 && Nat.beq q5 16 && Nat.beq q6 1 && Nat.beq q7 60 && Nat.beq q8 61 && Nat.beq q9 0 && Nat.beq q10 35 && Nat.beq q11 2 && Nat.beq q12 1 && Nat.beq q13 35 && Nat.beq q14 2 && Nat.beq q15 5 && Nat.beq q16 3 && Nat.beq q17 0 then iter (S_tone_GetPatterns_0 fuel) fuel (x0, x1, x2, x3, x4, x5, x6, x7) (E10_0 K) else none
 | _ => none)
 | none => none
theorem B10_0_ok (fuel : Nat) (st : Ev.St) (K : Ev.Ex → Ev.St → Option Ans) (r : Ans) (h : B10_0 fuel st K = some r) : evalCode tab (G10 fuel) (J10_0 fuel) kp10 fuel (.block 0 (.loop (bodyOf 0 Try.f10))) st K = some r := by
  unfold B10_0 at h
  split at h
  · rename_i s hs
    split at h
    · skip
      obtain ⟨hb, h⟩ := cond_some' h
      simp only [Bool.and_eq_true, Nat.beq_eq, decide_eq_true_eq] at hb
      obtain ⟨⟨⟨⟨⟨⟨⟨⟨⟨⟨⟨⟨⟨⟨⟨⟨⟨rfl, rfl⟩, rfl⟩, rfl⟩, rfl⟩, rfl⟩, rfl⟩, rfl⟩, rfl⟩, rfl⟩, rfl⟩, rfl⟩, rfl⟩, rfl⟩, rfl⟩, rfl⟩, rfl⟩, rfl⟩ := hb
      exact blk_loop (S := T10_0) (ks := E10_0) (step := S_tone_GetPatterns_0 fuel) (v := (_, _, _, _, _, _, _, _)) (by kernel_rfl) (by kernel_rfl) (fun R K v => by obtain ⟨x0, x1, x2, x3, x4, x5, x6, x7⟩ := v; exact S10_0_okg fuel (F_tone_isPlain fuel) (F_bitmap_New fuel) (F_tone_rightSides fuel) (F_generic_Decode fuel) (F_bitmap_Cut fuel) R K x0 x1 x2 x3 x4 x5 x6 x7) hs h
    · cases h
  · cases h
noncomputable def J10 (fuel : Nat) (i : Nat) : Option Ev.Blk := Ev.look i [(100000, B10_0 fuel)]
noncomputable def Fg_tone_GetPatterns (fuel : Nat) (f23 : YF23) (f25 : YF25) (f34 : YF34) (f35 : YF35) (f36 : YF36) (x0 x1 x2 : Int) (x3 : Bool) (x4 : Int) (x5 : (List Int)) (x6 x7 x8 : Int) (k0 : (Int × (List (Int × (Int × (List Int))))) → Option Ans) : Option Ans :=
  (f23 (x0) (x1) (x2) (x3) (x4)
  (fun y2 =>
  bif !y2 then
  k0 ((2 : Int), [])
  else
  bif decide (x6 < (1 : Int)) then
  k0 ((2 : Int), [])
  else
  bif decide (x6 > (64 : Int)) then
  k0 ((2 : Int), [])
  else
  (f34 (x7) (x8)
  (fun y9 =>
  bif !y9 then
  k0 ((2 : Int), [])
  else
  (f25 (IntKind.i64.wrap (x6 * x7)) (x8) ((0 : Int))
  (fun (y14_0, y14_1, y14_2, y14_3) =>
  bif y14_2 != (0 : Int) then
  k0 ((2 : Int), [])
  else
  (f35 (x0) (x1) (x2) (x3) (x4) (x5) (IntKind.i64.wrap (x6 * x7)) (x8)
  (fun (y19_0, y19_1, y19_2, y19_3) =>
  bif y19_2 != (0 : Int) then
  k0 (y19_2, [])
  else
  (L_tone_GetPatterns_0 fuel (x7, x8, x6, (0 : Int), y19_0, y19_1, [], y19_3)
  (fun b0_0 =>
  k0 ((0 : Int), b0_0)))))))))))
noncomputable def F_tone_GetPatterns (fuel : Nat) (x0 x1 x2 : Int) (x3 : Bool) (x4 : Int) (x5 : (List Int)) (x6 x7 x8 : Int) (k0 : (Int × (List (Int × (Int × (List Int))))) → Option Ans) : Option Ans := Fg_tone_GetPatterns fuel (F_tone_isPlain fuel) (F_bitmap_New fuel) (F_tone_rightSides fuel) (F_generic_Decode fuel) (F_bitmap_Cut fuel) x0 x1 x2 x3 x4 x5 x6 x7 x8 k0
abbrev YF10 : Type := (Int) → (Int) → (Int) → (Bool) → (Int) → ((List Int)) → (Int) → (Int) → (Int) → ((Int × (List (Int × (Int × (List Int))))) → Option Ans) → Option Ans
theorem F10_eqg (fuel : Nat) (f23 : YF23) (f25 : YF25) (f34 : YF34) (f35 : YF35) (f36 : YF36) (x0 x1 x2 : Int) (x3 : Bool) (x4 : Int) (x5 : (List Int)) (x6 x7 x8 : Int) (k : Ev.Cont) : evalFn tab (Gg10 f23 f25 f34 f35 f36) (J10 fuel) kp10 fuel Try.f10 [.agg [.int .i64 x0, .int .i64 x1, .int .i64 x2, .bool x3, .int .i64 x4], .c (.sl (.int .u8) x5), .c (.int .i64 x6), .c (.int .i64 x7), .c (.int .i64 x8)] [] k = Fg_tone_GetPatterns fuel f23 f25 f34 f35 f36 x0 x1 x2 x3 x4 x5 x6 x7 x8 (fun r => match r with | (r0, r1) => k (.tup [(false, [.own 0]), (false, [.int .i64 r0])], [.vec 35 (.pair (.int .i64) (.pair (.int .i64) (.sl (.int .u8)))) r1 true])) := by
  kernel_rfl
theorem hG10 (fuel : Nat) : GOK Try.prog (G10 fuel) :=
  gok_cons ⟨ok23 fuel, enters_of Try.func23 (by kernel_rfl) rfl⟩ <|
  gok_cons ⟨ok25 fuel, enters_of Try.func25 (by kernel_rfl) rfl⟩ <|
  gok_cons ⟨ok34 fuel, enters_of Try.func34 (by kernel_rfl) rfl⟩ <|
  gok_cons ⟨ok35 fuel, enters_of Try.func35 (by kernel_rfl) rfl⟩ <|
  gok_cons ⟨ok36 fuel, enters_of Try.func36 (by kernel_rfl) rfl⟩ <|
  gok_nil
theorem B10_0_blk (fuel : Nat) : BlkOK Try.prog Try.f10.ntmps (.block 0 (.loop (bodyOf 0 Try.f10))) (B10_0 fuel) :=
  blk_of (blk_of_code tab_ok (hG10 fuel) mixed (J := J10_0 fuel) (kp := kp10) (fuel := fuel) (by kernel_rfl) (fun q hq => by
    rw [(by kernel_rfl : obl (J10_0 fuel) (.block 0 (.loop (bodyOf 0 Try.f10))) = [])] at hq
    cases hq)) (B10_0_ok fuel)
theorem fok10 (fuel : Nat) : FnOK Try.prog 10 (evalFn tab (G10 fuel) (J10 fuel) kp10 fuel Try.f10) :=
  fn_ok tab_ok (hG10 fuel) mixed Try.func10 (c := (Try.f10.body).getD .skip) rfl (fun q hq => by
    rw [(by kernel_rfl : obl (J10 fuel) ((Try.f10.body).getD .skip) = [(.block 0 (.loop (bodyOf 0 Try.f10)), B10_0 fuel)])] at hq
    simp only [List.mem_cons, List.not_mem_nil, or_false] at hq
    subst hq
    · exact B10_0_blk fuel)
noncomputable def spg10 (F : YF10) : Ev.Spec := fun args objs k => match args, objs with
 | [.agg [.int .i64 x0, .int .i64 x1, .int .i64 x2, .bool x3, .int .i64 x4], .c (.sl (.int .u8) x5), .c (.int .i64 x6), .c (.int .i64 x7), .c (.int .i64 x8)], [] => bif true then F x0 x1 x2 x3 x4 x5 x6 x7 x8 (fun r => match r with | (r0, r1) => k (.tup [(false, [.own 0]), (false, [.int .i64 r0])], [.vec 35 (.pair (.int .i64) (.pair (.int .i64) (.sl (.int .u8)))) r1 true])) else none
 | _, _ => none
noncomputable def spec10 (fuel : Nat) : Ev.Spec := spg10 (F_tone_GetPatterns fuel)
theorem ok10 (fuel : Nat) : FnOK Try.prog 10 (spec10 fuel) := by
  intro args objs kk r h
  unfold spec10 spg10 at h
  split at h
  · skip
    obtain ⟨hb, h⟩ := cond_some' h
    simp only [Bool.and_eq_true, Nat.beq_eq, decide_eq_true_eq] at hb
    clear hb
    exact fok10 fuel _ _ kk r ((F10_eqg fuel (F_tone_isPlain fuel) (F_bitmap_New fuel) (F_tone_rightSides fuel) (F_generic_Decode fuel) (F_bitmap_Cut fuel) _ _ _ _ _ _ _ _ _ kk).trans h)
  · cases h
end Go.Proofs.Ytipdidpalcmlhaa

set_option linter.unusedVariables false
set_option linter.unusedSimpArgs false
set_option maxRecDepth 100000
set_option maxHeartbeats 2000000
namespace Go.Proofs.Ytipdidpalcmlhaa
open Go Ev
def kp119 (i : Nat) : Option (List Nat) := Ev.look i []
noncomputable def Gg119 (f : Nat) : Option Ev.Spec := Ev.look f []
noncomputable def G119 (fuel : Nat) : Nat → Option Ev.Spec := Gg119
noncomputable def J119 (fuel : Nat) (i : Nat) : Option Ev.Blk := Ev.look i []
noncomputable def F_bytes_Clone (fuel : Nat) (x0 : (List Int)) (k0 : ((List Int)) → Option Ans) : Option Ans :=
  bif decide ((↑x0.length : Int) = (0 : Int)) then
  both (k0 [])
  (bif decide (((0 : Nat) + x0.length) * (1 : Nat) ≤ (140737488355328 : Nat) ∧ (0 : Nat) + x0.length ≤ (140737488355328 : Nat)) then
  k0 ([] ++ x0)
  else none)
  else
  bif decide (((0 : Nat) + x0.length) * (1 : Nat) ≤ (140737488355328 : Nat) ∧ (0 : Nat) + x0.length ≤ (140737488355328 : Nat)) then
  k0 ([] ++ x0)
  else none
abbrev YF119 : Type := ((List Int)) → (((List Int)) → Option Ans) → Option Ans
theorem F119_eq (fuel : Nat) (x0 : (List Int)) (k : Ev.Cont) : evalFn tab (G119 fuel) (J119 fuel) kp119 fuel Try.f119 [.c (.sl (.int .u8) x0)] [] k = F_bytes_Clone fuel x0 (fun r => match r with | r0 => k (.c (.own 0), [.vec 5 (.int .u8) r0 true])) := by
  kernel_rfl
theorem hG119 (fuel : Nat) : GOK Try.prog (G119 fuel) :=
  gok_nil
theorem fok119 (fuel : Nat) : FnOK Try.prog 119 (evalFn tab (G119 fuel) (J119 fuel) kp119 fuel Try.f119) :=
  fn_ok tab_ok (hG119 fuel) mixed Try.func119 (c := (Try.f119.body).getD .skip) rfl (fun q hq => by
    rw [(by kernel_rfl : obl (J119 fuel) ((Try.f119.body).getD .skip) = [])] at hq
    cases hq)
noncomputable def spg119 (F : YF119) : Ev.Spec := fun args objs k => match args, objs with
 | [.c (.sl (.int .u8) x0)], [] => bif true then F x0 (fun r => match r with | r0 => k (.c (.own 0), [.vec 5 (.int .u8) r0 true])) else none
 | _, _ => none
noncomputable def spec119 (fuel : Nat) : Ev.Spec := spg119 (F_bytes_Clone fuel)
theorem ok119 (fuel : Nat) : FnOK Try.prog 119 (spec119 fuel) := by
  intro args objs kk r h
  unfold spec119 spg119 at h
  split at h
  · skip
    obtain ⟨hb, h⟩ := cond_some' h
    simp only [Bool.and_eq_true, Nat.beq_eq, decide_eq_true_eq] at hb
    clear hb
    exact fok119 fuel _ _ kk r ((F119_eq fuel _ kk).trans h)
  · cases h
end Go.Proofs.Ytipdidpalcmlhaa

set_option linter.unusedVariables false
set_option linter.unusedSimpArgs false
set_option maxRecDepth 100000
set_option maxHeartbeats 2000000
namespace Go.Proofs.Ytipdidpalcmlhaa
open Go Ev
def kp68 (i : Nat) : Option (List Nat) := Ev.look i [(200001, [1])]
noncomputable def Gg68 (f119 : YF119) (f : Nat) : Option Ev.Spec := Ev.look f [(119, spg119 f119)]
noncomputable def G68 (fuel : Nat) : Nat → Option Ev.Spec := Gg68 (F_bytes_Clone fuel)
noncomputable def J68 (fuel : Nat) (i : Nat) : Option Ev.Blk := Ev.look i []
noncomputable def Fg_bitmap_clone (fuel : Nat) (f119 : YF119) (x0 x1 : Int) (x2 : (List Int)) (k0 : (Int × Int × (List Int)) → Option Ans) : Option Ans :=
  (f119 (x2)
  (fun y2 =>
  k0 (x0, x1, y2)))
noncomputable def F_bitmap_clone (fuel : Nat) (x0 x1 : Int) (x2 : (List Int)) (k0 : (Int × Int × (List Int)) → Option Ans) : Option Ans := Fg_bitmap_clone fuel (F_bytes_Clone fuel) x0 x1 x2 k0
abbrev YF68 : Type := (Int) → (Int) → ((List Int)) → ((Int × Int × (List Int)) → Option Ans) → Option Ans
theorem F68_eqg (fuel : Nat) (f119 : YF119) (x0 x1 : Int) (x2 : (List Int)) (k : Ev.Cont) : evalFn tab (Gg68 f119) (J68 fuel) kp68 fuel Try.f68 [.agg [.int .i64 x0, .int .i64 x1, .sl (.int .u8) x2]] [] k = Fg_bitmap_clone fuel f119 x0 x1 x2 (fun r => match r with | (r0, r1, r2) => k (.agg [.int .i64 r0, .int .i64 r1, .own 0], [.vec 5 (.int .u8) r2 true])) := by
  kernel_rfl
theorem hG68 (fuel : Nat) : GOK Try.prog (G68 fuel) :=
  gok_cons ⟨ok119 fuel, enters_of Try.func119 (by kernel_rfl) rfl⟩ <|
  gok_nil
theorem fok68 (fuel : Nat) : FnOK Try.prog 68 (evalFn tab (G68 fuel) (J68 fuel) kp68 fuel Try.f68) :=
  fn_ok tab_ok (hG68 fuel) mixed Try.func68 (c := (Try.f68.body).getD .skip) rfl (fun q hq => by
    rw [(by kernel_rfl : obl (J68 fuel) ((Try.f68.body).getD .skip) = [])] at hq
    cases hq)
noncomputable def spg68 (F : YF68) : Ev.Spec := fun args objs k => match args, objs with
 | [.agg [.int .i64 x0, .int .i64 x1, .sl (.int .u8) x2]], [] => bif true then F x0 x1 x2 (fun r => match r with | (r0, r1, r2) => k (.agg [.int .i64 r0, .int .i64 r1, .own 0], [.vec 5 (.int .u8) r2 true])) else none
 | _, _ => none
noncomputable def spec68 (fuel : Nat) : Ev.Spec := spg68 (F_bitmap_clone fuel)
theorem ok68 (fuel : Nat) : FnOK Try.prog 68 (spec68 fuel) := by
  intro args objs kk r h
  unfold spec68 spg68 at h
  split at h
  · skip
    obtain ⟨hb, h⟩ := cond_some' h
    simp only [Bool.and_eq_true, Nat.beq_eq, decide_eq_true_eq] at hb
    clear hb
    exact fok68 fuel _ _ kk r ((F68_eqg fuel (F_bytes_Clone fuel) _ _ _ kk).trans h)
  · cases h
end Go.Proofs.Ytipdidpalcmlhaa

set_option linter.unusedVariables false
set_option linter.unusedSimpArgs false
set_option maxRecDepth 100000
set_option maxHeartbeats 2000000
namespace Go.Proofs.Ytipdidpalcmlhaa
open Go Ev
def kp69 (i : Nat) : Option (List Nat) := Ev.look i []
noncomputable def Gg69 (f : Nat) : Option Ev.Spec := Ev.look f []
noncomputable def G69 (fuel : Nat) : Nat → Option Ev.Spec := Gg69
noncomputable def J69 (fuel : Nat) (i : Nat) : Option Ev.Blk := Ev.look i []
noncomputable def F_bitmap_combine (fuel : Nat) (x0 x1 x2 : Int) (k0 : (Int) → Option Ans) : Option Ans :=
  bif x2 == (1 : Int) then
  k0 (Ev.ior IntKind.u8 x0 x1)
  else
  bif x2 == (2 : Int) then
  k0 (Ev.iand IntKind.u8 x0 x1)
  else
  bif x2 == (3 : Int) then
  k0 (Ev.ixor IntKind.u8 x0 x1)
  else
  bif x2 == (4 : Int) then
  k0 (Ev.ixor IntKind.u8 (IntKind.u8.wrap ((1 : Int) - x0)) x1)
  else
  k0 x1
abbrev YF69 : Type := (Int) → (Int) → (Int) → ((Int) → Option Ans) → Option Ans
theorem F69_eq (fuel : Nat) (x0 x1 x2 : Int) (k : Ev.Cont) : evalFn tab (G69 fuel) (J69 fuel) kp69 fuel Try.f69 [.c (.int .u8 x0), .c (.int .u8 x1), .c (.int .i64 x2)] [] k = F_bitmap_combine fuel x0 x1 x2 (fun r => match r with | r0 => k (.c (.int .u8 r0), [])) := by
  kernel_rfl
theorem hG69 (fuel : Nat) : GOK Try.prog (G69 fuel) :=
  gok_nil
theorem fok69 (fuel : Nat) : FnOK Try.prog 69 (evalFn tab (G69 fuel) (J69 fuel) kp69 fuel Try.f69) :=
  fn_ok tab_ok (hG69 fuel) mixed Try.func69 (c := (Try.f69.body).getD .skip) rfl (fun q hq => by
    rw [(by kernel_rfl : obl (J69 fuel) ((Try.f69.body).getD .skip) = [])] at hq
    cases hq)
noncomputable def spg69 (F : YF69) : Ev.Spec := fun args objs k => match args, objs with
 | [.c (.int .u8 x0), .c (.int .u8 x1), .c (.int .i64 x2)], [] => bif true then F x0 x1 x2 (fun r => match r with | r0 => k (.c (.int .u8 r0), [])) else none
 | _, _ => none
noncomputable def spec69 (fuel : Nat) : Ev.Spec := spg69 (F_bitmap_combine fuel)
theorem ok69 (fuel : Nat) : FnOK Try.prog 69 (spec69 fuel) := by
  intro args objs kk r h
  unfold spec69 spg69 at h
  split at h
  · skip
    obtain ⟨hb, h⟩ := cond_some' h
    simp only [Bool.and_eq_true, Nat.beq_eq, decide_eq_true_eq] at hb
    clear hb
    exact fok69 fuel _ _ kk r ((F69_eq fuel _ _ _ kk).trans h)
  · cases h
end Go.Proofs.Ytipdidpalcmlhaa

set_option linter.unusedVariables false
set_option linter.unusedSimpArgs false
set_option maxRecDepth 100000
set_option maxHeartbeats 2000000
namespace Go.Proofs.Ytipdidpalcmlhaa
open Go Ev
def kp26 (i : Nat) : Option (List Nat) := Ev.look i [(7, [2, 3, 4, 5, 6, 10, 12, 45, 46]), (10, [2, 3, 4, 5, 6, 10, 12, 13, 45, 46, 50, 51]), (100001, [10, 12]), (100003, [2, 3, 4, 5, 6, 10, 12, 45, 46]), (200015, [6]), (400001, [10, 11]), (400003, [10, 11])]
noncomputable def Gg26 (f65 : YF65) (f67 : YF67) (f68 : YF68) (f69 : YF69) (f70 : YF70) (f : Nat) : Option Ev.Spec := Ev.look f [(65, spg65 f65), (67, spg67 f67), (68, spg68 f68), (69, spg69 f69), (70, spg70 f70)]
noncomputable def G26 (fuel : Nat) : Nat → Option Ev.Spec := Gg26 (F_bitmap_Valid fuel) (F_bitmap_isShift fuel) (F_bitmap_clone fuel) (F_bitmap_combine fuel) (F_bitmap_at fuel)
noncomputable def Sg_bitmap_Draw_3 (fuel : Nat) (f65 : YF65) (f67 : YF67) (f68 : YF68) (f69 : YF69) (f70 : YF70) (x0 x1 : Int) (x2 x3 : Int) (x4 x5 : Int) (x6 x7 : Int) (x8 x9 : Int) (x10 : (List Int)) (x11 x12 : Int) (x13 : (List Int)) (x14 x15 : Int) (x16 x17 : Int) (x18 x19 : (List Int)) (c : (Int × Int × Int × Int × Int × Int × Int × Int × Int × Int × (List Int) × Int × Int × (List Int) × Int × Int × Int × Int × (List Int) × (List Int)) → Option Ans) (B : (Int × Int × Int × Int × Int × Int × Int × (List Int) × Int × Int × (List Int) × Int × Int × Int × Int × (List Int) × (List Int) → Option Ans)) : Option Ans := match B with
 | b =>
  bif decide (x7 < x6) then
  bif decide (IntKind.i64.wrap (x0 + x7) ≥ (0 : Int)) then
  bif decide (IntKind.i64.wrap (x1 + x3) ≥ (0 : Int)) then
  bif decide (IntKind.i64.wrap (x0 + x7) < x8) then
  bif decide (IntKind.i64.wrap (x1 + x3) < x9) then
  bif decide ((0 : Int) ≤ IntKind.i64.wrap (IntKind.i64.wrap (IntKind.i64.wrap (x1 + x3) * x8) + IntKind.i64.wrap (x0 + x7)) ∧ IntKind.i64.wrap (IntKind.i64.wrap (IntKind.i64.wrap (x1 + x3) * x8) + IntKind.i64.wrap (x0 + x7)) < (↑x19.length : Int)) then
  both ((f70 (x11) (x12) (x13) (x7) (x3)
  (fun y10 =>
  (f69 (x19.getD (IntKind.i64.wrap (IntKind.i64.wrap (IntKind.i64.wrap (x1 + x3) * x8) + IntKind.i64.wrap (x0 + x7))).toNat (0 : Int)) (y10) (x2)
  (fun y14 =>
  c (x0, x1, x2, x3, x4, x5, x6, IntKind.i64.wrap (x7 + (1 : Int)), x8, x9, x10, x11, x12, x13, x14, x15, x16, x17, x18, x19.set (IntKind.i64.wrap (IntKind.i64.wrap (IntKind.i64.wrap (x1 + x3) * x8) + IntKind.i64.wrap (x0 + x7))).toNat y14))))))
  ((f70 (x11) (x12) (x13) (x7) (x3)
  (fun y10 =>
  (f69 (x19.getD (IntKind.i64.wrap (IntKind.i64.wrap (IntKind.i64.wrap (x1 + x3) * x8) + IntKind.i64.wrap (x0 + x7))).toNat (0 : Int)) (y10) (x2)
  (fun y14 =>
  c (x0, x1, x2, x3, x4, x5, x6, IntKind.i64.wrap (x7 + (1 : Int)), x8, x9, x10, x11, x12, x13, x14, x15, x16, x17, x18, x19.set (IntKind.i64.wrap (IntKind.i64.wrap (IntKind.i64.wrap (x1 + x3) * x8) + IntKind.i64.wrap (x0 + x7))).toNat y14))))))
  else none
  else
  c (x0, x1, x2, x3, x4, x5, x6, IntKind.i64.wrap (x7 + (1 : Int)), x8, x9, x10, x11, x12, x13, x14, x15, x16, x17, x18, x19)
  else
  c (x0, x1, x2, x3, x4, x5, x6, IntKind.i64.wrap (x7 + (1 : Int)), x8, x9, x10, x11, x12, x13, x14, x15, x16, x17, x18, x19)
  else
  c (x0, x1, x2, x3, x4, x5, x6, IntKind.i64.wrap (x7 + (1 : Int)), x8, x9, x10, x11, x12, x13, x14, x15, x16, x17, x18, x19)
  else
  c (x0, x1, x2, x3, x4, x5, x6, IntKind.i64.wrap (x7 + (1 : Int)), x8, x9, x10, x11, x12, x13, x14, x15, x16, x17, x18, x19)
  else
  b (x0, x1, x2, x4, x5, x8, x9, x10, x11, x12, x13, x14, x15, x16, x17, x18, x19)
noncomputable def S_bitmap_Draw_3 (fuel : Nat) (v : Int × Int × Int × Int × Int × Int × Int × Int × Int × Int × (List Int) × Int × Int × (List Int) × Int × Int × Int × Int × (List Int) × (List Int)) (c : (Int × Int × Int × Int × Int × Int × Int × Int × Int × Int × (List Int) × Int × Int × (List Int) × Int × Int × Int × Int × (List Int) × (List Int)) → Option Ans) (B : (Int × Int × Int × Int × Int × Int × Int × (List Int) × Int × Int × (List Int) × Int × Int × Int × Int × (List Int) × (List Int) → Option Ans)) : Option Ans := match v with
 | (x0, x1, x2, x3, x4, x5, x6, x7, x8, x9, x10, x11, x12, x13, x14, x15, x16, x17, x18, x19) => Sg_bitmap_Draw_3 fuel (F_bitmap_Valid fuel) (F_bitmap_isShift fuel) (F_bitmap_clone fuel) (F_bitmap_combine fuel) (F_bitmap_at fuel) x0 x1 x2 x3 x4 x5 x6 x7 x8 x9 x10 x11 x12 x13 x14 x15 x16 x17 x18 x19 c B
noncomputable def L_bitmap_Draw_3 (fuel : Nat) (v : Int × Int × Int × Int × Int × Int × Int × Int × Int × Int × (List Int) × Int × Int × (List Int) × Int × Int × Int × Int × (List Int) × (List Int)) (b : (Int × Int × Int × Int × Int × Int × Int × (List Int) × Int × Int × (List Int) × Int × Int × Int × Int × (List Int) × (List Int) → Option Ans)) : Option Ans := iter (S_bitmap_Draw_3 fuel) fuel v b
noncomputable def J26_3 (fuel : Nat) (i : Nat) : Option Ev.Blk := Ev.look i []
noncomputable def T26_3 (v : Int × Int × Int × Int × Int × Int × Int × Int × Int × Int × (List Int) × Int × Int × (List Int) × Int × Int × Int × Int × (List Int) × (List Int)) : Ev.St := match v with | (x0, x1, x2, x3, x4, x5, x6, x7, x8, x9, x10, x11, x12, x13, x14, x15, x16, x17, x18, x19) => ⟨[(2, .c (.int .i64 x0)), (3, .c (.int .i64 x1)), (4, .c (.int .i64 x2)), (5, .c (.ptr 0 0)), (6, .c (.ptr 1 0)), (10, .c (.ptr 2 0)), (12, .c (.ptr 3 0)), (13, .c (.int .i64 x3)), (45, .c (.int .i64 x4)), (46, .c (.int .i64 x5)), (50, .c (.int .i64 x6)), (51, .c (.int .i64 x7))], [(0, .cells 35 [.int .i64 x8, .int .i64 x9, .sl (.int .u8) x10]), (1, .cells 35 [.int .i64 x11, .int .i64 x12, .sl (.int .u8) x13]), (2, .cells 35 [.int .i64 x14, .int .i64 x15, .own 4]), (3, .cells 35 [.int .i64 x16, .int .i64 x17, .own 5]), (4, .vec 5 (.int .u8) x18 true), (5, .vec 5 (.int .u8) x19 true)], 6, 0⟩
noncomputable def E26_3 (K : Ev.Ex → Ev.St → Option Ans) : (Int × Int × Int × Int × Int × Int × Int × (List Int) × Int × Int × (List Int) × Int × Int × Int × Int × (List Int) × (List Int) → Option Ans) := (fun v => match v with | (x0, x1, x2, x3, x4, x5, x6, x7, x8, x9, x10, x11, x12, x13, x14, x15, x16) => K .normal ⟨[(2, .c (.int .i64 x0)), (3, .c (.int .i64 x1)), (4, .c (.int .i64 x2)), (5, .c (.ptr 0 0)), (6, .c (.ptr 1 0)), (10, .c (.ptr 2 0)), (12, .c (.ptr 3 0)), (45, .c (.int .i64 x3)), (46, .c (.int .i64 x4))], [(0, .cells 35 [.int .i64 x5, .int .i64 x6, .sl (.int .u8) x7]), (1, .cells 35 [.int .i64 x8, .int .i64 x9, .sl (.int .u8) x10]), (2, .cells 35 [.int .i64 x11, .int .i64 x12, .own 4]), (3, .cells 35 [.int .i64 x13, .int .i64 x14, .own 5]), (4, .vec 5 (.int .u8) x15 true), (5, .vec 5 (.int .u8) x16 true)], 6, 0⟩)
theorem S26_3_okg (fuel : Nat) (f65 : YF65) (f67 : YF67) (f68 : YF68) (f69 : YF69) (f70 : YF70) (R : Ev.St → Option Ans) (K : Ev.Ex → Ev.St → Option Ans) (x0 x1 : Int) (x2 x3 : Int) (x4 x5 : Int) (x6 x7 : Int) (x8 x9 : Int) (x10 : (List Int)) (x11 x12 : Int) (x13 : (List Int)) (x14 x15 : Int) (x16 x17 : Int) (x18 x19 : (List Int)) : evalCode tab (Gg26 f65 f67 f68 f69 f70) (J26_3 fuel) kp26 fuel (bodyOf 3 Try.f26) (T26_3 (x0, x1, x2, x3, x4, x5, x6, x7, x8, x9, x10, x11, x12, x13, x14, x15, x16, x17, x18, x19)) (lc kp26 10 3 R K) = Sg_bitmap_Draw_3 fuel f65 f67 f68 f69 f70 x0 x1 x2 x3 x4 x5 x6 x7 x8 x9 x10 x11 x12 x13 x14 x15 x16 x17 x18 x19 (fun v => R (T26_3 v)) (E26_3 K) := by
  kernel_rfl
noncomputable def B26_3 (fuel : Nat) : Ev.Blk := fun st K => match canonO (kp26 10) st with
 | some s => (match s with
 | ⟨[(q0, .c (.int .i64 x0)), (q1, .c (.int .i64 x1)), (q2, .c (.int .i64 x2)), (q3, .c (.ptr q4 q5)), (q6, .c (.ptr q7 q8)), (q9, .c (.ptr q10 q11)), (q12, .c (.ptr q13 q14)), (q15, .c (.int .i64 x3)), (q16, .c (.int .i64 x4)), (q17, .c (.int .i64 x5)), (q18, .c (.int .i64 x6)), (q19, .c (.int .i64 x7))], [(q20, .cells q21 [.int .i64 x8, .int .i64 x9, .sl (.int .u8) x10]), (q22, .cells q23 [.int .i64 x11, .int .i64 x12, .sl (.int .u8) x13]), (q24, .cells q25 [.int .i64 x14, .int .i64 x15, .own q26]), (q27, .cells q28 [.int .i64 x16, .int .i64 x17, .own q29]), (q30, .vec q31 (.int .u8) x18 true), (q32, .vec q33 (.int .u8) x19 true)], q34, q35⟩ => bif Nat.beq q0 2 && Nat.beq q1 3 && Nat.beq q2 4 && Nat.beq q3 5 && Nat.beq q4 0 && Nat.beq q5 0 && Nat.beq q6 6 && Nat.beq q7 1 && Nat.beq q8 0 && Nat.beq q9 10 && Nat.beq q10 2 && Nat.beq q11 0 && Nat.beq q12 12 && Nat.beq q13 3 && Nat.beq q14 0 && Nat.beq q15 13 && Nat.beq q16 45 && Nat.beq q17 46 && Nat.beq q18 50 && Nat.beq q19 51 && Nat.beq q20 0 && Nat.beq q21 35 && Nat.beq q22 1 && Nat.beq q23 35 && Nat.beq q24 2 && Nat.beq q25 35 && Nat.beq q26 4 && Nat.beq q27 3 && Nat.beq q28 35 && Nat.beq q29 5 && Nat.beq q30 4 && Nat.beq q31 5 && Nat.beq q32 5 && Nat.beq q33 5 && Nat.beq q34 6 && Nat.beq q35 0 then iter (S_bitmap_Draw_3 fuel) fuel (x0, x1, x2, x3, x4, x5, x6, x7, x8, x9, x10, x11, x12, x13, x14, x15, x16, x17, x18, x19) (E26_3 K) else none
 | _ => none)
 | none => none
theorem B26_3_ok (fuel : Nat) (st : Ev.St) (K : Ev.Ex → Ev.St → Option Ans) (r : Ans) (h : B26_3 fuel st K = some r) : evalCode tab (G26 fuel) (J26_3 fuel) kp26 fuel (.block 3 (.loop (bodyOf 3 Try.f26))) st K = some r := by
  unfold B26_3 at h
  split at h
  · rename_i s hs
    split at h
    · skip
      obtain ⟨hb, h⟩ := cond_some' h
      simp only [Bool.and_eq_true, Nat.beq_eq, decide_eq_true_eq] at hb
      obtain ⟨⟨⟨⟨⟨⟨⟨⟨⟨⟨⟨⟨⟨⟨⟨⟨⟨⟨⟨⟨⟨⟨⟨⟨⟨⟨⟨⟨⟨⟨⟨⟨⟨⟨⟨rfl, rfl⟩, rfl⟩, rfl⟩, rfl⟩, rfl⟩, rfl⟩, rfl⟩, rfl⟩, rfl⟩, rfl⟩, rfl⟩, rfl⟩, rfl⟩, rfl⟩, rfl⟩, rfl⟩, rfl⟩, rfl⟩, rfl⟩, rfl⟩, rfl⟩, rfl⟩, rfl⟩, rfl⟩, rfl⟩, rfl⟩, rfl⟩, rfl⟩, rfl⟩, rfl⟩, rfl⟩, rfl⟩, rfl⟩, rfl⟩, rfl⟩ := hb
      exact blk_loop (S := T26_3) (ks := E26_3) (step := S_bitmap_Draw_3 fuel) (v := (_, _, _, _, _, _, _, _, _, _, _, _, _, _, _, _, _, _, _, _)) (by kernel_rfl) (by kernel_rfl) (fun R K v => by obtain ⟨x0, x1, x2, x3, x4, x5, x6, x7, x8, x9, x10, x11, x12, x13, x14, x15, x16, x17, x18, x19⟩ := v; exact S26_3_okg fuel (F_bitmap_Valid fuel) (F_bitmap_isShift fuel) (F_bitmap_clone fuel) (F_bitmap_combine fuel) (F_bitmap_at fuel) R K x0 x1 x2 x3 x4 x5 x6 x7 x8 x9 x10 x11 x12 x13 x14 x15 x16 x17 x18 x19) hs h
    · cases h
  · cases h
noncomputable def Sg_bitmap_Draw_1 (fuel : Nat) (f65 : YF65) (f67 : YF67) (f68 : YF68) (f69 : YF69) (f70 : YF70) (x0 x1 : Int) (x2 x3 : Int) (x4 x5 x6 : Int) (x7 : (List Int)) (x8 x9 : Int) (x10 : (List Int)) (x11 x12 : Int) (x13 x14 : Int) (x15 x16 : (List Int)) (c : (Int × Int × Int × Int × Int × Int × Int × (List Int) × Int × Int × (List Int) × Int × Int × Int × Int × (List Int) × (List Int)) → Option Ans) (B : (Int × Int × Int × Int × (List Int) × (List Int) → Option Ans)) : Option Ans := match B with
 | b =>
  bif decide (x4 < x3) then
  (L_bitmap_Draw_3 fuel (x0, x1, x2, x4, x3, x4, x8, (0 : Int), x5, x6, x7, x8, x9, x10, x11, x12, x13, x14, x15, x16)
  (fun (b3_0, b3_1, b3_2, b3_3, b3_4, b3_5, b3_6, b3_7, b3_8, b3_9, b3_10, b3_11, b3_12, b3_13, b3_14, b3_15, b3_16) =>
  c (b3_0, b3_1, b3_2, b3_3, IntKind.i64.wrap (b3_4 + (1 : Int)), b3_5, b3_6, b3_7, b3_8, b3_9, b3_10, b3_11, b3_12, b3_13, b3_14, b3_15, b3_16)))
  else
  b (x11, x12, x13, x14, x15, x16)
noncomputable def S_bitmap_Draw_1 (fuel : Nat) (v : Int × Int × Int × Int × Int × Int × Int × (List Int) × Int × Int × (List Int) × Int × Int × Int × Int × (List Int) × (List Int)) (c : (Int × Int × Int × Int × Int × Int × Int × (List Int) × Int × Int × (List Int) × Int × Int × Int × Int × (List Int) × (List Int)) → Option Ans) (B : (Int × Int × Int × Int × (List Int) × (List Int) → Option Ans)) : Option Ans := match v with
 | (x0, x1, x2, x3, x4, x5, x6, x7, x8, x9, x10, x11, x12, x13, x14, x15, x16) => Sg_bitmap_Draw_1 fuel (F_bitmap_Valid fuel) (F_bitmap_isShift fuel) (F_bitmap_clone fuel) (F_bitmap_combine fuel) (F_bitmap_at fuel) x0 x1 x2 x3 x4 x5 x6 x7 x8 x9 x10 x11 x12 x13 x14 x15 x16 c B
noncomputable def L_bitmap_Draw_1 (fuel : Nat) (v : Int × Int × Int × Int × Int × Int × Int × (List Int) × Int × Int × (List Int) × Int × Int × Int × Int × (List Int) × (List Int)) (b : (Int × Int × Int × Int × (List Int) × (List Int) → Option Ans)) : Option Ans := iter (S_bitmap_Draw_1 fuel) fuel v b
noncomputable def J26_1 (fuel : Nat) (i : Nat) : Option Ev.Blk := Ev.look i [(100003, B26_3 fuel)]
noncomputable def T26_1 (v : Int × Int × Int × Int × Int × Int × Int × (List Int) × Int × Int × (List Int) × Int × Int × Int × Int × (List Int) × (List Int)) : Ev.St := match v with | (x0, x1, x2, x3, x4, x5, x6, x7, x8, x9, x10, x11, x12, x13, x14, x15, x16) => ⟨[(2, .c (.int .i64 x0)), (3, .c (.int .i64 x1)), (4, .c (.int .i64 x2)), (5, .c (.ptr 0 0)), (6, .c (.ptr 1 0)), (10, .c (.ptr 2 0)), (12, .c (.ptr 3 0)), (45, .c (.int .i64 x3)), (46, .c (.int .i64 x4))], [(0, .cells 35 [.int .i64 x5, .int .i64 x6, .sl (.int .u8) x7]), (1, .cells 35 [.int .i64 x8, .int .i64 x9, .sl (.int .u8) x10]), (2, .cells 35 [.int .i64 x11, .int .i64 x12, .own 4]), (3, .cells 35 [.int .i64 x13, .int .i64 x14, .own 5]), (4, .vec 5 (.int .u8) x15 true), (5, .vec 5 (.int .u8) x16 true)], 6, 0⟩
noncomputable def E26_1 (K : Ev.Ex → Ev.St → Option Ans) : (Int × Int × Int × Int × (List Int) × (List Int) → Option Ans) := (fun v => match v with | (x0, x1, x2, x3, x4, x5) => K .normal ⟨[(10, .c (.ptr 0 0)), (12, .c (.ptr 1 0))], [(0, .cells 35 [.int .i64 x0, .int .i64 x1, .own 2]), (1, .cells 35 [.int .i64 x2, .int .i64 x3, .own 3]), (2, .vec 5 (.int .u8) x4 true), (3, .vec 5 (.int .u8) x5 true)], 4, 0⟩)
theorem S26_1_okg (fuel : Nat) (f65 : YF65) (f67 : YF67) (f68 : YF68) (f69 : YF69) (f70 : YF70) (R : Ev.St → Option Ans) (K : Ev.Ex → Ev.St → Option Ans) (x0 x1 : Int) (x2 x3 : Int) (x4 x5 x6 : Int) (x7 : (List Int)) (x8 x9 : Int) (x10 : (List Int)) (x11 x12 : Int) (x13 x14 : Int) (x15 x16 : (List Int)) : evalCode tab (Gg26 f65 f67 f68 f69 f70) (J26_1 fuel) kp26 fuel (bodyOf 1 Try.f26) (T26_1 (x0, x1, x2, x3, x4, x5, x6, x7, x8, x9, x10, x11, x12, x13, x14, x15, x16)) (lc kp26 7 1 R K) = Sg_bitmap_Draw_1 fuel f65 f67 f68 f69 f70 x0 x1 x2 x3 x4 x5 x6 x7 x8 x9 x10 x11 x12 x13 x14 x15 x16 (fun v => R (T26_1 v)) (E26_1 K) := by
  kernel_rfl
noncomputable def B26_1 (fuel : Nat) : Ev.Blk := fun st K => match canonO (kp26 7) st with
 | some s => (match s with
 | ⟨[(q0, .c (.int .i64 x0)), (q1, .c (.int .i64 x1)), (q2, .c (.int .i64 x2)), (q3, .c (.ptr q4 q5)), (q6, .c (.ptr q7 q8)), (q9, .c (.ptr q10 q11)), (q12, .c (.ptr q13 q14)), (q15, .c (.int .i64 x3)), (q16, .c (.int .i64 x4))], [(q17, .cells q18 [.int .i64 x5, .int .i64 x6, .sl (.int .u8) x7]), (q19, .cells q20 [.int .i64 x8, .int .i64 x9, .sl (.int .u8) x10]), (q21, .cells q22 [.int .i64 x11, .int .i64 x12, .own q23]), (q24, .cells q25 [.int .i64 x13, .int .i64 x14, .own q26]), (q27, .vec q28 (.int .u8) x15 true), (q29, .vec q30 (.int .u8) x16 true)], q31, q32⟩ => bif Nat.beq q0 2 && Nat.beq q1 3 && Nat.beq q2 4 && Nat.beq q3 5 && Nat.beq q4 0 && Nat.beq q5 0 && Nat.beq q6 6 && Nat.beq q7 1 && Nat.beq q8 0 && Nat.beq q9 10 && Nat.beq q10 2 && Nat.beq q11 0 && Nat.beq q12 12 && Nat.beq q13 3 && Nat.beq q14 0 && Nat.beq q15 45 && Nat.beq q16 46 && Nat.beq q17 0 && Nat.beq q18 35 && Nat.beq q19 1 && Nat.beq q20 35 && Nat.beq q21 2 && Nat.beq q22 35 && Nat.beq q23 4 && Nat.beq q24 3 && Nat.beq q25 35 && Nat.beq q26 5 && Nat.beq q27 4 && Nat.beq q28 5 && Nat.beq q29 5 && Nat.beq q30 5 && Nat.beq q31 6 && Nat.beq q32 0 then iter (S_bitmap_Draw_1 fuel) fuel (x0, x1, x2, x3, x4, x5, x6, x7, x8, x9, x10, x11, x12, x13, x14, x15, x16) (E26_1 K) else none
 | _ => none)
 | none => none
theorem B26_1_ok (fuel : Nat) (st : Ev.St) (K : Ev.Ex → Ev.St → Option Ans) (r : Ans) (h : B26_1 fuel st K = some r) : evalCode tab (G26 fuel) (J26_1 fuel) kp26 fuel (.block 1 (.loop (bodyOf 1 Try.f26))) st K = some r := by
  unfold B26_1 at h
  split at h
  · rename_i s hs
    split at h
    · skip
      obtain ⟨hb, h⟩ := cond_some' h
      simp only [Bool.and_eq_true, Nat.beq_eq, decide_eq_true_eq] at hb
      obtain ⟨⟨⟨⟨⟨⟨⟨⟨⟨⟨⟨⟨⟨⟨⟨⟨⟨⟨⟨⟨⟨⟨⟨⟨⟨⟨⟨⟨⟨⟨⟨⟨rfl, rfl⟩, rfl⟩, rfl⟩, rfl⟩, rfl⟩, rfl⟩, rfl⟩, rfl⟩, rfl⟩, rfl⟩, rfl⟩, rfl⟩, rfl⟩, rfl⟩, rfl⟩, rfl⟩, rfl⟩, rfl⟩, rfl⟩, rfl⟩, rfl⟩, rfl⟩, rfl⟩, rfl⟩, rfl⟩, rfl⟩, rfl⟩, rfl⟩, rfl⟩, rfl⟩, rfl⟩, rfl⟩ := hb
      exact blk_loop (S := T26_1) (ks := E26_1) (step := S_bitmap_Draw_1 fuel) (v := (_, _, _, _, _, _, _, _, _, _, _, _, _, _, _, _, _)) (by kernel_rfl) (by kernel_rfl) (fun R K v => by obtain ⟨x0, x1, x2, x3, x4, x5, x6, x7, x8, x9, x10, x11, x12, x13, x14, x15, x16⟩ := v; exact S26_1_okg fuel (F_bitmap_Valid fuel) (F_bitmap_isShift fuel) (F_bitmap_clone fuel) (F_bitmap_combine fuel) (F_bitmap_at fuel) R K x0 x1 x2 x3 x4 x5 x6 x7 x8 x9 x10 x11 x12 x13 x14 x15 x16) hs h
    · cases h
  · cases h
noncomputable def J26 (fuel : Nat) (i : Nat) : Option Ev.Blk := Ev.look i [(100003, B26_3 fuel), (100001, B26_1 fuel)]
noncomputable def Fg_bitmap_Draw (fuel : Nat) (f65 : YF65) (f67 : YF67) (f68 : YF68) (f69 : YF69) (f70 : YF70) (x0 x1 : Int) (x2 : (List Int)) (x3 x4 : Int) (x5 : (List Int)) (x6 x7 x8 : Int) (k0 : (Int × Int × Int × (List Int)) → Option Ans) : Option Ans :=
  (f65 (x0) (x1) (x2)
  (fun y2 =>
  bif !y2 then
  k0 ((0 : Int), (0 : Int), (30 : Int), [])
  else
  (f65 (x3) (x4) (x5)
  (fun y7 =>
  bif !y7 then
  k0 ((0 : Int), (0 : Int), (30 : Int), [])
  else
  bif decide (x8 < (0 : Int)) then
  k0 ((0 : Int), (0 : Int), (2 : Int), [])
  else
  bif decide (x8 > (4 : Int)) then
  k0 ((0 : Int), (0 : Int), (2 : Int), [])
  else
  (f67 (x6) (x7)
  (fun y14 =>
  bif !y14 then
  k0 ((0 : Int), (0 : Int), (2 : Int), [])
  else
  (f68 (x0) (x1) (x2)
  (fun (y19_0, y19_1, y19_2) =>
  (L_bitmap_Draw_1 fuel (x6, x7, x8, x4, (0 : Int), x0, x1, x2, x3, x4, x5, (0 : Int), (0 : Int), y19_0, y19_1, [], y19_2)
  (fun (b1_0, b1_1, b1_2, b1_3, b1_4, b1_5) =>
  k0 (b1_2, b1_3, (0 : Int), b1_5)))))))))))
noncomputable def F_bitmap_Draw (fuel : Nat) (x0 x1 : Int) (x2 : (List Int)) (x3 x4 : Int) (x5 : (List Int)) (x6 x7 x8 : Int) (k0 : (Int × Int × Int × (List Int)) → Option Ans) : Option Ans := Fg_bitmap_Draw fuel (F_bitmap_Valid fuel) (F_bitmap_isShift fuel) (F_bitmap_clone fuel) (F_bitmap_combine fuel) (F_bitmap_at fuel) x0 x1 x2 x3 x4 x5 x6 x7 x8 k0
abbrev YF26 : Type := (Int) → (Int) → ((List Int)) → (Int) → (Int) → ((List Int)) → (Int) → (Int) → (Int) → ((Int × Int × Int × (List Int)) → Option Ans) → Option Ans
theorem F26_eqg (fuel : Nat) (f65 : YF65) (f67 : YF67) (f68 : YF68) (f69 : YF69) (f70 : YF70) (x0 x1 : Int) (x2 : (List Int)) (x3 x4 : Int) (x5 : (List Int)) (x6 x7 x8 : Int) (k : Ev.Cont) : evalFn tab (Gg26 f65 f67 f68 f69 f70) (J26 fuel) kp26 fuel Try.f26 [.agg [.int .i64 x0, .int .i64 x1, .sl (.int .u8) x2], .agg [.int .i64 x3, .int .i64 x4, .sl (.int .u8) x5], .c (.int .i64 x6), .c (.int .i64 x7), .c (.int .i64 x8)] [] k = Fg_bitmap_Draw fuel f65 f67 f68 f69 f70 x0 x1 x2 x3 x4 x5 x6 x7 x8 (fun r => match r with | (r0, r1, r2, r3) => k (.tup [(true, [.int .i64 r0, .int .i64 r1, .own 0]), (false, [.int .i64 r2])], [.vec 5 (.int .u8) r3 true])) := by
  kernel_rfl
theorem hG26 (fuel : Nat) : GOK Try.prog (G26 fuel) :=
  gok_cons ⟨ok65 fuel, enters_of Try.func65 (by kernel_rfl) rfl⟩ <|
  gok_cons ⟨ok67 fuel, enters_of Try.func67 (by kernel_rfl) rfl⟩ <|
  gok_cons ⟨ok68 fuel, enters_of Try.func68 (by kernel_rfl) rfl⟩ <|
  gok_cons ⟨ok69 fuel, enters_of Try.func69 (by kernel_rfl) rfl⟩ <|
  gok_cons ⟨ok70 fuel, enters_of Try.func70 (by kernel_rfl) rfl⟩ <|
  gok_nil
theorem B26_3_blk (fuel : Nat) : BlkOK Try.prog Try.f26.ntmps (.block 3 (.loop (bodyOf 3 Try.f26))) (B26_3 fuel) :=
  blk_of (blk_of_code tab_ok (hG26 fuel) mixed (J := J26_3 fuel) (kp := kp26) (fuel := fuel) (by kernel_rfl) (fun q hq => by
    rw [(by kernel_rfl : obl (J26_3 fuel) (.block 3 (.loop (bodyOf 3 Try.f26))) = [])] at hq
    cases hq)) (B26_3_ok fuel)
theorem B26_1_blk (fuel : Nat) : BlkOK Try.prog Try.f26.ntmps (.block 1 (.loop (bodyOf 1 Try.f26))) (B26_1 fuel) :=
  blk_of (blk_of_code tab_ok (hG26 fuel) mixed (J := J26_1 fuel) (kp := kp26) (fuel := fuel) (by kernel_rfl) (fun q hq => by
    rw [(by kernel_rfl : obl (J26_1 fuel) (.block 1 (.loop (bodyOf 1 Try.f26))) = [(.block 3 (.loop (bodyOf 3 Try.f26)), B26_3 fuel)])] at hq
    simp only [List.mem_cons, List.not_mem_nil, or_false] at hq
    subst hq
    · exact B26_3_blk fuel)) (B26_1_ok fuel)
theorem fok26 (fuel : Nat) : FnOK Try.prog 26 (evalFn tab (G26 fuel) (J26 fuel) kp26 fuel Try.f26) :=
  fn_ok tab_ok (hG26 fuel) mixed Try.func26 (c := (Try.f26.body).getD .skip) rfl (fun q hq => by
    rw [(by kernel_rfl : obl (J26 fuel) ((Try.f26.body).getD .skip) = [(.block 1 (.loop (bodyOf 1 Try.f26)), B26_1 fuel)])] at hq
    simp only [List.mem_cons, List.not_mem_nil, or_false] at hq
    subst hq
    · exact B26_1_blk fuel)
noncomputable def spg26 (F : YF26) : Ev.Spec := fun args objs k => match args, objs with
 | [.agg [.int .i64 x0, .int .i64 x1, .sl (.int .u8) x2], .agg [.int .i64 x3, .int .i64 x4, .sl (.int .u8) x5], .c (.int .i64 x6), .c (.int .i64 x7), .c (.int .i64 x8)], [] => bif true then F x0 x1 x2 x3 x4 x5 x6 x7 x8 (fun r => match r with | (r0, r1, r2, r3) => k (.tup [(true, [.int .i64 r0, .int .i64 r1, .own 0]), (false, [.int .i64 r2])], [.vec 5 (.int .u8) r3 true])) else none
 | _, _ => none
noncomputable def spec26 (fuel : Nat) : Ev.Spec := spg26 (F_bitmap_Draw fuel)
theorem ok26 (fuel : Nat) : FnOK Try.prog 26 (spec26 fuel) := by
  intro args objs kk r h
  unfold spec26 spg26 at h
  split at h
  · skip
    obtain ⟨hb, h⟩ := cond_some' h
    simp only [Bool.and_eq_true, Nat.beq_eq, decide_eq_true_eq] at hb
    clear hb
    exact fok26 fuel _ _ kk r ((F26_eqg fuel (F_bitmap_Valid fuel) (F_bitmap_isShift fuel) (F_bitmap_clone fuel) (F_bitmap_combine fuel) (F_bitmap_at fuel) _ _ _ _ _ _ _ _ _ kk).trans h)
  · cases h
end Go.Proofs.Ytipdidpalcmlhaa

set_option linter.unusedVariables false
set_option linter.unusedSimpArgs false
set_option maxRecDepth 100000
set_option maxHeartbeats 2000000
namespace Go.Proofs.Ytipdidpalcmlhaa
open Go Ev
def kp111_a20 (i : Nat) : Option (List Nat) := Ev.look i []
noncomputable def Gg111_a20 (f : Nat) : Option Ev.Spec := Ev.look f []
noncomputable def G111_a20 (fuel : Nat) : Nat → Option Ev.Spec := Gg111_a20
noncomputable def J111_a20 (fuel : Nat) (i : Nat) : Option Ev.Blk := Ev.look i []
noncomputable def F_coder_Encoder_none_a20 (fuel : Nat) (x0 x1 x2 : Int) (x3 : Bool) (x4 x5 : (List Int)) (k0 : (Bool × Int × Int × Int × Bool × (List Int) × (List Int)) → Option Ans) : Option Ans :=
  k0 (!x3, x0, x1, x2, x3, x4, x5)
abbrev YF111_a20 : Type := (Int) → (Int) → (Int) → (Bool) → ((List Int)) → ((List Int)) → ((Bool × Int × Int × Int × Bool × (List Int) × (List Int)) → Option Ans) → Option Ans
theorem F111_a20_eq (fuel : Nat) (x0 x1 x2 : Int) (x3 : Bool) (x4 x5 : (List Int)) (k : Ev.Cont) : evalFn tab (G111_a20 fuel) (J111_a20 fuel) kp111_a20 fuel Try.f111 [.c (.ptr 0 0)] [.cells 148 (.int .i64 x0 :: .own 1 :: ctb (.int .u64 x1 :: .int .u64 x2 :: .own 2 :: .bool x3 :: [])), .vec 3 (.int .i64) x4 false, .vec 5 (.int .u8) x5 false] k = F_coder_Encoder_none_a20 fuel x0 x1 x2 x3 x4 x5 (fun r => match r with | (r0, r1, r2, r3, r4, r5, r6) => k (.c (.bool r0), [.cells 148 (.int .i64 r1 :: .own 1 :: ctb (.int .u64 r2 :: .int .u64 r3 :: .own 2 :: .bool r4 :: [])), .vec 3 (.int .i64) r5 false, .vec 5 (.int .u8) r6 false])) := by
  kernel_rfl
theorem hG111_a20 (fuel : Nat) : GOK Try.prog (G111_a20 fuel) :=
  gok_nil
theorem fok111_a20 (fuel : Nat) : FnOK Try.prog 111 (evalFn tab (G111_a20 fuel) (J111_a20 fuel) kp111_a20 fuel Try.f111) :=
  fn_ok tab_ok (hG111_a20 fuel) mixed Try.func111 (c := (Try.f111.body).getD .skip) rfl (fun q hq => by
    rw [(by kernel_rfl : obl (J111_a20 fuel) ((Try.f111.body).getD .skip) = [])] at hq
    cases hq)
noncomputable def spg111_a20 (F : YF111_a20) : Ev.Spec := fun args objs k => match args, objs with
 | [.c (.ptr q0 q1)], [.cells q2 cs0, .vec q3 (.int .i64) x4 false, .vec q4 (.int .u8) x5 false] => (match splitRun 2 ctn cs0 with | some ([.int .i64 x0, .own q5], [.int .u64 x1, .int .u64 x2, .own q6, .bool x3]) => bif Nat.beq q0 0 && Nat.beq q1 0 && Nat.beq q2 148 && Nat.beq q3 3 && Nat.beq q4 5 && Nat.beq q5 1 && Nat.beq q6 2 then F x0 x1 x2 x3 x4 x5 (fun r => match r with | (r0, r1, r2, r3, r4, r5, r6) => k (.c (.bool r0), [.cells 148 (.int .i64 r1 :: .own 1 :: ctb (.int .u64 r2 :: .int .u64 r3 :: .own 2 :: .bool r4 :: [])), .vec 3 (.int .i64) r5 false, .vec 5 (.int .u8) r6 false])) else none | _ => none)
 | _, _ => none
noncomputable def spec111_a20 (fuel : Nat) : Ev.Spec := spg111_a20 (F_coder_Encoder_none_a20 fuel)
theorem ok111_a20 (fuel : Nat) : FnOK Try.prog 111 (spec111_a20 fuel) := by
  intro args objs kk r h
  unfold spec111_a20 spg111_a20 at h
  split at h
  · skip
    split at h
    rotate_left 1
    · cases h
    rename_i hsp
    have esp := splitRun_eq hsp
    subst esp
    obtain ⟨hb, h⟩ := cond_some' h
    simp only [Bool.and_eq_true, Nat.beq_eq, decide_eq_true_eq] at hb
    obtain ⟨⟨⟨⟨⟨⟨rfl, rfl⟩, rfl⟩, rfl⟩, rfl⟩, rfl⟩, rfl⟩ := hb
    exact fok111_a20 fuel _ _ kk r ((F111_a20_eq fuel _ _ _ _ _ _ kk).trans h)
  · cases h
end Go.Proofs.Ytipdidpalcmlhaa

set_option linter.unusedVariables false
set_option linter.unusedSimpArgs false
set_option maxRecDepth 100000
set_option maxHeartbeats 2000000
namespace Go.Proofs.Ytipdidpalcmlhaa
open Go Ev
def kp54_a20 (i : Nat) : Option (List Nat) := Ev.look i [(5, [0, 3, 15]), (10, [0, 3, 37, 38]), (100000, [3]), (100002, [3]), (200008, [0]), (400000, [2]), (400002, [2])]
noncomputable def Gg54_a20 (f111_a20 : YF111_a20) (f : Nat) : Option Ev.Spec := Ev.look f [(111, spg111_a20 f111_a20)]
noncomputable def G54_a20 (fuel : Nat) : Nat → Option Ev.Spec := Gg54_a20 (F_coder_Encoder_none_a20 fuel)
noncomputable def Sg_coder_Encoder_End_a20_2 (fuel : Nat) (f111_a20 : YF111_a20) (x0 x1 : Int) (x2 x3 x4 : Int) (x5 : Bool) (x6 x7 x8 : (List Int)) (c : (Int × Int × Int × Int × Int × Bool × (List Int) × (List Int) × (List Int)) → Option Ans) (B : (Int × Int × Int × Bool × (List Int) × (List Int) × (List Int) → Option Ans)) : Option Ans := match B with
 | b =>
  bif decide (x1 < x0) then
  bif decide (IntKind.i64.wrap ((24 : Int) - IntKind.i64.wrap ((8 : Int) * x1)) < (0 : Int)) then
  none
  else
  bif decide ((x8.length + [IntKind.u8.wrap (Ev.ishr IntKind.u64 x4 (IntKind.i64.wrap ((24 : Int) - IntKind.i64.wrap ((8 : Int) * x1))))].length) * (1 : Nat) ≤ (140737488355328 : Nat) ∧ x8.length + [IntKind.u8.wrap (Ev.ishr IntKind.u64 x4 (IntKind.i64.wrap ((24 : Int) - IntKind.i64.wrap ((8 : Int) * x1))))].length ≤ (140737488355328 : Nat)) then
  c (x0, IntKind.i64.wrap (x1 + (1 : Int)), x2, x3, x4, x5, x6, x7, x8 ++ [IntKind.u8.wrap (Ev.ishr IntKind.u64 x4 (IntKind.i64.wrap ((24 : Int) - IntKind.i64.wrap ((8 : Int) * x1))))])
  else none
  else
  b (x2, x3, x4, x5, x6, x7, x8)
noncomputable def S_coder_Encoder_End_a20_2 (fuel : Nat) (v : Int × Int × Int × Int × Int × Bool × (List Int) × (List Int) × (List Int)) (c : (Int × Int × Int × Int × Int × Bool × (List Int) × (List Int) × (List Int)) → Option Ans) (B : (Int × Int × Int × Bool × (List Int) × (List Int) × (List Int) → Option Ans)) : Option Ans := match v with
 | (x0, x1, x2, x3, x4, x5, x6, x7, x8) => Sg_coder_Encoder_End_a20_2 fuel (F_coder_Encoder_none_a20 fuel) x0 x1 x2 x3 x4 x5 x6 x7 x8 c B
noncomputable def L_coder_Encoder_End_a20_2 (fuel : Nat) (v : Int × Int × Int × Int × Int × Bool × (List Int) × (List Int) × (List Int)) (b : (Int × Int × Int × Bool × (List Int) × (List Int) × (List Int) → Option Ans)) : Option Ans := iter (S_coder_Encoder_End_a20_2 fuel) fuel v b
noncomputable def J54_a20_2 (fuel : Nat) (i : Nat) : Option Ev.Blk := Ev.look i []
noncomputable def T54_a20_2 (v : Int × Int × Int × Int × Int × Bool × (List Int) × (List Int) × (List Int)) : Ev.St := match v with | (x0, x1, x2, x3, x4, x5, x6, x7, x8) => ⟨[(0, .c (.ptr 0 0)), (3, .c (.own 3)), (37, .c (.int .i64 x0)), (38, .c (.int .i64 x1))], [(0, .cells 148 (.int .i64 x2 :: .own 1 :: ctb (.int .u64 x3 :: .int .u64 x4 :: .own 2 :: .bool x5 :: []))), (1, .vec 3 (.int .i64) x6 false), (2, .vec 5 (.int .u8) x7 false), (3, .vec 5 (.int .u8) x8 true)], 4, 3⟩
noncomputable def E54_a20_2 (K : Ev.Ex → Ev.St → Option Ans) : (Int × Int × Int × Bool × (List Int) × (List Int) × (List Int) → Option Ans) := (fun v => match v with | (x0, x1, x2, x3, x4, x5, x6) => K .normal ⟨[(3, .c (.own 3))], [(0, .cells 148 (.int .i64 x0 :: .own 1 :: ctb (.int .u64 x1 :: .int .u64 x2 :: .own 2 :: .bool x3 :: []))), (1, .vec 3 (.int .i64) x4 false), (2, .vec 5 (.int .u8) x5 false), (3, .vec 5 (.int .u8) x6 true)], 4, 3⟩)
theorem S54_a20_2_okg (fuel : Nat) (f111_a20 : YF111_a20) (R : Ev.St → Option Ans) (K : Ev.Ex → Ev.St → Option Ans) (x0 x1 : Int) (x2 x3 x4 : Int) (x5 : Bool) (x6 x7 x8 : (List Int)) : evalCode tab (Gg54_a20 f111_a20) (J54_a20_2 fuel) kp54_a20 fuel (bodyOf 2 Try.f54) (T54_a20_2 (x0, x1, x2, x3, x4, x5, x6, x7, x8)) (lc kp54_a20 10 2 R K) = Sg_coder_Encoder_End_a20_2 fuel f111_a20 x0 x1 x2 x3 x4 x5 x6 x7 x8 (fun v => R (T54_a20_2 v)) (E54_a20_2 K) := by
  kernel_rfl
noncomputable def B54_a20_2 (fuel : Nat) : Ev.Blk := fun st K => match canonO (kp54_a20 10) st with
 | some s => (match s with
 | ⟨[(q0, .c (.ptr q1 q2)), (q3, .c (.own q4)), (q5, .c (.int .i64 x0)), (q6, .c (.int .i64 x1))], [(q7, .cells q8 cs0), (q9, .vec q10 (.int .i64) x6 false), (q11, .vec q12 (.int .u8) x7 false), (q13, .vec q14 (.int .u8) x8 true)], q15, q16⟩ => (match splitRun 2 ctn cs0 with | some ([.int .i64 x2, .own q17], [.int .u64 x3, .int .u64 x4, .own q18, .bool x5]) => bif Nat.beq q0 0 && Nat.beq q1 0 && Nat.beq q2 0 && Nat.beq q3 3 && Nat.beq q4 3 && Nat.beq q5 37 && Nat.beq q6 38 && Nat.beq q7 0 && Nat.beq q8 148 && Nat.beq q9 1 && Nat.beq q10 3 && Nat.beq q11 2 && Nat.beq q12 5 && Nat.beq q13 3 && Nat.beq q14 5 && Nat.beq q15 4 && Nat.beq q16 3 && Nat.beq q17 1 && Nat.beq q18 2 then iter (S_coder_Encoder_End_a20_2 fuel) fuel (x0, x1, x2, x3, x4, x5, x6, x7, x8) (E54_a20_2 K) else none | _ => none)
 | _ => none)
 | none => none
theorem B54_a20_2_ok (fuel : Nat) (st : Ev.St) (K : Ev.Ex → Ev.St → Option Ans) (r : Ans) (h : B54_a20_2 fuel st K = some r) : evalCode tab (G54_a20 fuel) (J54_a20_2 fuel) kp54_a20 fuel (.block 2 (.loop (bodyOf 2 Try.f54))) st K = some r := by
  unfold B54_a20_2 at h
  split at h
  · rename_i s hs
    split at h
    · skip
      split at h
      rotate_left 1
      · cases h
      rename_i hsp
      have esp := splitRun_eq hsp
      subst esp
      obtain ⟨hb, h⟩ := cond_some' h
      simp only [Bool.and_eq_true, Nat.beq_eq, decide_eq_true_eq] at hb
      obtain ⟨⟨⟨⟨⟨⟨⟨⟨⟨⟨⟨⟨⟨⟨⟨⟨⟨⟨rfl, rfl⟩, rfl⟩, rfl⟩, rfl⟩, rfl⟩, rfl⟩, rfl⟩, rfl⟩, rfl⟩, rfl⟩, rfl⟩, rfl⟩, rfl⟩, rfl⟩, rfl⟩, rfl⟩, rfl⟩, rfl⟩ := hb
      exact blk_loop (S := T54_a20_2) (ks := E54_a20_2) (step := S_coder_Encoder_End_a20_2 fuel) (v := (_, _, _, _, _, _, _, _, _)) (by kernel_rfl) (by kernel_rfl) (fun R K v => by obtain ⟨x0, x1, x2, x3, x4, x5, x6, x7, x8⟩ := v; exact S54_a20_2_okg fuel (F_coder_Encoder_none_a20 fuel) R K x0 x1 x2 x3 x4 x5 x6 x7 x8) hs h
    · cases h
  · cases h
noncomputable def Sg_coder_Encoder_End_a20_0 (fuel : Nat) (f111_a20 : YF111_a20) (x0 x1 : Int) (x2 x3 : Int) (x4 : Bool) (x5 x6 x7 : (List Int)) (c : (Int × Int × Int × Int × Bool × (List Int) × (List Int) × (List Int)) → Option Ans) (B : (Int × Int × Int × Bool × (List Int) × (List Int) × (List Int) → Option Ans) × (Int × Int × Int × Bool × (List Int) × (List Int) × (List Int) → Option Ans)) : Option Ans := match B with
 | (ret, b) =>
  bif decide (x0 < (5 : Int)) then
  bif decide (IntKind.u64.wrap (IntKind.i64.wrap ((32 : Int) - IntKind.i64.wrap ((8 : Int) * x0))) < (0 : Int)) then
  none
  else
  bif decide (IntKind.u64.wrap (IntKind.i64.wrap ((32 : Int) - IntKind.i64.wrap ((8 : Int) * x0))) < (0 : Int)) then
  none
  else
  bif decide (Ev.ishl IntKind.u64 (Ev.ishr IntKind.u64 x3 (IntKind.u64.wrap (IntKind.i64.wrap ((32 : Int) - IntKind.i64.wrap ((8 : Int) * x0))))) (IntKind.u64.wrap (IntKind.i64.wrap ((32 : Int) - IntKind.i64.wrap ((8 : Int) * x0)))) ≥ x2) then
  (L_coder_Encoder_End_a20_2 fuel (x0, (0 : Int), x1, x2, x3, x4, x5, x6, x7)
  (fun (b2_0, b2_1, b2_2, b2_3, b2_4, b2_5, b2_6) =>
  ret (b2_0, b2_1, b2_2, b2_3, b2_4, b2_5, b2_6)))
  else
  c (IntKind.i64.wrap (x0 + (1 : Int)), x1, x2, x3, x4, x5, x6, x7)
  else
  b (x1, x2, x3, x4, x5, x6, x7)
noncomputable def S_coder_Encoder_End_a20_0 (fuel : Nat) (v : Int × Int × Int × Int × Bool × (List Int) × (List Int) × (List Int)) (c : (Int × Int × Int × Int × Bool × (List Int) × (List Int) × (List Int)) → Option Ans) (B : (Int × Int × Int × Bool × (List Int) × (List Int) × (List Int) → Option Ans) × (Int × Int × Int × Bool × (List Int) × (List Int) × (List Int) → Option Ans)) : Option Ans := match v with
 | (x0, x1, x2, x3, x4, x5, x6, x7) => Sg_coder_Encoder_End_a20_0 fuel (F_coder_Encoder_none_a20 fuel) x0 x1 x2 x3 x4 x5 x6 x7 c B
noncomputable def L_coder_Encoder_End_a20_0 (fuel : Nat) (v : Int × Int × Int × Int × Bool × (List Int) × (List Int) × (List Int)) (ret : (Int × Int × Int × Bool × (List Int) × (List Int) × (List Int) → Option Ans)) (b : (Int × Int × Int × Bool × (List Int) × (List Int) × (List Int) → Option Ans)) : Option Ans := iter (S_coder_Encoder_End_a20_0 fuel) fuel v (ret, b)
noncomputable def J54_a20_0 (fuel : Nat) (i : Nat) : Option Ev.Blk := Ev.look i [(100002, B54_a20_2 fuel)]
noncomputable def T54_a20_0 (v : Int × Int × Int × Int × Bool × (List Int) × (List Int) × (List Int)) : Ev.St := match v with | (x0, x1, x2, x3, x4, x5, x6, x7) => ⟨[(0, .c (.ptr 0 0)), (3, .c (.own 3)), (15, .c (.int .i64 x0))], [(0, .cells 148 (.int .i64 x1 :: .own 1 :: ctb (.int .u64 x2 :: .int .u64 x3 :: .own 2 :: .bool x4 :: []))), (1, .vec 3 (.int .i64) x5 false), (2, .vec 5 (.int .u8) x6 false), (3, .vec 5 (.int .u8) x7 true)], 4, 3⟩
noncomputable def E54_a20_0 (K : Ev.Ex → Ev.St → Option Ans) : (Int × Int × Int × Bool × (List Int) × (List Int) × (List Int) → Option Ans) × (Int × Int × Int × Bool × (List Int) × (List Int) × (List Int) → Option Ans) := ((fun v => match v with | (x0, x1, x2, x3, x4, x5, x6) => K .ret ⟨[(2, .c (.own 3))], [(0, .cells 148 (.int .i64 x0 :: .own 1 :: ctb (.int .u64 x1 :: .int .u64 x2 :: .own 2 :: .bool x3 :: []))), (1, .vec 3 (.int .i64) x4 false), (2, .vec 5 (.int .u8) x5 false), (3, .vec 5 (.int .u8) x6 true)], 4, 3⟩), (fun v => match v with | (x0, x1, x2, x3, x4, x5, x6) => K .normal ⟨[(3, .c (.own 3))], [(0, .cells 148 (.int .i64 x0 :: .own 1 :: ctb (.int .u64 x1 :: .int .u64 x2 :: .own 2 :: .bool x3 :: []))), (1, .vec 3 (.int .i64) x4 false), (2, .vec 5 (.int .u8) x5 false), (3, .vec 5 (.int .u8) x6 true)], 4, 3⟩))
theorem S54_a20_0_okg (fuel : Nat) (f111_a20 : YF111_a20) (R : Ev.St → Option Ans) (K : Ev.Ex → Ev.St → Option Ans) (x0 x1 : Int) (x2 x3 : Int) (x4 : Bool) (x5 x6 x7 : (List Int)) : evalCode tab (Gg54_a20 f111_a20) (J54_a20_0 fuel) kp54_a20 fuel (bodyOf 0 Try.f54) (T54_a20_0 (x0, x1, x2, x3, x4, x5, x6, x7)) (lc kp54_a20 5 0 R K) = Sg_coder_Encoder_End_a20_0 fuel f111_a20 x0 x1 x2 x3 x4 x5 x6 x7 (fun v => R (T54_a20_0 v)) (E54_a20_0 K) := by
  kernel_rfl
noncomputable def B54_a20_0 (fuel : Nat) : Ev.Blk := fun st K => match canonO (kp54_a20 5) st with
 | some s => (match s with
 | ⟨[(q0, .c (.ptr q1 q2)), (q3, .c (.own q4)), (q5, .c (.int .i64 x0))], [(q6, .cells q7 cs0), (q8, .vec q9 (.int .i64) x5 false), (q10, .vec q11 (.int .u8) x6 false), (q12, .vec q13 (.int .u8) x7 true)], q14, q15⟩ => (match splitRun 2 ctn cs0 with | some ([.int .i64 x1, .own q16], [.int .u64 x2, .int .u64 x3, .own q17, .bool x4]) => bif Nat.beq q0 0 && Nat.beq q1 0 && Nat.beq q2 0 && Nat.beq q3 3 && Nat.beq q4 3 && Nat.beq q5 15 && Nat.beq q6 0 && Nat.beq q7 148 && Nat.beq q8 1 && Nat.beq q9 3 && Nat.beq q10 2 && Nat.beq q11 5 && Nat.beq q12 3 && Nat.beq q13 5 && Nat.beq q14 4 && Nat.beq q15 3 && Nat.beq q16 1 && Nat.beq q17 2 then iter (S_coder_Encoder_End_a20_0 fuel) fuel (x0, x1, x2, x3, x4, x5, x6, x7) (E54_a20_0 K) else none | _ => none)
 | _ => none)
 | none => none
theorem B54_a20_0_ok (fuel : Nat) (st : Ev.St) (K : Ev.Ex → Ev.St → Option Ans) (r : Ans) (h : B54_a20_0 fuel st K = some r) : evalCode tab (G54_a20 fuel) (J54_a20_0 fuel) kp54_a20 fuel (.block 0 (.loop (bodyOf 0 Try.f54))) st K = some r := by
  unfold B54_a20_0 at h
  split at h
  · rename_i s hs
    split at h
    · skip
      split at h
      rotate_left 1
      · cases h
      rename_i hsp
      have esp := splitRun_eq hsp
      subst esp
      obtain ⟨hb, h⟩ := cond_some' h
      simp only [Bool.and_eq_true, Nat.beq_eq, decide_eq_true_eq] at hb
      obtain ⟨⟨⟨⟨⟨⟨⟨⟨⟨⟨⟨⟨⟨⟨⟨⟨⟨rfl, rfl⟩, rfl⟩, rfl⟩, rfl⟩, rfl⟩, rfl⟩, rfl⟩, rfl⟩, rfl⟩, rfl⟩, rfl⟩, rfl⟩, rfl⟩, rfl⟩, rfl⟩, rfl⟩, rfl⟩ := hb
      exact blk_loop (S := T54_a20_0) (ks := E54_a20_0) (step := S_coder_Encoder_End_a20_0 fuel) (v := (_, _, _, _, _, _, _, _)) (by kernel_rfl) (by kernel_rfl) (fun R K v => by obtain ⟨x0, x1, x2, x3, x4, x5, x6, x7⟩ := v; exact S54_a20_0_okg fuel (F_coder_Encoder_none_a20 fuel) R K x0 x1 x2 x3 x4 x5 x6 x7) hs h
    · cases h
  · cases h
noncomputable def J54_a20 (fuel : Nat) (i : Nat) : Option Ev.Blk := Ev.look i [(100002, B54_a20_2 fuel), (100000, B54_a20_0 fuel)]
noncomputable def Fg_coder_Encoder_End_a20 (fuel : Nat) (f111_a20 : YF111_a20) (x0 x1 x2 : Int) (x3 : Bool) (x4 x5 : (List Int)) (k0 : (Int × Int × Int × Bool × (List Int) × (List Int) × (List Int)) → Option Ans) : Option Ans :=
  (f111_a20 (x0) (x1) (x2) (x3) (x4) (x5)
  (fun (y2_0, y2_1, y2_2, y2_3, y2_4, y2_5, y2_6) =>
  bif y2_0 then
  k0 (y2_1, y2_2, y2_3, y2_4, y2_5, y2_6, [])
  else
  bif decide (((0 : Nat) + y2_6.length) * (1 : Nat) ≤ (140737488355328 : Nat) ∧ (0 : Nat) + y2_6.length ≤ (140737488355328 : Nat)) then
  (L_coder_Encoder_End_a20_0 fuel ((0 : Int), y2_1, y2_2, y2_3, y2_4, y2_5, y2_6, [] ++ y2_6)
  (fun (ret0_0, ret0_1, ret0_2, ret0_3, ret0_4, ret0_5, ret0_6) =>
  k0 (ret0_0, ret0_1, ret0_2, ret0_3, ret0_4, ret0_5, ret0_6))
  (fun (b0_0, b0_1, b0_2, b0_3, b0_4, b0_5, b0_6) =>
  k0 (b0_0, b0_1, b0_2, b0_3, b0_4, b0_5, b0_6)))
  else none))
noncomputable def F_coder_Encoder_End_a20 (fuel : Nat) (x0 x1 x2 : Int) (x3 : Bool) (x4 x5 : (List Int)) (k0 : (Int × Int × Int × Bool × (List Int) × (List Int) × (List Int)) → Option Ans) : Option Ans := Fg_coder_Encoder_End_a20 fuel (F_coder_Encoder_none_a20 fuel) x0 x1 x2 x3 x4 x5 k0
abbrev YF54_a20 : Type := (Int) → (Int) → (Int) → (Bool) → ((List Int)) → ((List Int)) → ((Int × Int × Int × Bool × (List Int) × (List Int) × (List Int)) → Option Ans) → Option Ans
theorem F54_a20_eqg (fuel : Nat) (f111_a20 : YF111_a20) (x0 x1 x2 : Int) (x3 : Bool) (x4 x5 : (List Int)) (k : Ev.Cont) : evalFn tab (Gg54_a20 f111_a20) (J54_a20 fuel) kp54_a20 fuel Try.f54 [.c (.ptr 0 0)] [.cells 148 (.int .i64 x0 :: .own 1 :: ctb (.int .u64 x1 :: .int .u64 x2 :: .own 2 :: .bool x3 :: [])), .vec 3 (.int .i64) x4 false, .vec 5 (.int .u8) x5 false] k = Fg_coder_Encoder_End_a20 fuel f111_a20 x0 x1 x2 x3 x4 x5 (fun r => match r with | (r0, r1, r2, r3, r4, r5, r6) => k (.c (.own 3), [.cells 148 (.int .i64 r0 :: .own 1 :: ctb (.int .u64 r1 :: .int .u64 r2 :: .own 2 :: .bool r3 :: [])), .vec 3 (.int .i64) r4 false, .vec 5 (.int .u8) r5 false, .vec 5 (.int .u8) r6 true])) := by
  kernel_rfl
theorem hG54_a20 (fuel : Nat) : GOK Try.prog (G54_a20 fuel) :=
  gok_cons ⟨ok111_a20 fuel, enters_of Try.func111 (by kernel_rfl) rfl⟩ <|
  gok_nil
theorem B54_a20_2_blk (fuel : Nat) : BlkOK Try.prog Try.f54.ntmps (.block 2 (.loop (bodyOf 2 Try.f54))) (B54_a20_2 fuel) :=
  blk_of (blk_of_code tab_ok (hG54_a20 fuel) mixed (J := J54_a20_2 fuel) (kp := kp54_a20) (fuel := fuel) (by kernel_rfl) (fun q hq => by
    rw [(by kernel_rfl : obl (J54_a20_2 fuel) (.block 2 (.loop (bodyOf 2 Try.f54))) = [])] at hq
    cases hq)) (B54_a20_2_ok fuel)
theorem B54_a20_0_blk (fuel : Nat) : BlkOK Try.prog Try.f54.ntmps (.block 0 (.loop (bodyOf 0 Try.f54))) (B54_a20_0 fuel) :=
  blk_of (blk_of_code tab_ok (hG54_a20 fuel) mixed (J := J54_a20_0 fuel) (kp := kp54_a20) (fuel := fuel) (by kernel_rfl) (fun q hq => by
    rw [(by kernel_rfl : obl (J54_a20_0 fuel) (.block 0 (.loop (bodyOf 0 Try.f54))) = [(.block 2 (.loop (bodyOf 2 Try.f54)), B54_a20_2 fuel)])] at hq
    simp only [List.mem_cons, List.not_mem_nil, or_false] at hq
    subst hq
    · exact B54_a20_2_blk fuel)) (B54_a20_0_ok fuel)
theorem fok54_a20 (fuel : Nat) : FnOK Try.prog 54 (evalFn tab (G54_a20 fuel) (J54_a20 fuel) kp54_a20 fuel Try.f54) :=
  fn_ok tab_ok (hG54_a20 fuel) mixed Try.func54 (c := (Try.f54.body).getD .skip) rfl (fun q hq => by
    rw [(by kernel_rfl : obl (J54_a20 fuel) ((Try.f54.body).getD .skip) = [(.block 0 (.loop (bodyOf 0 Try.f54)), B54_a20_0 fuel)])] at hq
    simp only [List.mem_cons, List.not_mem_nil, or_false] at hq
    subst hq
    · exact B54_a20_0_blk fuel)
noncomputable def spg54_a20 (F : YF54_a20) : Ev.Spec := fun args objs k => match args, objs with
 | [.c (.ptr q0 q1)], [.cells q2 cs0, .vec q3 (.int .i64) x4 false, .vec q4 (.int .u8) x5 false] => (match splitRun 2 ctn cs0 with | some ([.int .i64 x0, .own q5], [.int .u64 x1, .int .u64 x2, .own q6, .bool x3]) => bif Nat.beq q0 0 && Nat.beq q1 0 && Nat.beq q2 148 && Nat.beq q3 3 && Nat.beq q4 5 && Nat.beq q5 1 && Nat.beq q6 2 then F x0 x1 x2 x3 x4 x5 (fun r => match r with | (r0, r1, r2, r3, r4, r5, r6) => k (.c (.own 3), [.cells 148 (.int .i64 r0 :: .own 1 :: ctb (.int .u64 r1 :: .int .u64 r2 :: .own 2 :: .bool r3 :: [])), .vec 3 (.int .i64) r4 false, .vec 5 (.int .u8) r5 false, .vec 5 (.int .u8) r6 true])) else none | _ => none)
 | _, _ => none
noncomputable def spec54_a20 (fuel : Nat) : Ev.Spec := spg54_a20 (F_coder_Encoder_End_a20 fuel)
theorem ok54_a20 (fuel : Nat) : FnOK Try.prog 54 (spec54_a20 fuel) := by
  intro args objs kk r h
  unfold spec54_a20 spg54_a20 at h
  split at h
  · skip
    split at h
    rotate_left 1
    · cases h
    rename_i hsp
    have esp := splitRun_eq hsp
    subst esp
    obtain ⟨hb, h⟩ := cond_some' h
    simp only [Bool.and_eq_true, Nat.beq_eq, decide_eq_true_eq] at hb
    obtain ⟨⟨⟨⟨⟨⟨rfl, rfl⟩, rfl⟩, rfl⟩, rfl⟩, rfl⟩, rfl⟩ := hb
    exact fok54_a20 fuel _ _ kk r ((F54_a20_eqg fuel (F_coder_Encoder_none_a20 fuel) _ _ _ _ _ _ kk).trans h)
  · cases h
end Go.Proofs.Ytipdidpalcmlhaa

set_option linter.unusedVariables false
set_option linter.unusedSimpArgs false
set_option maxRecDepth 100000
set_option maxHeartbeats 2000000
namespace Go.Proofs.Ytipdidpalcmlhaa
open Go Ev
def kp50 (i : Nat) : Option (List Nat) := Ev.look i [(600000, [])]
noncomputable def Gg50 (f100 : YF100) (f101 : YF101) (f : Nat) : Option Ev.Spec := Ev.look f [(100, spg100 f100), (101, spg101 f101)]
noncomputable def G50 (fuel : Nat) : Nat → Option Ev.Spec := Gg50 (F_coder_Valid fuel) (F_coder_begin fuel)
noncomputable def J50 (fuel : Nat) (i : Nat) : Option Ev.Blk := Ev.look i []
noncomputable def Fg_coder_NewEncoder (fuel : Nat) (f100 : YF100) (f101 : YF101) (x0 : Int) (x1 : (List Int)) (k0 : (Int) → Option Ans) (k1 : (Int × Int × Int × Int × Bool × (List Int) × (List Int)) → Option Ans) : Option Ans :=
  (f100 (x0) (x1)
  (fun y2 =>
  bif !y2 then
  k0 ((10 : Int))
  else
  (f101 (x0) (x1)
  (fun (y7_0, y7_1, y7_2, y7_3) =>
  k1 ((0 : Int), y7_0, y7_1, y7_2, true, y7_3, [])))))
noncomputable def F_coder_NewEncoder (fuel : Nat) (x0 : Int) (x1 : (List Int)) (k0 : (Int) → Option Ans) (k1 : (Int × Int × Int × Int × Bool × (List Int) × (List Int)) → Option Ans) : Option Ans := Fg_coder_NewEncoder fuel (F_coder_Valid fuel) (F_coder_begin fuel) x0 x1 k0 k1
abbrev YF50 : Type := (Int) → ((List Int)) → ((Int) → Option Ans) → ((Int × Int × Int × Int × Bool × (List Int) × (List Int)) → Option Ans) → Option Ans
theorem F50_eqg (fuel : Nat) (f100 : YF100) (f101 : YF101) (x0 : Int) (x1 : (List Int)) (k : Ev.Cont) : evalFn tab (Gg50 f100 f101) (J50 fuel) kp50 fuel Try.f50 [.agg [.int .i64 x0, .sl (.int .i64) x1]] [] k = Fg_coder_NewEncoder fuel f100 f101 x0 x1 (fun r => match r with | r0 => k (.tup [(false, [.nilptr]), (false, [.int .i64 r0])], [])) (fun r => match r with | (r0, r1, r2, r3, r4, r5, r6) => k (.tup [(false, [.ptr 0 0]), (false, [.int .i64 r0])], [.cells 148 (.int .i64 r1 :: .own 1 :: ctb (.int .u64 r2 :: .int .u64 r3 :: .own 2 :: .bool r4 :: [])), .vec 3 (.int .i64) r5 true, .vec 5 (.int .u8) r6 true])) := by
  kernel_rfl
theorem hG50 (fuel : Nat) : GOK Try.prog (G50 fuel) :=
  gok_cons ⟨ok100 fuel, enters_of Try.func100 (by kernel_rfl) rfl⟩ <|
  gok_cons ⟨ok101 fuel, enters_of Try.func101 (by kernel_rfl) rfl⟩ <|
  gok_nil
theorem fok50 (fuel : Nat) : FnOK Try.prog 50 (evalFn tab (G50 fuel) (J50 fuel) kp50 fuel Try.f50) :=
  fn_ok tab_ok (hG50 fuel) mixed Try.func50 (c := (Try.f50.body).getD .skip) rfl (fun q hq => by
    rw [(by kernel_rfl : obl (J50 fuel) ((Try.f50.body).getD .skip) = [])] at hq
    cases hq)
noncomputable def spg50 (F : YF50) : Ev.Spec := fun args objs k => match args, objs with
 | [.agg [.int .i64 x0, .sl (.int .i64) x1]], [] => bif true then F x0 x1 (fun r => match r with | r0 => k (.tup [(false, [.nilptr]), (false, [.int .i64 r0])], [])) (fun r => match r with | (r0, r1, r2, r3, r4, r5, r6) => k (.tup [(false, [.ptr 0 0]), (false, [.int .i64 r0])], [.cells 148 (.int .i64 r1 :: .own 1 :: ctb (.int .u64 r2 :: .int .u64 r3 :: .own 2 :: .bool r4 :: [])), .vec 3 (.int .i64) r5 true, .vec 5 (.int .u8) r6 true])) else none
 | _, _ => none
noncomputable def spec50 (fuel : Nat) : Ev.Spec := spg50 (F_coder_NewEncoder fuel)
theorem ok50 (fuel : Nat) : FnOK Try.prog 50 (spec50 fuel) := by
  intro args objs kk r h
  unfold spec50 spg50 at h
  split at h
  · skip
    obtain ⟨hb, h⟩ := cond_some' h
    simp only [Bool.and_eq_true, Nat.beq_eq, decide_eq_true_eq] at hb
    clear hb
    exact fok50 fuel _ _ kk r ((F50_eqg fuel (F_coder_Valid fuel) (F_coder_begin fuel) _ _ kk).trans h)
  · cases h
end Go.Proofs.Ytipdidpalcmlhaa

set_option linter.unusedVariables false
set_option linter.unusedSimpArgs false
set_option maxRecDepth 100000
set_option maxHeartbeats 2000000
namespace Go.Proofs.Ytipdidpalcmlhaa
open Go Ev
def kp122 (i : Nat) : Option (List Nat) := Ev.look i []
noncomputable def Gg122 (f : Nat) : Option Ev.Spec := Ev.look f []
noncomputable def G122 (fuel : Nat) : Nat → Option Ev.Spec := Gg122
noncomputable def J122 (fuel : Nat) (i : Nat) : Option Ev.Blk := Ev.look i []
noncomputable def F_bytes_Equal (fuel : Nat) (x0 x1 : (List Int)) (k0 : (Bool) → Option Ans) : Option Ans :=
  k0 ((Go.strOfNums x0).toList == (Go.strOfNums x1).toList)
abbrev YF122 : Type := ((List Int)) → ((List Int)) → ((Bool) → Option Ans) → Option Ans
theorem F122_eq (fuel : Nat) (x0 x1 : (List Int)) (k : Ev.Cont) : evalFn tab (G122 fuel) (J122 fuel) kp122 fuel Try.f122 [.c (.sl (.int .u8) x0), .c (.sl (.int .u8) x1)] [] k = F_bytes_Equal fuel x0 x1 (fun r => match r with | r0 => k (.c (.bool r0), [])) := by
  kernel_rfl
theorem hG122 (fuel : Nat) : GOK Try.prog (G122 fuel) :=
  gok_nil
theorem fok122 (fuel : Nat) : FnOK Try.prog 122 (evalFn tab (G122 fuel) (J122 fuel) kp122 fuel Try.f122) :=
  fn_ok tab_ok (hG122 fuel) mixed Try.func122 (c := (Try.f122.body).getD .skip) rfl (fun q hq => by
    rw [(by kernel_rfl : obl (J122 fuel) ((Try.f122.body).getD .skip) = [])] at hq
    cases hq)
noncomputable def spg122 (F : YF122) : Ev.Spec := fun args objs k => match args, objs with
 | [.c (.sl (.int .u8) x0), .c (.sl (.int .u8) x1)], [] => bif true then F x0 x1 (fun r => match r with | r0 => k (.c (.bool r0), [])) else none
 | _, _ => none
noncomputable def spec122 (fuel : Nat) : Ev.Spec := spg122 (F_bytes_Equal fuel)
theorem ok122 (fuel : Nat) : FnOK Try.prog 122 (spec122 fuel) := by
  intro args objs kk r h
  unfold spec122 spg122 at h
  split at h
  · skip
    obtain ⟨hb, h⟩ := cond_some' h
    simp only [Bool.and_eq_true, Nat.beq_eq, decide_eq_true_eq] at hb
    clear hb
    exact fok122 fuel _ _ kk r ((F122_eq fuel _ _ kk).trans h)
  · cases h
end Go.Proofs.Ytipdidpalcmlhaa

set_option linter.unusedVariables false
set_option linter.unusedSimpArgs false
set_option maxRecDepth 100000
set_option maxHeartbeats 2000000
namespace Go.Proofs.Ytipdidpalcmlhaa
open Go Ev
def kp153_a20 (i : Nat) : Option (List Nat) := Ev.look i []
noncomputable def Gg153_a20 (f : Nat) : Option Ev.Spec := Ev.look f []
noncomputable def G153_a20 (fuel : Nat) : Nat → Option Ev.Spec := Gg153_a20
noncomputable def J153_a20 (fuel : Nat) (i : Nat) : Option Ev.Blk := Ev.look i []
noncomputable def F_coder_interval_lose_a20 (fuel : Nat) (x0 x1 x2 : Int) (x3 : Bool) (x4 x5 : (List Int)) (k0 : (Int × Int × Int × Int × Bool × (List Int) × (List Int)) → Option Ans) : Option Ans :=
  k0 (IntKind.u8.wrap (Ev.ishr IntKind.u64 x1 (24 : Int)), x0, Ev.iand IntKind.u64 (Ev.ishl IntKind.u64 x1 (8 : Int)) (4294967295 : Int), Ev.ior IntKind.u64 (Ev.iand IntKind.u64 (Ev.ishl IntKind.u64 x2 (8 : Int)) (4294967295 : Int)) (255 : Int), x3, x4, x5)
abbrev YF153_a20 : Type := (Int) → (Int) → (Int) → (Bool) → ((List Int)) → ((List Int)) → ((Int × Int × Int × Int × Bool × (List Int) × (List Int)) → Option Ans) → Option Ans
theorem F153_a20_eq (fuel : Nat) (x0 x1 x2 : Int) (x3 : Bool) (x4 x5 : (List Int)) (k : Ev.Cont) : evalFn tab (G153_a20 fuel) (J153_a20 fuel) kp153_a20 fuel Try.f153 [.c (.ptr 0 0)] [.cells 148 (.int .i64 x0 :: .own 1 :: ctb (.int .u64 x1 :: .int .u64 x2 :: .own 2 :: .bool x3 :: [])), .vec 3 (.int .i64) x4 false, .vec 5 (.int .u8) x5 false] k = F_coder_interval_lose_a20 fuel x0 x1 x2 x3 x4 x5 (fun r => match r with | (r0, r1, r2, r3, r4, r5, r6) => k (.c (.int .u8 r0), [.cells 148 (.int .i64 r1 :: .own 1 :: ctb (.int .u64 r2 :: .int .u64 r3 :: .own 2 :: .bool r4 :: [])), .vec 3 (.int .i64) r5 false, .vec 5 (.int .u8) r6 false])) := by
  kernel_rfl
theorem hG153_a20 (fuel : Nat) : GOK Try.prog (G153_a20 fuel) :=
  gok_nil
theorem fok153_a20 (fuel : Nat) : FnOK Try.prog 153 (evalFn tab (G153_a20 fuel) (J153_a20 fuel) kp153_a20 fuel Try.f153) :=
  fn_ok tab_ok (hG153_a20 fuel) mixed Try.func153 (c := (Try.f153.body).getD .skip) rfl (fun q hq => by
    rw [(by kernel_rfl : obl (J153_a20 fuel) ((Try.f153.body).getD .skip) = [])] at hq
    cases hq)
noncomputable def spg153_a20 (F : YF153_a20) : Ev.Spec := fun args objs k => match args, objs with
 | [.c (.ptr q0 q1)], [.cells q2 cs0, .vec q3 (.int .i64) x4 false, .vec q4 (.int .u8) x5 false] => (match splitRun 2 ctn cs0 with | some ([.int .i64 x0, .own q5], [.int .u64 x1, .int .u64 x2, .own q6, .bool x3]) => bif Nat.beq q0 0 && Nat.beq q1 0 && Nat.beq q2 148 && Nat.beq q3 3 && Nat.beq q4 5 && Nat.beq q5 1 && Nat.beq q6 2 then F x0 x1 x2 x3 x4 x5 (fun r => match r with | (r0, r1, r2, r3, r4, r5, r6) => k (.c (.int .u8 r0), [.cells 148 (.int .i64 r1 :: .own 1 :: ctb (.int .u64 r2 :: .int .u64 r3 :: .own 2 :: .bool r4 :: [])), .vec 3 (.int .i64) r5 false, .vec 5 (.int .u8) r6 false])) else none | _ => none)
 | _, _ => none
noncomputable def spec153_a20 (fuel : Nat) : Ev.Spec := spg153_a20 (F_coder_interval_lose_a20 fuel)
theorem ok153_a20 (fuel : Nat) : FnOK Try.prog 153 (spec153_a20 fuel) := by
  intro args objs kk r h
  unfold spec153_a20 spg153_a20 at h
  split at h
  · skip
    split at h
    rotate_left 1
    · cases h
    rename_i hsp
    have esp := splitRun_eq hsp
    subst esp
    obtain ⟨hb, h⟩ := cond_some' h
    simp only [Bool.and_eq_true, Nat.beq_eq, decide_eq_true_eq] at hb
    obtain ⟨⟨⟨⟨⟨⟨rfl, rfl⟩, rfl⟩, rfl⟩, rfl⟩, rfl⟩, rfl⟩ := hb
    exact fok153_a20 fuel _ _ kk r ((F153_a20_eq fuel _ _ _ _ _ _ kk).trans h)
  · cases h
end Go.Proofs.Ytipdidpalcmlhaa

set_option linter.unusedVariables false
set_option linter.unusedSimpArgs false
set_option maxRecDepth 100000
set_option maxHeartbeats 2000000
namespace Go.Proofs.Ytipdidpalcmlhaa
open Go Ev
def kp151_402 (i : Nat) : Option (List Nat) := Ev.look i [(200001, [0])]
noncomputable def Gg151_402 (f180_bb9 : YF180_bb9) (f : Nat) : Option Ev.Spec := Ev.look f [(180, spg180_bb9 f180_bb9)]
noncomputable def G151_402 (fuel : Nat) : Nat → Option Ev.Spec := Gg151_402 (F_coder_table_chance_bb9 fuel)
noncomputable def J151_402 (fuel : Nat) (i : Nat) : Option Ev.Blk := Ev.look i []
noncomputable def Fg_coder_interval_mid_402 (fuel : Nat) (f180_bb9 : YF180_bb9) (x0 x1 : Int) (x2 x3 : Int) (x4 : Bool) (x5 x6 : (List Int)) (k0 : (Int × Int × Int × Int × Bool × (List Int) × (List Int)) → Option Ans) : Option Ans :=
  bif decide ((0 : Int) ≤ x0 ∧ x0 < (↑x5.length : Int)) then
  (f180_bb9 (x1) (x5.getD x0.toNat (0 : Int))
  (fun y3 =>
  k0 (IntKind.u64.wrap (IntKind.u64.wrap (x2 + IntKind.u64.wrap (IntKind.u64.wrap ((IntKind.u64.wrap (x3 - x2)).tdiv (4096 : Int)) * IntKind.u64.wrap y3)) + IntKind.u64.wrap ((IntKind.u64.wrap ((IntKind.u64.wrap (x3 - x2)).tmod (4096 : Int) * IntKind.u64.wrap y3)).tdiv (4096 : Int))), x1, x2, x3, x4, x5, x6)))
  else none
noncomputable def F_coder_interval_mid_402 (fuel : Nat) (x0 x1 : Int) (x2 x3 : Int) (x4 : Bool) (x5 x6 : (List Int)) (k0 : (Int × Int × Int × Int × Bool × (List Int) × (List Int)) → Option Ans) : Option Ans := Fg_coder_interval_mid_402 fuel (F_coder_table_chance_bb9 fuel) x0 x1 x2 x3 x4 x5 x6 k0
abbrev YF151_402 : Type := (Int) → (Int) → (Int) → (Int) → (Bool) → ((List Int)) → ((List Int)) → ((Int × Int × Int × Int × Bool × (List Int) × (List Int)) → Option Ans) → Option Ans
theorem F151_402_eqg (fuel : Nat) (f180_bb9 : YF180_bb9) (x0 x1 : Int) (x2 x3 : Int) (x4 : Bool) (x5 x6 : (List Int)) (k : Ev.Cont) : evalFn tab (Gg151_402 f180_bb9) (J151_402 fuel) kp151_402 fuel Try.f151 [.c (.ptr 0 0), .c (.int .i64 x0)] [.cells 148 (.int .i64 x1 :: .own 1 :: ctb (.int .u64 x2 :: .int .u64 x3 :: .own 2 :: .bool x4 :: [])), .vec 3 (.int .i64) x5 false, .vec 5 (.int .u8) x6 false] k = Fg_coder_interval_mid_402 fuel f180_bb9 x0 x1 x2 x3 x4 x5 x6 (fun r => match r with | (r0, r1, r2, r3, r4, r5, r6) => k (.c (.int .u64 r0), [.cells 148 (.int .i64 r1 :: .own 1 :: ctb (.int .u64 r2 :: .int .u64 r3 :: .own 2 :: .bool r4 :: [])), .vec 3 (.int .i64) r5 false, .vec 5 (.int .u8) r6 false])) := by
  kernel_rfl
theorem hG151_402 (fuel : Nat) : GOK Try.prog (G151_402 fuel) :=
  gok_cons ⟨ok180_bb9 fuel, enters_of Try.func180 (by kernel_rfl) rfl⟩ <|
  gok_nil
theorem fok151_402 (fuel : Nat) : FnOK Try.prog 151 (evalFn tab (G151_402 fuel) (J151_402 fuel) kp151_402 fuel Try.f151) :=
  fn_ok tab_ok (hG151_402 fuel) mixed Try.func151 (c := (Try.f151.body).getD .skip) rfl (fun q hq => by
    rw [(by kernel_rfl : obl (J151_402 fuel) ((Try.f151.body).getD .skip) = [])] at hq
    cases hq)
noncomputable def spg151_402 (F : YF151_402) : Ev.Spec := fun args objs k => match args, objs with
 | [.c (.ptr q0 q1), .c (.int .i64 x0)], [.cells q2 cs0, .vec q3 (.int .i64) x5 false, .vec q4 (.int .u8) x6 false] => (match splitRun 2 ctn cs0 with | some ([.int .i64 x1, .own q5], [.int .u64 x2, .int .u64 x3, .own q6, .bool x4]) => bif Nat.beq q0 0 && Nat.beq q1 0 && Nat.beq q2 148 && Nat.beq q3 3 && Nat.beq q4 5 && Nat.beq q5 1 && Nat.beq q6 2 then F x0 x1 x2 x3 x4 x5 x6 (fun r => match r with | (r0, r1, r2, r3, r4, r5, r6) => k (.c (.int .u64 r0), [.cells 148 (.int .i64 r1 :: .own 1 :: ctb (.int .u64 r2 :: .int .u64 r3 :: .own 2 :: .bool r4 :: [])), .vec 3 (.int .i64) r5 false, .vec 5 (.int .u8) r6 false])) else none | _ => none)
 | _, _ => none
noncomputable def spec151_402 (fuel : Nat) : Ev.Spec := spg151_402 (F_coder_interval_mid_402 fuel)
theorem ok151_402 (fuel : Nat) : FnOK Try.prog 151 (spec151_402 fuel) := by
  intro args objs kk r h
  unfold spec151_402 spg151_402 at h
  split at h
  · skip
    split at h
    rotate_left 1
    · cases h
    rename_i hsp
    have esp := splitRun_eq hsp
    subst esp
    obtain ⟨hb, h⟩ := cond_some' h
    simp only [Bool.and_eq_true, Nat.beq_eq, decide_eq_true_eq] at hb
    obtain ⟨⟨⟨⟨⟨⟨rfl, rfl⟩, rfl⟩, rfl⟩, rfl⟩, rfl⟩, rfl⟩ := hb
    exact fok151_402 fuel _ _ kk r ((F151_402_eqg fuel (F_coder_table_chance_bb9 fuel) _ _ _ _ _ _ _ kk).trans h)
  · cases h
end Go.Proofs.Ytipdidpalcmlhaa

set_option linter.unusedVariables false
set_option linter.unusedSimpArgs false
set_option maxRecDepth 100000
set_option maxHeartbeats 2000000
namespace Go.Proofs.Ytipdidpalcmlhaa
open Go Ev
def kp152_a20 (i : Nat) : Option (List Nat) := Ev.look i [(200001, [0])]
noncomputable def Gg152_a20 (f : Nat) : Option Ev.Spec := Ev.look f []
noncomputable def G152_a20 (fuel : Nat) : Nat → Option Ev.Spec := Gg152_a20
noncomputable def J152_a20 (fuel : Nat) (i : Nat) : Option Ev.Blk := Ev.look i []
noncomputable def F_coder_interval_same_a20 (fuel : Nat) (x0 x1 x2 : Int) (x3 : Bool) (x4 x5 : (List Int)) (k0 : (Bool × Int × Int × Int × Bool × (List Int) × (List Int)) → Option Ans) : Option Ans :=
  k0 (Ev.ishr IntKind.u64 x1 (24 : Int) == Ev.ishr IntKind.u64 x2 (24 : Int), x0, x1, x2, x3, x4, x5)
abbrev YF152_a20 : Type := (Int) → (Int) → (Int) → (Bool) → ((List Int)) → ((List Int)) → ((Bool × Int × Int × Int × Bool × (List Int) × (List Int)) → Option Ans) → Option Ans
theorem F152_a20_eq (fuel : Nat) (x0 x1 x2 : Int) (x3 : Bool) (x4 x5 : (List Int)) (k : Ev.Cont) : evalFn tab (G152_a20 fuel) (J152_a20 fuel) kp152_a20 fuel Try.f152 [.c (.ptr 0 0)] [.cells 148 (.int .i64 x0 :: .own 1 :: ctb (.int .u64 x1 :: .int .u64 x2 :: .own 2 :: .bool x3 :: [])), .vec 3 (.int .i64) x4 false, .vec 5 (.int .u8) x5 false] k = F_coder_interval_same_a20 fuel x0 x1 x2 x3 x4 x5 (fun r => match r with | (r0, r1, r2, r3, r4, r5, r6) => k (.c (.bool r0), [.cells 148 (.int .i64 r1 :: .own 1 :: ctb (.int .u64 r2 :: .int .u64 r3 :: .own 2 :: .bool r4 :: [])), .vec 3 (.int .i64) r5 false, .vec 5 (.int .u8) r6 false])) := by
  kernel_rfl
theorem hG152_a20 (fuel : Nat) : GOK Try.prog (G152_a20 fuel) :=
  gok_nil
theorem fok152_a20 (fuel : Nat) : FnOK Try.prog 152 (evalFn tab (G152_a20 fuel) (J152_a20 fuel) kp152_a20 fuel Try.f152) :=
  fn_ok tab_ok (hG152_a20 fuel) mixed Try.func152 (c := (Try.f152.body).getD .skip) rfl (fun q hq => by
    rw [(by kernel_rfl : obl (J152_a20 fuel) ((Try.f152.body).getD .skip) = [])] at hq
    cases hq)
noncomputable def spg152_a20 (F : YF152_a20) : Ev.Spec := fun args objs k => match args, objs with
 | [.c (.ptr q0 q1)], [.cells q2 cs0, .vec q3 (.int .i64) x4 false, .vec q4 (.int .u8) x5 false] => (match splitRun 2 ctn cs0 with | some ([.int .i64 x0, .own q5], [.int .u64 x1, .int .u64 x2, .own q6, .bool x3]) => bif Nat.beq q0 0 && Nat.beq q1 0 && Nat.beq q2 148 && Nat.beq q3 3 && Nat.beq q4 5 && Nat.beq q5 1 && Nat.beq q6 2 then F x0 x1 x2 x3 x4 x5 (fun r => match r with | (r0, r1, r2, r3, r4, r5, r6) => k (.c (.bool r0), [.cells 148 (.int .i64 r1 :: .own 1 :: ctb (.int .u64 r2 :: .int .u64 r3 :: .own 2 :: .bool r4 :: [])), .vec 3 (.int .i64) r5 false, .vec 5 (.int .u8) r6 false])) else none | _ => none)
 | _, _ => none
noncomputable def spec152_a20 (fuel : Nat) : Ev.Spec := spg152_a20 (F_coder_interval_same_a20 fuel)
theorem ok152_a20 (fuel : Nat) : FnOK Try.prog 152 (spec152_a20 fuel) := by
  intro args objs kk r h
  unfold spec152_a20 spg152_a20 at h
  split at h
  · skip
    split at h
    rotate_left 1
    · cases h
    rename_i hsp
    have esp := splitRun_eq hsp
    subst esp
    obtain ⟨hb, h⟩ := cond_some' h
    simp only [Bool.and_eq_true, Nat.beq_eq, decide_eq_true_eq] at hb
    obtain ⟨⟨⟨⟨⟨⟨rfl, rfl⟩, rfl⟩, rfl⟩, rfl⟩, rfl⟩, rfl⟩ := hb
    exact fok152_a20 fuel _ _ kk r ((F152_a20_eq fuel _ _ _ _ _ _ kk).trans h)
  · cases h
end Go.Proofs.Ytipdidpalcmlhaa

set_option linter.unusedVariables false
set_option linter.unusedSimpArgs false
set_option maxRecDepth 100000
set_option maxHeartbeats 2000000
namespace Go.Proofs.Ytipdidpalcmlhaa
open Go Ev
def kp150_546 (i : Nat) : Option (List Nat) := Ev.look i [(200003, [0])]
noncomputable def Gg150_546 (f179 : YF179) (f : Nat) : Option Ev.Spec := Ev.look f [(179, spg179 f179)]
noncomputable def G150_546 (fuel : Nat) : Nat → Option Ev.Spec := Gg150_546 (F_coder_next fuel)
noncomputable def J150_546 (fuel : Nat) (i : Nat) : Option Ev.Blk := Ev.look i []
noncomputable def Fg_coder_interval_take_546 (fuel : Nat) (f179 : YF179) (x0 x1 : Int) (x2 x3 : Int) (x4 x5 : Int) (x6 : Bool) (x7 x8 : (List Int)) (k0 : (Int × Int × Int × Bool × (List Int) × (List Int)) → Option Ans) : Option Ans :=
  bif x1 == (1 : Int) then
  bif decide ((0 : Int) ≤ x0 ∧ x0 < (↑x7.length : Int)) then
  (f179 (x3) (x7.getD x0.toNat (0 : Int)) (x1)
  (fun y4 =>
  bif decide ((0 : Int) ≤ x0 ∧ x0 < (↑x7.length : Int)) then
  k0 (x3, x4, x2, x6, x7.set x0.toNat y4, x8)
  else none))
  else none
  else
  bif decide ((0 : Int) ≤ x0 ∧ x0 < (↑x7.length : Int)) then
  (f179 (x3) (x7.getD x0.toNat (0 : Int)) (x1)
  (fun y4 =>
  bif decide ((0 : Int) ≤ x0 ∧ x0 < (↑x7.length : Int)) then
  k0 (x3, IntKind.u64.wrap (x2 + (1 : Int)), x5, x6, x7.set x0.toNat y4, x8)
  else none))
  else none
noncomputable def F_coder_interval_take_546 (fuel : Nat) (x0 x1 : Int) (x2 x3 : Int) (x4 x5 : Int) (x6 : Bool) (x7 x8 : (List Int)) (k0 : (Int × Int × Int × Bool × (List Int) × (List Int)) → Option Ans) : Option Ans := Fg_coder_interval_take_546 fuel (F_coder_next fuel) x0 x1 x2 x3 x4 x5 x6 x7 x8 k0
abbrev YF150_546 : Type := (Int) → (Int) → (Int) → (Int) → (Int) → (Int) → (Bool) → ((List Int)) → ((List Int)) → ((Int × Int × Int × Bool × (List Int) × (List Int)) → Option Ans) → Option Ans
theorem F150_546_eqg (fuel : Nat) (f179 : YF179) (x0 x1 : Int) (x2 x3 : Int) (x4 x5 : Int) (x6 : Bool) (x7 x8 : (List Int)) (k : Ev.Cont) : evalFn tab (Gg150_546 f179) (J150_546 fuel) kp150_546 fuel Try.f150 [.c (.ptr 0 0), .c (.int .i64 x0), .c (.int .i64 x1), .c (.int .u64 x2)] [.cells 148 (.int .i64 x3 :: .own 1 :: ctb (.int .u64 x4 :: .int .u64 x5 :: .own 2 :: .bool x6 :: [])), .vec 3 (.int .i64) x7 false, .vec 5 (.int .u8) x8 false] k = Fg_coder_interval_take_546 fuel f179 x0 x1 x2 x3 x4 x5 x6 x7 x8 (fun r => match r with | (r0, r1, r2, r3, r4, r5) => k (.tup [], [.cells 148 (.int .i64 r0 :: .own 1 :: ctb (.int .u64 r1 :: .int .u64 r2 :: .own 2 :: .bool r3 :: [])), .vec 3 (.int .i64) r4 false, .vec 5 (.int .u8) r5 false])) := by
  kernel_rfl
theorem hG150_546 (fuel : Nat) : GOK Try.prog (G150_546 fuel) :=
  gok_cons ⟨ok179 fuel, enters_of Try.func179 (by kernel_rfl) rfl⟩ <|
  gok_nil
theorem fok150_546 (fuel : Nat) : FnOK Try.prog 150 (evalFn tab (G150_546 fuel) (J150_546 fuel) kp150_546 fuel Try.f150) :=
  fn_ok tab_ok (hG150_546 fuel) mixed Try.func150 (c := (Try.f150.body).getD .skip) rfl (fun q hq => by
    rw [(by kernel_rfl : obl (J150_546 fuel) ((Try.f150.body).getD .skip) = [])] at hq
    cases hq)
noncomputable def spg150_546 (F : YF150_546) : Ev.Spec := fun args objs k => match args, objs with
 | [.c (.ptr q0 q1), .c (.int .i64 x0), .c (.int .i64 x1), .c (.int .u64 x2)], [.cells q2 cs0, .vec q3 (.int .i64) x7 false, .vec q4 (.int .u8) x8 false] => (match splitRun 2 ctn cs0 with | some ([.int .i64 x3, .own q5], [.int .u64 x4, .int .u64 x5, .own q6, .bool x6]) => bif Nat.beq q0 0 && Nat.beq q1 0 && Nat.beq q2 148 && Nat.beq q3 3 && Nat.beq q4 5 && Nat.beq q5 1 && Nat.beq q6 2 then F x0 x1 x2 x3 x4 x5 x6 x7 x8 (fun r => match r with | (r0, r1, r2, r3, r4, r5) => k (.tup [], [.cells 148 (.int .i64 r0 :: .own 1 :: ctb (.int .u64 r1 :: .int .u64 r2 :: .own 2 :: .bool r3 :: [])), .vec 3 (.int .i64) r4 false, .vec 5 (.int .u8) r5 false])) else none | _ => none)
 | _, _ => none
noncomputable def spec150_546 (fuel : Nat) : Ev.Spec := spg150_546 (F_coder_interval_take_546 fuel)
theorem ok150_546 (fuel : Nat) : FnOK Try.prog 150 (spec150_546 fuel) := by
  intro args objs kk r h
  unfold spec150_546 spg150_546 at h
  split at h
  · skip
    split at h
    rotate_left 1
    · cases h
    rename_i hsp
    have esp := splitRun_eq hsp
    subst esp
    obtain ⟨hb, h⟩ := cond_some' h
    simp only [Bool.and_eq_true, Nat.beq_eq, decide_eq_true_eq] at hb
    obtain ⟨⟨⟨⟨⟨⟨rfl, rfl⟩, rfl⟩, rfl⟩, rfl⟩, rfl⟩, rfl⟩ := hb
    exact fok150_546 fuel _ _ kk r ((F150_546_eqg fuel (F_coder_next fuel) _ _ _ _ _ _ _ _ _ kk).trans h)
  · cases h
end Go.Proofs.Ytipdidpalcmlhaa

set_option linter.unusedVariables false
set_option linter.unusedSimpArgs false
set_option maxRecDepth 100000
set_option maxHeartbeats 2000000
namespace Go.Proofs.Ytipdidpalcmlhaa
open Go Ev
def kp103_cf0 (i : Nat) : Option (List Nat) := Ev.look i [(6, [0, 1000002]), (100001, []), (400001, [6]), (600000, [])]
noncomputable def Gg103_cf0 (f111_a20 : YF111_a20) (f150_546 : YF150_546) (f151_402 : YF151_402) (f152_a20 : YF152_a20) (f153_a20 : YF153_a20) (f : Nat) : Option Ev.Spec := Ev.look f [(111, spg111_a20 f111_a20), (150, spg150_546 f150_546), (151, spg151_402 f151_402), (152, spg152_a20 f152_a20), (153, spg153_a20 f153_a20)]
noncomputable def G103_cf0 (fuel : Nat) : Nat → Option Ev.Spec := Gg103_cf0 (F_coder_Encoder_none_a20 fuel) (F_coder_interval_take_546 fuel) (F_coder_interval_mid_402 fuel) (F_coder_interval_same_a20 fuel) (F_coder_interval_lose_a20 fuel)
noncomputable def Sg_coder_Encoder_Put_cf0_1 (fuel : Nat) (f111_a20 : YF111_a20) (f150_546 : YF150_546) (f151_402 : YF151_402) (f152_a20 : YF152_a20) (f153_a20 : YF153_a20) (x0 x1 x2 : Int) (x3 : Bool) (x4 x5 : (List Int)) (c : (Int × Int × Int × Bool × (List Int) × (List Int)) → Option Ans) (B : (Int × Int × Int × Bool × (List Int) × (List Int) → Option Ans)) : Option Ans := match B with
 | b =>
  (f152_a20 (x0) (x1) (x2) (x3) (x4) (x5)
  (fun (y2_0, y2_1, y2_2, y2_3, y2_4, y2_5, y2_6) =>
  bif y2_0 then
  both ((f153_a20 (y2_1) (y2_2) (y2_3) (y2_4) (y2_5) (y2_6)
  (fun (y9_0, y9_1, y9_2, y9_3, y9_4, y9_5, y9_6) =>
  bif decide ((y9_6.length + [y9_0].length) * (1 : Nat) ≤ (140737488355328 : Nat) ∧ y9_6.length + [y9_0].length ≤ (140737488355328 : Nat)) then
  c (y9_1, y9_2, y9_3, y9_4, y9_5, y9_6 ++ [y9_0])
  else none)))
  ((f153_a20 (y2_1) (y2_2) (y2_3) (y2_4) (y2_5) (y2_6)
  (fun (y9_0, y9_1, y9_2, y9_3, y9_4, y9_5, y9_6) =>
  both (bif decide ((y9_6.length + [y9_0].length) * (1 : Nat) ≤ (140737488355328 : Nat) ∧ y9_6.length + [y9_0].length ≤ (140737488355328 : Nat)) then
  c (y9_1, y9_2, y9_3, y9_4, y9_5, y9_6 ++ [y9_0])
  else none)
  (bif decide ((y9_6.length + [y9_0].length) * (1 : Nat) ≤ (140737488355328 : Nat) ∧ y9_6.length + [y9_0].length ≤ (140737488355328 : Nat)) then
  c (y9_1, y9_2, y9_3, y9_4, y9_5, y9_6 ++ [y9_0])
  else none))))
  else
  b (y2_1, y2_2, y2_3, y2_4, y2_5, y2_6)))
noncomputable def S_coder_Encoder_Put_cf0_1 (fuel : Nat) (v : Int × Int × Int × Bool × (List Int) × (List Int)) (c : (Int × Int × Int × Bool × (List Int) × (List Int)) → Option Ans) (B : (Int × Int × Int × Bool × (List Int) × (List Int) → Option Ans)) : Option Ans := match v with
 | (x0, x1, x2, x3, x4, x5) => Sg_coder_Encoder_Put_cf0_1 fuel (F_coder_Encoder_none_a20 fuel) (F_coder_interval_take_546 fuel) (F_coder_interval_mid_402 fuel) (F_coder_interval_same_a20 fuel) (F_coder_interval_lose_a20 fuel) x0 x1 x2 x3 x4 x5 c B
noncomputable def L_coder_Encoder_Put_cf0_1 (fuel : Nat) (v : Int × Int × Int × Bool × (List Int) × (List Int)) (b : (Int × Int × Int × Bool × (List Int) × (List Int) → Option Ans)) : Option Ans := iter (S_coder_Encoder_Put_cf0_1 fuel) fuel v b
noncomputable def J103_cf0_1 (fuel : Nat) (i : Nat) : Option Ev.Blk := Ev.look i []
noncomputable def T103_cf0_1 (v : Int × Int × Int × Bool × (List Int) × (List Int)) : Ev.St := match v with | (x0, x1, x2, x3, x4, x5) => ⟨[(0, .c (.ptr 0 0))], [(0, .cells 148 (.int .i64 x0 :: .own 1 :: ctb (.int .u64 x1 :: .int .u64 x2 :: .own 2 :: .bool x3 :: []))), (1, .vec 3 (.int .i64) x4 false), (2, .vec 5 (.int .u8) x5 true)], 3, 3⟩
noncomputable def E103_cf0_1 (K : Ev.Ex → Ev.St → Option Ans) : (Int × Int × Int × Bool × (List Int) × (List Int) → Option Ans) := (fun v => match v with | (x0, x1, x2, x3, x4, x5) => K .normal ⟨[], [(0, .cells 148 (.int .i64 x0 :: .own 1 :: ctb (.int .u64 x1 :: .int .u64 x2 :: .own 2 :: .bool x3 :: []))), (1, .vec 3 (.int .i64) x4 false), (2, .vec 5 (.int .u8) x5 true)], 3, 3⟩)
theorem S103_cf0_1_okg (fuel : Nat) (f111_a20 : YF111_a20) (f150_546 : YF150_546) (f151_402 : YF151_402) (f152_a20 : YF152_a20) (f153_a20 : YF153_a20) (R : Ev.St → Option Ans) (K : Ev.Ex → Ev.St → Option Ans) (x0 x1 x2 : Int) (x3 : Bool) (x4 x5 : (List Int)) : evalCode tab (Gg103_cf0 f111_a20 f150_546 f151_402 f152_a20 f153_a20) (J103_cf0_1 fuel) kp103_cf0 fuel (bodyOf 1 Try.f103) (T103_cf0_1 (x0, x1, x2, x3, x4, x5)) (lc kp103_cf0 6 1 R K) = Sg_coder_Encoder_Put_cf0_1 fuel f111_a20 f150_546 f151_402 f152_a20 f153_a20 x0 x1 x2 x3 x4 x5 (fun v => R (T103_cf0_1 v)) (E103_cf0_1 K) := by
  kernel_rfl
noncomputable def B103_cf0_1 (fuel : Nat) : Ev.Blk := fun st K => match canonO (kp103_cf0 6) st with
 | some s => (match s with
 | ⟨[(q0, .c (.ptr q1 q2))], [(q3, .cells q4 cs0), (q5, .vec q6 (.int .i64) x4 false), (q7, .vec q8 (.int .u8) x5 true)], q9, q10⟩ => (match splitRun 2 ctn cs0 with | some ([.int .i64 x0, .own q11], [.int .u64 x1, .int .u64 x2, .own q12, .bool x3]) => bif Nat.beq q0 0 && Nat.beq q1 0 && Nat.beq q2 0 && Nat.beq q3 0 && Nat.beq q4 148 && Nat.beq q5 1 && Nat.beq q6 3 && Nat.beq q7 2 && Nat.beq q8 5 && Nat.beq q9 3 && Nat.beq q10 3 && Nat.beq q11 1 && Nat.beq q12 2 then iter (S_coder_Encoder_Put_cf0_1 fuel) fuel (x0, x1, x2, x3, x4, x5) (E103_cf0_1 K) else none | _ => none)
 | _ => none)
 | none => none
theorem B103_cf0_1_ok (fuel : Nat) (st : Ev.St) (K : Ev.Ex → Ev.St → Option Ans) (r : Ans) (h : B103_cf0_1 fuel st K = some r) : evalCode tab (G103_cf0 fuel) (J103_cf0_1 fuel) kp103_cf0 fuel (.block 1 (.loop (bodyOf 1 Try.f103))) st K = some r := by
  unfold B103_cf0_1 at h
  split at h
  · rename_i s hs
    split at h
    · skip
      split at h
      rotate_left 1
      · cases h
      rename_i hsp
      have esp := splitRun_eq hsp
      subst esp
      obtain ⟨hb, h⟩ := cond_some' h
      simp only [Bool.and_eq_true, Nat.beq_eq, decide_eq_true_eq] at hb
      obtain ⟨⟨⟨⟨⟨⟨⟨⟨⟨⟨⟨⟨rfl, rfl⟩, rfl⟩, rfl⟩, rfl⟩, rfl⟩, rfl⟩, rfl⟩, rfl⟩, rfl⟩, rfl⟩, rfl⟩, rfl⟩ := hb
      exact blk_loop (S := T103_cf0_1) (ks := E103_cf0_1) (step := S_coder_Encoder_Put_cf0_1 fuel) (v := (_, _, _, _, _, _)) (by kernel_rfl) (by kernel_rfl) (fun R K v => by obtain ⟨x0, x1, x2, x3, x4, x5⟩ := v; exact S103_cf0_1_okg fuel (F_coder_Encoder_none_a20 fuel) (F_coder_interval_take_546 fuel) (F_coder_interval_mid_402 fuel) (F_coder_interval_same_a20 fuel) (F_coder_interval_lose_a20 fuel) R K x0 x1 x2 x3 x4 x5) hs h
    · cases h
  · cases h
noncomputable def J103_cf0 (fuel : Nat) (i : Nat) : Option Ev.Blk := Ev.look i [(100001, B103_cf0_1 fuel)]
noncomputable def Fg_coder_Encoder_Put_cf0 (fuel : Nat) (f111_a20 : YF111_a20) (f150_546 : YF150_546) (f151_402 : YF151_402) (f152_a20 : YF152_a20) (f153_a20 : YF153_a20) (x0 x1 : Int) (x2 x3 x4 : Int) (x5 : Bool) (x6 x7 : (List Int)) (k0 : (Int × Int × Int × Int × Bool × (List Int) × (List Int)) → Option Ans) (k1 : (Int × Int × Int × Int × Bool × (List Int) × (List Int)) → Option Ans) : Option Ans :=
  (f111_a20 (x2) (x3) (x4) (x5) (x6) (x7)
  (fun (y2_0, y2_1, y2_2, y2_3, y2_4, y2_5, y2_6) =>
  bif y2_0 then
  k0 ((7 : Int), y2_1, y2_2, y2_3, y2_4, y2_5, y2_6)
  else
  bif decide (x0 < (0 : Int)) then
  k0 ((2 : Int), y2_1, y2_2, y2_3, y2_4, y2_5, y2_6)
  else
  bif decide (x0 ≥ (↑y2_5.length : Int)) then
  k0 ((2 : Int), y2_1, y2_2, y2_3, y2_4, y2_5, y2_6)
  else
  bif x1 != (0 : Int) then
  bif x1 != (1 : Int) then
  k0 ((2 : Int), y2_1, y2_2, y2_3, y2_4, y2_5, y2_6)
  else
  (f151_402 (x0) (y2_1) (y2_2) (y2_3) (y2_4) (y2_5) (y2_6)
  (fun (y11_0, y11_1, y11_2, y11_3, y11_4, y11_5, y11_6) =>
  (f150_546 (x0) (x1) (y11_0) (y11_1) (y11_2) (y11_3) (y11_4) (y11_5) (y11_6)
  (fun (y15_0, y15_1, y15_2, y15_3, y15_4, y15_5) =>
  (L_coder_Encoder_Put_cf0_1 fuel (y15_0, y15_1, y15_2, y15_3, y15_4, y15_5)
  (fun (b1_0, b1_1, b1_2, b1_3, b1_4, b1_5) =>
  k1 ((0 : Int), b1_0, b1_1, b1_2, b1_3, b1_4, b1_5)))))))
  else
  (f151_402 (x0) (y2_1) (y2_2) (y2_3) (y2_4) (y2_5) (y2_6)
  (fun (y10_0, y10_1, y10_2, y10_3, y10_4, y10_5, y10_6) =>
  (f150_546 (x0) (x1) (y10_0) (y10_1) (y10_2) (y10_3) (y10_4) (y10_5) (y10_6)
  (fun (y14_0, y14_1, y14_2, y14_3, y14_4, y14_5) =>
  (L_coder_Encoder_Put_cf0_1 fuel (y14_0, y14_1, y14_2, y14_3, y14_4, y14_5)
  (fun (b1_0, b1_1, b1_2, b1_3, b1_4, b1_5) =>
  k1 ((0 : Int), b1_0, b1_1, b1_2, b1_3, b1_4, b1_5)))))))))
noncomputable def F_coder_Encoder_Put_cf0 (fuel : Nat) (x0 x1 : Int) (x2 x3 x4 : Int) (x5 : Bool) (x6 x7 : (List Int)) (k0 : (Int × Int × Int × Int × Bool × (List Int) × (List Int)) → Option Ans) (k1 : (Int × Int × Int × Int × Bool × (List Int) × (List Int)) → Option Ans) : Option Ans := Fg_coder_Encoder_Put_cf0 fuel (F_coder_Encoder_none_a20 fuel) (F_coder_interval_take_546 fuel) (F_coder_interval_mid_402 fuel) (F_coder_interval_same_a20 fuel) (F_coder_interval_lose_a20 fuel) x0 x1 x2 x3 x4 x5 x6 x7 k0 k1
abbrev YF103_cf0 : Type := (Int) → (Int) → (Int) → (Int) → (Int) → (Bool) → ((List Int)) → ((List Int)) → ((Int × Int × Int × Int × Bool × (List Int) × (List Int)) → Option Ans) → ((Int × Int × Int × Int × Bool × (List Int) × (List Int)) → Option Ans) → Option Ans
theorem F103_cf0_eqg (fuel : Nat) (f111_a20 : YF111_a20) (f150_546 : YF150_546) (f151_402 : YF151_402) (f152_a20 : YF152_a20) (f153_a20 : YF153_a20) (x0 x1 : Int) (x2 x3 x4 : Int) (x5 : Bool) (x6 x7 : (List Int)) (k : Ev.Cont) : evalFn tab (Gg103_cf0 f111_a20 f150_546 f151_402 f152_a20 f153_a20) (J103_cf0 fuel) kp103_cf0 fuel Try.f103 [.c (.ptr 0 0), .c (.int .i64 x0), .c (.int .i64 x1)] [.cells 148 (.int .i64 x2 :: .own 1 :: ctb (.int .u64 x3 :: .int .u64 x4 :: .own 2 :: .bool x5 :: [])), .vec 3 (.int .i64) x6 false, .vec 5 (.int .u8) x7 false] k = Fg_coder_Encoder_Put_cf0 fuel f111_a20 f150_546 f151_402 f152_a20 f153_a20 x0 x1 x2 x3 x4 x5 x6 x7 (fun r => match r with | (r0, r1, r2, r3, r4, r5, r6) => k (.c (.int .i64 r0), [.cells 148 (.int .i64 r1 :: .own 1 :: ctb (.int .u64 r2 :: .int .u64 r3 :: .own 2 :: .bool r4 :: [])), .vec 3 (.int .i64) r5 false, .vec 5 (.int .u8) r6 false])) (fun r => match r with | (r0, r1, r2, r3, r4, r5, r6) => k (.c (.int .i64 r0), [.cells 148 (.int .i64 r1 :: .own 1 :: ctb (.int .u64 r2 :: .int .u64 r3 :: .own 2 :: .bool r4 :: [])), .vec 3 (.int .i64) r5 false, .vec 5 (.int .u8) r6 true])) := by
  kernel_rfl
theorem hG103_cf0 (fuel : Nat) : GOK Try.prog (G103_cf0 fuel) :=
  gok_cons ⟨ok111_a20 fuel, enters_of Try.func111 (by kernel_rfl) rfl⟩ <|
  gok_cons ⟨ok150_546 fuel, enters_of Try.func150 (by kernel_rfl) rfl⟩ <|
  gok_cons ⟨ok151_402 fuel, enters_of Try.func151 (by kernel_rfl) rfl⟩ <|
  gok_cons ⟨ok152_a20 fuel, enters_of Try.func152 (by kernel_rfl) rfl⟩ <|
  gok_cons ⟨ok153_a20 fuel, enters_of Try.func153 (by kernel_rfl) rfl⟩ <|
  gok_nil
theorem B103_cf0_1_blk (fuel : Nat) : BlkOK Try.prog Try.f103.ntmps (.block 1 (.loop (bodyOf 1 Try.f103))) (B103_cf0_1 fuel) :=
  blk_of (blk_of_code tab_ok (hG103_cf0 fuel) mixed (J := J103_cf0_1 fuel) (kp := kp103_cf0) (fuel := fuel) (by kernel_rfl) (fun q hq => by
    rw [(by kernel_rfl : obl (J103_cf0_1 fuel) (.block 1 (.loop (bodyOf 1 Try.f103))) = [])] at hq
    cases hq)) (B103_cf0_1_ok fuel)
theorem fok103_cf0 (fuel : Nat) : FnOK Try.prog 103 (evalFn tab (G103_cf0 fuel) (J103_cf0 fuel) kp103_cf0 fuel Try.f103) :=
  fn_ok tab_ok (hG103_cf0 fuel) mixed Try.func103 (c := (Try.f103.body).getD .skip) rfl (fun q hq => by
    rw [(by kernel_rfl : obl (J103_cf0 fuel) ((Try.f103.body).getD .skip) = [(.block 1 (.loop (bodyOf 1 Try.f103)), B103_cf0_1 fuel)])] at hq
    simp only [List.mem_cons, List.not_mem_nil, or_false] at hq
    subst hq
    · exact B103_cf0_1_blk fuel)
noncomputable def spg103_cf0 (F : YF103_cf0) : Ev.Spec := fun args objs k => match args, objs with
 | [.c (.ptr q0 q1), .c (.int .i64 x0), .c (.int .i64 x1)], [.cells q2 cs0, .vec q3 (.int .i64) x6 false, .vec q4 (.int .u8) x7 false] => (match splitRun 2 ctn cs0 with | some ([.int .i64 x2, .own q5], [.int .u64 x3, .int .u64 x4, .own q6, .bool x5]) => bif Nat.beq q0 0 && Nat.beq q1 0 && Nat.beq q2 148 && Nat.beq q3 3 && Nat.beq q4 5 && Nat.beq q5 1 && Nat.beq q6 2 then F x0 x1 x2 x3 x4 x5 x6 x7 (fun r => match r with | (r0, r1, r2, r3, r4, r5, r6) => k (.c (.int .i64 r0), [.cells 148 (.int .i64 r1 :: .own 1 :: ctb (.int .u64 r2 :: .int .u64 r3 :: .own 2 :: .bool r4 :: [])), .vec 3 (.int .i64) r5 false, .vec 5 (.int .u8) r6 false])) (fun r => match r with | (r0, r1, r2, r3, r4, r5, r6) => k (.c (.int .i64 r0), [.cells 148 (.int .i64 r1 :: .own 1 :: ctb (.int .u64 r2 :: .int .u64 r3 :: .own 2 :: .bool r4 :: [])), .vec 3 (.int .i64) r5 false, .vec 5 (.int .u8) r6 true])) else none | _ => none)
 | _, _ => none
noncomputable def spec103_cf0 (fuel : Nat) : Ev.Spec := spg103_cf0 (F_coder_Encoder_Put_cf0 fuel)
theorem ok103_cf0 (fuel : Nat) : FnOK Try.prog 103 (spec103_cf0 fuel) := by
  intro args objs kk r h
  unfold spec103_cf0 spg103_cf0 at h
  split at h
  · skip
    split at h
    rotate_left 1
    · cases h
    rename_i hsp
    have esp := splitRun_eq hsp
    subst esp
    obtain ⟨hb, h⟩ := cond_some' h
    simp only [Bool.and_eq_true, Nat.beq_eq, decide_eq_true_eq] at hb
    obtain ⟨⟨⟨⟨⟨⟨rfl, rfl⟩, rfl⟩, rfl⟩, rfl⟩, rfl⟩, rfl⟩ := hb
    exact fok103_cf0 fuel _ _ kk r ((F103_cf0_eqg fuel (F_coder_Encoder_none_a20 fuel) (F_coder_interval_take_546 fuel) (F_coder_interval_mid_402 fuel) (F_coder_interval_same_a20 fuel) (F_coder_interval_lose_a20 fuel) _ _ _ _ _ _ _ _ kk).trans h)
  · cases h
end Go.Proofs.Ytipdidpalcmlhaa

set_option linter.unusedVariables false
set_option linter.unusedSimpArgs false
set_option maxRecDepth 100000
set_option maxHeartbeats 2000000
namespace Go.Proofs.Ytipdidpalcmlhaa
open Go Ev
def kp165_a34 (i : Nat) : Option (List Nat) := Ev.look i [(200003, [0])]
noncomputable def Gg165_a34 (f : Nat) : Option Ev.Spec := Ev.look f []
noncomputable def G165_a34 (fuel : Nat) : Nat → Option Ev.Spec := Gg165_a34
noncomputable def J165_a34 (fuel : Nat) (i : Nat) : Option Ev.Blk := Ev.look i []
noncomputable def F_generic_plane_at_a34 (fuel : Nat) (x0 x1 : Int) (x2 x3 : Int) (x4 : (List Int)) (x5 : (List (Int × Int))) (k0 : (Int × Int × Int × (List Int) × (List (Int × Int))) → Option Ans) : Option Ans :=
  bif decide (x0 < (0 : Int)) then
  k0 ((0 : Int), x2, x3, x4, x5)
  else
  bif decide (x1 < (0 : Int)) then
  k0 ((0 : Int), x2, x3, x4, x5)
  else
  bif decide (x0 ≥ x2) then
  k0 ((0 : Int), x2, x3, x4, x5)
  else
  bif decide (x1 ≥ x3) then
  k0 ((0 : Int), x2, x3, x4, x5)
  else
  bif decide ((0 : Int) ≤ IntKind.i64.wrap (IntKind.i64.wrap (x1 * x2) + x0) ∧ IntKind.i64.wrap (IntKind.i64.wrap (x1 * x2) + x0) < (↑x4.length : Int)) then
  k0 (x4.getD (IntKind.i64.wrap (IntKind.i64.wrap (x1 * x2) + x0)).toNat (0 : Int), x2, x3, x4, x5)
  else none
abbrev YF165_a34 : Type := (Int) → (Int) → (Int) → (Int) → ((List Int)) → ((List (Int × Int))) → ((Int × Int × Int × (List Int) × (List (Int × Int))) → Option Ans) → Option Ans
theorem F165_a34_eq (fuel : Nat) (x0 x1 : Int) (x2 x3 : Int) (x4 : (List Int)) (x5 : (List (Int × Int))) (k : Ev.Cont) : evalFn tab (G165_a34 fuel) (J165_a34 fuel) kp165_a34 fuel Try.f165 [.c (.ptr 0 0), .c (.int .i64 x0), .c (.int .i64 x1)] [.cells 174 [.int .i64 x2, .int .i64 x3, .sl (.int .u8) x4, .own 1], .vec 22 (.pair (.int .i64) (.int .i64)) x5 false] k = F_generic_plane_at_a34 fuel x0 x1 x2 x3 x4 x5 (fun r => match r with | (r0, r1, r2, r3, r4) => k (.c (.int .u8 r0), [.cells 174 [.int .i64 r1, .int .i64 r2, .sl (.int .u8) r3, .own 1], .vec 22 (.pair (.int .i64) (.int .i64)) r4 false])) := by
  kernel_rfl
theorem hG165_a34 (fuel : Nat) : GOK Try.prog (G165_a34 fuel) :=
  gok_nil
theorem fok165_a34 (fuel : Nat) : FnOK Try.prog 165 (evalFn tab (G165_a34 fuel) (J165_a34 fuel) kp165_a34 fuel Try.f165) :=
  fn_ok tab_ok (hG165_a34 fuel) mixed Try.func165 (c := (Try.f165.body).getD .skip) rfl (fun q hq => by
    rw [(by kernel_rfl : obl (J165_a34 fuel) ((Try.f165.body).getD .skip) = [])] at hq
    cases hq)
noncomputable def spg165_a34 (F : YF165_a34) : Ev.Spec := fun args objs k => match args, objs with
 | [.c (.ptr q0 q1), .c (.int .i64 x0), .c (.int .i64 x1)], [.cells q2 [.int .i64 x2, .int .i64 x3, .sl (.int .u8) x4, .own q3], .vec q4 (.pair (.int .i64) (.int .i64)) x5 false] => bif Nat.beq q0 0 && Nat.beq q1 0 && Nat.beq q2 174 && Nat.beq q3 1 && Nat.beq q4 22 then F x0 x1 x2 x3 x4 x5 (fun r => match r with | (r0, r1, r2, r3, r4) => k (.c (.int .u8 r0), [.cells 174 [.int .i64 r1, .int .i64 r2, .sl (.int .u8) r3, .own 1], .vec 22 (.pair (.int .i64) (.int .i64)) r4 false])) else none
 | _, _ => none
noncomputable def spec165_a34 (fuel : Nat) : Ev.Spec := spg165_a34 (F_generic_plane_at_a34 fuel)
theorem ok165_a34 (fuel : Nat) : FnOK Try.prog 165 (spec165_a34 fuel) := by
  intro args objs kk r h
  unfold spec165_a34 spg165_a34 at h
  split at h
  · skip
    obtain ⟨hb, h⟩ := cond_some' h
    simp only [Bool.and_eq_true, Nat.beq_eq, decide_eq_true_eq] at hb
    obtain ⟨⟨⟨⟨rfl, rfl⟩, rfl⟩, rfl⟩, rfl⟩ := hb
    exact fok165_a34 fuel _ _ kk r ((F165_a34_eq fuel _ _ _ _ _ _ kk).trans h)
  · cases h
end Go.Proofs.Ytipdidpalcmlhaa

set_option linter.unusedVariables false
set_option linter.unusedSimpArgs false
set_option maxRecDepth 100000
set_option maxHeartbeats 2000000
namespace Go.Proofs.Ytipdidpalcmlhaa
open Go Ev
def kp123_b9e (i : Nat) : Option (List Nat) := Ev.look i [(3, [0, 1, 5, 7, 15, 16]), (100000, [7]), (200005, [0, 5]), (400000, [6])]
noncomputable def Gg123_b9e (f124 : YF124) (f165_a34 : YF165_a34) (f : Nat) : Option Ev.Spec := Ev.look f [(124, spg124 f124), (165, spg165_a34 f165_a34)]
noncomputable def G123_b9e (fuel : Nat) : Nat → Option Ev.Spec := Gg123_b9e (F_generic_skips fuel) (F_generic_plane_at_a34 fuel)
noncomputable def Sg_generic_plane_above_b9e_0 (fuel : Nat) (f124 : YF124) (f165_a34 : YF165_a34) (x0 x1 : Int) (x2 x3 x4 : Int) (x5 : (List Int)) (x6 : (List (Int × Int))) (x7 x8 : Int) (x9 x10 : (List Int)) (c : (Int × Int × Int × Int × Int × (List Int) × (List (Int × Int)) × Int × Int × (List Int) × (List Int)) → Option Ans) (B : (Int × Int × (List Int) × (List (Int × Int)) × (List Int) → Option Ans)) : Option Ans := match B with
 | b =>
  bif decide (x2 < x1) then
  (f124 (x7) (x8) (x9) (IntKind.i64.wrap (IntKind.i64.wrap (x0 * x3) + x2))
  (fun y3 =>
  bif !y3 then
  (f165_a34 (x2) (IntKind.i64.wrap (x0 - (1 : Int))) (x3) (x4) (x5) (x6)
  (fun (y8_0, y8_1, y8_2, y8_3, y8_4) =>
  bif decide ((0 : Int) ≤ x2 ∧ x2 < (↑x10.length : Int)) then
  c (x0, x1, IntKind.i64.wrap (x2 + (1 : Int)), y8_1, y8_2, y8_3, y8_4, x7, x8, x9, x10.set x2.toNat y8_0)
  else none))
  else
  c (x0, x1, IntKind.i64.wrap (x2 + (1 : Int)), x3, x4, x5, x6, x7, x8, x9, x10)))
  else
  b (x3, x4, x5, x6, x10)
noncomputable def S_generic_plane_above_b9e_0 (fuel : Nat) (v : Int × Int × Int × Int × Int × (List Int) × (List (Int × Int)) × Int × Int × (List Int) × (List Int)) (c : (Int × Int × Int × Int × Int × (List Int) × (List (Int × Int)) × Int × Int × (List Int) × (List Int)) → Option Ans) (B : (Int × Int × (List Int) × (List (Int × Int)) × (List Int) → Option Ans)) : Option Ans := match v with
 | (x0, x1, x2, x3, x4, x5, x6, x7, x8, x9, x10) => Sg_generic_plane_above_b9e_0 fuel (F_generic_skips fuel) (F_generic_plane_at_a34 fuel) x0 x1 x2 x3 x4 x5 x6 x7 x8 x9 x10 c B
noncomputable def L_generic_plane_above_b9e_0 (fuel : Nat) (v : Int × Int × Int × Int × Int × (List Int) × (List (Int × Int)) × Int × Int × (List Int) × (List Int)) (b : (Int × Int × (List Int) × (List (Int × Int)) × (List Int) → Option Ans)) : Option Ans := iter (S_generic_plane_above_b9e_0 fuel) fuel v b
noncomputable def J123_b9e_0 (fuel : Nat) (i : Nat) : Option Ev.Blk := Ev.look i []
noncomputable def T123_b9e_0 (v : Int × Int × Int × Int × Int × (List Int) × (List (Int × Int)) × Int × Int × (List Int) × (List Int)) : Ev.St := match v with | (x0, x1, x2, x3, x4, x5, x6, x7, x8, x9, x10) => ⟨[(0, .c (.ptr 0 0)), (1, .c (.int .i64 x0)), (5, .c (.ptr 2 0)), (7, .c (.own 3)), (15, .c (.int .i64 x1)), (16, .c (.int .i64 x2))], [(0, .cells 174 [.int .i64 x3, .int .i64 x4, .sl (.int .u8) x5, .own 1]), (1, .vec 22 (.pair (.int .i64) (.int .i64)) x6 false), (2, .cells 35 [.int .i64 x7, .int .i64 x8, .sl (.int .u8) x9]), (3, .vec 5 (.int .u8) x10 true)], 4, 2⟩
noncomputable def E123_b9e_0 (K : Ev.Ex → Ev.St → Option Ans) : (Int × Int × (List Int) × (List (Int × Int)) × (List Int) → Option Ans) := (fun v => match v with | (x0, x1, x2, x3, x4) => K .normal ⟨[(7, .c (.own 2))], [(0, .cells 174 [.int .i64 x0, .int .i64 x1, .sl (.int .u8) x2, .own 1]), (1, .vec 22 (.pair (.int .i64) (.int .i64)) x3 false), (2, .vec 5 (.int .u8) x4 true)], 3, 2⟩)
theorem S123_b9e_0_okg (fuel : Nat) (f124 : YF124) (f165_a34 : YF165_a34) (R : Ev.St → Option Ans) (K : Ev.Ex → Ev.St → Option Ans) (x0 x1 : Int) (x2 x3 x4 : Int) (x5 : (List Int)) (x6 : (List (Int × Int))) (x7 x8 : Int) (x9 x10 : (List Int)) : evalCode tab (Gg123_b9e f124 f165_a34) (J123_b9e_0 fuel) kp123_b9e fuel (bodyOf 0 Try.f123) (T123_b9e_0 (x0, x1, x2, x3, x4, x5, x6, x7, x8, x9, x10)) (lc kp123_b9e 3 0 R K) = Sg_generic_plane_above_b9e_0 fuel f124 f165_a34 x0 x1 x2 x3 x4 x5 x6 x7 x8 x9 x10 (fun v => R (T123_b9e_0 v)) (E123_b9e_0 K) := by
  kernel_rfl
noncomputable def B123_b9e_0 (fuel : Nat) : Ev.Blk := fun st K => match canonO (kp123_b9e 3) st with
 | some s => (match s with
 | ⟨[(q0, .c (.ptr q1 q2)), (q3, .c (.int .i64 x0)), (q4, .c (.ptr q5 q6)), (q7, .c (.own q8)), (q9, .c (.int .i64 x1)), (q10, .c (.int .i64 x2))], [(q11, .cells q12 [.int .i64 x3, .int .i64 x4, .sl (.int .u8) x5, .own q13]), (q14, .vec q15 (.pair (.int .i64) (.int .i64)) x6 false), (q16, .cells q17 [.int .i64 x7, .int .i64 x8, .sl (.int .u8) x9]), (q18, .vec q19 (.int .u8) x10 true)], q20, q21⟩ => bif Nat.beq q0 0 && Nat.beq q1 0 && Nat.beq q2 0 && Nat.beq q3 1 && Nat.beq q4 5 && Nat.beq q5 2 && Nat.beq q6 0 && Nat.beq q7 7 && Nat.beq q8 3 && Nat.beq q9 15 && Nat.beq q10 16 && Nat.beq q11 0 && Nat.beq q12 174 && Nat.beq q13 1 && Nat.beq q14 1 && Nat.beq q15 22 && Nat.beq q16 2 && Nat.beq q17 35 && Nat.beq q18 3 && Nat.beq q19 5 && Nat.beq q20 4 && Nat.beq q21 2 then iter (S_generic_plane_above_b9e_0 fuel) fuel (x0, x1, x2, x3, x4, x5, x6, x7, x8, x9, x10) (E123_b9e_0 K) else none
 | _ => none)
 | none => none
theorem B123_b9e_0_ok (fuel : Nat) (st : Ev.St) (K : Ev.Ex → Ev.St → Option Ans) (r : Ans) (h : B123_b9e_0 fuel st K = some r) : evalCode tab (G123_b9e fuel) (J123_b9e_0 fuel) kp123_b9e fuel (.block 0 (.loop (bodyOf 0 Try.f123))) st K = some r := by
  unfold B123_b9e_0 at h
  split at h
  · rename_i s hs
    split at h
    · skip
      obtain ⟨hb, h⟩ := cond_some' h
      simp only [Bool.and_eq_true, Nat.beq_eq, decide_eq_true_eq] at hb
      obtain ⟨⟨⟨⟨⟨⟨⟨⟨⟨⟨⟨⟨⟨⟨⟨⟨⟨⟨⟨⟨⟨rfl, rfl⟩, rfl⟩, rfl⟩, rfl⟩, rfl⟩, rfl⟩, rfl⟩, rfl⟩, rfl⟩, rfl⟩, rfl⟩, rfl⟩, rfl⟩, rfl⟩, rfl⟩, rfl⟩, rfl⟩, rfl⟩, rfl⟩, rfl⟩, rfl⟩ := hb
      exact blk_loop (S := T123_b9e_0) (ks := E123_b9e_0) (step := S_generic_plane_above_b9e_0 fuel) (v := (_, _, _, _, _, _, _, _, _, _, _)) (by kernel_rfl) (by kernel_rfl) (fun R K v => by obtain ⟨x0, x1, x2, x3, x4, x5, x6, x7, x8, x9, x10⟩ := v; exact S123_b9e_0_okg fuel (F_generic_skips fuel) (F_generic_plane_at_a34 fuel) R K x0 x1 x2 x3 x4 x5 x6 x7 x8 x9 x10) hs h
    · cases h
  · cases h
noncomputable def J123_b9e (fuel : Nat) (i : Nat) : Option Ev.Blk := Ev.look i [(100000, B123_b9e_0 fuel)]
noncomputable def Fg_generic_plane_above_b9e (fuel : Nat) (f124 : YF124) (f165_a34 : YF165_a34) (x0 x1 x2 : Int) (x3 : (List Int)) (x4 x5 : Int) (x6 : (List Int)) (x7 : (List (Int × Int))) (k0 : (Int × Int × (List Int) × (List (Int × Int)) × (List Int)) → Option Ans) : Option Ans :=
  bif decide ((0 : Int) ≤ x4 ∧ x4 = x4 ∧ (↑(1 : Nat) : Int) * x4 ≤ (281474976710656 : Int) ∧ x4 ≤ (281474976710656 : Int)) then
  (L_generic_plane_above_b9e_0 fuel (x0, (↑(List.replicate x4.toNat (0 : Int)).length : Int), (0 : Int), x4, x5, x6, x7, x1, x2, x3, List.replicate x4.toNat (0 : Int))
  (fun (b0_0, b0_1, b0_2, b0_3, b0_4) =>
  k0 (b0_0, b0_1, b0_2, b0_3, b0_4)))
  else none
noncomputable def F_generic_plane_above_b9e (fuel : Nat) (x0 x1 x2 : Int) (x3 : (List Int)) (x4 x5 : Int) (x6 : (List Int)) (x7 : (List (Int × Int))) (k0 : (Int × Int × (List Int) × (List (Int × Int)) × (List Int)) → Option Ans) : Option Ans := Fg_generic_plane_above_b9e fuel (F_generic_skips fuel) (F_generic_plane_at_a34 fuel) x0 x1 x2 x3 x4 x5 x6 x7 k0
abbrev YF123_b9e : Type := (Int) → (Int) → (Int) → ((List Int)) → (Int) → (Int) → ((List Int)) → ((List (Int × Int))) → ((Int × Int × (List Int) × (List (Int × Int)) × (List Int)) → Option Ans) → Option Ans
theorem F123_b9e_eqg (fuel : Nat) (f124 : YF124) (f165_a34 : YF165_a34) (x0 x1 x2 : Int) (x3 : (List Int)) (x4 x5 : Int) (x6 : (List Int)) (x7 : (List (Int × Int))) (k : Ev.Cont) : evalFn tab (Gg123_b9e f124 f165_a34) (J123_b9e fuel) kp123_b9e fuel Try.f123 [.c (.ptr 0 0), .c (.int .i64 x0), .agg [.int .i64 x1, .int .i64 x2, .sl (.int .u8) x3]] [.cells 174 [.int .i64 x4, .int .i64 x5, .sl (.int .u8) x6, .own 1], .vec 22 (.pair (.int .i64) (.int .i64)) x7 false] k = Fg_generic_plane_above_b9e fuel f124 f165_a34 x0 x1 x2 x3 x4 x5 x6 x7 (fun r => match r with | (r0, r1, r2, r3, r4) => k (.c (.own 2), [.cells 174 [.int .i64 r0, .int .i64 r1, .sl (.int .u8) r2, .own 1], .vec 22 (.pair (.int .i64) (.int .i64)) r3 false, .vec 5 (.int .u8) r4 true])) := by
  kernel_rfl
theorem hG123_b9e (fuel : Nat) : GOK Try.prog (G123_b9e fuel) :=
  gok_cons ⟨ok124 fuel, enters_of Try.func124 (by kernel_rfl) rfl⟩ <|
  gok_cons ⟨ok165_a34 fuel, enters_of Try.func165 (by kernel_rfl) rfl⟩ <|
  gok_nil
theorem B123_b9e_0_blk (fuel : Nat) : BlkOK Try.prog Try.f123.ntmps (.block 0 (.loop (bodyOf 0 Try.f123))) (B123_b9e_0 fuel) :=
  blk_of (blk_of_code tab_ok (hG123_b9e fuel) mixed (J := J123_b9e_0 fuel) (kp := kp123_b9e) (fuel := fuel) (by kernel_rfl) (fun q hq => by
    rw [(by kernel_rfl : obl (J123_b9e_0 fuel) (.block 0 (.loop (bodyOf 0 Try.f123))) = [])] at hq
    cases hq)) (B123_b9e_0_ok fuel)
theorem fok123_b9e (fuel : Nat) : FnOK Try.prog 123 (evalFn tab (G123_b9e fuel) (J123_b9e fuel) kp123_b9e fuel Try.f123) :=
  fn_ok tab_ok (hG123_b9e fuel) mixed Try.func123 (c := (Try.f123.body).getD .skip) rfl (fun q hq => by
    rw [(by kernel_rfl : obl (J123_b9e fuel) ((Try.f123.body).getD .skip) = [(.block 0 (.loop (bodyOf 0 Try.f123)), B123_b9e_0 fuel)])] at hq
    simp only [List.mem_cons, List.not_mem_nil, or_false] at hq
    subst hq
    · exact B123_b9e_0_blk fuel)
noncomputable def spg123_b9e (F : YF123_b9e) : Ev.Spec := fun args objs k => match args, objs with
 | [.c (.ptr q0 q1), .c (.int .i64 x0), .agg [.int .i64 x1, .int .i64 x2, .sl (.int .u8) x3]], [.cells q2 [.int .i64 x4, .int .i64 x5, .sl (.int .u8) x6, .own q3], .vec q4 (.pair (.int .i64) (.int .i64)) x7 false] => bif Nat.beq q0 0 && Nat.beq q1 0 && Nat.beq q2 174 && Nat.beq q3 1 && Nat.beq q4 22 then F x0 x1 x2 x3 x4 x5 x6 x7 (fun r => match r with | (r0, r1, r2, r3, r4) => k (.c (.own 2), [.cells 174 [.int .i64 r0, .int .i64 r1, .sl (.int .u8) r2, .own 1], .vec 22 (.pair (.int .i64) (.int .i64)) r3 false, .vec 5 (.int .u8) r4 true])) else none
 | _, _ => none
noncomputable def spec123_b9e (fuel : Nat) : Ev.Spec := spg123_b9e (F_generic_plane_above_b9e fuel)
theorem ok123_b9e (fuel : Nat) : FnOK Try.prog 123 (spec123_b9e fuel) := by
  intro args objs kk r h
  unfold spec123_b9e spg123_b9e at h
  split at h
  · skip
    obtain ⟨hb, h⟩ := cond_some' h
    simp only [Bool.and_eq_true, Nat.beq_eq, decide_eq_true_eq] at hb
    obtain ⟨⟨⟨⟨rfl, rfl⟩, rfl⟩, rfl⟩, rfl⟩ := hb
    exact fok123_b9e fuel _ _ kk r ((F123_b9e_eqg fuel (F_generic_skips fuel) (F_generic_plane_at_a34 fuel) _ _ _ _ _ _ _ _ kk).trans h)
  · cases h
end Go.Proofs.Ytipdidpalcmlhaa

set_option linter.unusedVariables false
set_option linter.unusedSimpArgs false
set_option maxRecDepth 100000
set_option maxHeartbeats 2000000
namespace Go.Proofs.Ytipdidpalcmlhaa
open Go Ev
def kp125_a34 (i : Nat) : Option (List Nat) := Ev.look i [(3, [0, 1, 2, 7, 13, 14, 15]), (100000, [7]), (400000, [6])]
noncomputable def Gg125_a34 (f165_a34 : YF165_a34) (f : Nat) : Option Ev.Spec := Ev.look f [(165, spg165_a34 f165_a34)]
noncomputable def G125_a34 (fuel : Nat) : Nat → Option Ev.Spec := Gg125_a34 (F_generic_plane_at_a34 fuel)
noncomputable def Sg_generic_plane_context_a34_0 (fuel : Nat) (f165_a34 : YF165_a34) (x0 x1 : Int) (x2 x3 : Int) (x4 x5 x6 : Int) (x7 : (List Int)) (x8 : (List (Int × Int))) (c : (Int × Int × Int × Int × Int × Int × Int × (List Int) × (List (Int × Int))) → Option Ans) (B : (Int × Int × Int × (List Int) × (List (Int × Int)) → Option Ans)) : Option Ans := match B with
 | b =>
  bif decide (x4 < x3) then
  bif decide ((0 : Int) ≤ x4 ∧ x4 < (↑x8.length : Int)) then
  (f165_a34 (IntKind.i64.wrap (x0 + (x8.getD x4.toNat ((0 : Int), (0 : Int))).fst)) (IntKind.i64.wrap (x1 + (x8.getD x4.toNat ((0 : Int), (0 : Int))).snd)) (x5) (x6) (x7) (x8)
  (fun (y4_0, y4_1, y4_2, y4_3, y4_4) =>
  c (x0, x1, IntKind.i64.wrap (IntKind.i64.wrap ((2 : Int) * x2) + IntKind.i64.wrap y4_0), x3, IntKind.i64.wrap (x4 + (1 : Int)), y4_1, y4_2, y4_3, y4_4)))
  else none
  else
  b (x2, x5, x6, x7, x8)
noncomputable def S_generic_plane_context_a34_0 (fuel : Nat) (v : Int × Int × Int × Int × Int × Int × Int × (List Int) × (List (Int × Int))) (c : (Int × Int × Int × Int × Int × Int × Int × (List Int) × (List (Int × Int))) → Option Ans) (B : (Int × Int × Int × (List Int) × (List (Int × Int)) → Option Ans)) : Option Ans := match v with
 | (x0, x1, x2, x3, x4, x5, x6, x7, x8) => Sg_generic_plane_context_a34_0 fuel (F_generic_plane_at_a34 fuel) x0 x1 x2 x3 x4 x5 x6 x7 x8 c B
noncomputable def L_generic_plane_context_a34_0 (fuel : Nat) (v : Int × Int × Int × Int × Int × Int × Int × (List Int) × (List (Int × Int))) (b : (Int × Int × Int × (List Int) × (List (Int × Int)) → Option Ans)) : Option Ans := iter (S_generic_plane_context_a34_0 fuel) fuel v b
noncomputable def J125_a34_0 (fuel : Nat) (i : Nat) : Option Ev.Blk := Ev.look i []
noncomputable def T125_a34_0 (v : Int × Int × Int × Int × Int × Int × Int × (List Int) × (List (Int × Int))) : Ev.St := match v with | (x0, x1, x2, x3, x4, x5, x6, x7, x8) => ⟨[(0, .c (.ptr 0 0)), (1, .c (.int .i64 x0)), (2, .c (.int .i64 x1)), (7, .c (.int .i64 x2)), (13, .c (.own 1)), (14, .c (.int .i64 x3)), (15, .c (.int .i64 x4))], [(0, .cells 174 [.int .i64 x5, .int .i64 x6, .sl (.int .u8) x7, .own 1]), (1, .vec 22 (.pair (.int .i64) (.int .i64)) x8 false)], 2, 2⟩
noncomputable def E125_a34_0 (K : Ev.Ex → Ev.St → Option Ans) : (Int × Int × Int × (List Int) × (List (Int × Int)) → Option Ans) := (fun v => match v with | (x0, x1, x2, x3, x4) => K .normal ⟨[(7, .c (.int .i64 x0))], [(0, .cells 174 [.int .i64 x1, .int .i64 x2, .sl (.int .u8) x3, .own 1]), (1, .vec 22 (.pair (.int .i64) (.int .i64)) x4 false)], 2, 2⟩)
theorem S125_a34_0_okg (fuel : Nat) (f165_a34 : YF165_a34) (R : Ev.St → Option Ans) (K : Ev.Ex → Ev.St → Option Ans) (x0 x1 : Int) (x2 x3 : Int) (x4 x5 x6 : Int) (x7 : (List Int)) (x8 : (List (Int × Int))) : evalCode tab (Gg125_a34 f165_a34) (J125_a34_0 fuel) kp125_a34 fuel (bodyOf 0 Try.f125) (T125_a34_0 (x0, x1, x2, x3, x4, x5, x6, x7, x8)) (lc kp125_a34 3 0 R K) = Sg_generic_plane_context_a34_0 fuel f165_a34 x0 x1 x2 x3 x4 x5 x6 x7 x8 (fun v => R (T125_a34_0 v)) (E125_a34_0 K) := by
  kernel_rfl
noncomputable def B125_a34_0 (fuel : Nat) : Ev.Blk := fun st K => match canonO (kp125_a34 3) st with
 | some s => (match s with
 | ⟨[(q0, .c (.ptr q1 q2)), (q3, .c (.int .i64 x0)), (q4, .c (.int .i64 x1)), (q5, .c (.int .i64 x2)), (q6, .c (.own q7)), (q8, .c (.int .i64 x3)), (q9, .c (.int .i64 x4))], [(q10, .cells q11 [.int .i64 x5, .int .i64 x6, .sl (.int .u8) x7, .own q12]), (q13, .vec q14 (.pair (.int .i64) (.int .i64)) x8 false)], q15, q16⟩ => bif Nat.beq q0 0 && Nat.beq q1 0 && Nat.beq q2 0 && Nat.beq q3 1 && Nat.beq q4 2 && Nat.beq q5 7 && Nat.beq q6 13 && Nat.beq q7 1 && Nat.beq q8 14 && Nat.beq q9 15 && Nat.beq q10 0 && Nat.beq q11 174 && Nat.beq q12 1 && Nat.beq q13 1 && Nat.beq q14 22 && Nat.beq q15 2 && Nat.beq q16 2 then iter (S_generic_plane_context_a34_0 fuel) fuel (x0, x1, x2, x3, x4, x5, x6, x7, x8) (E125_a34_0 K) else none
 | _ => none)
 | none => none
theorem B125_a34_0_ok (fuel : Nat) (st : Ev.St) (K : Ev.Ex → Ev.St → Option Ans) (r : Ans) (h : B125_a34_0 fuel st K = some r) : evalCode tab (G125_a34 fuel) (J125_a34_0 fuel) kp125_a34 fuel (.block 0 (.loop (bodyOf 0 Try.f125))) st K = some r := by
  unfold B125_a34_0 at h
  split at h
  · rename_i s hs
    split at h
    · skip
      obtain ⟨hb, h⟩ := cond_some' h
      simp only [Bool.and_eq_true, Nat.beq_eq, decide_eq_true_eq] at hb
      obtain ⟨⟨⟨⟨⟨⟨⟨⟨⟨⟨⟨⟨⟨⟨⟨⟨rfl, rfl⟩, rfl⟩, rfl⟩, rfl⟩, rfl⟩, rfl⟩, rfl⟩, rfl⟩, rfl⟩, rfl⟩, rfl⟩, rfl⟩, rfl⟩, rfl⟩, rfl⟩, rfl⟩ := hb
      exact blk_loop (S := T125_a34_0) (ks := E125_a34_0) (step := S_generic_plane_context_a34_0 fuel) (v := (_, _, _, _, _, _, _, _, _)) (by kernel_rfl) (by kernel_rfl) (fun R K v => by obtain ⟨x0, x1, x2, x3, x4, x5, x6, x7, x8⟩ := v; exact S125_a34_0_okg fuel (F_generic_plane_at_a34 fuel) R K x0 x1 x2 x3 x4 x5 x6 x7 x8) hs h
    · cases h
  · cases h
noncomputable def J125_a34 (fuel : Nat) (i : Nat) : Option Ev.Blk := Ev.look i [(100000, B125_a34_0 fuel)]
noncomputable def Fg_generic_plane_context_a34 (fuel : Nat) (f165_a34 : YF165_a34) (x0 x1 : Int) (x2 x3 : Int) (x4 : (List Int)) (x5 : (List (Int × Int))) (k0 : (Int × Int × Int × (List Int) × (List (Int × Int))) → Option Ans) : Option Ans :=
  (L_generic_plane_context_a34_0 fuel (x0, x1, (0 : Int), (↑x5.length : Int), (0 : Int), x2, x3, x4, x5)
  (fun (b0_0, b0_1, b0_2, b0_3, b0_4) =>
  k0 (b0_0, b0_1, b0_2, b0_3, b0_4)))
noncomputable def F_generic_plane_context_a34 (fuel : Nat) (x0 x1 : Int) (x2 x3 : Int) (x4 : (List Int)) (x5 : (List (Int × Int))) (k0 : (Int × Int × Int × (List Int) × (List (Int × Int))) → Option Ans) : Option Ans := Fg_generic_plane_context_a34 fuel (F_generic_plane_at_a34 fuel) x0 x1 x2 x3 x4 x5 k0
abbrev YF125_a34 : Type := (Int) → (Int) → (Int) → (Int) → ((List Int)) → ((List (Int × Int))) → ((Int × Int × Int × (List Int) × (List (Int × Int))) → Option Ans) → Option Ans
theorem F125_a34_eqg (fuel : Nat) (f165_a34 : YF165_a34) (x0 x1 : Int) (x2 x3 : Int) (x4 : (List Int)) (x5 : (List (Int × Int))) (k : Ev.Cont) : evalFn tab (Gg125_a34 f165_a34) (J125_a34 fuel) kp125_a34 fuel Try.f125 [.c (.ptr 0 0), .c (.int .i64 x0), .c (.int .i64 x1)] [.cells 174 [.int .i64 x2, .int .i64 x3, .sl (.int .u8) x4, .own 1], .vec 22 (.pair (.int .i64) (.int .i64)) x5 false] k = Fg_generic_plane_context_a34 fuel f165_a34 x0 x1 x2 x3 x4 x5 (fun r => match r with | (r0, r1, r2, r3, r4) => k (.c (.int .i64 r0), [.cells 174 [.int .i64 r1, .int .i64 r2, .sl (.int .u8) r3, .own 1], .vec 22 (.pair (.int .i64) (.int .i64)) r4 false])) := by
  kernel_rfl
theorem hG125_a34 (fuel : Nat) : GOK Try.prog (G125_a34 fuel) :=
  gok_cons ⟨ok165_a34 fuel, enters_of Try.func165 (by kernel_rfl) rfl⟩ <|
  gok_nil
theorem B125_a34_0_blk (fuel : Nat) : BlkOK Try.prog Try.f125.ntmps (.block 0 (.loop (bodyOf 0 Try.f125))) (B125_a34_0 fuel) :=
  blk_of (blk_of_code tab_ok (hG125_a34 fuel) mixed (J := J125_a34_0 fuel) (kp := kp125_a34) (fuel := fuel) (by kernel_rfl) (fun q hq => by
    rw [(by kernel_rfl : obl (J125_a34_0 fuel) (.block 0 (.loop (bodyOf 0 Try.f125))) = [])] at hq
    cases hq)) (B125_a34_0_ok fuel)
theorem fok125_a34 (fuel : Nat) : FnOK Try.prog 125 (evalFn tab (G125_a34 fuel) (J125_a34 fuel) kp125_a34 fuel Try.f125) :=
  fn_ok tab_ok (hG125_a34 fuel) mixed Try.func125 (c := (Try.f125.body).getD .skip) rfl (fun q hq => by
    rw [(by kernel_rfl : obl (J125_a34 fuel) ((Try.f125.body).getD .skip) = [(.block 0 (.loop (bodyOf 0 Try.f125)), B125_a34_0 fuel)])] at hq
    simp only [List.mem_cons, List.not_mem_nil, or_false] at hq
    subst hq
    · exact B125_a34_0_blk fuel)
noncomputable def spg125_a34 (F : YF125_a34) : Ev.Spec := fun args objs k => match args, objs with
 | [.c (.ptr q0 q1), .c (.int .i64 x0), .c (.int .i64 x1)], [.cells q2 [.int .i64 x2, .int .i64 x3, .sl (.int .u8) x4, .own q3], .vec q4 (.pair (.int .i64) (.int .i64)) x5 false] => bif Nat.beq q0 0 && Nat.beq q1 0 && Nat.beq q2 174 && Nat.beq q3 1 && Nat.beq q4 22 then F x0 x1 x2 x3 x4 x5 (fun r => match r with | (r0, r1, r2, r3, r4) => k (.c (.int .i64 r0), [.cells 174 [.int .i64 r1, .int .i64 r2, .sl (.int .u8) r3, .own 1], .vec 22 (.pair (.int .i64) (.int .i64)) r4 false])) else none
 | _, _ => none
noncomputable def spec125_a34 (fuel : Nat) : Ev.Spec := spg125_a34 (F_generic_plane_context_a34 fuel)
theorem ok125_a34 (fuel : Nat) : FnOK Try.prog 125 (spec125_a34 fuel) := by
  intro args objs kk r h
  unfold spec125_a34 spg125_a34 at h
  split at h
  · skip
    obtain ⟨hb, h⟩ := cond_some' h
    simp only [Bool.and_eq_true, Nat.beq_eq, decide_eq_true_eq] at hb
    obtain ⟨⟨⟨⟨rfl, rfl⟩, rfl⟩, rfl⟩, rfl⟩ := hb
    exact fok125_a34 fuel _ _ kk r ((F125_a34_eqg fuel (F_generic_plane_at_a34 fuel) _ _ _ _ _ _ kk).trans h)
  · cases h
end Go.Proofs.Ytipdidpalcmlhaa

