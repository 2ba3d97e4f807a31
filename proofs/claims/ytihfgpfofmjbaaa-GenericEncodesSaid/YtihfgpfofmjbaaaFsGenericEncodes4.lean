/- What the functions that GenericEncodes reaches do: their typed texts, each with the proof that the machine does it. No condition. -/
import Derived.Test.YtihfgpfofmjbaaaEvX
import Derived.Test.YtihfgpfofmjbaaaFsGenericEncodes3
import Derived.Test.YtihfgpfofmjbaaaFsGenericEncodes2
import Derived.Test.YtihfgpfofmjbaaaFsGenericEncodes1
set_option linter.unusedVariables false
set_option linter.unusedSimpArgs false
set_option linter.unusedVariables false
set_option linter.unusedSimpArgs false
set_option maxRecDepth 100000
set_option maxHeartbeats 2000000
namespace Go.Proofs.Ytihfgpfofmjbaaa
open Go Ev
def kp129_6c1 (i : Nat) : Option (List Nat) := Ev.look i [(6, [0, 1, 7, 8, 9, 11]), (9, [0, 1, 7, 8, 9, 11, 12]), (18, [0, 1, 7, 8, 9, 14, 16, 1000002]), (27, [0, 1, 7, 8, 9, 14, 16, 18]), (100000, [0, 1, 7, 8, 9]), (100002, [0, 1, 7, 8, 9, 11]), (100004, []), (100006, [0, 1, 7, 8, 9, 14, 16]), (200013, [7, 8, 9]), (200022, [8, 9]), (200030, [7, 8]), (400000, [10]), (400002, [10]), (400004, [10]), (400006, [10]), (600000, [])]
noncomputable def Gg129_6c1 (f86 : YF86) (f109 : YF109) (f120 : YF120) (f122 : YF122) (f124 : YF124) (f125 : YF125) (f126 : YF126) (f187_2fe : YF187_2fe) (f188_e89 : YF188_e89) (f : Nat) : Option Ev.Spec := Ev.look f [(86, spg86 f86), (109, spg109 f109), (120, spg120 f120), (122, spg122 f122), (124, spg124 f124), (125, spg125 f125), (126, spg126 f126), (187, spg187_2fe f187_2fe), (188, spg188_e89 f188_e89)]
noncomputable def G129_6c1 (fuel : Nat) : Nat → Option Ev.Spec := Gg129_6c1 (F_ref05_Valid fuel) (F_ref07_Valid fuel) (F_ref07_room fuel) (F_ref07_Size fuel) (F_ref07_typical fuel) (F_ref05_At fuel) (F_ref07_context fuel) (F_ref02_Encoder_Model_2fe fuel) (F_ref02_Encoder_Put_e89 fuel)
noncomputable def Sg_ref07_Put_6c1_2 (fuel : Nat) (f86 : YF86) (f109 : YF109) (f120 : YF120) (f122 : YF122) (f124 : YF124) (f125 : YF125) (f126 : YF126) (f187_2fe : YF187_2fe) (f188_e89 : YF188_e89) (x0 x1 : Int) (x2 x3 : Int) (x4 x5 : Int) (x6 x7 : (List Int)) (x8 x9 x10 : Int) (x11 : Bool) (x12 x13 x14 : Int) (x15 : (List Int)) (x16 x17 : Int) (x18 : (List Int)) (c : (Int × Int × Int × Int × Int × Int × (List Int) × (List Int) × Int × Int × Int × Bool × Int × Int × Int × (List Int) × Int × Int × (List Int)) → Option Ans) (B : (Int × Int × Int × Int × (List Int) × (List Int) → Option Ans) × (Int × Int × Int × Int × Int × (List Int) × (List Int) × Int × Int × Int × Bool × Int × Int × Int × (List Int) × Int × Int × (List Int) → Option Ans)) : Option Ans := match B with
 | (ret, b) =>
  bif decide (x2 < x13) then
  (f125 (x13) (x14) (x15) (x2) (x1)
  (fun y3 =>
  bif y3 == (1 : Int) then
  (f125 (x16) (x17) (x18) (x2) (x1)
  (fun y8 =>
  bif y8 == (1 : Int) then
  ret ((30 : Int), x3, x4, x5, x6, x7)
  else
  c (x0, x1, IntKind.i64.wrap (x2 + (1 : Int)), x3, x4, x5, x6, x7, x8, x9, x10, x11, x12, x13, x14, x15, x16, x17, x18)))
  else
  c (x0, x1, IntKind.i64.wrap (x2 + (1 : Int)), x3, x4, x5, x6, x7, x8, x9, x10, x11, x12, x13, x14, x15, x16, x17, x18)))
  else
  b (x0, x1, x3, x4, x5, x6, x7, x8, x9, x10, x11, x12, x13, x14, x15, x16, x17, x18)
noncomputable def S_ref07_Put_6c1_2 (fuel : Nat) (v : Int × Int × Int × Int × Int × Int × (List Int) × (List Int) × Int × Int × Int × Bool × Int × Int × Int × (List Int) × Int × Int × (List Int)) (c : (Int × Int × Int × Int × Int × Int × (List Int) × (List Int) × Int × Int × Int × Bool × Int × Int × Int × (List Int) × Int × Int × (List Int)) → Option Ans) (B : (Int × Int × Int × Int × (List Int) × (List Int) → Option Ans) × (Int × Int × Int × Int × Int × (List Int) × (List Int) × Int × Int × Int × Bool × Int × Int × Int × (List Int) × Int × Int × (List Int) → Option Ans)) : Option Ans := match v with
 | (x0, x1, x2, x3, x4, x5, x6, x7, x8, x9, x10, x11, x12, x13, x14, x15, x16, x17, x18) => Sg_ref07_Put_6c1_2 fuel (F_ref05_Valid fuel) (F_ref07_Valid fuel) (F_ref07_room fuel) (F_ref07_Size fuel) (F_ref07_typical fuel) (F_ref05_At fuel) (F_ref07_context fuel) (F_ref02_Encoder_Model_2fe fuel) (F_ref02_Encoder_Put_e89 fuel) x0 x1 x2 x3 x4 x5 x6 x7 x8 x9 x10 x11 x12 x13 x14 x15 x16 x17 x18 c B
noncomputable def L_ref07_Put_6c1_2 (fuel : Nat) (v : Int × Int × Int × Int × Int × Int × (List Int) × (List Int) × Int × Int × Int × Bool × Int × Int × Int × (List Int) × Int × Int × (List Int)) (ret : (Int × Int × Int × Int × (List Int) × (List Int) → Option Ans)) (b : (Int × Int × Int × Int × Int × (List Int) × (List Int) × Int × Int × Int × Bool × Int × Int × Int × (List Int) × Int × Int × (List Int) → Option Ans)) : Option Ans := iter (S_ref07_Put_6c1_2 fuel) fuel v (ret, b)
noncomputable def J129_6c1_2 (fuel : Nat) (i : Nat) : Option Ev.Blk := Ev.look i []
noncomputable def T129_6c1_2 (v : Int × Int × Int × Int × Int × Int × (List Int) × (List Int) × Int × Int × Int × Bool × Int × Int × Int × (List Int) × Int × Int × (List Int)) : Ev.St := match v with | (x0, x1, x2, x3, x4, x5, x6, x7, x8, x9, x10, x11, x12, x13, x14, x15, x16, x17, x18) => ⟨[(0, .c (.ptr 0 0)), (1, .c (.int .i64 x0)), (7, .c (.ptr 3 0)), (8, .c (.ptr 4 0)), (9, .c (.ptr 5 0)), (11, .c (.int .i64 x1)), (12, .c (.int .i64 x2))], [(0, .cells 225 [.int .i64 x3, .own 1, .int .u64 x4, .int .u64 x5, .own 2]), (1, .vec 3 (.int .i64) x6 false), (2, .vec 5 (.int .u8) x7 false), (3, .cells 46 [.int .i64 x8, .int .i64 x9, .int .i64 x10, .bool x11, .int .i64 x12]), (4, .cells 39 [.int .i64 x13, .int .i64 x14, .sl (.int .u8) x15]), (5, .cells 39 [.int .i64 x16, .int .i64 x17, .sl (.int .u8) x18])], 6, 3⟩
noncomputable def E129_6c1_2 (K : Ev.Ex → Ev.St → Option Ans) : (Int × Int × Int × Int × (List Int) × (List Int) → Option Ans) × (Int × Int × Int × Int × Int × (List Int) × (List Int) × Int × Int × Int × Bool × Int × Int × Int × (List Int) × Int × Int × (List Int) → Option Ans) := ((fun v => match v with | (x0, x1, x2, x3, x4, x5) => K .ret ⟨[(10, .c (.int .i64 x0))], [(0, .cells 225 [.int .i64 x1, .own 1, .int .u64 x2, .int .u64 x3, .own 2]), (1, .vec 3 (.int .i64) x4 false), (2, .vec 5 (.int .u8) x5 false)], 3, 3⟩), (fun v => match v with | (x0, x1, x2, x3, x4, x5, x6, x7, x8, x9, x10, x11, x12, x13, x14, x15, x16, x17) => K .normal ⟨[(0, .c (.ptr 0 0)), (1, .c (.int .i64 x0)), (7, .c (.ptr 3 0)), (8, .c (.ptr 4 0)), (9, .c (.ptr 5 0)), (11, .c (.int .i64 x1))], [(0, .cells 225 [.int .i64 x2, .own 1, .int .u64 x3, .int .u64 x4, .own 2]), (1, .vec 3 (.int .i64) x5 false), (2, .vec 5 (.int .u8) x6 false), (3, .cells 46 [.int .i64 x7, .int .i64 x8, .int .i64 x9, .bool x10, .int .i64 x11]), (4, .cells 39 [.int .i64 x12, .int .i64 x13, .sl (.int .u8) x14]), (5, .cells 39 [.int .i64 x15, .int .i64 x16, .sl (.int .u8) x17])], 6, 3⟩))
theorem S129_6c1_2_okg (fuel : Nat) (f86 : YF86) (f109 : YF109) (f120 : YF120) (f122 : YF122) (f124 : YF124) (f125 : YF125) (f126 : YF126) (f187_2fe : YF187_2fe) (f188_e89 : YF188_e89) (R : Ev.St → Option Ans) (K : Ev.Ex → Ev.St → Option Ans) (x0 x1 : Int) (x2 x3 : Int) (x4 x5 : Int) (x6 x7 : (List Int)) (x8 x9 x10 : Int) (x11 : Bool) (x12 x13 x14 : Int) (x15 : (List Int)) (x16 x17 : Int) (x18 : (List Int)) : evalCode tab (Gg129_6c1 f86 f109 f120 f122 f124 f125 f126 f187_2fe f188_e89) (J129_6c1_2 fuel) kp129_6c1 fuel (bodyOf 2 Try.f129) (T129_6c1_2 (x0, x1, x2, x3, x4, x5, x6, x7, x8, x9, x10, x11, x12, x13, x14, x15, x16, x17, x18)) (lc kp129_6c1 9 2 R K) = Sg_ref07_Put_6c1_2 fuel f86 f109 f120 f122 f124 f125 f126 f187_2fe f188_e89 x0 x1 x2 x3 x4 x5 x6 x7 x8 x9 x10 x11 x12 x13 x14 x15 x16 x17 x18 (fun v => R (T129_6c1_2 v)) (E129_6c1_2 K) := by
  kernel_rfl
theorem S129_6c1_2_ok (fuel : Nat) (R : Ev.St → Option Ans) (K : Ev.Ex → Ev.St → Option Ans) (x0 x1 : Int) (x2 x3 : Int) (x4 x5 : Int) (x6 x7 : (List Int)) (x8 x9 x10 : Int) (x11 : Bool) (x12 x13 x14 : Int) (x15 : (List Int)) (x16 x17 : Int) (x18 : (List Int)) : evalCode tab (G129_6c1 fuel) (J129_6c1_2 fuel) kp129_6c1 fuel (bodyOf 2 Try.f129) (T129_6c1_2 (x0, x1, x2, x3, x4, x5, x6, x7, x8, x9, x10, x11, x12, x13, x14, x15, x16, x17, x18)) (lc kp129_6c1 9 2 R K) = S_ref07_Put_6c1_2 fuel (x0, x1, x2, x3, x4, x5, x6, x7, x8, x9, x10, x11, x12, x13, x14, x15, x16, x17, x18) (fun v => R (T129_6c1_2 v)) (E129_6c1_2 K) :=
  S129_6c1_2_okg fuel (F_ref05_Valid fuel) (F_ref07_Valid fuel) (F_ref07_room fuel) (F_ref07_Size fuel) (F_ref07_typical fuel) (F_ref05_At fuel) (F_ref07_context fuel) (F_ref02_Encoder_Model_2fe fuel) (F_ref02_Encoder_Put_e89 fuel) R K x0 x1 x2 x3 x4 x5 x6 x7 x8 x9 x10 x11 x12 x13 x14 x15 x16 x17 x18
noncomputable def B129_6c1_2 (fuel : Nat) : Ev.Blk := fun st K => match canonO (kp129_6c1 9) st with
 | some s => (match s with
 | ⟨[(q0, .c (.ptr q1 q2)), (q3, .c (.int .i64 x0)), (q4, .c (.ptr q5 q6)), (q7, .c (.ptr q8 q9)), (q10, .c (.ptr q11 q12)), (q13, .c (.int .i64 x1)), (q14, .c (.int .i64 x2))], [(q15, .cells q16 [.int .i64 x3, .own q17, .int .u64 x4, .int .u64 x5, .own q18]), (q19, .vec q20 (.int .i64) x6 false), (q21, .vec q22 (.int .u8) x7 false), (q23, .cells q24 [.int .i64 x8, .int .i64 x9, .int .i64 x10, .bool x11, .int .i64 x12]), (q25, .cells q26 [.int .i64 x13, .int .i64 x14, .sl (.int .u8) x15]), (q27, .cells q28 [.int .i64 x16, .int .i64 x17, .sl (.int .u8) x18])], q29, q30⟩ => bif Nat.beq q0 0 && Nat.beq q1 0 && Nat.beq q2 0 && Nat.beq q3 1 && Nat.beq q4 7 && Nat.beq q5 3 && Nat.beq q6 0 && Nat.beq q7 8 && Nat.beq q8 4 && Nat.beq q9 0 && Nat.beq q10 9 && Nat.beq q11 5 && Nat.beq q12 0 && Nat.beq q13 11 && Nat.beq q14 12 && Nat.beq q15 0 && Nat.beq q16 225 && Nat.beq q17 1 && Nat.beq q18 2 && Nat.beq q19 1 && Nat.beq q20 3 && Nat.beq q21 2 && Nat.beq q22 5 && Nat.beq q23 3 && Nat.beq q24 46 && Nat.beq q25 4 && Nat.beq q26 39 && Nat.beq q27 5 && Nat.beq q28 39 && Nat.beq q29 6 && Nat.beq q30 3 then iter (S_ref07_Put_6c1_2 fuel) fuel (x0, x1, x2, x3, x4, x5, x6, x7, x8, x9, x10, x11, x12, x13, x14, x15, x16, x17, x18) (E129_6c1_2 K) else none
 | _ => none)
 | none => none
theorem B129_6c1_2_ok (fuel : Nat) (st : Ev.St) (K : Ev.Ex → Ev.St → Option Ans) (r : Ans) (h : B129_6c1_2 fuel st K = some r) : evalCode tab (G129_6c1 fuel) (J129_6c1_2 fuel) kp129_6c1 fuel (.block 2 (.loop (bodyOf 2 Try.f129))) st K = some r := by
  unfold B129_6c1_2 at h
  split at h
  · rename_i s hs
    split at h
    · skip
      obtain ⟨hb, h⟩ := cond_some' h
      simp only [Bool.and_eq_true, Nat.beq_eq, decide_eq_true_eq] at hb
      obtain ⟨⟨⟨⟨⟨⟨⟨⟨⟨⟨⟨⟨⟨⟨⟨⟨⟨⟨⟨⟨⟨⟨⟨⟨⟨⟨⟨⟨⟨⟨rfl, rfl⟩, rfl⟩, rfl⟩, rfl⟩, rfl⟩, rfl⟩, rfl⟩, rfl⟩, rfl⟩, rfl⟩, rfl⟩, rfl⟩, rfl⟩, rfl⟩, rfl⟩, rfl⟩, rfl⟩, rfl⟩, rfl⟩, rfl⟩, rfl⟩, rfl⟩, rfl⟩, rfl⟩, rfl⟩, rfl⟩, rfl⟩, rfl⟩, rfl⟩, rfl⟩ := hb
      exact blk_loop (S := T129_6c1_2) (ks := E129_6c1_2) (step := S_ref07_Put_6c1_2 fuel) (v := (_, _, _, _, _, _, _, _, _, _, _, _, _, _, _, _, _, _, _)) (by kernel_rfl) (by kernel_rfl) (fun R K v => by obtain ⟨x0, x1, x2, x3, x4, x5, x6, x7, x8, x9, x10, x11, x12, x13, x14, x15, x16, x17, x18⟩ := v; exact S129_6c1_2_ok fuel R K x0 x1 x2 x3 x4 x5 x6 x7 x8 x9 x10 x11 x12 x13 x14 x15 x16 x17 x18) hs h
    · cases h
  · cases h
noncomputable def Sg_ref07_Put_6c1_0 (fuel : Nat) (f86 : YF86) (f109 : YF109) (f120 : YF120) (f122 : YF122) (f124 : YF124) (f125 : YF125) (f126 : YF126) (f187_2fe : YF187_2fe) (f188_e89 : YF188_e89) (x0 x1 : Int) (x2 x3 x4 : Int) (x5 x6 : (List Int)) (x7 x8 x9 : Int) (x10 : Bool) (x11 x12 x13 : Int) (x14 : (List Int)) (x15 x16 : Int) (x17 : (List Int)) (c : (Int × Int × Int × Int × Int × (List Int) × (List Int) × Int × Int × Int × Bool × Int × Int × Int × (List Int) × Int × Int × (List Int)) → Option Ans) (B : (Int × Int × Int × Int × (List Int) × (List Int) → Option Ans) × (Int × Int × Int × Int × (List Int) × (List Int) × Int × Int × Int × Bool × Int × Int × Int × (List Int) × Int × Int × (List Int) → Option Ans)) : Option Ans := match B with
 | (ret, b) =>
  bif decide (x1 < x13) then
  bif x12 == x15 then
  bif x13 == x16 then
  (L_ref07_Put_6c1_2 fuel (x0, x1, (0 : Int), x2, x3, x4, x5, x6, x7, x8, x9, x10, x11, x12, x13, x14, x15, x16, x17)
  (fun (ret2_0, ret2_1, ret2_2, ret2_3, ret2_4, ret2_5) =>
  ret (ret2_0, ret2_1, ret2_2, ret2_3, ret2_4, ret2_5))
  (fun (b2_0, b2_1, b2_2, b2_3, b2_4, b2_5, b2_6, b2_7, b2_8, b2_9, b2_10, b2_11, b2_12, b2_13, b2_14, b2_15, b2_16, b2_17) =>
  c (b2_0, IntKind.i64.wrap (b2_1 + (1 : Int)), b2_2, b2_3, b2_4, b2_5, b2_6, b2_7, b2_8, b2_9, b2_10, b2_11, b2_12, b2_13, b2_14, b2_15, b2_16, b2_17)))
  else
  b (x0, x2, x3, x4, x5, x6, x7, x8, x9, x10, x11, x12, x13, x14, x15, x16, x17)
  else
  b (x0, x2, x3, x4, x5, x6, x7, x8, x9, x10, x11, x12, x13, x14, x15, x16, x17)
  else
  b (x0, x2, x3, x4, x5, x6, x7, x8, x9, x10, x11, x12, x13, x14, x15, x16, x17)
noncomputable def S_ref07_Put_6c1_0 (fuel : Nat) (v : Int × Int × Int × Int × Int × (List Int) × (List Int) × Int × Int × Int × Bool × Int × Int × Int × (List Int) × Int × Int × (List Int)) (c : (Int × Int × Int × Int × Int × (List Int) × (List Int) × Int × Int × Int × Bool × Int × Int × Int × (List Int) × Int × Int × (List Int)) → Option Ans) (B : (Int × Int × Int × Int × (List Int) × (List Int) → Option Ans) × (Int × Int × Int × Int × (List Int) × (List Int) × Int × Int × Int × Bool × Int × Int × Int × (List Int) × Int × Int × (List Int) → Option Ans)) : Option Ans := match v with
 | (x0, x1, x2, x3, x4, x5, x6, x7, x8, x9, x10, x11, x12, x13, x14, x15, x16, x17) => Sg_ref07_Put_6c1_0 fuel (F_ref05_Valid fuel) (F_ref07_Valid fuel) (F_ref07_room fuel) (F_ref07_Size fuel) (F_ref07_typical fuel) (F_ref05_At fuel) (F_ref07_context fuel) (F_ref02_Encoder_Model_2fe fuel) (F_ref02_Encoder_Put_e89 fuel) x0 x1 x2 x3 x4 x5 x6 x7 x8 x9 x10 x11 x12 x13 x14 x15 x16 x17 c B
noncomputable def L_ref07_Put_6c1_0 (fuel : Nat) (v : Int × Int × Int × Int × Int × (List Int) × (List Int) × Int × Int × Int × Bool × Int × Int × Int × (List Int) × Int × Int × (List Int)) (ret : (Int × Int × Int × Int × (List Int) × (List Int) → Option Ans)) (b : (Int × Int × Int × Int × (List Int) × (List Int) × Int × Int × Int × Bool × Int × Int × Int × (List Int) × Int × Int × (List Int) → Option Ans)) : Option Ans := iter (S_ref07_Put_6c1_0 fuel) fuel v (ret, b)
noncomputable def J129_6c1_0 (fuel : Nat) (i : Nat) : Option Ev.Blk := Ev.look i [(100002, B129_6c1_2 fuel)]
noncomputable def T129_6c1_0 (v : Int × Int × Int × Int × Int × (List Int) × (List Int) × Int × Int × Int × Bool × Int × Int × Int × (List Int) × Int × Int × (List Int)) : Ev.St := match v with | (x0, x1, x2, x3, x4, x5, x6, x7, x8, x9, x10, x11, x12, x13, x14, x15, x16, x17) => ⟨[(0, .c (.ptr 0 0)), (1, .c (.int .i64 x0)), (7, .c (.ptr 3 0)), (8, .c (.ptr 4 0)), (9, .c (.ptr 5 0)), (11, .c (.int .i64 x1))], [(0, .cells 225 [.int .i64 x2, .own 1, .int .u64 x3, .int .u64 x4, .own 2]), (1, .vec 3 (.int .i64) x5 false), (2, .vec 5 (.int .u8) x6 false), (3, .cells 46 [.int .i64 x7, .int .i64 x8, .int .i64 x9, .bool x10, .int .i64 x11]), (4, .cells 39 [.int .i64 x12, .int .i64 x13, .sl (.int .u8) x14]), (5, .cells 39 [.int .i64 x15, .int .i64 x16, .sl (.int .u8) x17])], 6, 3⟩
noncomputable def E129_6c1_0 (K : Ev.Ex → Ev.St → Option Ans) : (Int × Int × Int × Int × (List Int) × (List Int) → Option Ans) × (Int × Int × Int × Int × (List Int) × (List Int) × Int × Int × Int × Bool × Int × Int × Int × (List Int) × Int × Int × (List Int) → Option Ans) := ((fun v => match v with | (x0, x1, x2, x3, x4, x5) => K .ret ⟨[(10, .c (.int .i64 x0))], [(0, .cells 225 [.int .i64 x1, .own 1, .int .u64 x2, .int .u64 x3, .own 2]), (1, .vec 3 (.int .i64) x4 false), (2, .vec 5 (.int .u8) x5 false)], 3, 3⟩), (fun v => match v with | (x0, x1, x2, x3, x4, x5, x6, x7, x8, x9, x10, x11, x12, x13, x14, x15, x16) => K .normal ⟨[(0, .c (.ptr 0 0)), (1, .c (.int .i64 x0)), (7, .c (.ptr 3 0)), (8, .c (.ptr 4 0)), (9, .c (.ptr 5 0))], [(0, .cells 225 [.int .i64 x1, .own 1, .int .u64 x2, .int .u64 x3, .own 2]), (1, .vec 3 (.int .i64) x4 false), (2, .vec 5 (.int .u8) x5 false), (3, .cells 46 [.int .i64 x6, .int .i64 x7, .int .i64 x8, .bool x9, .int .i64 x10]), (4, .cells 39 [.int .i64 x11, .int .i64 x12, .sl (.int .u8) x13]), (5, .cells 39 [.int .i64 x14, .int .i64 x15, .sl (.int .u8) x16])], 6, 3⟩))
theorem S129_6c1_0_okg (fuel : Nat) (f86 : YF86) (f109 : YF109) (f120 : YF120) (f122 : YF122) (f124 : YF124) (f125 : YF125) (f126 : YF126) (f187_2fe : YF187_2fe) (f188_e89 : YF188_e89) (R : Ev.St → Option Ans) (K : Ev.Ex → Ev.St → Option Ans) (x0 x1 : Int) (x2 x3 x4 : Int) (x5 x6 : (List Int)) (x7 x8 x9 : Int) (x10 : Bool) (x11 x12 x13 : Int) (x14 : (List Int)) (x15 x16 : Int) (x17 : (List Int)) : evalCode tab (Gg129_6c1 f86 f109 f120 f122 f124 f125 f126 f187_2fe f188_e89) (J129_6c1_0 fuel) kp129_6c1 fuel (bodyOf 0 Try.f129) (T129_6c1_0 (x0, x1, x2, x3, x4, x5, x6, x7, x8, x9, x10, x11, x12, x13, x14, x15, x16, x17)) (lc kp129_6c1 6 0 R K) = Sg_ref07_Put_6c1_0 fuel f86 f109 f120 f122 f124 f125 f126 f187_2fe f188_e89 x0 x1 x2 x3 x4 x5 x6 x7 x8 x9 x10 x11 x12 x13 x14 x15 x16 x17 (fun v => R (T129_6c1_0 v)) (E129_6c1_0 K) := by
  kernel_rfl
theorem S129_6c1_0_ok (fuel : Nat) (R : Ev.St → Option Ans) (K : Ev.Ex → Ev.St → Option Ans) (x0 x1 : Int) (x2 x3 x4 : Int) (x5 x6 : (List Int)) (x7 x8 x9 : Int) (x10 : Bool) (x11 x12 x13 : Int) (x14 : (List Int)) (x15 x16 : Int) (x17 : (List Int)) : evalCode tab (G129_6c1 fuel) (J129_6c1_0 fuel) kp129_6c1 fuel (bodyOf 0 Try.f129) (T129_6c1_0 (x0, x1, x2, x3, x4, x5, x6, x7, x8, x9, x10, x11, x12, x13, x14, x15, x16, x17)) (lc kp129_6c1 6 0 R K) = S_ref07_Put_6c1_0 fuel (x0, x1, x2, x3, x4, x5, x6, x7, x8, x9, x10, x11, x12, x13, x14, x15, x16, x17) (fun v => R (T129_6c1_0 v)) (E129_6c1_0 K) :=
  S129_6c1_0_okg fuel (F_ref05_Valid fuel) (F_ref07_Valid fuel) (F_ref07_room fuel) (F_ref07_Size fuel) (F_ref07_typical fuel) (F_ref05_At fuel) (F_ref07_context fuel) (F_ref02_Encoder_Model_2fe fuel) (F_ref02_Encoder_Put_e89 fuel) R K x0 x1 x2 x3 x4 x5 x6 x7 x8 x9 x10 x11 x12 x13 x14 x15 x16 x17
noncomputable def B129_6c1_0 (fuel : Nat) : Ev.Blk := fun st K => match canonO (kp129_6c1 6) st with
 | some s => (match s with
 | ⟨[(q0, .c (.ptr q1 q2)), (q3, .c (.int .i64 x0)), (q4, .c (.ptr q5 q6)), (q7, .c (.ptr q8 q9)), (q10, .c (.ptr q11 q12)), (q13, .c (.int .i64 x1))], [(q14, .cells q15 [.int .i64 x2, .own q16, .int .u64 x3, .int .u64 x4, .own q17]), (q18, .vec q19 (.int .i64) x5 false), (q20, .vec q21 (.int .u8) x6 false), (q22, .cells q23 [.int .i64 x7, .int .i64 x8, .int .i64 x9, .bool x10, .int .i64 x11]), (q24, .cells q25 [.int .i64 x12, .int .i64 x13, .sl (.int .u8) x14]), (q26, .cells q27 [.int .i64 x15, .int .i64 x16, .sl (.int .u8) x17])], q28, q29⟩ => bif Nat.beq q0 0 && Nat.beq q1 0 && Nat.beq q2 0 && Nat.beq q3 1 && Nat.beq q4 7 && Nat.beq q5 3 && Nat.beq q6 0 && Nat.beq q7 8 && Nat.beq q8 4 && Nat.beq q9 0 && Nat.beq q10 9 && Nat.beq q11 5 && Nat.beq q12 0 && Nat.beq q13 11 && Nat.beq q14 0 && Nat.beq q15 225 && Nat.beq q16 1 && Nat.beq q17 2 && Nat.beq q18 1 && Nat.beq q19 3 && Nat.beq q20 2 && Nat.beq q21 5 && Nat.beq q22 3 && Nat.beq q23 46 && Nat.beq q24 4 && Nat.beq q25 39 && Nat.beq q26 5 && Nat.beq q27 39 && Nat.beq q28 6 && Nat.beq q29 3 then iter (S_ref07_Put_6c1_0 fuel) fuel (x0, x1, x2, x3, x4, x5, x6, x7, x8, x9, x10, x11, x12, x13, x14, x15, x16, x17) (E129_6c1_0 K) else none
 | _ => none)
 | none => none
theorem B129_6c1_0_ok (fuel : Nat) (st : Ev.St) (K : Ev.Ex → Ev.St → Option Ans) (r : Ans) (h : B129_6c1_0 fuel st K = some r) : evalCode tab (G129_6c1 fuel) (J129_6c1_0 fuel) kp129_6c1 fuel (.block 0 (.loop (bodyOf 0 Try.f129))) st K = some r := by
  unfold B129_6c1_0 at h
  split at h
  · rename_i s hs
    split at h
    · skip
      obtain ⟨hb, h⟩ := cond_some' h
      simp only [Bool.and_eq_true, Nat.beq_eq, decide_eq_true_eq] at hb
      obtain ⟨⟨⟨⟨⟨⟨⟨⟨⟨⟨⟨⟨⟨⟨⟨⟨⟨⟨⟨⟨⟨⟨⟨⟨⟨⟨⟨⟨⟨rfl, rfl⟩, rfl⟩, rfl⟩, rfl⟩, rfl⟩, rfl⟩, rfl⟩, rfl⟩, rfl⟩, rfl⟩, rfl⟩, rfl⟩, rfl⟩, rfl⟩, rfl⟩, rfl⟩, rfl⟩, rfl⟩, rfl⟩, rfl⟩, rfl⟩, rfl⟩, rfl⟩, rfl⟩, rfl⟩, rfl⟩, rfl⟩, rfl⟩, rfl⟩ := hb
      exact blk_loop (S := T129_6c1_0) (ks := E129_6c1_0) (step := S_ref07_Put_6c1_0 fuel) (v := (_, _, _, _, _, _, _, _, _, _, _, _, _, _, _, _, _, _)) (by kernel_rfl) (by kernel_rfl) (fun R K v => by obtain ⟨x0, x1, x2, x3, x4, x5, x6, x7, x8, x9, x10, x11, x12, x13, x14, x15, x16, x17⟩ := v; exact S129_6c1_0_ok fuel R K x0 x1 x2 x3 x4 x5 x6 x7 x8 x9 x10 x11 x12 x13 x14 x15 x16 x17) hs h
    · cases h
  · cases h
noncomputable def Sg_ref07_Put_6c1_6 (fuel : Nat) (f86 : YF86) (f109 : YF109) (f120 : YF120) (f122 : YF122) (f124 : YF124) (f125 : YF125) (f126 : YF126) (f187_2fe : YF187_2fe) (f188_e89 : YF188_e89) (x0 x1 : Int) (x2 x3 : Int) (x4 x5 x6 : Int) (x7 x8 : (List Int)) (x9 x10 x11 : Int) (x12 : Bool) (x13 x14 x15 : Int) (x16 : (List Int)) (x17 x18 : Int) (x19 : (List Int)) (c : (Int × Int × Int × Int × Int × Int × Int × (List Int) × (List Int) × Int × Int × Int × Bool × Int × Int × Int × (List Int) × Int × Int × (List Int)) → Option Ans) (B : (Int × Int × Int × Int × Int × Int × (List Int) × (List Int) × Int × Int × Int × Bool × Int × Int × Int × (List Int) × Int × Int × (List Int) → Option Ans)) : Option Ans := match B with
 | b =>
  bif decide (x3 < x14) then
  (f125 (x17) (x18) (x19) (x3) (x2)
  (fun y3 =>
  bif y3 == (0 : Int) then
  (f126 (x9) (x10) (x11) (x12) (x13) (x14) (x15) (x16) (x3) (x2)
  (fun y8 =>
  (f125 (x14) (x15) (x16) (x3) (x2)
  (fun y12 =>
  (f188_e89 (IntKind.i64.wrap (x0 + y8)) (y12) (x4) (x5) (x6) (x7) (x8)
  (fun (y16_0, y16_1, y16_2, y16_3, y16_4, y16_5) =>
  c (x0, x1, x2, IntKind.i64.wrap (x3 + (1 : Int)), y16_1, y16_2, y16_3, y16_4, y16_5, x9, x10, x11, x12, x13, x14, x15, x16, x17, x18, x19))
  (fun (y16_0, y16_1, y16_2, y16_3, y16_4, y16_5) =>
  c (x0, x1, x2, IntKind.i64.wrap (x3 + (1 : Int)), y16_1, y16_2, y16_3, y16_4, y16_5, x9, x10, x11, x12, x13, x14, x15, x16, x17, x18, x19)))))))
  else
  c (x0, x1, x2, IntKind.i64.wrap (x3 + (1 : Int)), x4, x5, x6, x7, x8, x9, x10, x11, x12, x13, x14, x15, x16, x17, x18, x19)))
  else
  b (x0, x1, x2, x4, x5, x6, x7, x8, x9, x10, x11, x12, x13, x14, x15, x16, x17, x18, x19)
noncomputable def S_ref07_Put_6c1_6 (fuel : Nat) (v : Int × Int × Int × Int × Int × Int × Int × (List Int) × (List Int) × Int × Int × Int × Bool × Int × Int × Int × (List Int) × Int × Int × (List Int)) (c : (Int × Int × Int × Int × Int × Int × Int × (List Int) × (List Int) × Int × Int × Int × Bool × Int × Int × Int × (List Int) × Int × Int × (List Int)) → Option Ans) (B : (Int × Int × Int × Int × Int × Int × (List Int) × (List Int) × Int × Int × Int × Bool × Int × Int × Int × (List Int) × Int × Int × (List Int) → Option Ans)) : Option Ans := match v with
 | (x0, x1, x2, x3, x4, x5, x6, x7, x8, x9, x10, x11, x12, x13, x14, x15, x16, x17, x18, x19) => Sg_ref07_Put_6c1_6 fuel (F_ref05_Valid fuel) (F_ref07_Valid fuel) (F_ref07_room fuel) (F_ref07_Size fuel) (F_ref07_typical fuel) (F_ref05_At fuel) (F_ref07_context fuel) (F_ref02_Encoder_Model_2fe fuel) (F_ref02_Encoder_Put_e89 fuel) x0 x1 x2 x3 x4 x5 x6 x7 x8 x9 x10 x11 x12 x13 x14 x15 x16 x17 x18 x19 c B
noncomputable def L_ref07_Put_6c1_6 (fuel : Nat) (v : Int × Int × Int × Int × Int × Int × Int × (List Int) × (List Int) × Int × Int × Int × Bool × Int × Int × Int × (List Int) × Int × Int × (List Int)) (b : (Int × Int × Int × Int × Int × Int × (List Int) × (List Int) × Int × Int × Int × Bool × Int × Int × Int × (List Int) × Int × Int × (List Int) → Option Ans)) : Option Ans := iter (S_ref07_Put_6c1_6 fuel) fuel v b
noncomputable def J129_6c1_6 (fuel : Nat) (i : Nat) : Option Ev.Blk := Ev.look i [(100002, B129_6c1_2 fuel), (100000, B129_6c1_0 fuel)]
noncomputable def T129_6c1_6 (v : Int × Int × Int × Int × Int × Int × Int × (List Int) × (List Int) × Int × Int × Int × Bool × Int × Int × Int × (List Int) × Int × Int × (List Int)) : Ev.St := match v with | (x0, x1, x2, x3, x4, x5, x6, x7, x8, x9, x10, x11, x12, x13, x14, x15, x16, x17, x18, x19) => ⟨[(0, .c (.ptr 0 0)), (1, .c (.int .i64 x0)), (7, .c (.ptr 3 0)), (8, .c (.ptr 4 0)), (9, .c (.ptr 5 0)), (14, .c (.int .i64 x1)), (16, .c (.int .i64 x2)), (18, .c (.int .i64 x3))], [(0, .cells 225 [.int .i64 x4, .own 1, .int .u64 x5, .int .u64 x6, .own 2]), (1, .vec 3 (.int .i64) x7 false), (2, .vec 5 (.int .u8) x8 true), (3, .cells 46 [.int .i64 x9, .int .i64 x10, .int .i64 x11, .bool x12, .int .i64 x13]), (4, .cells 39 [.int .i64 x14, .int .i64 x15, .sl (.int .u8) x16]), (5, .cells 39 [.int .i64 x17, .int .i64 x18, .sl (.int .u8) x19])], 6, 3⟩
noncomputable def E129_6c1_6 (K : Ev.Ex → Ev.St → Option Ans) : (Int × Int × Int × Int × Int × Int × (List Int) × (List Int) × Int × Int × Int × Bool × Int × Int × Int × (List Int) × Int × Int × (List Int) → Option Ans) := (fun v => match v with | (x0, x1, x2, x3, x4, x5, x6, x7, x8, x9, x10, x11, x12, x13, x14, x15, x16, x17, x18) => K .normal ⟨[(0, .c (.ptr 0 0)), (1, .c (.int .i64 x0)), (7, .c (.ptr 3 0)), (8, .c (.ptr 4 0)), (9, .c (.ptr 5 0)), (14, .c (.int .i64 x1)), (16, .c (.int .i64 x2))], [(0, .cells 225 [.int .i64 x3, .own 1, .int .u64 x4, .int .u64 x5, .own 2]), (1, .vec 3 (.int .i64) x6 false), (2, .vec 5 (.int .u8) x7 true), (3, .cells 46 [.int .i64 x8, .int .i64 x9, .int .i64 x10, .bool x11, .int .i64 x12]), (4, .cells 39 [.int .i64 x13, .int .i64 x14, .sl (.int .u8) x15]), (5, .cells 39 [.int .i64 x16, .int .i64 x17, .sl (.int .u8) x18])], 6, 3⟩)
theorem S129_6c1_6_okg (fuel : Nat) (f86 : YF86) (f109 : YF109) (f120 : YF120) (f122 : YF122) (f124 : YF124) (f125 : YF125) (f126 : YF126) (f187_2fe : YF187_2fe) (f188_e89 : YF188_e89) (R : Ev.St → Option Ans) (K : Ev.Ex → Ev.St → Option Ans) (x0 x1 : Int) (x2 x3 : Int) (x4 x5 x6 : Int) (x7 x8 : (List Int)) (x9 x10 x11 : Int) (x12 : Bool) (x13 x14 x15 : Int) (x16 : (List Int)) (x17 x18 : Int) (x19 : (List Int)) : evalCode tab (Gg129_6c1 f86 f109 f120 f122 f124 f125 f126 f187_2fe f188_e89) (J129_6c1_6 fuel) kp129_6c1 fuel (bodyOf 6 Try.f129) (T129_6c1_6 (x0, x1, x2, x3, x4, x5, x6, x7, x8, x9, x10, x11, x12, x13, x14, x15, x16, x17, x18, x19)) (lc kp129_6c1 27 6 R K) = Sg_ref07_Put_6c1_6 fuel f86 f109 f120 f122 f124 f125 f126 f187_2fe f188_e89 x0 x1 x2 x3 x4 x5 x6 x7 x8 x9 x10 x11 x12 x13 x14 x15 x16 x17 x18 x19 (fun v => R (T129_6c1_6 v)) (E129_6c1_6 K) := by
  kernel_rfl
theorem S129_6c1_6_ok (fuel : Nat) (R : Ev.St → Option Ans) (K : Ev.Ex → Ev.St → Option Ans) (x0 x1 : Int) (x2 x3 : Int) (x4 x5 x6 : Int) (x7 x8 : (List Int)) (x9 x10 x11 : Int) (x12 : Bool) (x13 x14 x15 : Int) (x16 : (List Int)) (x17 x18 : Int) (x19 : (List Int)) : evalCode tab (G129_6c1 fuel) (J129_6c1_6 fuel) kp129_6c1 fuel (bodyOf 6 Try.f129) (T129_6c1_6 (x0, x1, x2, x3, x4, x5, x6, x7, x8, x9, x10, x11, x12, x13, x14, x15, x16, x17, x18, x19)) (lc kp129_6c1 27 6 R K) = S_ref07_Put_6c1_6 fuel (x0, x1, x2, x3, x4, x5, x6, x7, x8, x9, x10, x11, x12, x13, x14, x15, x16, x17, x18, x19) (fun v => R (T129_6c1_6 v)) (E129_6c1_6 K) :=
  S129_6c1_6_okg fuel (F_ref05_Valid fuel) (F_ref07_Valid fuel) (F_ref07_room fuel) (F_ref07_Size fuel) (F_ref07_typical fuel) (F_ref05_At fuel) (F_ref07_context fuel) (F_ref02_Encoder_Model_2fe fuel) (F_ref02_Encoder_Put_e89 fuel) R K x0 x1 x2 x3 x4 x5 x6 x7 x8 x9 x10 x11 x12 x13 x14 x15 x16 x17 x18 x19
noncomputable def B129_6c1_6 (fuel : Nat) : Ev.Blk := fun st K => match canonO (kp129_6c1 27) st with
 | some s => (match s with
 | ⟨[(q0, .c (.ptr q1 q2)), (q3, .c (.int .i64 x0)), (q4, .c (.ptr q5 q6)), (q7, .c (.ptr q8 q9)), (q10, .c (.ptr q11 q12)), (q13, .c (.int .i64 x1)), (q14, .c (.int .i64 x2)), (q15, .c (.int .i64 x3))], [(q16, .cells q17 [.int .i64 x4, .own q18, .int .u64 x5, .int .u64 x6, .own q19]), (q20, .vec q21 (.int .i64) x7 false), (q22, .vec q23 (.int .u8) x8 true), (q24, .cells q25 [.int .i64 x9, .int .i64 x10, .int .i64 x11, .bool x12, .int .i64 x13]), (q26, .cells q27 [.int .i64 x14, .int .i64 x15, .sl (.int .u8) x16]), (q28, .cells q29 [.int .i64 x17, .int .i64 x18, .sl (.int .u8) x19])], q30, q31⟩ => bif Nat.beq q0 0 && Nat.beq q1 0 && Nat.beq q2 0 && Nat.beq q3 1 && Nat.beq q4 7 && Nat.beq q5 3 && Nat.beq q6 0 && Nat.beq q7 8 && Nat.beq q8 4 && Nat.beq q9 0 && Nat.beq q10 9 && Nat.beq q11 5 && Nat.beq q12 0 && Nat.beq q13 14 && Nat.beq q14 16 && Nat.beq q15 18 && Nat.beq q16 0 && Nat.beq q17 225 && Nat.beq q18 1 && Nat.beq q19 2 && Nat.beq q20 1 && Nat.beq q21 3 && Nat.beq q22 2 && Nat.beq q23 5 && Nat.beq q24 3 && Nat.beq q25 46 && Nat.beq q26 4 && Nat.beq q27 39 && Nat.beq q28 5 && Nat.beq q29 39 && Nat.beq q30 6 && Nat.beq q31 3 then iter (S_ref07_Put_6c1_6 fuel) fuel (x0, x1, x2, x3, x4, x5, x6, x7, x8, x9, x10, x11, x12, x13, x14, x15, x16, x17, x18, x19) (E129_6c1_6 K) else none
 | _ => none)
 | none => none
theorem B129_6c1_6_ok (fuel : Nat) (st : Ev.St) (K : Ev.Ex → Ev.St → Option Ans) (r : Ans) (h : B129_6c1_6 fuel st K = some r) : evalCode tab (G129_6c1 fuel) (J129_6c1_6 fuel) kp129_6c1 fuel (.block 6 (.loop (bodyOf 6 Try.f129))) st K = some r := by
  unfold B129_6c1_6 at h
  split at h
  · rename_i s hs
    split at h
    · skip
      obtain ⟨hb, h⟩ := cond_some' h
      simp only [Bool.and_eq_true, Nat.beq_eq, decide_eq_true_eq] at hb
      obtain ⟨⟨⟨⟨⟨⟨⟨⟨⟨⟨⟨⟨⟨⟨⟨⟨⟨⟨⟨⟨⟨⟨⟨⟨⟨⟨⟨⟨⟨⟨⟨rfl, rfl⟩, rfl⟩, rfl⟩, rfl⟩, rfl⟩, rfl⟩, rfl⟩, rfl⟩, rfl⟩, rfl⟩, rfl⟩, rfl⟩, rfl⟩, rfl⟩, rfl⟩, rfl⟩, rfl⟩, rfl⟩, rfl⟩, rfl⟩, rfl⟩, rfl⟩, rfl⟩, rfl⟩, rfl⟩, rfl⟩, rfl⟩, rfl⟩, rfl⟩, rfl⟩, rfl⟩ := hb
      exact blk_loop (S := T129_6c1_6) (ks := E129_6c1_6) (step := S_ref07_Put_6c1_6 fuel) (v := (_, _, _, _, _, _, _, _, _, _, _, _, _, _, _, _, _, _, _, _)) (by kernel_rfl) (by kernel_rfl) (fun R K v => by obtain ⟨x0, x1, x2, x3, x4, x5, x6, x7, x8, x9, x10, x11, x12, x13, x14, x15, x16, x17, x18, x19⟩ := v; exact S129_6c1_6_ok fuel R K x0 x1 x2 x3 x4 x5 x6 x7 x8 x9 x10 x11 x12 x13 x14 x15 x16 x17 x18 x19) hs h
    · cases h
  · cases h
noncomputable def Sg_ref07_Put_6c1_4 (fuel : Nat) (f86 : YF86) (f109 : YF109) (f120 : YF120) (f122 : YF122) (f124 : YF124) (f125 : YF125) (f126 : YF126) (f187_2fe : YF187_2fe) (f188_e89 : YF188_e89) (x0 x1 : Int) (x2 x3 : Int) (x4 x5 : Int) (x6 x7 : (List Int)) (x8 x9 x10 : Int) (x11 : Bool) (x12 x13 x14 : Int) (x15 : (List Int)) (x16 x17 : Int) (x18 : (List Int)) (c : (Int × Int × Int × Int × Int × Int × (List Int) × (List Int) × Int × Int × Int × Bool × Int × Int × Int × (List Int) × Int × Int × (List Int)) → Option Ans) (B : (Int × Int × Int × (List Int) × (List Int) → Option Ans)) : Option Ans := match B with
 | b =>
  bif decide (x2 < x14) then
  bif x11 then
  bif decide ((0 : Int) ≤ Ev.loOf (some (IntKind.i64.wrap (x2 * x13))) ∧ Ev.loOf (some (IntKind.i64.wrap (x2 * x13))) ≤ Ev.hiOf (some (IntKind.i64.wrap (IntKind.i64.wrap (x2 + (1 : Int)) * x13))) (↑x15.length : Int) ∧ Ev.hiOf (some (IntKind.i64.wrap (IntKind.i64.wrap (x2 + (1 : Int)) * x13))) (↑x15.length : Int) ≤ (↑x15.length : Int)) then
  both ((f124 (x13) (x14) (x15) (x16) (x17) (x18) (x2)
  (fun y7 =>
  both (bif (Go.strOfNums y7).toList == (Go.strOfNums (List.take (Ev.hiOf (some (IntKind.i64.wrap (IntKind.i64.wrap (x2 + (1 : Int)) * x13))) (↑x15.length : Int) - Ev.loOf (some (IntKind.i64.wrap (x2 * x13)))).toNat (List.drop (Ev.loOf (some (IntKind.i64.wrap (x2 * x13)))).toNat x15))).toList then
  (f188_e89 (IntKind.i64.wrap (IntKind.i64.wrap (x0 + x1) - (1 : Int))) ((1 : Int)) (x3) (x4) (x5) (x6) (x7)
  (fun (y14_0, y14_1, y14_2, y14_3, y14_4, y14_5) =>
  c (x0, x1, IntKind.i64.wrap (x2 + (1 : Int)), y14_1, y14_2, y14_3, y14_4, y14_5, x8, x9, x10, x11, x12, x13, x14, x15, x16, x17, x18))
  (fun (y14_0, y14_1, y14_2, y14_3, y14_4, y14_5) =>
  c (x0, x1, IntKind.i64.wrap (x2 + (1 : Int)), y14_1, y14_2, y14_3, y14_4, y14_5, x8, x9, x10, x11, x12, x13, x14, x15, x16, x17, x18)))
  else
  (f188_e89 (IntKind.i64.wrap (IntKind.i64.wrap (x0 + x1) - (1 : Int))) ((0 : Int)) (x3) (x4) (x5) (x6) (x7)
  (fun (y14_0, y14_1, y14_2, y14_3, y14_4, y14_5) =>
  (L_ref07_Put_6c1_6 fuel (x0, x1, x2, (0 : Int), y14_1, y14_2, y14_3, y14_4, y14_5, x8, x9, x10, x11, x12, x13, x14, x15, x16, x17, x18)
  (fun (b6_0, b6_1, b6_2, b6_3, b6_4, b6_5, b6_6, b6_7, b6_8, b6_9, b6_10, b6_11, b6_12, b6_13, b6_14, b6_15, b6_16, b6_17, b6_18) =>
  c (b6_0, b6_1, IntKind.i64.wrap (b6_2 + (1 : Int)), b6_3, b6_4, b6_5, b6_6, b6_7, b6_8, b6_9, b6_10, b6_11, b6_12, b6_13, b6_14, b6_15, b6_16, b6_17, b6_18))))
  (fun (y14_0, y14_1, y14_2, y14_3, y14_4, y14_5) =>
  (L_ref07_Put_6c1_6 fuel (x0, x1, x2, (0 : Int), y14_1, y14_2, y14_3, y14_4, y14_5, x8, x9, x10, x11, x12, x13, x14, x15, x16, x17, x18)
  (fun (b6_0, b6_1, b6_2, b6_3, b6_4, b6_5, b6_6, b6_7, b6_8, b6_9, b6_10, b6_11, b6_12, b6_13, b6_14, b6_15, b6_16, b6_17, b6_18) =>
  c (b6_0, b6_1, IntKind.i64.wrap (b6_2 + (1 : Int)), b6_3, b6_4, b6_5, b6_6, b6_7, b6_8, b6_9, b6_10, b6_11, b6_12, b6_13, b6_14, b6_15, b6_16, b6_17, b6_18))))))
  (bif (Go.strOfNums y7).toList == (Go.strOfNums (List.take (Ev.hiOf (some (IntKind.i64.wrap (IntKind.i64.wrap (x2 + (1 : Int)) * x13))) (↑x15.length : Int) - Ev.loOf (some (IntKind.i64.wrap (x2 * x13)))).toNat (List.drop (Ev.loOf (some (IntKind.i64.wrap (x2 * x13)))).toNat x15))).toList then
  (f188_e89 (IntKind.i64.wrap (IntKind.i64.wrap (x0 + x1) - (1 : Int))) ((1 : Int)) (x3) (x4) (x5) (x6) (x7)
  (fun (y14_0, y14_1, y14_2, y14_3, y14_4, y14_5) =>
  c (x0, x1, IntKind.i64.wrap (x2 + (1 : Int)), y14_1, y14_2, y14_3, y14_4, y14_5, x8, x9, x10, x11, x12, x13, x14, x15, x16, x17, x18))
  (fun (y14_0, y14_1, y14_2, y14_3, y14_4, y14_5) =>
  c (x0, x1, IntKind.i64.wrap (x2 + (1 : Int)), y14_1, y14_2, y14_3, y14_4, y14_5, x8, x9, x10, x11, x12, x13, x14, x15, x16, x17, x18)))
  else
  (f188_e89 (IntKind.i64.wrap (IntKind.i64.wrap (x0 + x1) - (1 : Int))) ((0 : Int)) (x3) (x4) (x5) (x6) (x7)
  (fun (y14_0, y14_1, y14_2, y14_3, y14_4, y14_5) =>
  (L_ref07_Put_6c1_6 fuel (x0, x1, x2, (0 : Int), y14_1, y14_2, y14_3, y14_4, y14_5, x8, x9, x10, x11, x12, x13, x14, x15, x16, x17, x18)
  (fun (b6_0, b6_1, b6_2, b6_3, b6_4, b6_5, b6_6, b6_7, b6_8, b6_9, b6_10, b6_11, b6_12, b6_13, b6_14, b6_15, b6_16, b6_17, b6_18) =>
  c (b6_0, b6_1, IntKind.i64.wrap (b6_2 + (1 : Int)), b6_3, b6_4, b6_5, b6_6, b6_7, b6_8, b6_9, b6_10, b6_11, b6_12, b6_13, b6_14, b6_15, b6_16, b6_17, b6_18))))
  (fun (y14_0, y14_1, y14_2, y14_3, y14_4, y14_5) =>
  (L_ref07_Put_6c1_6 fuel (x0, x1, x2, (0 : Int), y14_1, y14_2, y14_3, y14_4, y14_5, x8, x9, x10, x11, x12, x13, x14, x15, x16, x17, x18)
  (fun (b6_0, b6_1, b6_2, b6_3, b6_4, b6_5, b6_6, b6_7, b6_8, b6_9, b6_10, b6_11, b6_12, b6_13, b6_14, b6_15, b6_16, b6_17, b6_18) =>
  c (b6_0, b6_1, IntKind.i64.wrap (b6_2 + (1 : Int)), b6_3, b6_4, b6_5, b6_6, b6_7, b6_8, b6_9, b6_10, b6_11, b6_12, b6_13, b6_14, b6_15, b6_16, b6_17, b6_18)))))))))
  ((f124 (x13) (x14) (x15) (x16) (x17) (x18) (x2)
  (fun y7 =>
  bif (Go.strOfNums y7).toList == (Go.strOfNums (List.take (Ev.hiOf (some (IntKind.i64.wrap (IntKind.i64.wrap (x2 + (1 : Int)) * x13))) (↑x15.length : Int) - Ev.loOf (some (IntKind.i64.wrap (x2 * x13)))).toNat (List.drop (Ev.loOf (some (IntKind.i64.wrap (x2 * x13)))).toNat x15))).toList then
  (f188_e89 (IntKind.i64.wrap (IntKind.i64.wrap (x0 + x1) - (1 : Int))) ((1 : Int)) (x3) (x4) (x5) (x6) (x7)
  (fun (y12_0, y12_1, y12_2, y12_3, y12_4, y12_5) =>
  c (x0, x1, IntKind.i64.wrap (x2 + (1 : Int)), y12_1, y12_2, y12_3, y12_4, y12_5, x8, x9, x10, x11, x12, x13, x14, x15, x16, x17, x18))
  (fun (y12_0, y12_1, y12_2, y12_3, y12_4, y12_5) =>
  c (x0, x1, IntKind.i64.wrap (x2 + (1 : Int)), y12_1, y12_2, y12_3, y12_4, y12_5, x8, x9, x10, x11, x12, x13, x14, x15, x16, x17, x18)))
  else
  (f188_e89 (IntKind.i64.wrap (IntKind.i64.wrap (x0 + x1) - (1 : Int))) ((0 : Int)) (x3) (x4) (x5) (x6) (x7)
  (fun (y12_0, y12_1, y12_2, y12_3, y12_4, y12_5) =>
  (L_ref07_Put_6c1_6 fuel (x0, x1, x2, (0 : Int), y12_1, y12_2, y12_3, y12_4, y12_5, x8, x9, x10, x11, x12, x13, x14, x15, x16, x17, x18)
  (fun (b6_0, b6_1, b6_2, b6_3, b6_4, b6_5, b6_6, b6_7, b6_8, b6_9, b6_10, b6_11, b6_12, b6_13, b6_14, b6_15, b6_16, b6_17, b6_18) =>
  c (b6_0, b6_1, IntKind.i64.wrap (b6_2 + (1 : Int)), b6_3, b6_4, b6_5, b6_6, b6_7, b6_8, b6_9, b6_10, b6_11, b6_12, b6_13, b6_14, b6_15, b6_16, b6_17, b6_18))))
  (fun (y12_0, y12_1, y12_2, y12_3, y12_4, y12_5) =>
  (L_ref07_Put_6c1_6 fuel (x0, x1, x2, (0 : Int), y12_1, y12_2, y12_3, y12_4, y12_5, x8, x9, x10, x11, x12, x13, x14, x15, x16, x17, x18)
  (fun (b6_0, b6_1, b6_2, b6_3, b6_4, b6_5, b6_6, b6_7, b6_8, b6_9, b6_10, b6_11, b6_12, b6_13, b6_14, b6_15, b6_16, b6_17, b6_18) =>
  c (b6_0, b6_1, IntKind.i64.wrap (b6_2 + (1 : Int)), b6_3, b6_4, b6_5, b6_6, b6_7, b6_8, b6_9, b6_10, b6_11, b6_12, b6_13, b6_14, b6_15, b6_16, b6_17, b6_18))))))))
  else none
  else
  (L_ref07_Put_6c1_6 fuel (x0, x1, x2, (0 : Int), x3, x4, x5, x6, x7, x8, x9, x10, x11, x12, x13, x14, x15, x16, x17, x18)
  (fun (b6_0, b6_1, b6_2, b6_3, b6_4, b6_5, b6_6, b6_7, b6_8, b6_9, b6_10, b6_11, b6_12, b6_13, b6_14, b6_15, b6_16, b6_17, b6_18) =>
  c (b6_0, b6_1, IntKind.i64.wrap (b6_2 + (1 : Int)), b6_3, b6_4, b6_5, b6_6, b6_7, b6_8, b6_9, b6_10, b6_11, b6_12, b6_13, b6_14, b6_15, b6_16, b6_17, b6_18)))
  else
  b (x3, x4, x5, x6, x7)
noncomputable def S_ref07_Put_6c1_4 (fuel : Nat) (v : Int × Int × Int × Int × Int × Int × (List Int) × (List Int) × Int × Int × Int × Bool × Int × Int × Int × (List Int) × Int × Int × (List Int)) (c : (Int × Int × Int × Int × Int × Int × (List Int) × (List Int) × Int × Int × Int × Bool × Int × Int × Int × (List Int) × Int × Int × (List Int)) → Option Ans) (B : (Int × Int × Int × (List Int) × (List Int) → Option Ans)) : Option Ans := match v with
 | (x0, x1, x2, x3, x4, x5, x6, x7, x8, x9, x10, x11, x12, x13, x14, x15, x16, x17, x18) => Sg_ref07_Put_6c1_4 fuel (F_ref05_Valid fuel) (F_ref07_Valid fuel) (F_ref07_room fuel) (F_ref07_Size fuel) (F_ref07_typical fuel) (F_ref05_At fuel) (F_ref07_context fuel) (F_ref02_Encoder_Model_2fe fuel) (F_ref02_Encoder_Put_e89 fuel) x0 x1 x2 x3 x4 x5 x6 x7 x8 x9 x10 x11 x12 x13 x14 x15 x16 x17 x18 c B
noncomputable def L_ref07_Put_6c1_4 (fuel : Nat) (v : Int × Int × Int × Int × Int × Int × (List Int) × (List Int) × Int × Int × Int × Bool × Int × Int × Int × (List Int) × Int × Int × (List Int)) (b : (Int × Int × Int × (List Int) × (List Int) → Option Ans)) : Option Ans := iter (S_ref07_Put_6c1_4 fuel) fuel v b
noncomputable def J129_6c1_4 (fuel : Nat) (i : Nat) : Option Ev.Blk := Ev.look i [(100002, B129_6c1_2 fuel), (100000, B129_6c1_0 fuel), (100006, B129_6c1_6 fuel)]
noncomputable def T129_6c1_4 (v : Int × Int × Int × Int × Int × Int × (List Int) × (List Int) × Int × Int × Int × Bool × Int × Int × Int × (List Int) × Int × Int × (List Int)) : Ev.St := match v with | (x0, x1, x2, x3, x4, x5, x6, x7, x8, x9, x10, x11, x12, x13, x14, x15, x16, x17, x18) => ⟨[(0, .c (.ptr 0 0)), (1, .c (.int .i64 x0)), (7, .c (.ptr 3 0)), (8, .c (.ptr 4 0)), (9, .c (.ptr 5 0)), (14, .c (.int .i64 x1)), (16, .c (.int .i64 x2))], [(0, .cells 225 [.int .i64 x3, .own 1, .int .u64 x4, .int .u64 x5, .own 2]), (1, .vec 3 (.int .i64) x6 false), (2, .vec 5 (.int .u8) x7 true), (3, .cells 46 [.int .i64 x8, .int .i64 x9, .int .i64 x10, .bool x11, .int .i64 x12]), (4, .cells 39 [.int .i64 x13, .int .i64 x14, .sl (.int .u8) x15]), (5, .cells 39 [.int .i64 x16, .int .i64 x17, .sl (.int .u8) x18])], 6, 3⟩
noncomputable def E129_6c1_4 (K : Ev.Ex → Ev.St → Option Ans) : (Int × Int × Int × (List Int) × (List Int) → Option Ans) := (fun v => match v with | (x0, x1, x2, x3, x4) => K .normal ⟨[], [(0, .cells 225 [.int .i64 x0, .own 1, .int .u64 x1, .int .u64 x2, .own 2]), (1, .vec 3 (.int .i64) x3 false), (2, .vec 5 (.int .u8) x4 true)], 3, 3⟩)
theorem S129_6c1_4_okg (fuel : Nat) (f86 : YF86) (f109 : YF109) (f120 : YF120) (f122 : YF122) (f124 : YF124) (f125 : YF125) (f126 : YF126) (f187_2fe : YF187_2fe) (f188_e89 : YF188_e89) (R : Ev.St → Option Ans) (K : Ev.Ex → Ev.St → Option Ans) (x0 x1 : Int) (x2 x3 : Int) (x4 x5 : Int) (x6 x7 : (List Int)) (x8 x9 x10 : Int) (x11 : Bool) (x12 x13 x14 : Int) (x15 : (List Int)) (x16 x17 : Int) (x18 : (List Int)) : evalCode tab (Gg129_6c1 f86 f109 f120 f122 f124 f125 f126 f187_2fe f188_e89) (J129_6c1_4 fuel) kp129_6c1 fuel (bodyOf 4 Try.f129) (T129_6c1_4 (x0, x1, x2, x3, x4, x5, x6, x7, x8, x9, x10, x11, x12, x13, x14, x15, x16, x17, x18)) (lc kp129_6c1 18 4 R K) = Sg_ref07_Put_6c1_4 fuel f86 f109 f120 f122 f124 f125 f126 f187_2fe f188_e89 x0 x1 x2 x3 x4 x5 x6 x7 x8 x9 x10 x11 x12 x13 x14 x15 x16 x17 x18 (fun v => R (T129_6c1_4 v)) (E129_6c1_4 K) := by
  kernel_rfl
theorem S129_6c1_4_ok (fuel : Nat) (R : Ev.St → Option Ans) (K : Ev.Ex → Ev.St → Option Ans) (x0 x1 : Int) (x2 x3 : Int) (x4 x5 : Int) (x6 x7 : (List Int)) (x8 x9 x10 : Int) (x11 : Bool) (x12 x13 x14 : Int) (x15 : (List Int)) (x16 x17 : Int) (x18 : (List Int)) : evalCode tab (G129_6c1 fuel) (J129_6c1_4 fuel) kp129_6c1 fuel (bodyOf 4 Try.f129) (T129_6c1_4 (x0, x1, x2, x3, x4, x5, x6, x7, x8, x9, x10, x11, x12, x13, x14, x15, x16, x17, x18)) (lc kp129_6c1 18 4 R K) = S_ref07_Put_6c1_4 fuel (x0, x1, x2, x3, x4, x5, x6, x7, x8, x9, x10, x11, x12, x13, x14, x15, x16, x17, x18) (fun v => R (T129_6c1_4 v)) (E129_6c1_4 K) :=
  S129_6c1_4_okg fuel (F_ref05_Valid fuel) (F_ref07_Valid fuel) (F_ref07_room fuel) (F_ref07_Size fuel) (F_ref07_typical fuel) (F_ref05_At fuel) (F_ref07_context fuel) (F_ref02_Encoder_Model_2fe fuel) (F_ref02_Encoder_Put_e89 fuel) R K x0 x1 x2 x3 x4 x5 x6 x7 x8 x9 x10 x11 x12 x13 x14 x15 x16 x17 x18
noncomputable def B129_6c1_4 (fuel : Nat) : Ev.Blk := fun st K => match canonO (kp129_6c1 18) st with
 | some s => (match s with
 | ⟨[(q0, .c (.ptr q1 q2)), (q3, .c (.int .i64 x0)), (q4, .c (.ptr q5 q6)), (q7, .c (.ptr q8 q9)), (q10, .c (.ptr q11 q12)), (q13, .c (.int .i64 x1)), (q14, .c (.int .i64 x2))], [(q15, .cells q16 [.int .i64 x3, .own q17, .int .u64 x4, .int .u64 x5, .own q18]), (q19, .vec q20 (.int .i64) x6 false), (q21, .vec q22 (.int .u8) x7 true), (q23, .cells q24 [.int .i64 x8, .int .i64 x9, .int .i64 x10, .bool x11, .int .i64 x12]), (q25, .cells q26 [.int .i64 x13, .int .i64 x14, .sl (.int .u8) x15]), (q27, .cells q28 [.int .i64 x16, .int .i64 x17, .sl (.int .u8) x18])], q29, q30⟩ => bif Nat.beq q0 0 && Nat.beq q1 0 && Nat.beq q2 0 && Nat.beq q3 1 && Nat.beq q4 7 && Nat.beq q5 3 && Nat.beq q6 0 && Nat.beq q7 8 && Nat.beq q8 4 && Nat.beq q9 0 && Nat.beq q10 9 && Nat.beq q11 5 && Nat.beq q12 0 && Nat.beq q13 14 && Nat.beq q14 16 && Nat.beq q15 0 && Nat.beq q16 225 && Nat.beq q17 1 && Nat.beq q18 2 && Nat.beq q19 1 && Nat.beq q20 3 && Nat.beq q21 2 && Nat.beq q22 5 && Nat.beq q23 3 && Nat.beq q24 46 && Nat.beq q25 4 && Nat.beq q26 39 && Nat.beq q27 5 && Nat.beq q28 39 && Nat.beq q29 6 && Nat.beq q30 3 then iter (S_ref07_Put_6c1_4 fuel) fuel (x0, x1, x2, x3, x4, x5, x6, x7, x8, x9, x10, x11, x12, x13, x14, x15, x16, x17, x18) (E129_6c1_4 K) else none
 | _ => none)
 | none => none
theorem B129_6c1_4_ok (fuel : Nat) (st : Ev.St) (K : Ev.Ex → Ev.St → Option Ans) (r : Ans) (h : B129_6c1_4 fuel st K = some r) : evalCode tab (G129_6c1 fuel) (J129_6c1_4 fuel) kp129_6c1 fuel (.block 4 (.loop (bodyOf 4 Try.f129))) st K = some r := by
  unfold B129_6c1_4 at h
  split at h
  · rename_i s hs
    split at h
    · skip
      obtain ⟨hb, h⟩ := cond_some' h
      simp only [Bool.and_eq_true, Nat.beq_eq, decide_eq_true_eq] at hb
      obtain ⟨⟨⟨⟨⟨⟨⟨⟨⟨⟨⟨⟨⟨⟨⟨⟨⟨⟨⟨⟨⟨⟨⟨⟨⟨⟨⟨⟨⟨⟨rfl, rfl⟩, rfl⟩, rfl⟩, rfl⟩, rfl⟩, rfl⟩, rfl⟩, rfl⟩, rfl⟩, rfl⟩, rfl⟩, rfl⟩, rfl⟩, rfl⟩, rfl⟩, rfl⟩, rfl⟩, rfl⟩, rfl⟩, rfl⟩, rfl⟩, rfl⟩, rfl⟩, rfl⟩, rfl⟩, rfl⟩, rfl⟩, rfl⟩, rfl⟩, rfl⟩ := hb
      exact blk_loop (S := T129_6c1_4) (ks := E129_6c1_4) (step := S_ref07_Put_6c1_4 fuel) (v := (_, _, _, _, _, _, _, _, _, _, _, _, _, _, _, _, _, _, _)) (by kernel_rfl) (by kernel_rfl) (fun R K v => by obtain ⟨x0, x1, x2, x3, x4, x5, x6, x7, x8, x9, x10, x11, x12, x13, x14, x15, x16, x17, x18⟩ := v; exact S129_6c1_4_ok fuel R K x0 x1 x2 x3 x4 x5 x6 x7 x8 x9 x10 x11 x12 x13 x14 x15 x16 x17 x18) hs h
    · cases h
  · cases h
noncomputable def J129_6c1 (fuel : Nat) (i : Nat) : Option Ev.Blk := Ev.look i [(100002, B129_6c1_2 fuel), (100000, B129_6c1_0 fuel), (100006, B129_6c1_6 fuel), (100004, B129_6c1_4 fuel)]
noncomputable def Fg_ref07_Put_6c1 (fuel : Nat) (f86 : YF86) (f109 : YF109) (f120 : YF120) (f122 : YF122) (f124 : YF124) (f125 : YF125) (f126 : YF126) (f187_2fe : YF187_2fe) (f188_e89 : YF188_e89) (x0 x1 : Int) (x2 x3 : Int) (x4 : Bool) (x5 x6 x7 : Int) (x8 : (List Int)) (x9 x10 : Int) (x11 : (List Int)) (x12 x13 x14 : Int) (x15 x16 : (List Int)) (k0 : (Int × Int × Int × Int × (List Int) × (List Int)) → Option Ans) (k1 : (Int × Int × Int × Int × (List Int) × (List Int)) → Option Ans) : Option Ans :=
  (f109 (x1) (x2) (x3) (x4) (x5)
  (fun y2 =>
  bif !y2 then
  k0 ((2 : Int), x12, x13, x14, x15, x16)
  else
  (f86 (x6) (x7) (x8)
  (fun y7 =>
  bif !y7 then
  k0 ((30 : Int), x12, x13, x14, x15, x16)
  else
  (f86 (x9) (x10) (x11)
  (fun y12 =>
  bif !y12 then
  k0 ((30 : Int), x12, x13, x14, x15, x16)
  else
  (L_ref07_Put_6c1_0 fuel (x0, (0 : Int), x12, x13, x14, x15, x16, x1, x2, x3, x4, x5, x6, x7, x8, x9, x10, x11)
  (fun (ret0_0, ret0_1, ret0_2, ret0_3, ret0_4, ret0_5) =>
  k0 (ret0_0, ret0_1, ret0_2, ret0_3, ret0_4, ret0_5))
  (fun (b0_0, b0_1, b0_2, b0_3, b0_4, b0_5, b0_6, b0_7, b0_8, b0_9, b0_10, b0_11, b0_12, b0_13, b0_14, b0_15, b0_16) =>
  (f187_2fe (b0_1) (b0_2) (b0_3) (b0_4) (b0_5)
  (fun (y21_0, y21_1, y21_2, y21_3, y21_4, y21_5, y21_6) =>
  (f120 (b0_6) (b0_7) (b0_8) (b0_9) (b0_10) (b0_0) ((↑y21_6.length : Int)) (b0_11) (b0_12) (b0_14) (b0_15) (b0_16)
  (fun y25 =>
  bif y25 != (0 : Int) then
  k0 (y25, y21_1, y21_2, y21_3, y21_4, y21_5)
  else
  (f122 (b0_6) (b0_7) (b0_8) (b0_9) (b0_10)
  (fun (y30_0, y30_1) =>
  (L_ref07_Put_6c1_4 fuel (b0_0, y30_0, (0 : Int), y21_1, y21_2, y21_3, y21_4, y21_5, b0_6, b0_7, b0_8, b0_9, b0_10, b0_11, b0_12, b0_13, b0_14, b0_15, b0_16)
  (fun (b4_0, b4_1, b4_2, b4_3, b4_4) =>
  k1 ((0 : Int), b4_0, b4_1, b4_2, b4_3, b4_4)))))))))))))))))
noncomputable def F_ref07_Put_6c1 (fuel : Nat) (x0 x1 : Int) (x2 x3 : Int) (x4 : Bool) (x5 x6 x7 : Int) (x8 : (List Int)) (x9 x10 : Int) (x11 : (List Int)) (x12 x13 x14 : Int) (x15 x16 : (List Int)) (k0 : (Int × Int × Int × Int × (List Int) × (List Int)) → Option Ans) (k1 : (Int × Int × Int × Int × (List Int) × (List Int)) → Option Ans) : Option Ans := Fg_ref07_Put_6c1 fuel (F_ref05_Valid fuel) (F_ref07_Valid fuel) (F_ref07_room fuel) (F_ref07_Size fuel) (F_ref07_typical fuel) (F_ref05_At fuel) (F_ref07_context fuel) (F_ref02_Encoder_Model_2fe fuel) (F_ref02_Encoder_Put_e89 fuel) x0 x1 x2 x3 x4 x5 x6 x7 x8 x9 x10 x11 x12 x13 x14 x15 x16 k0 k1
abbrev YF129_6c1 : Type := (Int) → (Int) → (Int) → (Int) → (Bool) → (Int) → (Int) → (Int) → ((List Int)) → (Int) → (Int) → ((List Int)) → (Int) → (Int) → (Int) → ((List Int)) → ((List Int)) → ((Int × Int × Int × Int × (List Int) × (List Int)) → Option Ans) → ((Int × Int × Int × Int × (List Int) × (List Int)) → Option Ans) → Option Ans
theorem F129_6c1_eqg (fuel : Nat) (f86 : YF86) (f109 : YF109) (f120 : YF120) (f122 : YF122) (f124 : YF124) (f125 : YF125) (f126 : YF126) (f187_2fe : YF187_2fe) (f188_e89 : YF188_e89) (x0 x1 : Int) (x2 x3 : Int) (x4 : Bool) (x5 x6 x7 : Int) (x8 : (List Int)) (x9 x10 : Int) (x11 : (List Int)) (x12 x13 x14 : Int) (x15 x16 : (List Int)) (k : Ev.Cont) : evalFn tab (Gg129_6c1 f86 f109 f120 f122 f124 f125 f126 f187_2fe f188_e89) (J129_6c1 fuel) kp129_6c1 fuel Try.f129 [.c (.ptr 0 0), .c (.int .i64 x0), .agg [.int .i64 x1, .int .i64 x2, .int .i64 x3, .bool x4, .int .i64 x5], .agg [.int .i64 x6, .int .i64 x7, .sl (.int .u8) x8], .agg [.int .i64 x9, .int .i64 x10, .sl (.int .u8) x11]] [.cells 225 [.int .i64 x12, .own 1, .int .u64 x13, .int .u64 x14, .own 2], .vec 3 (.int .i64) x15 false, .vec 5 (.int .u8) x16 false] k = Fg_ref07_Put_6c1 fuel f86 f109 f120 f122 f124 f125 f126 f187_2fe f188_e89 x0 x1 x2 x3 x4 x5 x6 x7 x8 x9 x10 x11 x12 x13 x14 x15 x16 (fun r => match r with | (r0, r1, r2, r3, r4, r5) => k (.c (.int .i64 r0), [.cells 225 [.int .i64 r1, .own 1, .int .u64 r2, .int .u64 r3, .own 2], .vec 3 (.int .i64) r4 false, .vec 5 (.int .u8) r5 false])) (fun r => match r with | (r0, r1, r2, r3, r4, r5) => k (.c (.int .i64 r0), [.cells 225 [.int .i64 r1, .own 1, .int .u64 r2, .int .u64 r3, .own 2], .vec 3 (.int .i64) r4 false, .vec 5 (.int .u8) r5 true])) := by
  kernel_rfl
theorem F129_6c1_eq (fuel : Nat) (x0 x1 : Int) (x2 x3 : Int) (x4 : Bool) (x5 x6 x7 : Int) (x8 : (List Int)) (x9 x10 : Int) (x11 : (List Int)) (x12 x13 x14 : Int) (x15 x16 : (List Int)) (k : Ev.Cont) : evalFn tab (G129_6c1 fuel) (J129_6c1 fuel) kp129_6c1 fuel Try.f129 [.c (.ptr 0 0), .c (.int .i64 x0), .agg [.int .i64 x1, .int .i64 x2, .int .i64 x3, .bool x4, .int .i64 x5], .agg [.int .i64 x6, .int .i64 x7, .sl (.int .u8) x8], .agg [.int .i64 x9, .int .i64 x10, .sl (.int .u8) x11]] [.cells 225 [.int .i64 x12, .own 1, .int .u64 x13, .int .u64 x14, .own 2], .vec 3 (.int .i64) x15 false, .vec 5 (.int .u8) x16 false] k = F_ref07_Put_6c1 fuel x0 x1 x2 x3 x4 x5 x6 x7 x8 x9 x10 x11 x12 x13 x14 x15 x16 (fun r => match r with | (r0, r1, r2, r3, r4, r5) => k (.c (.int .i64 r0), [.cells 225 [.int .i64 r1, .own 1, .int .u64 r2, .int .u64 r3, .own 2], .vec 3 (.int .i64) r4 false, .vec 5 (.int .u8) r5 false])) (fun r => match r with | (r0, r1, r2, r3, r4, r5) => k (.c (.int .i64 r0), [.cells 225 [.int .i64 r1, .own 1, .int .u64 r2, .int .u64 r3, .own 2], .vec 3 (.int .i64) r4 false, .vec 5 (.int .u8) r5 true])) :=
  F129_6c1_eqg fuel (F_ref05_Valid fuel) (F_ref07_Valid fuel) (F_ref07_room fuel) (F_ref07_Size fuel) (F_ref07_typical fuel) (F_ref05_At fuel) (F_ref07_context fuel) (F_ref02_Encoder_Model_2fe fuel) (F_ref02_Encoder_Put_e89 fuel) x0 x1 x2 x3 x4 x5 x6 x7 x8 x9 x10 x11 x12 x13 x14 x15 x16 k
theorem hG129_6c1 (fuel : Nat) : GOK Try.prog (G129_6c1 fuel) :=
  gok_cons ⟨ok86 fuel, enters_of Try.func86 (by kernel_rfl) rfl⟩ <|
  gok_cons ⟨ok109 fuel, enters_of Try.func109 (by kernel_rfl) rfl⟩ <|
  gok_cons ⟨ok120 fuel, enters_of Try.func120 (by kernel_rfl) rfl⟩ <|
  gok_cons ⟨ok122 fuel, enters_of Try.func122 (by kernel_rfl) rfl⟩ <|
  gok_cons ⟨ok124 fuel, enters_of Try.func124 (by kernel_rfl) rfl⟩ <|
  gok_cons ⟨ok125 fuel, enters_of Try.func125 (by kernel_rfl) rfl⟩ <|
  gok_cons ⟨ok126 fuel, enters_of Try.func126 (by kernel_rfl) rfl⟩ <|
  gok_cons ⟨ok187_2fe fuel, enters_of Try.func187 (by kernel_rfl) rfl⟩ <|
  gok_cons ⟨ok188_e89 fuel, enters_of Try.func188 (by kernel_rfl) rfl⟩ <|
  gok_nil
theorem B129_6c1_2_blk (fuel : Nat) : BlkOK Try.prog Try.f129.ntmps (.block 2 (.loop (bodyOf 2 Try.f129))) (B129_6c1_2 fuel) :=
  blk_of (blk_of_code tab_ok (hG129_6c1 fuel) mixed (J := J129_6c1_2 fuel) (kp := kp129_6c1) (fuel := fuel) (by kernel_rfl) (fun q hq => by
    rw [(by kernel_rfl : obl (J129_6c1_2 fuel) (.block 2 (.loop (bodyOf 2 Try.f129))) = [])] at hq
    cases hq)) (B129_6c1_2_ok fuel)
theorem B129_6c1_0_blk (fuel : Nat) : BlkOK Try.prog Try.f129.ntmps (.block 0 (.loop (bodyOf 0 Try.f129))) (B129_6c1_0 fuel) :=
  blk_of (blk_of_code tab_ok (hG129_6c1 fuel) mixed (J := J129_6c1_0 fuel) (kp := kp129_6c1) (fuel := fuel) (by kernel_rfl) (fun q hq => by
    rw [(by kernel_rfl : obl (J129_6c1_0 fuel) (.block 0 (.loop (bodyOf 0 Try.f129))) = [(.block 2 (.loop (bodyOf 2 Try.f129)), B129_6c1_2 fuel)])] at hq
    simp only [List.mem_cons, List.not_mem_nil, or_false] at hq
    subst hq
    · exact B129_6c1_2_blk fuel)) (B129_6c1_0_ok fuel)
theorem B129_6c1_6_blk (fuel : Nat) : BlkOK Try.prog Try.f129.ntmps (.block 6 (.loop (bodyOf 6 Try.f129))) (B129_6c1_6 fuel) :=
  blk_of (blk_of_code tab_ok (hG129_6c1 fuel) mixed (J := J129_6c1_6 fuel) (kp := kp129_6c1) (fuel := fuel) (by kernel_rfl) (fun q hq => by
    rw [(by kernel_rfl : obl (J129_6c1_6 fuel) (.block 6 (.loop (bodyOf 6 Try.f129))) = [])] at hq
    cases hq)) (B129_6c1_6_ok fuel)
theorem B129_6c1_4_blk (fuel : Nat) : BlkOK Try.prog Try.f129.ntmps (.block 4 (.loop (bodyOf 4 Try.f129))) (B129_6c1_4 fuel) :=
  blk_of (blk_of_code tab_ok (hG129_6c1 fuel) mixed (J := J129_6c1_4 fuel) (kp := kp129_6c1) (fuel := fuel) (by kernel_rfl) (fun q hq => by
    rw [(by kernel_rfl : obl (J129_6c1_4 fuel) (.block 4 (.loop (bodyOf 4 Try.f129))) = [(.block 6 (.loop (bodyOf 6 Try.f129)), B129_6c1_6 fuel)])] at hq
    simp only [List.mem_cons, List.not_mem_nil, or_false] at hq
    subst hq
    · exact B129_6c1_6_blk fuel)) (B129_6c1_4_ok fuel)
theorem fok129_6c1 (fuel : Nat) : FnOK Try.prog 129 (evalFn tab (G129_6c1 fuel) (J129_6c1 fuel) kp129_6c1 fuel Try.f129) :=
  fn_ok tab_ok (hG129_6c1 fuel) mixed Try.func129 (c := (Try.f129.body).getD .skip) rfl (fun q hq => by
    rw [(by kernel_rfl : obl (J129_6c1 fuel) ((Try.f129.body).getD .skip) = [(.block 0 (.loop (bodyOf 0 Try.f129)), B129_6c1_0 fuel), (.block 4 (.loop (bodyOf 4 Try.f129)), B129_6c1_4 fuel)])] at hq
    simp only [List.mem_cons, List.not_mem_nil, or_false] at hq
    rcases hq with rfl | rfl
    · exact B129_6c1_0_blk fuel
    · exact B129_6c1_4_blk fuel)
noncomputable def mt129_6c1 : List Ev.SV → List Ev.Ob → Bool := fun args objs => match args, objs with
 | [.c (.ptr q0 q1), .c (.int .i64 _), .agg [.int .i64 _, .int .i64 _, .int .i64 _, .bool _, .int .i64 _], .agg [.int .i64 _, .int .i64 _, .sl (.int .u8) _], .agg [.int .i64 _, .int .i64 _, .sl (.int .u8) _]], [.cells q2 [.int .i64 _, .own q3, .int .u64 _, .int .u64 _, .own q4], .vec q5 (.int .i64) _ false, .vec q6 (.int .u8) _ false] => Nat.beq q0 0 && Nat.beq q1 0 && Nat.beq q2 225 && Nat.beq q3 1 && Nat.beq q4 2 && Nat.beq q5 3 && Nat.beq q6 5
 | _, _ => false
noncomputable def spg129_6c1 (F : YF129_6c1) : Ev.Spec := fun args objs k => match args, objs with
 | [.c (.ptr q0 q1), .c (.int .i64 x0), .agg [.int .i64 x1, .int .i64 x2, .int .i64 x3, .bool x4, .int .i64 x5], .agg [.int .i64 x6, .int .i64 x7, .sl (.int .u8) x8], .agg [.int .i64 x9, .int .i64 x10, .sl (.int .u8) x11]], [.cells q2 [.int .i64 x12, .own q3, .int .u64 x13, .int .u64 x14, .own q4], .vec q5 (.int .i64) x15 false, .vec q6 (.int .u8) x16 false] => bif Nat.beq q0 0 && Nat.beq q1 0 && Nat.beq q2 225 && Nat.beq q3 1 && Nat.beq q4 2 && Nat.beq q5 3 && Nat.beq q6 5 then F x0 x1 x2 x3 x4 x5 x6 x7 x8 x9 x10 x11 x12 x13 x14 x15 x16 (fun r => match r with | (r0, r1, r2, r3, r4, r5) => k (.c (.int .i64 r0), [.cells 225 [.int .i64 r1, .own 1, .int .u64 r2, .int .u64 r3, .own 2], .vec 3 (.int .i64) r4 false, .vec 5 (.int .u8) r5 false])) (fun r => match r with | (r0, r1, r2, r3, r4, r5) => k (.c (.int .i64 r0), [.cells 225 [.int .i64 r1, .own 1, .int .u64 r2, .int .u64 r3, .own 2], .vec 3 (.int .i64) r4 false, .vec 5 (.int .u8) r5 true])) else none
 | _, _ => none
noncomputable def spec129_6c1 (fuel : Nat) : Ev.Spec := spg129_6c1 (F_ref07_Put_6c1 fuel)
theorem ok129_6c1 (fuel : Nat) : FnOK Try.prog 129 (spec129_6c1 fuel) := by
  intro args objs kk r h
  unfold spec129_6c1 spg129_6c1 at h
  split at h
  · skip
    obtain ⟨hb, h⟩ := cond_some' h
    simp only [Bool.and_eq_true, Nat.beq_eq, decide_eq_true_eq] at hb
    obtain ⟨⟨⟨⟨⟨⟨rfl, rfl⟩, rfl⟩, rfl⟩, rfl⟩, rfl⟩, rfl⟩ := hb
    exact fok129_6c1 fuel _ _ kk r ((F129_6c1_eq fuel _ _ _ _ _ _ _ _ _ _ _ _ _ _ _ _ _ kk).trans h)
  · cases h
end Go.Proofs.Ytihfgpfofmjbaaa

set_option linter.unusedVariables false
set_option linter.unusedSimpArgs false
set_option maxRecDepth 100000
set_option maxHeartbeats 2000000
namespace Go.Proofs.Ytihfgpfofmjbaaa
open Go Ev
def kp47 (i : Nat) : Option (List Nat) := Ev.look i []
noncomputable def Gg47 (f43 : YF43) (f122 : YF122) (f128 : YF128) (f129_6c1 : YF129_6c1) (f130_2fe : YF130_2fe) (f : Nat) : Option Ev.Spec := Ev.look f [(43, spg43 f43), (122, spg122 f122), (128, spg128 f128), (129, spg129_6c1 f129_6c1), (130, spg130_2fe f130_2fe)]
noncomputable def G47 (fuel : Nat) : Nat → Option Ev.Spec := Gg47 (F_ref02_New fuel) (F_ref07_Size fuel) (F_ref02_NewEncoder fuel) (F_ref07_Put_6c1 fuel) (F_ref02_Encoder_End_2fe fuel)
noncomputable def J47 (fuel : Nat) (i : Nat) : Option Ev.Blk := Ev.look i []
noncomputable def Fg_ref07_Encode (fuel : Nat) (f43 : YF43) (f122 : YF122) (f128 : YF128) (f129_6c1 : YF129_6c1) (f130_2fe : YF130_2fe) (x0 x1 x2 : Int) (x3 : Bool) (x4 x5 x6 : Int) (x7 : (List Int)) (k0 : (Int × (List Int)) → Option Ans) : Option Ans :=
  (f122 (x0) (x1) (x2) (x3) (x4)
  (fun (y2_0, y2_1) =>
  bif y2_1 != (0 : Int) then
  k0 (y2_1, [])
  else
  (f43 (x4) (y2_0)
  (fun (y7_0, y7_1, y7_2) =>
  (f128 (y7_0) (y7_2)
  (fun y11 =>
  none)
  (fun (y11_0, y11_1, y11_2, y11_3, y11_4, y11_5) =>
  (f129_6c1 ((0 : Int)) (x0) (x1) (x2) (x3) (x4) (x5) (x6) (x7) ((0 : Int)) ((0 : Int)) ([]) (y11_1) (y11_2) (y11_3) (y11_4) (y11_5)
  (fun (y15_0, y15_1, y15_2, y15_3, y15_4, y15_5) =>
  bif y15_0 != (0 : Int) then
  k0 (y15_0, [])
  else
  (f130_2fe (y15_1) (y15_2) (y15_3) (y15_4) (y15_5)
  (fun (y20_0, y20_1, y20_2, y20_3, y20_4, y20_5) =>
  k0 ((0 : Int), y20_5))))
  (fun (y15_0, y15_1, y15_2, y15_3, y15_4, y15_5) =>
  bif y15_0 != (0 : Int) then
  k0 (y15_0, [])
  else
  (f130_2fe (y15_1) (y15_2) (y15_3) (y15_4) (y15_5)
  (fun (y20_0, y20_1, y20_2, y20_3, y20_4, y20_5) =>
  k0 ((0 : Int), y20_5)))))))))))
noncomputable def F_ref07_Encode (fuel : Nat) (x0 x1 x2 : Int) (x3 : Bool) (x4 x5 x6 : Int) (x7 : (List Int)) (k0 : (Int × (List Int)) → Option Ans) : Option Ans := Fg_ref07_Encode fuel (F_ref02_New fuel) (F_ref07_Size fuel) (F_ref02_NewEncoder fuel) (F_ref07_Put_6c1 fuel) (F_ref02_Encoder_End_2fe fuel) x0 x1 x2 x3 x4 x5 x6 x7 k0
abbrev YF47 : Type := (Int) → (Int) → (Int) → (Bool) → (Int) → (Int) → (Int) → ((List Int)) → ((Int × (List Int)) → Option Ans) → Option Ans
theorem F47_eqg (fuel : Nat) (f43 : YF43) (f122 : YF122) (f128 : YF128) (f129_6c1 : YF129_6c1) (f130_2fe : YF130_2fe) (x0 x1 x2 : Int) (x3 : Bool) (x4 x5 x6 : Int) (x7 : (List Int)) (k : Ev.Cont) : evalFn tab (Gg47 f43 f122 f128 f129_6c1 f130_2fe) (J47 fuel) kp47 fuel Try.f47 [.agg [.int .i64 x0, .int .i64 x1, .int .i64 x2, .bool x3, .int .i64 x4], .agg [.int .i64 x5, .int .i64 x6, .sl (.int .u8) x7]] [] k = Fg_ref07_Encode fuel f43 f122 f128 f129_6c1 f130_2fe x0 x1 x2 x3 x4 x5 x6 x7 (fun r => match r with | (r0, r1) => k (.tup [(false, [.own 0]), (false, [.int .i64 r0])], [.vec 5 (.int .u8) r1 true])) := by
  kernel_rfl
theorem F47_eq (fuel : Nat) (x0 x1 x2 : Int) (x3 : Bool) (x4 x5 x6 : Int) (x7 : (List Int)) (k : Ev.Cont) : evalFn tab (G47 fuel) (J47 fuel) kp47 fuel Try.f47 [.agg [.int .i64 x0, .int .i64 x1, .int .i64 x2, .bool x3, .int .i64 x4], .agg [.int .i64 x5, .int .i64 x6, .sl (.int .u8) x7]] [] k = F_ref07_Encode fuel x0 x1 x2 x3 x4 x5 x6 x7 (fun r => match r with | (r0, r1) => k (.tup [(false, [.own 0]), (false, [.int .i64 r0])], [.vec 5 (.int .u8) r1 true])) :=
  F47_eqg fuel (F_ref02_New fuel) (F_ref07_Size fuel) (F_ref02_NewEncoder fuel) (F_ref07_Put_6c1 fuel) (F_ref02_Encoder_End_2fe fuel) x0 x1 x2 x3 x4 x5 x6 x7 k
theorem hG47 (fuel : Nat) : GOK Try.prog (G47 fuel) :=
  gok_cons ⟨ok43 fuel, enters_of Try.func43 (by kernel_rfl) rfl⟩ <|
  gok_cons ⟨ok122 fuel, enters_of Try.func122 (by kernel_rfl) rfl⟩ <|
  gok_cons ⟨ok128 fuel, enters_of Try.func128 (by kernel_rfl) rfl⟩ <|
  gok_cons ⟨ok129_6c1 fuel, enters_of Try.func129 (by kernel_rfl) rfl⟩ <|
  gok_cons ⟨ok130_2fe fuel, enters_of Try.func130 (by kernel_rfl) rfl⟩ <|
  gok_nil
theorem fok47 (fuel : Nat) : FnOK Try.prog 47 (evalFn tab (G47 fuel) (J47 fuel) kp47 fuel Try.f47) :=
  fn_ok tab_ok (hG47 fuel) mixed Try.func47 (c := (Try.f47.body).getD .skip) rfl (fun q hq => by
    rw [(by kernel_rfl : obl (J47 fuel) ((Try.f47.body).getD .skip) = [])] at hq
    cases hq)
noncomputable def mt47 : List Ev.SV → List Ev.Ob → Bool := fun args objs => match args, objs with
 | [.agg [.int .i64 _, .int .i64 _, .int .i64 _, .bool _, .int .i64 _], .agg [.int .i64 _, .int .i64 _, .sl (.int .u8) _]], [] => true
 | _, _ => false
noncomputable def spg47 (F : YF47) : Ev.Spec := fun args objs k => match args, objs with
 | [.agg [.int .i64 x0, .int .i64 x1, .int .i64 x2, .bool x3, .int .i64 x4], .agg [.int .i64 x5, .int .i64 x6, .sl (.int .u8) x7]], [] => bif true then F x0 x1 x2 x3 x4 x5 x6 x7 (fun r => match r with | (r0, r1) => k (.tup [(false, [.own 0]), (false, [.int .i64 r0])], [.vec 5 (.int .u8) r1 true])) else none
 | _, _ => none
noncomputable def spec47 (fuel : Nat) : Ev.Spec := spg47 (F_ref07_Encode fuel)
theorem ok47 (fuel : Nat) : FnOK Try.prog 47 (spec47 fuel) := by
  intro args objs kk r h
  unfold spec47 spg47 at h
  split at h
  · skip
    obtain ⟨hb, h⟩ := cond_some' h
    simp only [Bool.and_eq_true, Nat.beq_eq, decide_eq_true_eq] at hb
    clear hb
    exact fok47 fuel _ _ kk r ((F47_eq fuel _ _ _ _ _ _ _ _ kk).trans h)
  · cases h
end Go.Proofs.Ytihfgpfofmjbaaa

set_option linter.unusedVariables false
set_option linter.unusedSimpArgs false
set_option maxRecDepth 100000
set_option maxHeartbeats 2000000
namespace Go.Proofs.Ytihfgpfofmjbaaa
open Go Ev
def kp10 (i : Nat) : Option (List Nat) := Ev.look i []
noncomputable def Gg10 (f26 : YF26) (f27 : YF27) (f30 : YF30) (f47 : YF47) (f48 : YF48) (f : Nat) : Option Ev.Spec := Ev.look f [(26, spg26 f26), (27, spg27 f27), (30, spg30 f30), (47, spg47 f47), (48, spg48 f48)]
noncomputable def G10 (fuel : Nat) : Nat → Option Ev.Spec := Gg10 (F_ref05_Same fuel) (F_law07_Sane fuel) (F_generic_Encode fuel) (F_ref07_Encode fuel) (F_generic_Decode fuel)
noncomputable def J10 (fuel : Nat) (i : Nat) : Option Ev.Blk := Ev.look i []
noncomputable def Fg_law07_GenericEncodes (fuel : Nat) (f26 : YF26) (f27 : YF27) (f30 : YF30) (f47 : YF47) (f48 : YF48) (x0 x1 x2 : Int) (x3 : Bool) (x4 x5 x6 : Int) (x7 : (List Int)) (x8 : Int) (k0 : (Bool) → Option Ans) : Option Ans :=
  bif decide ((↑x7.length : Int) > (1200 : Int)) then
  bif decide ((↑x7.length : Int) ≤ (20000 : Int)) then
  (f27
  (fun y4 =>
  k0 y4))
  else
  bif decide ((↑x7.length : Int) > (20000 : Int)) then
  (f27
  (fun y5 =>
  k0 y5))
  else
  (f30 (x0) (x1) (x2) (x3) (x4) (x5) (x6) (x7)
  (fun (y5_0, y5_1) =>
  (f47 (x0) (x1) (x2) (x3) (x4) (x5) (x6) (x7)
  (fun (y9_0, y9_1) =>
  bif y5_0 != y9_0 then
  k0 false
  else
  bif !(Go.strOfNums y5_1).toList == (Go.strOfNums y9_1).toList then
  k0 false
  else
  bif y5_0 != (0 : Int) then
  (f27
  (fun y16 =>
  k0 y16))
  else
  bif decide (((0 : Int) ≤ bif decide ((9 : Int) < bif decide ((0 : Int) > x8) then (0 : Int) else x8) then (9 : Int) else bif decide ((0 : Int) > x8) then (0 : Int) else x8) ∧ (↑(y5_1.length + (bif decide ((9 : Int) < bif decide ((0 : Int) > x8) then (0 : Int) else x8) then (9 : Int) else bif decide ((0 : Int) > x8) then (0 : Int) else x8).toNat) : Int) * (↑(1 : Nat) : Int) ≤ (140737488355328 : Int) ∧ y5_1.length + (bif decide ((9 : Int) < bif decide ((0 : Int) > x8) then (0 : Int) else x8) then (9 : Int) else bif decide ((0 : Int) > x8) then (0 : Int) else x8).toNat ≤ (140737488355328 : Nat)) then
  (f48 (x0) (x1) (x2) (x3) (x4) (y5_1 ++ List.replicate (bif decide ((9 : Int) < bif decide ((0 : Int) > x8) then (0 : Int) else x8) then (9 : Int) else bif decide ((0 : Int) > x8) then (0 : Int) else x8).toNat (0 : Ev.D (Ev.Ty.int IntKind.u8))) (x5) (x6)
  (fun (y17_0, y17_1, y17_2, y17_3) =>
  bif y17_2 == (0 : Int) then
  (f26 (y17_0) (y17_1) (y17_3) (x5) (x6) (x7)
  (fun y22 =>
  bif y22 then
  (f27
  (fun y27 =>
  k0 y27))
  else
  k0 false))
  else
  k0 false))
  else none))))
  else
  bif decide ((↑x7.length : Int) > (20000 : Int)) then
  (f27
  (fun y4 =>
  k0 y4))
  else
  (f30 (x0) (x1) (x2) (x3) (x4) (x5) (x6) (x7)
  (fun (y4_0, y4_1) =>
  (f47 (x0) (x1) (x2) (x3) (x4) (x5) (x6) (x7)
  (fun (y8_0, y8_1) =>
  bif y4_0 != y8_0 then
  k0 false
  else
  bif !(Go.strOfNums y4_1).toList == (Go.strOfNums y8_1).toList then
  k0 false
  else
  bif y4_0 != (0 : Int) then
  (f27
  (fun y15 =>
  k0 y15))
  else
  bif decide (((0 : Int) ≤ bif decide ((9 : Int) < bif decide ((0 : Int) > x8) then (0 : Int) else x8) then (9 : Int) else bif decide ((0 : Int) > x8) then (0 : Int) else x8) ∧ (↑(y4_1.length + (bif decide ((9 : Int) < bif decide ((0 : Int) > x8) then (0 : Int) else x8) then (9 : Int) else bif decide ((0 : Int) > x8) then (0 : Int) else x8).toNat) : Int) * (↑(1 : Nat) : Int) ≤ (140737488355328 : Int) ∧ y4_1.length + (bif decide ((9 : Int) < bif decide ((0 : Int) > x8) then (0 : Int) else x8) then (9 : Int) else bif decide ((0 : Int) > x8) then (0 : Int) else x8).toNat ≤ (140737488355328 : Nat)) then
  (f48 (x0) (x1) (x2) (x3) (x4) (y4_1 ++ List.replicate (bif decide ((9 : Int) < bif decide ((0 : Int) > x8) then (0 : Int) else x8) then (9 : Int) else bif decide ((0 : Int) > x8) then (0 : Int) else x8).toNat (0 : Ev.D (Ev.Ty.int IntKind.u8))) (x5) (x6)
  (fun (y16_0, y16_1, y16_2, y16_3) =>
  bif y16_2 == (0 : Int) then
  (f26 (y16_0) (y16_1) (y16_3) (x5) (x6) (x7)
  (fun y21 =>
  bif y21 then
  (f27
  (fun y26 =>
  k0 y26))
  else
  k0 false))
  else
  k0 false))
  else none))))
noncomputable def F_law07_GenericEncodes (fuel : Nat) (x0 x1 x2 : Int) (x3 : Bool) (x4 x5 x6 : Int) (x7 : (List Int)) (x8 : Int) (k0 : (Bool) → Option Ans) : Option Ans := Fg_law07_GenericEncodes fuel (F_ref05_Same fuel) (F_law07_Sane fuel) (F_generic_Encode fuel) (F_ref07_Encode fuel) (F_generic_Decode fuel) x0 x1 x2 x3 x4 x5 x6 x7 x8 k0
abbrev YF10 : Type := (Int) → (Int) → (Int) → (Bool) → (Int) → (Int) → (Int) → ((List Int)) → (Int) → ((Bool) → Option Ans) → Option Ans
theorem F10_eqg (fuel : Nat) (f26 : YF26) (f27 : YF27) (f30 : YF30) (f47 : YF47) (f48 : YF48) (x0 x1 x2 : Int) (x3 : Bool) (x4 x5 x6 : Int) (x7 : (List Int)) (x8 : Int) (k : Ev.Cont) : evalFn tab (Gg10 f26 f27 f30 f47 f48) (J10 fuel) kp10 fuel Try.f10 [.agg [.int .i64 x0, .int .i64 x1, .int .i64 x2, .bool x3, .int .i64 x4], .agg [.int .i64 x5, .int .i64 x6, .sl (.int .u8) x7], .c (.int .i64 x8)] [] k = Fg_law07_GenericEncodes fuel f26 f27 f30 f47 f48 x0 x1 x2 x3 x4 x5 x6 x7 x8 (fun r => match r with | r0 => k (.c (.bool r0), [])) := by
  kernel_rfl
theorem F10_eq (fuel : Nat) (x0 x1 x2 : Int) (x3 : Bool) (x4 x5 x6 : Int) (x7 : (List Int)) (x8 : Int) (k : Ev.Cont) : evalFn tab (G10 fuel) (J10 fuel) kp10 fuel Try.f10 [.agg [.int .i64 x0, .int .i64 x1, .int .i64 x2, .bool x3, .int .i64 x4], .agg [.int .i64 x5, .int .i64 x6, .sl (.int .u8) x7], .c (.int .i64 x8)] [] k = F_law07_GenericEncodes fuel x0 x1 x2 x3 x4 x5 x6 x7 x8 (fun r => match r with | r0 => k (.c (.bool r0), [])) :=
  F10_eqg fuel (F_ref05_Same fuel) (F_law07_Sane fuel) (F_generic_Encode fuel) (F_ref07_Encode fuel) (F_generic_Decode fuel) x0 x1 x2 x3 x4 x5 x6 x7 x8 k
theorem hG10 (fuel : Nat) : GOK Try.prog (G10 fuel) :=
  gok_cons ⟨ok26 fuel, enters_of Try.func26 (by kernel_rfl) rfl⟩ <|
  gok_cons ⟨ok27 fuel, enters_of Try.func27 (by kernel_rfl) rfl⟩ <|
  gok_cons ⟨ok30 fuel, enters_of Try.func30 (by kernel_rfl) rfl⟩ <|
  gok_cons ⟨ok47 fuel, enters_of Try.func47 (by kernel_rfl) rfl⟩ <|
  gok_cons ⟨ok48 fuel, enters_of Try.func48 (by kernel_rfl) rfl⟩ <|
  gok_nil
theorem fok10 (fuel : Nat) : FnOK Try.prog 10 (evalFn tab (G10 fuel) (J10 fuel) kp10 fuel Try.f10) :=
  fn_ok tab_ok (hG10 fuel) mixed Try.func10 (c := (Try.f10.body).getD .skip) rfl (fun q hq => by
    rw [(by kernel_rfl : obl (J10 fuel) ((Try.f10.body).getD .skip) = [])] at hq
    cases hq)
noncomputable def mt10 : List Ev.SV → List Ev.Ob → Bool := fun args objs => match args, objs with
 | [.agg [.int .i64 _, .int .i64 _, .int .i64 _, .bool _, .int .i64 _], .agg [.int .i64 _, .int .i64 _, .sl (.int .u8) _], .c (.int .i64 _)], [] => true
 | _, _ => false
noncomputable def spg10 (F : YF10) : Ev.Spec := fun args objs k => match args, objs with
 | [.agg [.int .i64 x0, .int .i64 x1, .int .i64 x2, .bool x3, .int .i64 x4], .agg [.int .i64 x5, .int .i64 x6, .sl (.int .u8) x7], .c (.int .i64 x8)], [] => bif true then F x0 x1 x2 x3 x4 x5 x6 x7 x8 (fun r => match r with | r0 => k (.c (.bool r0), [])) else none
 | _, _ => none
noncomputable def spec10 (fuel : Nat) : Ev.Spec := spg10 (F_law07_GenericEncodes fuel)
theorem ok10 (fuel : Nat) : FnOK Try.prog 10 (spec10 fuel) := by
  intro args objs kk r h
  unfold spec10 spg10 at h
  split at h
  · skip
    obtain ⟨hb, h⟩ := cond_some' h
    simp only [Bool.and_eq_true, Nat.beq_eq, decide_eq_true_eq] at hb
    clear hb
    exact fok10 fuel _ _ kk r ((F10_eq fuel _ _ _ _ _ _ _ _ _ kk).trans h)
  · cases h
end Go.Proofs.Ytihfgpfofmjbaaa

set_option linter.unusedVariables false
set_option linter.unusedSimpArgs false
set_option maxRecDepth 100000
set_option maxHeartbeats 2000000
namespace Go.Proofs.Ytihfgpfofmjbaaa
open Go Ev
def kp101_a20 (i : Nat) : Option (List Nat) := Ev.look i []
noncomputable def Gg101_a20 (f164_a20 : YF164_a20) (f170 : YF170) (f : Nat) : Option Ev.Spec := Ev.look f [(164, spg164_a20 f164_a20), (170, spg170 f170)]
noncomputable def G101_a20 (fuel : Nat) : Nat → Option Ev.Spec := Gg101_a20 (F_coder_Encoder_none_a20 fuel) (F_coder_clone fuel)
noncomputable def J101_a20 (fuel : Nat) (i : Nat) : Option Ev.Blk := Ev.look i []
noncomputable def Fg_coder_Encoder_Model_a20 (fuel : Nat) (f164_a20 : YF164_a20) (f170 : YF170) (x0 x1 x2 : Int) (x3 : Bool) (x4 x5 : (List Int)) (k0 : (Int × Int × Int × Int × Bool × (List Int) × (List Int) × (List Int)) → Option Ans) : Option Ans :=
  (f164_a20 (x0) (x1) (x2) (x3) (x4) (x5)
  (fun (y2_0, y2_1, y2_2, y2_3, y2_4, y2_5, y2_6) =>
  bif y2_0 then
  k0 ((0 : Int), y2_1, y2_2, y2_3, y2_4, y2_5, y2_6, [])
  else
  (f170 (y2_1) (y2_5)
  (fun (y7_0, y7_1) =>
  k0 (y7_0, y2_1, y2_2, y2_3, y2_4, y2_5, y2_6, y7_1)))))
noncomputable def F_coder_Encoder_Model_a20 (fuel : Nat) (x0 x1 x2 : Int) (x3 : Bool) (x4 x5 : (List Int)) (k0 : (Int × Int × Int × Int × Bool × (List Int) × (List Int) × (List Int)) → Option Ans) : Option Ans := Fg_coder_Encoder_Model_a20 fuel (F_coder_Encoder_none_a20 fuel) (F_coder_clone fuel) x0 x1 x2 x3 x4 x5 k0
abbrev YF101_a20 : Type := (Int) → (Int) → (Int) → (Bool) → ((List Int)) → ((List Int)) → ((Int × Int × Int × Int × Bool × (List Int) × (List Int) × (List Int)) → Option Ans) → Option Ans
theorem F101_a20_eqg (fuel : Nat) (f164_a20 : YF164_a20) (f170 : YF170) (x0 x1 x2 : Int) (x3 : Bool) (x4 x5 : (List Int)) (k : Ev.Cont) : evalFn tab (Gg101_a20 f164_a20 f170) (J101_a20 fuel) kp101_a20 fuel Try.f101 [.c (.ptr 0 0)] [.cells 172 (.int .i64 x0 :: .own 1 :: ctb (.int .u64 x1 :: .int .u64 x2 :: .own 2 :: .bool x3 :: [])), .vec 3 (.int .i64) x4 false, .vec 5 (.int .u8) x5 false] k = Fg_coder_Encoder_Model_a20 fuel f164_a20 f170 x0 x1 x2 x3 x4 x5 (fun r => match r with | (r0, r1, r2, r3, r4, r5, r6, r7) => k (.agg [.int .i64 r0, .own 3], [.cells 172 (.int .i64 r1 :: .own 1 :: ctb (.int .u64 r2 :: .int .u64 r3 :: .own 2 :: .bool r4 :: [])), .vec 3 (.int .i64) r5 false, .vec 5 (.int .u8) r6 false, .vec 3 (.int .i64) r7 true])) := by
  kernel_rfl
theorem F101_a20_eq (fuel : Nat) (x0 x1 x2 : Int) (x3 : Bool) (x4 x5 : (List Int)) (k : Ev.Cont) : evalFn tab (G101_a20 fuel) (J101_a20 fuel) kp101_a20 fuel Try.f101 [.c (.ptr 0 0)] [.cells 172 (.int .i64 x0 :: .own 1 :: ctb (.int .u64 x1 :: .int .u64 x2 :: .own 2 :: .bool x3 :: [])), .vec 3 (.int .i64) x4 false, .vec 5 (.int .u8) x5 false] k = F_coder_Encoder_Model_a20 fuel x0 x1 x2 x3 x4 x5 (fun r => match r with | (r0, r1, r2, r3, r4, r5, r6, r7) => k (.agg [.int .i64 r0, .own 3], [.cells 172 (.int .i64 r1 :: .own 1 :: ctb (.int .u64 r2 :: .int .u64 r3 :: .own 2 :: .bool r4 :: [])), .vec 3 (.int .i64) r5 false, .vec 5 (.int .u8) r6 false, .vec 3 (.int .i64) r7 true])) :=
  F101_a20_eqg fuel (F_coder_Encoder_none_a20 fuel) (F_coder_clone fuel) x0 x1 x2 x3 x4 x5 k
theorem hG101_a20 (fuel : Nat) : GOK Try.prog (G101_a20 fuel) :=
  gok_cons ⟨ok164_a20 fuel, enters_of Try.func164 (by kernel_rfl) rfl⟩ <|
  gok_cons ⟨ok170 fuel, enters_of Try.func170 (by kernel_rfl) rfl⟩ <|
  gok_nil
theorem fok101_a20 (fuel : Nat) : FnOK Try.prog 101 (evalFn tab (G101_a20 fuel) (J101_a20 fuel) kp101_a20 fuel Try.f101) :=
  fn_ok tab_ok (hG101_a20 fuel) mixed Try.func101 (c := (Try.f101.body).getD .skip) rfl (fun q hq => by
    rw [(by kernel_rfl : obl (J101_a20 fuel) ((Try.f101.body).getD .skip) = [])] at hq
    cases hq)
noncomputable def mt101_a20 : List Ev.SV → List Ev.Ob → Bool := fun args objs => match args, objs with
 | [.c (.ptr q0 q1)], [.cells q2 cs0, .vec q3 (.int .i64) _ false, .vec q4 (.int .u8) _ false] => (match splitRun 2 ctn cs0 with | some ([.int .i64 _, .own q5], [.int .u64 _, .int .u64 _, .own q6, .bool _]) => Nat.beq q0 0 && Nat.beq q1 0 && Nat.beq q2 172 && Nat.beq q3 3 && Nat.beq q4 5 && Nat.beq q5 1 && Nat.beq q6 2 | _ => false)
 | _, _ => false
noncomputable def spg101_a20 (F : YF101_a20) : Ev.Spec := fun args objs k => match args, objs with
 | [.c (.ptr q0 q1)], [.cells q2 cs0, .vec q3 (.int .i64) x4 false, .vec q4 (.int .u8) x5 false] => (match splitRun 2 ctn cs0 with | some ([.int .i64 x0, .own q5], [.int .u64 x1, .int .u64 x2, .own q6, .bool x3]) => bif Nat.beq q0 0 && Nat.beq q1 0 && Nat.beq q2 172 && Nat.beq q3 3 && Nat.beq q4 5 && Nat.beq q5 1 && Nat.beq q6 2 then F x0 x1 x2 x3 x4 x5 (fun r => match r with | (r0, r1, r2, r3, r4, r5, r6, r7) => k (.agg [.int .i64 r0, .own 3], [.cells 172 (.int .i64 r1 :: .own 1 :: ctb (.int .u64 r2 :: .int .u64 r3 :: .own 2 :: .bool r4 :: [])), .vec 3 (.int .i64) r5 false, .vec 5 (.int .u8) r6 false, .vec 3 (.int .i64) r7 true])) else none | _ => none)
 | _, _ => none
noncomputable def spec101_a20 (fuel : Nat) : Ev.Spec := spg101_a20 (F_coder_Encoder_Model_a20 fuel)
theorem ok101_a20 (fuel : Nat) : FnOK Try.prog 101 (spec101_a20 fuel) := by
  intro args objs kk r h
  unfold spec101_a20 spg101_a20 at h
  split at h
  · skip
    split at h
    rotate_left 1
    · cases h
    rename_i hsp
    have esp := splitRun_eq hsp
    subst esp
    obtain ⟨hb, h⟩ := cond_some' h
    simp only [Bool.and_eq_true, Nat.beq_eq, decide_eq_true_eq] at hb
    obtain ⟨⟨⟨⟨⟨⟨rfl, rfl⟩, rfl⟩, rfl⟩, rfl⟩, rfl⟩, rfl⟩ := hb
    exact fok101_a20 fuel _ _ kk r ((F101_a20_eq fuel _ _ _ _ _ _ kk).trans h)
  · cases h
end Go.Proofs.Ytihfgpfofmjbaaa

set_option linter.unusedVariables false
set_option linter.unusedSimpArgs false
set_option maxRecDepth 100000
set_option maxHeartbeats 2000000
namespace Go.Proofs.Ytihfgpfofmjbaaa
open Go Ev
def kp119 (i : Nat) : Option (List Nat) := Ev.look i []
noncomputable def Gg119 (f : Nat) : Option Ev.Spec := Ev.look f []
noncomputable def G119 (fuel : Nat) : Nat → Option Ev.Spec := Gg119
noncomputable def J119 (fuel : Nat) (i : Nat) : Option Ev.Blk := Ev.look i []
noncomputable def F_ref02_byteAt (fuel : Nat) (x0 : (List Int)) (x1 : Int) (k0 : (Int) → Option Ans) : Option Ans :=
  bif decide (x1 < (↑x0.length : Int)) then
  bif decide ((0 : Int) ≤ x1 ∧ x1 < (↑x0.length : Int)) then
  k0 (IntKind.u64.wrap (x0.getD x1.toNat (0 : Int)))
  else none
  else
  k0 ((0 : Int))
abbrev YF119 : Type := ((List Int)) → (Int) → ((Int) → Option Ans) → Option Ans
theorem F119_eq (fuel : Nat) (x0 : (List Int)) (x1 : Int) (k : Ev.Cont) : evalFn tab (G119 fuel) (J119 fuel) kp119 fuel Try.f119 [.c (.sl (.int .u8) x0), .c (.int .i64 x1)] [] k = F_ref02_byteAt fuel x0 x1 (fun r => match r with | r0 => k (.c (.int .u64 r0), [])) := by
  kernel_rfl
theorem hG119 (fuel : Nat) : GOK Try.prog (G119 fuel) :=
  gok_nil
theorem fok119 (fuel : Nat) : FnOK Try.prog 119 (evalFn tab (G119 fuel) (J119 fuel) kp119 fuel Try.f119) :=
  fn_ok tab_ok (hG119 fuel) mixed Try.func119 (c := (Try.f119.body).getD .skip) rfl (fun q hq => by
    rw [(by kernel_rfl : obl (J119 fuel) ((Try.f119.body).getD .skip) = [])] at hq
    cases hq)
noncomputable def mt119 : List Ev.SV → List Ev.Ob → Bool := fun args objs => match args, objs with
 | [.c (.sl (.int .u8) _), .c (.int .i64 _)], [] => true
 | _, _ => false
noncomputable def spg119 (F : YF119) : Ev.Spec := fun args objs k => match args, objs with
 | [.c (.sl (.int .u8) x0), .c (.int .i64 x1)], [] => bif true then F x0 x1 (fun r => match r with | r0 => k (.c (.int .u64 r0), [])) else none
 | _, _ => none
noncomputable def spec119 (fuel : Nat) : Ev.Spec := spg119 (F_ref02_byteAt fuel)
theorem ok119 (fuel : Nat) : FnOK Try.prog 119 (spec119 fuel) := by
  intro args objs kk r h
  unfold spec119 spg119 at h
  split at h
  · skip
    obtain ⟨hb, h⟩ := cond_some' h
    simp only [Bool.and_eq_true, Nat.beq_eq, decide_eq_true_eq] at hb
    clear hb
    exact fok119 fuel _ _ kk r ((F119_eq fuel _ _ kk).trans h)
  · cases h
end Go.Proofs.Ytihfgpfofmjbaaa

set_option linter.unusedVariables false
set_option linter.unusedSimpArgs false
set_option maxRecDepth 100000
set_option maxHeartbeats 2000000
namespace Go.Proofs.Ytihfgpfofmjbaaa
open Go Ev
def kp123_0a6 (i : Nat) : Option (List Nat) := Ev.look i [(12, [0, 1, 7, 8, 9, 10]), (100000, [0, 1, 7, 8, 9, 10]), (200007, [0]), (200009, [0]), (200011, [0]), (200020, [0]), (400000, [4, 5])]
noncomputable def Gg123_0a6 (f119 : YF119) (f181 : YF181) (f182 : YF182) (f183 : YF183) (f184 : YF184) (f185 : YF185) (f186 : YF186) (f : Nat) : Option Ev.Spec := Ev.look f [(119, spg119 f119), (181, spg181 f181), (182, spg182 f182), (183, spg183 f183), (184, spg184 f184), (185, spg185 f185), (186, spg186 f186)]
noncomputable def G123_0a6 (fuel : Nat) : Nat → Option Ev.Spec := Gg123_0a6 (F_ref02_byteAt fuel) (F_ref02_Likely fuel) (F_ref02_Interval_Mid fuel) (F_ref02_Interval_Part fuel) (F_ref02_Interval_Fixed fuel) (F_ref02_Interval_Shifted fuel) (F_ref02_After fuel)
noncomputable def Sg_ref02_Decoder_Get_0a6_0 (fuel : Nat) (f119 : YF119) (f181 : YF181) (f182 : YF182) (f183 : YF183) (f184 : YF184) (f185 : YF185) (f186 : YF186) (x0 x1 : Int) (x2 x3 : Int) (x4 x5 : Int) (x6 x7 : Int) (x8 x9 : Int) (x10 : Bool) (x11 x12 : (List Int)) (x13 x14 : Int) (c : (Int × Int × Int × Int × Int × Int × Int × Int × Int × Int × Bool × (List Int) × (List Int) × Int × Int) → Option Ans) (B : (Int × Int × Int × Int × Int × Int × Int × Int × Int × Int × Bool × (List Int) × (List Int) × Int × Int → Option Ans)) : Option Ans := match B with
 | b =>
  (f184 (x13) (x14)
  (fun y2 =>
  bif y2 then
  (f185 (x13) (x14)
  (fun (y7_0, y7_1) =>
  (f119 (x12) (x2)
  (fun y11 =>
  c (x0, x1, IntKind.i64.wrap (x2 + (1 : Int)), IntKind.u64.wrap (IntKind.u64.wrap (x3.tmod (16777216 : Int) * (256 : Int)) + y11), x4, x5, x6, x7, x8, x9, x10, x11, x12, y7_0, y7_1)))))
  else
  b (x0, x1, x2, x3, x4, x5, x6, x7, x8, x9, x10, x11, x12, x13, x14)))
noncomputable def S_ref02_Decoder_Get_0a6_0 (fuel : Nat) (v : Int × Int × Int × Int × Int × Int × Int × Int × Int × Int × Bool × (List Int) × (List Int) × Int × Int) (c : (Int × Int × Int × Int × Int × Int × Int × Int × Int × Int × Bool × (List Int) × (List Int) × Int × Int) → Option Ans) (B : (Int × Int × Int × Int × Int × Int × Int × Int × Int × Int × Bool × (List Int) × (List Int) × Int × Int → Option Ans)) : Option Ans := match v with
 | (x0, x1, x2, x3, x4, x5, x6, x7, x8, x9, x10, x11, x12, x13, x14) => Sg_ref02_Decoder_Get_0a6_0 fuel (F_ref02_byteAt fuel) (F_ref02_Likely fuel) (F_ref02_Interval_Mid fuel) (F_ref02_Interval_Part fuel) (F_ref02_Interval_Fixed fuel) (F_ref02_Interval_Shifted fuel) (F_ref02_After fuel) x0 x1 x2 x3 x4 x5 x6 x7 x8 x9 x10 x11 x12 x13 x14 c B
noncomputable def L_ref02_Decoder_Get_0a6_0 (fuel : Nat) (v : Int × Int × Int × Int × Int × Int × Int × Int × Int × Int × Bool × (List Int) × (List Int) × Int × Int) (b : (Int × Int × Int × Int × Int × Int × Int × Int × Int × Int × Bool × (List Int) × (List Int) × Int × Int → Option Ans)) : Option Ans := iter (S_ref02_Decoder_Get_0a6_0 fuel) fuel v b
noncomputable def J123_0a6_0 (fuel : Nat) (i : Nat) : Option Ev.Blk := Ev.look i []
noncomputable def T123_0a6_0 (v : Int × Int × Int × Int × Int × Int × Int × Int × Int × Int × Bool × (List Int) × (List Int) × Int × Int) : Ev.St := match v with | (x0, x1, x2, x3, x4, x5, x6, x7, x8, x9, x10, x11, x12, x13, x14) => ⟨[(0, .c (.ptr 0 0)), (1, .c (.int .i64 x0)), (7, .c (.int .i64 x1)), (8, .c (.ptr 3 0)), (9, .c (.int .i64 x2)), (10, .c (.int .u64 x3))], [(0, .cells 164 [.int .i64 x4, .own 1, .int .u64 x5, .int .u64 x6, .own 2, .int .i64 x7, .int .u64 x8, .int .i64 x9, .bool x10]), (1, .vec 3 (.int .i64) x11 false), (2, .vec 5 (.int .u8) x12 false), (3, .cells 161 [.int .u64 x13, .int .u64 x14])], 4, 3⟩
noncomputable def E123_0a6_0 (K : Ev.Ex → Ev.St → Option Ans) : (Int × Int × Int × Int × Int × Int × Int × Int × Int × Int × Bool × (List Int) × (List Int) × Int × Int → Option Ans) := (fun v => match v with | (x0, x1, x2, x3, x4, x5, x6, x7, x8, x9, x10, x11, x12, x13, x14) => K .normal ⟨[(0, .c (.ptr 0 0)), (1, .c (.int .i64 x0)), (7, .c (.int .i64 x1)), (8, .c (.ptr 3 0)), (9, .c (.int .i64 x2)), (10, .c (.int .u64 x3))], [(0, .cells 164 [.int .i64 x4, .own 1, .int .u64 x5, .int .u64 x6, .own 2, .int .i64 x7, .int .u64 x8, .int .i64 x9, .bool x10]), (1, .vec 3 (.int .i64) x11 false), (2, .vec 5 (.int .u8) x12 false), (3, .cells 161 [.int .u64 x13, .int .u64 x14])], 4, 3⟩)
theorem S123_0a6_0_okg (fuel : Nat) (f119 : YF119) (f181 : YF181) (f182 : YF182) (f183 : YF183) (f184 : YF184) (f185 : YF185) (f186 : YF186) (R : Ev.St → Option Ans) (K : Ev.Ex → Ev.St → Option Ans) (x0 x1 : Int) (x2 x3 : Int) (x4 x5 : Int) (x6 x7 : Int) (x8 x9 : Int) (x10 : Bool) (x11 x12 : (List Int)) (x13 x14 : Int) : evalCode tab (Gg123_0a6 f119 f181 f182 f183 f184 f185 f186) (J123_0a6_0 fuel) kp123_0a6 fuel (bodyOf 0 Try.f123) (T123_0a6_0 (x0, x1, x2, x3, x4, x5, x6, x7, x8, x9, x10, x11, x12, x13, x14)) (lc kp123_0a6 12 0 R K) = Sg_ref02_Decoder_Get_0a6_0 fuel f119 f181 f182 f183 f184 f185 f186 x0 x1 x2 x3 x4 x5 x6 x7 x8 x9 x10 x11 x12 x13 x14 (fun v => R (T123_0a6_0 v)) (E123_0a6_0 K) := by
  kernel_rfl
theorem S123_0a6_0_ok (fuel : Nat) (R : Ev.St → Option Ans) (K : Ev.Ex → Ev.St → Option Ans) (x0 x1 : Int) (x2 x3 : Int) (x4 x5 : Int) (x6 x7 : Int) (x8 x9 : Int) (x10 : Bool) (x11 x12 : (List Int)) (x13 x14 : Int) : evalCode tab (G123_0a6 fuel) (J123_0a6_0 fuel) kp123_0a6 fuel (bodyOf 0 Try.f123) (T123_0a6_0 (x0, x1, x2, x3, x4, x5, x6, x7, x8, x9, x10, x11, x12, x13, x14)) (lc kp123_0a6 12 0 R K) = S_ref02_Decoder_Get_0a6_0 fuel (x0, x1, x2, x3, x4, x5, x6, x7, x8, x9, x10, x11, x12, x13, x14) (fun v => R (T123_0a6_0 v)) (E123_0a6_0 K) :=
  S123_0a6_0_okg fuel (F_ref02_byteAt fuel) (F_ref02_Likely fuel) (F_ref02_Interval_Mid fuel) (F_ref02_Interval_Part fuel) (F_ref02_Interval_Fixed fuel) (F_ref02_Interval_Shifted fuel) (F_ref02_After fuel) R K x0 x1 x2 x3 x4 x5 x6 x7 x8 x9 x10 x11 x12 x13 x14
noncomputable def B123_0a6_0 (fuel : Nat) : Ev.Blk := fun st K => match canonO (kp123_0a6 12) st with
 | some s => (match s with
 | ⟨[(q0, .c (.ptr q1 q2)), (q3, .c (.int .i64 x0)), (q4, .c (.int .i64 x1)), (q5, .c (.ptr q6 q7)), (q8, .c (.int .i64 x2)), (q9, .c (.int .u64 x3))], [(q10, .cells q11 [.int .i64 x4, .own q12, .int .u64 x5, .int .u64 x6, .own q13, .int .i64 x7, .int .u64 x8, .int .i64 x9, .bool x10]), (q14, .vec q15 (.int .i64) x11 false), (q16, .vec q17 (.int .u8) x12 false), (q18, .cells q19 [.int .u64 x13, .int .u64 x14])], q20, q21⟩ => bif Nat.beq q0 0 && Nat.beq q1 0 && Nat.beq q2 0 && Nat.beq q3 1 && Nat.beq q4 7 && Nat.beq q5 8 && Nat.beq q6 3 && Nat.beq q7 0 && Nat.beq q8 9 && Nat.beq q9 10 && Nat.beq q10 0 && Nat.beq q11 164 && Nat.beq q12 1 && Nat.beq q13 2 && Nat.beq q14 1 && Nat.beq q15 3 && Nat.beq q16 2 && Nat.beq q17 5 && Nat.beq q18 3 && Nat.beq q19 161 && Nat.beq q20 4 && Nat.beq q21 3 then iter (S_ref02_Decoder_Get_0a6_0 fuel) fuel (x0, x1, x2, x3, x4, x5, x6, x7, x8, x9, x10, x11, x12, x13, x14) (E123_0a6_0 K) else none
 | _ => none)
 | none => none
theorem B123_0a6_0_ok (fuel : Nat) (st : Ev.St) (K : Ev.Ex → Ev.St → Option Ans) (r : Ans) (h : B123_0a6_0 fuel st K = some r) : evalCode tab (G123_0a6 fuel) (J123_0a6_0 fuel) kp123_0a6 fuel (.block 0 (.loop (bodyOf 0 Try.f123))) st K = some r := by
  unfold B123_0a6_0 at h
  split at h
  · rename_i s hs
    split at h
    · skip
      obtain ⟨hb, h⟩ := cond_some' h
      simp only [Bool.and_eq_true, Nat.beq_eq, decide_eq_true_eq] at hb
      obtain ⟨⟨⟨⟨⟨⟨⟨⟨⟨⟨⟨⟨⟨⟨⟨⟨⟨⟨⟨⟨⟨rfl, rfl⟩, rfl⟩, rfl⟩, rfl⟩, rfl⟩, rfl⟩, rfl⟩, rfl⟩, rfl⟩, rfl⟩, rfl⟩, rfl⟩, rfl⟩, rfl⟩, rfl⟩, rfl⟩, rfl⟩, rfl⟩, rfl⟩, rfl⟩, rfl⟩ := hb
      exact blk_loop (S := T123_0a6_0) (ks := E123_0a6_0) (step := S_ref02_Decoder_Get_0a6_0 fuel) (v := (_, _, _, _, _, _, _, _, _, _, _, _, _, _, _)) (by kernel_rfl) (by kernel_rfl) (fun R K v => by obtain ⟨x0, x1, x2, x3, x4, x5, x6, x7, x8, x9, x10, x11, x12, x13, x14⟩ := v; exact S123_0a6_0_ok fuel R K x0 x1 x2 x3 x4 x5 x6 x7 x8 x9 x10 x11 x12 x13 x14) hs h
    · cases h
  · cases h
noncomputable def J123_0a6 (fuel : Nat) (i : Nat) : Option Ev.Blk := Ev.look i [(100000, B123_0a6_0 fuel)]
noncomputable def Fg_ref02_Decoder_Get_0a6 (fuel : Nat) (f119 : YF119) (f181 : YF181) (f182 : YF182) (f183 : YF183) (f184 : YF184) (f185 : YF185) (f186 : YF186) (x0 x1 : Int) (x2 x3 : Int) (x4 x5 x6 : Int) (x7 : Bool) (x8 x9 : (List Int)) (k0 : (Int × Int × Int × Int × Int × Int × Int × Int × Bool × (List Int) × (List Int)) → Option Ans) : Option Ans :=
  bif decide (x0 < (0 : Int)) then
  k0 ((0 : Int), (2 : Int), x1, x2, x3, x4, x5, x6, x7, x8, x9)
  else
  bif decide (x0 ≥ (↑x8.length : Int)) then
  k0 ((0 : Int), (2 : Int), x1, x2, x3, x4, x5, x6, x7, x8, x9)
  else
  bif x7 then
  k0 ((0 : Int), (6 : Int), x1, x2, x3, x4, x5, x6, x7, x8, x9)
  else
  bif decide ((0 : Int) ≤ x0 ∧ x0 < (↑x8.length : Int)) then
  (f181 (x1) (x8.getD x0.toNat (0 : Int))
  (fun y6 =>
  (f182 (x2) (x3) (y6)
  (fun y10 =>
  bif decide (x5 ≤ y10) then
  both ((f183 (x2) (x3) (y6) ((1 : Int))
  (fun (y17_0, y17_1) =>
  (L_ref02_Decoder_Get_0a6_0 fuel (x0, (1 : Int), x4, x5, x1, x2, x3, x4, x5, x6, x7, x8, x9, y17_0, y17_1)
  (fun (b0_0, b0_1, b0_2, b0_3, b0_4, b0_5, b0_6, b0_7, b0_8, b0_9, b0_10, b0_11, b0_12, b0_13, b0_14) =>
  bif decide ((bif decide (IntKind.i64.wrap (b0_2 - (↑b0_12.length : Int)) > (0 : Int)) then IntKind.i64.wrap (b0_2 - (↑b0_12.length : Int)) else (0 : Int)) > (4 : Int)) then
  k0 ((0 : Int), (6 : Int), b0_4, b0_5, b0_6, b0_7, b0_8, b0_9, true, b0_11, b0_12)
  else
  bif decide ((0 : Int) ≤ b0_0 ∧ b0_0 < (↑b0_11.length : Int)) then
  (f186 (b0_4) (b0_11.getD b0_0.toNat (0 : Int)) (b0_1)
  (fun y27 =>
  bif decide ((0 : Int) ≤ b0_0 ∧ b0_0 < (↑b0_11.length : Int)) then
  k0 (b0_1, (0 : Int), b0_4, b0_13, b0_14, b0_2, b0_3, bif decide (IntKind.i64.wrap (b0_2 - (↑b0_12.length : Int)) > (0 : Int)) then IntKind.i64.wrap (b0_2 - (↑b0_12.length : Int)) else (0 : Int), b0_10, b0_11.set b0_0.toNat y27, b0_12)
  else none))
  else none)))))
  ((f183 (x2) (x3) (y6) ((1 : Int))
  (fun (y17_0, y17_1) =>
  (L_ref02_Decoder_Get_0a6_0 fuel (x0, (1 : Int), x4, x5, x1, x2, x3, x4, x5, x6, x7, x8, x9, y17_0, y17_1)
  (fun (b0_0, b0_1, b0_2, b0_3, b0_4, b0_5, b0_6, b0_7, b0_8, b0_9, b0_10, b0_11, b0_12, b0_13, b0_14) =>
  bif decide ((bif decide (IntKind.i64.wrap (b0_2 - (↑b0_12.length : Int)) > (0 : Int)) then IntKind.i64.wrap (b0_2 - (↑b0_12.length : Int)) else (0 : Int)) > (4 : Int)) then
  k0 ((0 : Int), (6 : Int), b0_4, b0_5, b0_6, b0_7, b0_8, b0_9, true, b0_11, b0_12)
  else
  bif decide ((0 : Int) ≤ b0_0 ∧ b0_0 < (↑b0_11.length : Int)) then
  (f186 (b0_4) (b0_11.getD b0_0.toNat (0 : Int)) (b0_1)
  (fun y27 =>
  bif decide ((0 : Int) ≤ b0_0 ∧ b0_0 < (↑b0_11.length : Int)) then
  k0 (b0_1, (0 : Int), b0_4, b0_13, b0_14, b0_2, b0_3, bif decide (IntKind.i64.wrap (b0_2 - (↑b0_12.length : Int)) > (0 : Int)) then IntKind.i64.wrap (b0_2 - (↑b0_12.length : Int)) else (0 : Int), b0_10, b0_11.set b0_0.toNat y27, b0_12)
  else none))
  else none)))))
  else
  both ((f183 (x2) (x3) (y6) ((0 : Int))
  (fun (y17_0, y17_1) =>
  (L_ref02_Decoder_Get_0a6_0 fuel (x0, (0 : Int), x4, x5, x1, x2, x3, x4, x5, x6, x7, x8, x9, y17_0, y17_1)
  (fun (b0_0, b0_1, b0_2, b0_3, b0_4, b0_5, b0_6, b0_7, b0_8, b0_9, b0_10, b0_11, b0_12, b0_13, b0_14) =>
  bif decide ((bif decide (IntKind.i64.wrap (b0_2 - (↑b0_12.length : Int)) > (0 : Int)) then IntKind.i64.wrap (b0_2 - (↑b0_12.length : Int)) else (0 : Int)) > (4 : Int)) then
  k0 ((0 : Int), (6 : Int), b0_4, b0_5, b0_6, b0_7, b0_8, b0_9, true, b0_11, b0_12)
  else
  bif decide ((0 : Int) ≤ b0_0 ∧ b0_0 < (↑b0_11.length : Int)) then
  (f186 (b0_4) (b0_11.getD b0_0.toNat (0 : Int)) (b0_1)
  (fun y27 =>
  bif decide ((0 : Int) ≤ b0_0 ∧ b0_0 < (↑b0_11.length : Int)) then
  k0 (b0_1, (0 : Int), b0_4, b0_13, b0_14, b0_2, b0_3, bif decide (IntKind.i64.wrap (b0_2 - (↑b0_12.length : Int)) > (0 : Int)) then IntKind.i64.wrap (b0_2 - (↑b0_12.length : Int)) else (0 : Int), b0_10, b0_11.set b0_0.toNat y27, b0_12)
  else none))
  else none)))))
  ((f183 (x2) (x3) (y6) ((0 : Int))
  (fun (y17_0, y17_1) =>
  (L_ref02_Decoder_Get_0a6_0 fuel (x0, (0 : Int), x4, x5, x1, x2, x3, x4, x5, x6, x7, x8, x9, y17_0, y17_1)
  (fun (b0_0, b0_1, b0_2, b0_3, b0_4, b0_5, b0_6, b0_7, b0_8, b0_9, b0_10, b0_11, b0_12, b0_13, b0_14) =>
  bif decide ((bif decide (IntKind.i64.wrap (b0_2 - (↑b0_12.length : Int)) > (0 : Int)) then IntKind.i64.wrap (b0_2 - (↑b0_12.length : Int)) else (0 : Int)) > (4 : Int)) then
  k0 ((0 : Int), (6 : Int), b0_4, b0_5, b0_6, b0_7, b0_8, b0_9, true, b0_11, b0_12)
  else
  bif decide ((0 : Int) ≤ b0_0 ∧ b0_0 < (↑b0_11.length : Int)) then
  (f186 (b0_4) (b0_11.getD b0_0.toNat (0 : Int)) (b0_1)
  (fun y27 =>
  bif decide ((0 : Int) ≤ b0_0 ∧ b0_0 < (↑b0_11.length : Int)) then
  k0 (b0_1, (0 : Int), b0_4, b0_13, b0_14, b0_2, b0_3, bif decide (IntKind.i64.wrap (b0_2 - (↑b0_12.length : Int)) > (0 : Int)) then IntKind.i64.wrap (b0_2 - (↑b0_12.length : Int)) else (0 : Int), b0_10, b0_11.set b0_0.toNat y27, b0_12)
  else none))
  else none)))))))))
  else none
noncomputable def F_ref02_Decoder_Get_0a6 (fuel : Nat) (x0 x1 : Int) (x2 x3 : Int) (x4 x5 x6 : Int) (x7 : Bool) (x8 x9 : (List Int)) (k0 : (Int × Int × Int × Int × Int × Int × Int × Int × Bool × (List Int) × (List Int)) → Option Ans) : Option Ans := Fg_ref02_Decoder_Get_0a6 fuel (F_ref02_byteAt fuel) (F_ref02_Likely fuel) (F_ref02_Interval_Mid fuel) (F_ref02_Interval_Part fuel) (F_ref02_Interval_Fixed fuel) (F_ref02_Interval_Shifted fuel) (F_ref02_After fuel) x0 x1 x2 x3 x4 x5 x6 x7 x8 x9 k0
abbrev YF123_0a6 : Type := (Int) → (Int) → (Int) → (Int) → (Int) → (Int) → (Int) → (Bool) → ((List Int)) → ((List Int)) → ((Int × Int × Int × Int × Int × Int × Int × Int × Bool × (List Int) × (List Int)) → Option Ans) → Option Ans
theorem F123_0a6_eqg (fuel : Nat) (f119 : YF119) (f181 : YF181) (f182 : YF182) (f183 : YF183) (f184 : YF184) (f185 : YF185) (f186 : YF186) (x0 x1 : Int) (x2 x3 : Int) (x4 x5 x6 : Int) (x7 : Bool) (x8 x9 : (List Int)) (k : Ev.Cont) : evalFn tab (Gg123_0a6 f119 f181 f182 f183 f184 f185 f186) (J123_0a6 fuel) kp123_0a6 fuel Try.f123 [.c (.ptr 0 0), .c (.int .i64 x0)] [.cells 164 [.int .i64 x1, .own 1, .int .u64 x2, .int .u64 x3, .own 2, .int .i64 x4, .int .u64 x5, .int .i64 x6, .bool x7], .vec 3 (.int .i64) x8 false, .vec 5 (.int .u8) x9 false] k = Fg_ref02_Decoder_Get_0a6 fuel f119 f181 f182 f183 f184 f185 f186 x0 x1 x2 x3 x4 x5 x6 x7 x8 x9 (fun r => match r with | (r0, r1, r2, r3, r4, r5, r6, r7, r8, r9, r10) => k (.tup [(false, [.int .i64 r0]), (false, [.int .i64 r1])], [.cells 164 [.int .i64 r2, .own 1, .int .u64 r3, .int .u64 r4, .own 2, .int .i64 r5, .int .u64 r6, .int .i64 r7, .bool r8], .vec 3 (.int .i64) r9 false, .vec 5 (.int .u8) r10 false])) := by
  kernel_rfl
theorem F123_0a6_eq (fuel : Nat) (x0 x1 : Int) (x2 x3 : Int) (x4 x5 x6 : Int) (x7 : Bool) (x8 x9 : (List Int)) (k : Ev.Cont) : evalFn tab (G123_0a6 fuel) (J123_0a6 fuel) kp123_0a6 fuel Try.f123 [.c (.ptr 0 0), .c (.int .i64 x0)] [.cells 164 [.int .i64 x1, .own 1, .int .u64 x2, .int .u64 x3, .own 2, .int .i64 x4, .int .u64 x5, .int .i64 x6, .bool x7], .vec 3 (.int .i64) x8 false, .vec 5 (.int .u8) x9 false] k = F_ref02_Decoder_Get_0a6 fuel x0 x1 x2 x3 x4 x5 x6 x7 x8 x9 (fun r => match r with | (r0, r1, r2, r3, r4, r5, r6, r7, r8, r9, r10) => k (.tup [(false, [.int .i64 r0]), (false, [.int .i64 r1])], [.cells 164 [.int .i64 r2, .own 1, .int .u64 r3, .int .u64 r4, .own 2, .int .i64 r5, .int .u64 r6, .int .i64 r7, .bool r8], .vec 3 (.int .i64) r9 false, .vec 5 (.int .u8) r10 false])) :=
  F123_0a6_eqg fuel (F_ref02_byteAt fuel) (F_ref02_Likely fuel) (F_ref02_Interval_Mid fuel) (F_ref02_Interval_Part fuel) (F_ref02_Interval_Fixed fuel) (F_ref02_Interval_Shifted fuel) (F_ref02_After fuel) x0 x1 x2 x3 x4 x5 x6 x7 x8 x9 k
theorem hG123_0a6 (fuel : Nat) : GOK Try.prog (G123_0a6 fuel) :=
  gok_cons ⟨ok119 fuel, enters_of Try.func119 (by kernel_rfl) rfl⟩ <|
  gok_cons ⟨ok181 fuel, enters_of Try.func181 (by kernel_rfl) rfl⟩ <|
  gok_cons ⟨ok182 fuel, enters_of Try.func182 (by kernel_rfl) rfl⟩ <|
  gok_cons ⟨ok183 fuel, enters_of Try.func183 (by kernel_rfl) rfl⟩ <|
  gok_cons ⟨ok184 fuel, enters_of Try.func184 (by kernel_rfl) rfl⟩ <|
  gok_cons ⟨ok185 fuel, enters_of Try.func185 (by kernel_rfl) rfl⟩ <|
  gok_cons ⟨ok186 fuel, enters_of Try.func186 (by kernel_rfl) rfl⟩ <|
  gok_nil
theorem B123_0a6_0_blk (fuel : Nat) : BlkOK Try.prog Try.f123.ntmps (.block 0 (.loop (bodyOf 0 Try.f123))) (B123_0a6_0 fuel) :=
  blk_of (blk_of_code tab_ok (hG123_0a6 fuel) mixed (J := J123_0a6_0 fuel) (kp := kp123_0a6) (fuel := fuel) (by kernel_rfl) (fun q hq => by
    rw [(by kernel_rfl : obl (J123_0a6_0 fuel) (.block 0 (.loop (bodyOf 0 Try.f123))) = [])] at hq
    cases hq)) (B123_0a6_0_ok fuel)
theorem fok123_0a6 (fuel : Nat) : FnOK Try.prog 123 (evalFn tab (G123_0a6 fuel) (J123_0a6 fuel) kp123_0a6 fuel Try.f123) :=
  fn_ok tab_ok (hG123_0a6 fuel) mixed Try.func123 (c := (Try.f123.body).getD .skip) rfl (fun q hq => by
    rw [(by kernel_rfl : obl (J123_0a6 fuel) ((Try.f123.body).getD .skip) = [(.block 0 (.loop (bodyOf 0 Try.f123)), B123_0a6_0 fuel)])] at hq
    simp only [List.mem_cons, List.not_mem_nil, or_false] at hq
    subst hq
    · exact B123_0a6_0_blk fuel)
noncomputable def mt123_0a6 : List Ev.SV → List Ev.Ob → Bool := fun args objs => match args, objs with
 | [.c (.ptr q0 q1), .c (.int .i64 _)], [.cells q2 [.int .i64 _, .own q3, .int .u64 _, .int .u64 _, .own q4, .int .i64 _, .int .u64 _, .int .i64 _, .bool _], .vec q5 (.int .i64) _ false, .vec q6 (.int .u8) _ false] => Nat.beq q0 0 && Nat.beq q1 0 && Nat.beq q2 164 && Nat.beq q3 1 && Nat.beq q4 2 && Nat.beq q5 3 && Nat.beq q6 5
 | _, _ => false
noncomputable def spg123_0a6 (F : YF123_0a6) : Ev.Spec := fun args objs k => match args, objs with
 | [.c (.ptr q0 q1), .c (.int .i64 x0)], [.cells q2 [.int .i64 x1, .own q3, .int .u64 x2, .int .u64 x3, .own q4, .int .i64 x4, .int .u64 x5, .int .i64 x6, .bool x7], .vec q5 (.int .i64) x8 false, .vec q6 (.int .u8) x9 false] => bif Nat.beq q0 0 && Nat.beq q1 0 && Nat.beq q2 164 && Nat.beq q3 1 && Nat.beq q4 2 && Nat.beq q5 3 && Nat.beq q6 5 then F x0 x1 x2 x3 x4 x5 x6 x7 x8 x9 (fun r => match r with | (r0, r1, r2, r3, r4, r5, r6, r7, r8, r9, r10) => k (.tup [(false, [.int .i64 r0]), (false, [.int .i64 r1])], [.cells 164 [.int .i64 r2, .own 1, .int .u64 r3, .int .u64 r4, .own 2, .int .i64 r5, .int .u64 r6, .int .i64 r7, .bool r8], .vec 3 (.int .i64) r9 false, .vec 5 (.int .u8) r10 false])) else none
 | _, _ => none
noncomputable def spec123_0a6 (fuel : Nat) : Ev.Spec := spg123_0a6 (F_ref02_Decoder_Get_0a6 fuel)
theorem ok123_0a6 (fuel : Nat) : FnOK Try.prog 123 (spec123_0a6 fuel) := by
  intro args objs kk r h
  unfold spec123_0a6 spg123_0a6 at h
  split at h
  · skip
    obtain ⟨hb, h⟩ := cond_some' h
    simp only [Bool.and_eq_true, Nat.beq_eq, decide_eq_true_eq] at hb
    obtain ⟨⟨⟨⟨⟨⟨rfl, rfl⟩, rfl⟩, rfl⟩, rfl⟩, rfl⟩, rfl⟩ := hb
    exact fok123_0a6 fuel _ _ kk r ((F123_0a6_eq fuel _ _ _ _ _ _ _ _ _ _ kk).trans h)
  · cases h
end Go.Proofs.Ytihfgpfofmjbaaa

set_option linter.unusedVariables false
set_option linter.unusedSimpArgs false
set_option maxRecDepth 100000
set_option maxHeartbeats 2000000
namespace Go.Proofs.Ytihfgpfofmjbaaa
open Go Ev
def kp44 (i : Nat) : Option (List Nat) := Ev.look i [(5, [6, 7]), (100000, [6]), (400000, [4, 5]), (600000, [])]
noncomputable def Gg44 (f116 : YF116) (f117 : YF117) (f118 : YF118) (f119 : YF119) (f : Nat) : Option Ev.Spec := Ev.look f [(116, spg116 f116), (117, spg117 f117), (118, spg118 f118), (119, spg119 f119)]
noncomputable def G44 (fuel : Nat) : Nat → Option Ev.Spec := Gg44 (F_ref02_Valid fuel) (F_ref02_Copy fuel) (F_ref02_Whole fuel) (F_ref02_byteAt fuel)
noncomputable def Sg_ref02_NewDecoder_0 (fuel : Nat) (f116 : YF116) (f117 : YF117) (f118 : YF118) (f119 : YF119) (x0 x1 : Int) (x2 x3 : Int) (x4 x5 x6 : Int) (x7 : Bool) (x8 x9 : (List Int)) (c : (Int × Int × Int × Int × Int × Int × Int × Bool × (List Int) × (List Int)) → Option Ans) (B : (Int × Int × Int × Int × Int × Int × Bool × (List Int) × (List Int) → Option Ans)) : Option Ans := match B with
 | b =>
  bif decide (x0 < (4 : Int)) then
  both ((f119 (x9) (x0)
  (fun y5 =>
  c (IntKind.i64.wrap (x0 + (1 : Int)), x1, x2, x3, x4, IntKind.u64.wrap (IntKind.u64.wrap (x5 * (256 : Int)) + y5), x6, x7, x8, x9))))
  (both ((f119 (x9) (x0)
  (fun y7 =>
  c (IntKind.i64.wrap (x0 + (1 : Int)), x1, x2, x3, x4, IntKind.u64.wrap (IntKind.u64.wrap (x5 * (256 : Int)) + y7), x6, x7, x8, x9))))
  ((f119 (x9) (x0)
  (fun y7 =>
  c (IntKind.i64.wrap (x0 + (1 : Int)), x1, x2, x3, x4, IntKind.u64.wrap (IntKind.u64.wrap (x5 * (256 : Int)) + y7), x6, x7, x8, x9)))))
  else
  b (x1, x2, x3, x4, x5, x6, x7, x8, x9)
noncomputable def S_ref02_NewDecoder_0 (fuel : Nat) (v : Int × Int × Int × Int × Int × Int × Int × Bool × (List Int) × (List Int)) (c : (Int × Int × Int × Int × Int × Int × Int × Bool × (List Int) × (List Int)) → Option Ans) (B : (Int × Int × Int × Int × Int × Int × Bool × (List Int) × (List Int) → Option Ans)) : Option Ans := match v with
 | (x0, x1, x2, x3, x4, x5, x6, x7, x8, x9) => Sg_ref02_NewDecoder_0 fuel (F_ref02_Valid fuel) (F_ref02_Copy fuel) (F_ref02_Whole fuel) (F_ref02_byteAt fuel) x0 x1 x2 x3 x4 x5 x6 x7 x8 x9 c B
noncomputable def L_ref02_NewDecoder_0 (fuel : Nat) (v : Int × Int × Int × Int × Int × Int × Int × Bool × (List Int) × (List Int)) (b : (Int × Int × Int × Int × Int × Int × Bool × (List Int) × (List Int) → Option Ans)) : Option Ans := iter (S_ref02_NewDecoder_0 fuel) fuel v b
noncomputable def J44_0 (fuel : Nat) (i : Nat) : Option Ev.Blk := Ev.look i []
noncomputable def T44_0 (v : Int × Int × Int × Int × Int × Int × Int × Bool × (List Int) × (List Int)) : Ev.St := match v with | (x0, x1, x2, x3, x4, x5, x6, x7, x8, x9) => ⟨[(6, .c (.ptr 0 0)), (7, .c (.int .i64 x0))], [(0, .cells 164 [.int .i64 x1, .own 1, .int .u64 x2, .int .u64 x3, .own 2, .int .i64 x4, .int .u64 x5, .int .i64 x6, .bool x7]), (1, .vec 3 (.int .i64) x8 true), (2, .vec 5 (.int .u8) x9 true)], 3, 0⟩
noncomputable def E44_0 (K : Ev.Ex → Ev.St → Option Ans) : (Int × Int × Int × Int × Int × Int × Bool × (List Int) × (List Int) → Option Ans) := (fun v => match v with | (x0, x1, x2, x3, x4, x5, x6, x7, x8) => K .normal ⟨[(6, .c (.ptr 0 0))], [(0, .cells 164 [.int .i64 x0, .own 1, .int .u64 x1, .int .u64 x2, .own 2, .int .i64 x3, .int .u64 x4, .int .i64 x5, .bool x6]), (1, .vec 3 (.int .i64) x7 true), (2, .vec 5 (.int .u8) x8 true)], 3, 0⟩)
theorem S44_0_okg (fuel : Nat) (f116 : YF116) (f117 : YF117) (f118 : YF118) (f119 : YF119) (R : Ev.St → Option Ans) (K : Ev.Ex → Ev.St → Option Ans) (x0 x1 : Int) (x2 x3 : Int) (x4 x5 x6 : Int) (x7 : Bool) (x8 x9 : (List Int)) : evalCode tab (Gg44 f116 f117 f118 f119) (J44_0 fuel) kp44 fuel (bodyOf 0 Try.f44) (T44_0 (x0, x1, x2, x3, x4, x5, x6, x7, x8, x9)) (lc kp44 5 0 R K) = Sg_ref02_NewDecoder_0 fuel f116 f117 f118 f119 x0 x1 x2 x3 x4 x5 x6 x7 x8 x9 (fun v => R (T44_0 v)) (E44_0 K) := by
  kernel_rfl
theorem S44_0_ok (fuel : Nat) (R : Ev.St → Option Ans) (K : Ev.Ex → Ev.St → Option Ans) (x0 x1 : Int) (x2 x3 : Int) (x4 x5 x6 : Int) (x7 : Bool) (x8 x9 : (List Int)) : evalCode tab (G44 fuel) (J44_0 fuel) kp44 fuel (bodyOf 0 Try.f44) (T44_0 (x0, x1, x2, x3, x4, x5, x6, x7, x8, x9)) (lc kp44 5 0 R K) = S_ref02_NewDecoder_0 fuel (x0, x1, x2, x3, x4, x5, x6, x7, x8, x9) (fun v => R (T44_0 v)) (E44_0 K) :=
  S44_0_okg fuel (F_ref02_Valid fuel) (F_ref02_Copy fuel) (F_ref02_Whole fuel) (F_ref02_byteAt fuel) R K x0 x1 x2 x3 x4 x5 x6 x7 x8 x9
noncomputable def B44_0 (fuel : Nat) : Ev.Blk := fun st K => match canonO (kp44 5) st with
 | some s => (match s with
 | ⟨[(q0, .c (.ptr q1 q2)), (q3, .c (.int .i64 x0))], [(q4, .cells q5 [.int .i64 x1, .own q6, .int .u64 x2, .int .u64 x3, .own q7, .int .i64 x4, .int .u64 x5, .int .i64 x6, .bool x7]), (q8, .vec q9 (.int .i64) x8 true), (q10, .vec q11 (.int .u8) x9 true)], q12, q13⟩ => bif Nat.beq q0 6 && Nat.beq q1 0 && Nat.beq q2 0 && Nat.beq q3 7 && Nat.beq q4 0 && Nat.beq q5 164 && Nat.beq q6 1 && Nat.beq q7 2 && Nat.beq q8 1 && Nat.beq q9 3 && Nat.beq q10 2 && Nat.beq q11 5 && Nat.beq q12 3 && Nat.beq q13 0 then iter (S_ref02_NewDecoder_0 fuel) fuel (x0, x1, x2, x3, x4, x5, x6, x7, x8, x9) (E44_0 K) else none
 | _ => none)
 | none => none
theorem B44_0_ok (fuel : Nat) (st : Ev.St) (K : Ev.Ex → Ev.St → Option Ans) (r : Ans) (h : B44_0 fuel st K = some r) : evalCode tab (G44 fuel) (J44_0 fuel) kp44 fuel (.block 0 (.loop (bodyOf 0 Try.f44))) st K = some r := by
  unfold B44_0 at h
  split at h
  · rename_i s hs
    split at h
    · skip
      obtain ⟨hb, h⟩ := cond_some' h
      simp only [Bool.and_eq_true, Nat.beq_eq, decide_eq_true_eq] at hb
      obtain ⟨⟨⟨⟨⟨⟨⟨⟨⟨⟨⟨⟨⟨rfl, rfl⟩, rfl⟩, rfl⟩, rfl⟩, rfl⟩, rfl⟩, rfl⟩, rfl⟩, rfl⟩, rfl⟩, rfl⟩, rfl⟩, rfl⟩ := hb
      exact blk_loop (S := T44_0) (ks := E44_0) (step := S_ref02_NewDecoder_0 fuel) (v := (_, _, _, _, _, _, _, _, _, _)) (by kernel_rfl) (by kernel_rfl) (fun R K v => by obtain ⟨x0, x1, x2, x3, x4, x5, x6, x7, x8, x9⟩ := v; exact S44_0_ok fuel R K x0 x1 x2 x3 x4 x5 x6 x7 x8 x9) hs h
    · cases h
  · cases h
noncomputable def J44 (fuel : Nat) (i : Nat) : Option Ev.Blk := Ev.look i [(100000, B44_0 fuel)]
noncomputable def Fg_ref02_NewDecoder (fuel : Nat) (f116 : YF116) (f117 : YF117) (f118 : YF118) (f119 : YF119) (x0 : Int) (x1 x2 : (List Int)) (k0 : (Int) → Option Ans) (k1 : (Int × Int × Int × Int × Int × Int × Int × Bool × (List Int) × (List Int)) → Option Ans) : Option Ans :=
  (f116 (x0) (x1)
  (fun y2 =>
  bif !y2 then
  k0 ((10 : Int))
  else
  (f117 (x0) (x1)
  (fun (y7_0, y7_1) =>
  (f118
  (fun (y11_0, y11_1) =>
  bif decide (((0 : Nat) + x2.length) * (1 : Nat) ≤ (140737488355328 : Nat) ∧ (0 : Nat) + x2.length ≤ (140737488355328 : Nat)) then
  (L_ref02_NewDecoder_0 fuel ((0 : Int), y7_0, y11_0, y11_1, (4 : Int), (0 : Int), bif decide (IntKind.i64.wrap ((4 : Int) - (↑x2.length : Int)) > (0 : Int)) then IntKind.i64.wrap ((4 : Int) - (↑x2.length : Int)) else (0 : Int), false, y7_1, [] ++ x2)
  (fun (b0_0, b0_1, b0_2, b0_3, b0_4, b0_5, b0_6, b0_7, b0_8) =>
  k1 ((0 : Int), b0_0, b0_1, b0_2, b0_3, b0_4, b0_5, b0_6, b0_7, b0_8)))
  else none))))))
noncomputable def F_ref02_NewDecoder (fuel : Nat) (x0 : Int) (x1 x2 : (List Int)) (k0 : (Int) → Option Ans) (k1 : (Int × Int × Int × Int × Int × Int × Int × Bool × (List Int) × (List Int)) → Option Ans) : Option Ans := Fg_ref02_NewDecoder fuel (F_ref02_Valid fuel) (F_ref02_Copy fuel) (F_ref02_Whole fuel) (F_ref02_byteAt fuel) x0 x1 x2 k0 k1
abbrev YF44 : Type := (Int) → ((List Int)) → ((List Int)) → ((Int) → Option Ans) → ((Int × Int × Int × Int × Int × Int × Int × Bool × (List Int) × (List Int)) → Option Ans) → Option Ans
theorem F44_eqg (fuel : Nat) (f116 : YF116) (f117 : YF117) (f118 : YF118) (f119 : YF119) (x0 : Int) (x1 x2 : (List Int)) (k : Ev.Cont) : evalFn tab (Gg44 f116 f117 f118 f119) (J44 fuel) kp44 fuel Try.f44 [.agg [.int .i64 x0, .sl (.int .i64) x1], .c (.sl (.int .u8) x2)] [] k = Fg_ref02_NewDecoder fuel f116 f117 f118 f119 x0 x1 x2 (fun r => match r with | r0 => k (.tup [(false, [.nilptr]), (false, [.int .i64 r0])], [])) (fun r => match r with | (r0, r1, r2, r3, r4, r5, r6, r7, r8, r9) => k (.tup [(false, [.ptr 0 0]), (false, [.int .i64 r0])], [.cells 164 [.int .i64 r1, .own 1, .int .u64 r2, .int .u64 r3, .own 2, .int .i64 r4, .int .u64 r5, .int .i64 r6, .bool r7], .vec 3 (.int .i64) r8 true, .vec 5 (.int .u8) r9 true])) := by
  kernel_rfl
theorem F44_eq (fuel : Nat) (x0 : Int) (x1 x2 : (List Int)) (k : Ev.Cont) : evalFn tab (G44 fuel) (J44 fuel) kp44 fuel Try.f44 [.agg [.int .i64 x0, .sl (.int .i64) x1], .c (.sl (.int .u8) x2)] [] k = F_ref02_NewDecoder fuel x0 x1 x2 (fun r => match r with | r0 => k (.tup [(false, [.nilptr]), (false, [.int .i64 r0])], [])) (fun r => match r with | (r0, r1, r2, r3, r4, r5, r6, r7, r8, r9) => k (.tup [(false, [.ptr 0 0]), (false, [.int .i64 r0])], [.cells 164 [.int .i64 r1, .own 1, .int .u64 r2, .int .u64 r3, .own 2, .int .i64 r4, .int .u64 r5, .int .i64 r6, .bool r7], .vec 3 (.int .i64) r8 true, .vec 5 (.int .u8) r9 true])) :=
  F44_eqg fuel (F_ref02_Valid fuel) (F_ref02_Copy fuel) (F_ref02_Whole fuel) (F_ref02_byteAt fuel) x0 x1 x2 k
theorem hG44 (fuel : Nat) : GOK Try.prog (G44 fuel) :=
  gok_cons ⟨ok116 fuel, enters_of Try.func116 (by kernel_rfl) rfl⟩ <|
  gok_cons ⟨ok117 fuel, enters_of Try.func117 (by kernel_rfl) rfl⟩ <|
  gok_cons ⟨ok118 fuel, enters_of Try.func118 (by kernel_rfl) rfl⟩ <|
  gok_cons ⟨ok119 fuel, enters_of Try.func119 (by kernel_rfl) rfl⟩ <|
  gok_nil
theorem B44_0_blk (fuel : Nat) : BlkOK Try.prog Try.f44.ntmps (.block 0 (.loop (bodyOf 0 Try.f44))) (B44_0 fuel) :=
  blk_of (blk_of_code tab_ok (hG44 fuel) mixed (J := J44_0 fuel) (kp := kp44) (fuel := fuel) (by kernel_rfl) (fun q hq => by
    rw [(by kernel_rfl : obl (J44_0 fuel) (.block 0 (.loop (bodyOf 0 Try.f44))) = [])] at hq
    cases hq)) (B44_0_ok fuel)
theorem fok44 (fuel : Nat) : FnOK Try.prog 44 (evalFn tab (G44 fuel) (J44 fuel) kp44 fuel Try.f44) :=
  fn_ok tab_ok (hG44 fuel) mixed Try.func44 (c := (Try.f44.body).getD .skip) rfl (fun q hq => by
    rw [(by kernel_rfl : obl (J44 fuel) ((Try.f44.body).getD .skip) = [(.block 0 (.loop (bodyOf 0 Try.f44)), B44_0 fuel)])] at hq
    simp only [List.mem_cons, List.not_mem_nil, or_false] at hq
    subst hq
    · exact B44_0_blk fuel)
noncomputable def mt44 : List Ev.SV → List Ev.Ob → Bool := fun args objs => match args, objs with
 | [.agg [.int .i64 _, .sl (.int .i64) _], .c (.sl (.int .u8) _)], [] => true
 | _, _ => false
noncomputable def spg44 (F : YF44) : Ev.Spec := fun args objs k => match args, objs with
 | [.agg [.int .i64 x0, .sl (.int .i64) x1], .c (.sl (.int .u8) x2)], [] => bif true then F x0 x1 x2 (fun r => match r with | r0 => k (.tup [(false, [.nilptr]), (false, [.int .i64 r0])], [])) (fun r => match r with | (r0, r1, r2, r3, r4, r5, r6, r7, r8, r9) => k (.tup [(false, [.ptr 0 0]), (false, [.int .i64 r0])], [.cells 164 [.int .i64 r1, .own 1, .int .u64 r2, .int .u64 r3, .own 2, .int .i64 r4, .int .u64 r5, .int .i64 r6, .bool r7], .vec 3 (.int .i64) r8 true, .vec 5 (.int .u8) r9 true])) else none
 | _, _ => none
noncomputable def spec44 (fuel : Nat) : Ev.Spec := spg44 (F_ref02_NewDecoder fuel)
theorem ok44 (fuel : Nat) : FnOK Try.prog 44 (spec44 fuel) := by
  intro args objs kk r h
  unfold spec44 spg44 at h
  split at h
  · skip
    obtain ⟨hb, h⟩ := cond_some' h
    simp only [Bool.and_eq_true, Nat.beq_eq, decide_eq_true_eq] at hb
    clear hb
    exact fok44 fuel _ _ kk r ((F44_eq fuel _ _ _ kk).trans h)
  · cases h
end Go.Proofs.Ytihfgpfofmjbaaa

set_option linter.unusedVariables false
set_option linter.unusedSimpArgs false
set_option maxRecDepth 100000
set_option maxHeartbeats 2000000
namespace Go.Proofs.Ytihfgpfofmjbaaa
open Go Ev
def kp121_a7e (i : Nat) : Option (List Nat) := Ev.look i []
noncomputable def Gg121_a7e (f117 : YF117) (f : Nat) : Option Ev.Spec := Ev.look f [(117, spg117 f117)]
noncomputable def G121_a7e (fuel : Nat) : Nat → Option Ev.Spec := Gg121_a7e (F_ref02_Copy fuel)
noncomputable def J121_a7e (fuel : Nat) (i : Nat) : Option Ev.Blk := Ev.look i []
noncomputable def Fg_ref02_Decoder_Model_a7e (fuel : Nat) (f117 : YF117) (x0 x1 : Int) (x2 x3 : Int) (x4 x5 : Int) (x6 : Bool) (x7 x8 : (List Int)) (k0 : (Int × Int × Int × Int × Int × Int × Int × Bool × (List Int) × (List Int) × (List Int)) → Option Ans) : Option Ans :=
  (f117 (x0) (x7)
  (fun (y2_0, y2_1) =>
  k0 (y2_0, x0, x1, x2, x3, x4, x5, x6, x7, x8, y2_1)))
noncomputable def F_ref02_Decoder_Model_a7e (fuel : Nat) (x0 x1 : Int) (x2 x3 : Int) (x4 x5 : Int) (x6 : Bool) (x7 x8 : (List Int)) (k0 : (Int × Int × Int × Int × Int × Int × Int × Bool × (List Int) × (List Int) × (List Int)) → Option Ans) : Option Ans := Fg_ref02_Decoder_Model_a7e fuel (F_ref02_Copy fuel) x0 x1 x2 x3 x4 x5 x6 x7 x8 k0
abbrev YF121_a7e : Type := (Int) → (Int) → (Int) → (Int) → (Int) → (Int) → (Bool) → ((List Int)) → ((List Int)) → ((Int × Int × Int × Int × Int × Int × Int × Bool × (List Int) × (List Int) × (List Int)) → Option Ans) → Option Ans
theorem F121_a7e_eqg (fuel : Nat) (f117 : YF117) (x0 x1 : Int) (x2 x3 : Int) (x4 x5 : Int) (x6 : Bool) (x7 x8 : (List Int)) (k : Ev.Cont) : evalFn tab (Gg121_a7e f117) (J121_a7e fuel) kp121_a7e fuel Try.f121 [.c (.ptr 0 0)] [.cells 164 [.int .i64 x0, .own 1, .int .u64 x1, .int .u64 x2, .own 2, .int .i64 x3, .int .u64 x4, .int .i64 x5, .bool x6], .vec 3 (.int .i64) x7 false, .vec 5 (.int .u8) x8 false] k = Fg_ref02_Decoder_Model_a7e fuel f117 x0 x1 x2 x3 x4 x5 x6 x7 x8 (fun r => match r with | (r0, r1, r2, r3, r4, r5, r6, r7, r8, r9, r10) => k (.agg [.int .i64 r0, .own 3], [.cells 164 [.int .i64 r1, .own 1, .int .u64 r2, .int .u64 r3, .own 2, .int .i64 r4, .int .u64 r5, .int .i64 r6, .bool r7], .vec 3 (.int .i64) r8 false, .vec 5 (.int .u8) r9 false, .vec 3 (.int .i64) r10 true])) := by
  kernel_rfl
theorem F121_a7e_eq (fuel : Nat) (x0 x1 : Int) (x2 x3 : Int) (x4 x5 : Int) (x6 : Bool) (x7 x8 : (List Int)) (k : Ev.Cont) : evalFn tab (G121_a7e fuel) (J121_a7e fuel) kp121_a7e fuel Try.f121 [.c (.ptr 0 0)] [.cells 164 [.int .i64 x0, .own 1, .int .u64 x1, .int .u64 x2, .own 2, .int .i64 x3, .int .u64 x4, .int .i64 x5, .bool x6], .vec 3 (.int .i64) x7 false, .vec 5 (.int .u8) x8 false] k = F_ref02_Decoder_Model_a7e fuel x0 x1 x2 x3 x4 x5 x6 x7 x8 (fun r => match r with | (r0, r1, r2, r3, r4, r5, r6, r7, r8, r9, r10) => k (.agg [.int .i64 r0, .own 3], [.cells 164 [.int .i64 r1, .own 1, .int .u64 r2, .int .u64 r3, .own 2, .int .i64 r4, .int .u64 r5, .int .i64 r6, .bool r7], .vec 3 (.int .i64) r8 false, .vec 5 (.int .u8) r9 false, .vec 3 (.int .i64) r10 true])) :=
  F121_a7e_eqg fuel (F_ref02_Copy fuel) x0 x1 x2 x3 x4 x5 x6 x7 x8 k
theorem hG121_a7e (fuel : Nat) : GOK Try.prog (G121_a7e fuel) :=
  gok_cons ⟨ok117 fuel, enters_of Try.func117 (by kernel_rfl) rfl⟩ <|
  gok_nil
theorem fok121_a7e (fuel : Nat) : FnOK Try.prog 121 (evalFn tab (G121_a7e fuel) (J121_a7e fuel) kp121_a7e fuel Try.f121) :=
  fn_ok tab_ok (hG121_a7e fuel) mixed Try.func121 (c := (Try.f121.body).getD .skip) rfl (fun q hq => by
    rw [(by kernel_rfl : obl (J121_a7e fuel) ((Try.f121.body).getD .skip) = [])] at hq
    cases hq)
noncomputable def mt121_a7e : List Ev.SV → List Ev.Ob → Bool := fun args objs => match args, objs with
 | [.c (.ptr q0 q1)], [.cells q2 [.int .i64 _, .own q3, .int .u64 _, .int .u64 _, .own q4, .int .i64 _, .int .u64 _, .int .i64 _, .bool _], .vec q5 (.int .i64) _ false, .vec q6 (.int .u8) _ false] => Nat.beq q0 0 && Nat.beq q1 0 && Nat.beq q2 164 && Nat.beq q3 1 && Nat.beq q4 2 && Nat.beq q5 3 && Nat.beq q6 5
 | _, _ => false
noncomputable def spg121_a7e (F : YF121_a7e) : Ev.Spec := fun args objs k => match args, objs with
 | [.c (.ptr q0 q1)], [.cells q2 [.int .i64 x0, .own q3, .int .u64 x1, .int .u64 x2, .own q4, .int .i64 x3, .int .u64 x4, .int .i64 x5, .bool x6], .vec q5 (.int .i64) x7 false, .vec q6 (.int .u8) x8 false] => bif Nat.beq q0 0 && Nat.beq q1 0 && Nat.beq q2 164 && Nat.beq q3 1 && Nat.beq q4 2 && Nat.beq q5 3 && Nat.beq q6 5 then F x0 x1 x2 x3 x4 x5 x6 x7 x8 (fun r => match r with | (r0, r1, r2, r3, r4, r5, r6, r7, r8, r9, r10) => k (.agg [.int .i64 r0, .own 3], [.cells 164 [.int .i64 r1, .own 1, .int .u64 r2, .int .u64 r3, .own 2, .int .i64 r4, .int .u64 r5, .int .i64 r6, .bool r7], .vec 3 (.int .i64) r8 false, .vec 5 (.int .u8) r9 false, .vec 3 (.int .i64) r10 true])) else none
 | _, _ => none
noncomputable def spec121_a7e (fuel : Nat) : Ev.Spec := spg121_a7e (F_ref02_Decoder_Model_a7e fuel)
theorem ok121_a7e (fuel : Nat) : FnOK Try.prog 121 (spec121_a7e fuel) := by
  intro args objs kk r h
  unfold spec121_a7e spg121_a7e at h
  split at h
  · skip
    obtain ⟨hb, h⟩ := cond_some' h
    simp only [Bool.and_eq_true, Nat.beq_eq, decide_eq_true_eq] at hb
    obtain ⟨⟨⟨⟨⟨⟨rfl, rfl⟩, rfl⟩, rfl⟩, rfl⟩, rfl⟩, rfl⟩ := hb
    exact fok121_a7e fuel _ _ kk r ((F121_a7e_eq fuel _ _ _ _ _ _ _ _ _ kk).trans h)
  · cases h
end Go.Proofs.Ytihfgpfofmjbaaa

set_option linter.unusedVariables false
set_option linter.unusedSimpArgs false
set_option maxRecDepth 100000
set_option maxHeartbeats 2000000
namespace Go.Proofs.Ytihfgpfofmjbaaa
open Go Ev
def kp154 (i : Nat) : Option (List Nat) := Ev.look i [(3, [0, 1, 2, 6, 7, 8]), (100000, [6, 7]), (400000, [6])]
noncomputable def Gg154 (f : Nat) : Option Ev.Spec := Ev.look f []
noncomputable def G154 (fuel : Nat) : Nat → Option Ev.Spec := Gg154
noncomputable def S_ref05_make2_0 (fuel : Nat) (v : Int × Int × Int × Int × Int × Int × Int × Int × (List Int) × (List Int)) (c : (Int × Int × Int × Int × Int × Int × Int × Int × (List Int) × (List Int)) → Option Ans) (B : (Int × Int × Int × Int × (List Int) × (List Int) → Option Ans)) : Option Ans := match v, B with
 | (x0, x1, x2, x3, x4, x5, x6, x7, x8, x9), b =>
  bif decide (x3 < IntKind.i64.wrap (x0 * x1)) then
  bif decide ((x9.length + [IntKind.u8.wrap x2].length) * (1 : Nat) ≤ (140737488355328 : Nat) ∧ x9.length + [IntKind.u8.wrap x2].length ≤ (140737488355328 : Nat)) then
  c (x0, x1, x2, IntKind.i64.wrap (x3 + (1 : Int)), x4, x5, x6, x7, x8, x9 ++ [IntKind.u8.wrap x2])
  else none
  else
  b (x4, x5, x6, x7, x8, x9)
noncomputable def L_ref05_make2_0 (fuel : Nat) (v : Int × Int × Int × Int × Int × Int × Int × Int × (List Int) × (List Int)) (b : (Int × Int × Int × Int × (List Int) × (List Int) → Option Ans)) : Option Ans := iter (S_ref05_make2_0 fuel) fuel v b
noncomputable def J154_0 (fuel : Nat) (i : Nat) : Option Ev.Blk := Ev.look i []
noncomputable def T154_0 (v : Int × Int × Int × Int × Int × Int × Int × Int × (List Int) × (List Int)) : Ev.St := match v with | (x0, x1, x2, x3, x4, x5, x6, x7, x8, x9) => ⟨[(0, .c (.int .i64 x0)), (1, .c (.int .i64 x1)), (2, .c (.int .i64 x2)), (6, .c (.ptr 0 0)), (7, .c (.ptr 1 0)), (8, .c (.int .i64 x3))], [(0, .cells 39 [.int .i64 x4, .int .i64 x5, .own 2]), (1, .cells 39 [.int .i64 x6, .int .i64 x7, .own 3]), (2, .vec 5 (.int .u8) x8 true), (3, .vec 5 (.int .u8) x9 true)], 4, 0⟩
noncomputable def E154_0 (K : Ev.Ex → Ev.St → Option Ans) : (Int × Int × Int × Int × (List Int) × (List Int) → Option Ans) := (fun v => match v with | (x0, x1, x2, x3, x4, x5) => K .normal ⟨[(6, .c (.ptr 0 0)), (7, .c (.ptr 1 0))], [(0, .cells 39 [.int .i64 x0, .int .i64 x1, .own 2]), (1, .cells 39 [.int .i64 x2, .int .i64 x3, .own 3]), (2, .vec 5 (.int .u8) x4 true), (3, .vec 5 (.int .u8) x5 true)], 4, 0⟩)
theorem S154_0_ok (fuel : Nat) (R : Ev.St → Option Ans) (K : Ev.Ex → Ev.St → Option Ans) (x0 x1 : Int) (x2 x3 : Int) (x4 x5 : Int) (x6 x7 : Int) (x8 x9 : (List Int)) : evalCode tab (G154 fuel) (J154_0 fuel) kp154 fuel (bodyOf 0 Try.f154) (T154_0 (x0, x1, x2, x3, x4, x5, x6, x7, x8, x9)) (lc kp154 3 0 R K) = S_ref05_make2_0 fuel (x0, x1, x2, x3, x4, x5, x6, x7, x8, x9) (fun v => R (T154_0 v)) (E154_0 K) := by
  kernel_rfl
noncomputable def B154_0 (fuel : Nat) : Ev.Blk := fun st K => match canonO (kp154 3) st with
 | some s => (match s with
 | ⟨[(q0, .c (.int .i64 x0)), (q1, .c (.int .i64 x1)), (q2, .c (.int .i64 x2)), (q3, .c (.ptr q4 q5)), (q6, .c (.ptr q7 q8)), (q9, .c (.int .i64 x3))], [(q10, .cells q11 [.int .i64 x4, .int .i64 x5, .own q12]), (q13, .cells q14 [.int .i64 x6, .int .i64 x7, .own q15]), (q16, .vec q17 (.int .u8) x8 true), (q18, .vec q19 (.int .u8) x9 true)], q20, q21⟩ => bif Nat.beq q0 0 && Nat.beq q1 1 && Nat.beq q2 2 && Nat.beq q3 6 && Nat.beq q4 0 && Nat.beq q5 0 && Nat.beq q6 7 && Nat.beq q7 1 && Nat.beq q8 0 && Nat.beq q9 8 && Nat.beq q10 0 && Nat.beq q11 39 && Nat.beq q12 2 && Nat.beq q13 1 && Nat.beq q14 39 && Nat.beq q15 3 && Nat.beq q16 2 && Nat.beq q17 5 && Nat.beq q18 3 && Nat.beq q19 5 && Nat.beq q20 4 && Nat.beq q21 0 then iter (S_ref05_make2_0 fuel) fuel (x0, x1, x2, x3, x4, x5, x6, x7, x8, x9) (E154_0 K) else none
 | _ => none)
 | none => none
theorem B154_0_ok (fuel : Nat) (st : Ev.St) (K : Ev.Ex → Ev.St → Option Ans) (r : Ans) (h : B154_0 fuel st K = some r) : evalCode tab (G154 fuel) (J154_0 fuel) kp154 fuel (.block 0 (.loop (bodyOf 0 Try.f154))) st K = some r := by
  unfold B154_0 at h
  split at h
  · rename_i s hs
    split at h
    · skip
      obtain ⟨hb, h⟩ := cond_some' h
      simp only [Bool.and_eq_true, Nat.beq_eq, decide_eq_true_eq] at hb
      obtain ⟨⟨⟨⟨⟨⟨⟨⟨⟨⟨⟨⟨⟨⟨⟨⟨⟨⟨⟨⟨⟨rfl, rfl⟩, rfl⟩, rfl⟩, rfl⟩, rfl⟩, rfl⟩, rfl⟩, rfl⟩, rfl⟩, rfl⟩, rfl⟩, rfl⟩, rfl⟩, rfl⟩, rfl⟩, rfl⟩, rfl⟩, rfl⟩, rfl⟩, rfl⟩, rfl⟩ := hb
      exact blk_loop (S := T154_0) (ks := E154_0) (step := S_ref05_make2_0 fuel) (v := (_, _, _, _, _, _, _, _, _, _)) (by kernel_rfl) (by kernel_rfl) (fun R K v => by obtain ⟨x0, x1, x2, x3, x4, x5, x6, x7, x8, x9⟩ := v; exact S154_0_ok fuel R K x0 x1 x2 x3 x4 x5 x6 x7 x8 x9) hs h
    · cases h
  · cases h
noncomputable def J154 (fuel : Nat) (i : Nat) : Option Ev.Blk := Ev.look i [(100000, B154_0 fuel)]
noncomputable def F_ref05_make2 (fuel : Nat) (x0 x1 x2 : Int) (k0 : (Int × Int × (List Int)) → Option Ans) : Option Ans :=
  (L_ref05_make2_0 fuel (x0, x1, x2, (0 : Int), (0 : Int), (0 : Int), x0, x1, [], [])
  (fun (b0_0, b0_1, b0_2, b0_3, b0_4, b0_5) =>
  k0 (b0_2, b0_3, b0_5)))
abbrev YF154 : Type := (Int) → (Int) → (Int) → ((Int × Int × (List Int)) → Option Ans) → Option Ans
theorem F154_eq (fuel : Nat) (x0 x1 x2 : Int) (k : Ev.Cont) : evalFn tab (G154 fuel) (J154 fuel) kp154 fuel Try.f154 [.c (.int .i64 x0), .c (.int .i64 x1), .c (.int .i64 x2)] [] k = F_ref05_make2 fuel x0 x1 x2 (fun r => match r with | (r0, r1, r2) => k (.agg [.int .i64 r0, .int .i64 r1, .own 0], [.vec 5 (.int .u8) r2 true])) := by
  kernel_rfl
theorem hG154 (fuel : Nat) : GOK Try.prog (G154 fuel) :=
  gok_nil
theorem B154_0_blk (fuel : Nat) : BlkOK Try.prog Try.f154.ntmps (.block 0 (.loop (bodyOf 0 Try.f154))) (B154_0 fuel) :=
  blk_of (blk_of_code tab_ok (hG154 fuel) mixed (J := J154_0 fuel) (kp := kp154) (fuel := fuel) (by kernel_rfl) (fun q hq => by
    rw [(by kernel_rfl : obl (J154_0 fuel) (.block 0 (.loop (bodyOf 0 Try.f154))) = [])] at hq
    cases hq)) (B154_0_ok fuel)
theorem fok154 (fuel : Nat) : FnOK Try.prog 154 (evalFn tab (G154 fuel) (J154 fuel) kp154 fuel Try.f154) :=
  fn_ok tab_ok (hG154 fuel) mixed Try.func154 (c := (Try.f154.body).getD .skip) rfl (fun q hq => by
    rw [(by kernel_rfl : obl (J154 fuel) ((Try.f154.body).getD .skip) = [(.block 0 (.loop (bodyOf 0 Try.f154)), B154_0 fuel)])] at hq
    simp only [List.mem_cons, List.not_mem_nil, or_false] at hq
    subst hq
    · exact B154_0_blk fuel)
noncomputable def mt154 : List Ev.SV → List Ev.Ob → Bool := fun args objs => match args, objs with
 | [.c (.int .i64 _), .c (.int .i64 _), .c (.int .i64 _)], [] => true
 | _, _ => false
noncomputable def spg154 (F : YF154) : Ev.Spec := fun args objs k => match args, objs with
 | [.c (.int .i64 x0), .c (.int .i64 x1), .c (.int .i64 x2)], [] => bif true then F x0 x1 x2 (fun r => match r with | (r0, r1, r2) => k (.agg [.int .i64 r0, .int .i64 r1, .own 0], [.vec 5 (.int .u8) r2 true])) else none
 | _, _ => none
noncomputable def spec154 (fuel : Nat) : Ev.Spec := spg154 (F_ref05_make2 fuel)
theorem ok154 (fuel : Nat) : FnOK Try.prog 154 (spec154 fuel) := by
  intro args objs kk r h
  unfold spec154 spg154 at h
  split at h
  · skip
    obtain ⟨hb, h⟩ := cond_some' h
    simp only [Bool.and_eq_true, Nat.beq_eq, decide_eq_true_eq] at hb
    clear hb
    exact fok154 fuel _ _ kk r ((F154_eq fuel _ _ _ kk).trans h)
  · cases h
end Go.Proofs.Ytihfgpfofmjbaaa

set_option linter.unusedVariables false
set_option linter.unusedSimpArgs false
set_option maxRecDepth 100000
set_option maxHeartbeats 2000000
namespace Go.Proofs.Ytihfgpfofmjbaaa
open Go Ev
def kp81 (i : Nat) : Option (List Nat) := Ev.look i []
noncomputable def Gg81 (f112 : YF112) (f154 : YF154) (f : Nat) : Option Ev.Spec := Ev.look f [(112, spg112 f112), (154, spg154 f154)]
noncomputable def G81 (fuel : Nat) : Nat → Option Ev.Spec := Gg81 (F_ref05_Sides fuel) (F_ref05_make2 fuel)
noncomputable def J81 (fuel : Nat) (i : Nat) : Option Ev.Blk := Ev.look i []
noncomputable def Fg_ref05_New (fuel : Nat) (f112 : YF112) (f154 : YF154) (x0 x1 x2 : Int) (k0 : (Int × Int × Int × (List Int)) → Option Ans) : Option Ans :=
  bif decide (x0 < (0 : Int)) then
  k0 ((0 : Int), (0 : Int), (2 : Int), [])
  else
  bif decide (x1 < (0 : Int)) then
  k0 ((0 : Int), (0 : Int), (2 : Int), [])
  else
  bif decide (x2 < (0 : Int)) then
  k0 ((0 : Int), (0 : Int), (2 : Int), [])
  else
  bif decide (x2 > (1 : Int)) then
  k0 ((0 : Int), (0 : Int), (2 : Int), [])
  else
  (f112 (x0) (x1)
  (fun y6 =>
  bif !y6 then
  k0 ((0 : Int), (0 : Int), (4 : Int), [])
  else
  (f154 (x0) (x1) (x2)
  (fun (y11_0, y11_1, y11_2) =>
  k0 (y11_0, y11_1, (0 : Int), y11_2)))))
noncomputable def F_ref05_New (fuel : Nat) (x0 x1 x2 : Int) (k0 : (Int × Int × Int × (List Int)) → Option Ans) : Option Ans := Fg_ref05_New fuel (F_ref05_Sides fuel) (F_ref05_make2 fuel) x0 x1 x2 k0
abbrev YF81 : Type := (Int) → (Int) → (Int) → ((Int × Int × Int × (List Int)) → Option Ans) → Option Ans
theorem F81_eqg (fuel : Nat) (f112 : YF112) (f154 : YF154) (x0 x1 x2 : Int) (k : Ev.Cont) : evalFn tab (Gg81 f112 f154) (J81 fuel) kp81 fuel Try.f81 [.c (.int .i64 x0), .c (.int .i64 x1), .c (.int .i64 x2)] [] k = Fg_ref05_New fuel f112 f154 x0 x1 x2 (fun r => match r with | (r0, r1, r2, r3) => k (.tup [(true, [.int .i64 r0, .int .i64 r1, .own 0]), (false, [.int .i64 r2])], [.vec 5 (.int .u8) r3 true])) := by
  kernel_rfl
theorem F81_eq (fuel : Nat) (x0 x1 x2 : Int) (k : Ev.Cont) : evalFn tab (G81 fuel) (J81 fuel) kp81 fuel Try.f81 [.c (.int .i64 x0), .c (.int .i64 x1), .c (.int .i64 x2)] [] k = F_ref05_New fuel x0 x1 x2 (fun r => match r with | (r0, r1, r2, r3) => k (.tup [(true, [.int .i64 r0, .int .i64 r1, .own 0]), (false, [.int .i64 r2])], [.vec 5 (.int .u8) r3 true])) :=
  F81_eqg fuel (F_ref05_Sides fuel) (F_ref05_make2 fuel) x0 x1 x2 k
theorem hG81 (fuel : Nat) : GOK Try.prog (G81 fuel) :=
  gok_cons ⟨ok112 fuel, enters_of Try.func112 (by kernel_rfl) rfl⟩ <|
  gok_cons ⟨ok154 fuel, enters_of Try.func154 (by kernel_rfl) rfl⟩ <|
  gok_nil
theorem fok81 (fuel : Nat) : FnOK Try.prog 81 (evalFn tab (G81 fuel) (J81 fuel) kp81 fuel Try.f81) :=
  fn_ok tab_ok (hG81 fuel) mixed Try.func81 (c := (Try.f81.body).getD .skip) rfl (fun q hq => by
    rw [(by kernel_rfl : obl (J81 fuel) ((Try.f81.body).getD .skip) = [])] at hq
    cases hq)
noncomputable def mt81 : List Ev.SV → List Ev.Ob → Bool := fun args objs => match args, objs with
 | [.c (.int .i64 _), .c (.int .i64 _), .c (.int .i64 _)], [] => true
 | _, _ => false
noncomputable def spg81 (F : YF81) : Ev.Spec := fun args objs k => match args, objs with
 | [.c (.int .i64 x0), .c (.int .i64 x1), .c (.int .i64 x2)], [] => bif true then F x0 x1 x2 (fun r => match r with | (r0, r1, r2, r3) => k (.tup [(true, [.int .i64 r0, .int .i64 r1, .own 0]), (false, [.int .i64 r2])], [.vec 5 (.int .u8) r3 true])) else none
 | _, _ => none
noncomputable def spec81 (fuel : Nat) : Ev.Spec := spg81 (F_ref05_New fuel)
theorem ok81 (fuel : Nat) : FnOK Try.prog 81 (spec81 fuel) := by
  intro args objs kk r h
  unfold spec81 spg81 at h
  split at h
  · skip
    obtain ⟨hb, h⟩ := cond_some' h
    simp only [Bool.and_eq_true, Nat.beq_eq, decide_eq_true_eq] at hb
    clear hb
    exact fok81 fuel _ _ kk r ((F81_eq fuel _ _ _ kk).trans h)
  · cases h
end Go.Proofs.Ytihfgpfofmjbaaa

set_option linter.unusedVariables false
set_option linter.unusedSimpArgs false
set_option maxRecDepth 100000
set_option maxHeartbeats 2000000
namespace Go.Proofs.Ytihfgpfofmjbaaa
open Go Ev
def kp127_a2e (i : Nat) : Option (List Nat) := Ev.look i []
noncomputable def Gg127_a2e (f : Nat) : Option Ev.Spec := Ev.look f []
noncomputable def G127_a2e (fuel : Nat) : Nat → Option Ev.Spec := Gg127_a2e
noncomputable def J127_a2e (fuel : Nat) (i : Nat) : Option Ev.Blk := Ev.look i []
noncomputable def F_ref05_Put_a2e (fuel : Nat) (x0 x1 : Int) (x2 x3 x4 : Int) (x5 : (List Int)) (k0 : ((List Int)) → Option Ans) : Option Ans :=
  bif decide ((0 : Int) ≤ IntKind.i64.wrap (IntKind.i64.wrap (x3 * x0) + x2) ∧ IntKind.i64.wrap (IntKind.i64.wrap (x3 * x0) + x2) < (↑x5.length : Int)) then
  k0 (x5.set (IntKind.i64.wrap (IntKind.i64.wrap (x3 * x0) + x2)).toNat (IntKind.u8.wrap x4))
  else none
abbrev YF127_a2e : Type := (Int) → (Int) → (Int) → (Int) → (Int) → ((List Int)) → (((List Int)) → Option Ans) → Option Ans
theorem F127_a2e_eq (fuel : Nat) (x0 x1 : Int) (x2 x3 x4 : Int) (x5 : (List Int)) (k : Ev.Cont) : evalFn tab (G127_a2e fuel) (J127_a2e fuel) kp127_a2e fuel Try.f127 [.agg [.int .i64 x0, .int .i64 x1, .own 0], .c (.int .i64 x2), .c (.int .i64 x3), .c (.int .i64 x4)] [.vec 5 (.int .u8) x5 false] k = F_ref05_Put_a2e fuel x0 x1 x2 x3 x4 x5 (fun r => match r with | r0 => k (.tup [], [.vec 5 (.int .u8) r0 false])) := by
  kernel_rfl
theorem hG127_a2e (fuel : Nat) : GOK Try.prog (G127_a2e fuel) :=
  gok_nil
theorem fok127_a2e (fuel : Nat) : FnOK Try.prog 127 (evalFn tab (G127_a2e fuel) (J127_a2e fuel) kp127_a2e fuel Try.f127) :=
  fn_ok tab_ok (hG127_a2e fuel) mixed Try.func127 (c := (Try.f127.body).getD .skip) rfl (fun q hq => by
    rw [(by kernel_rfl : obl (J127_a2e fuel) ((Try.f127.body).getD .skip) = [])] at hq
    cases hq)
noncomputable def mt127_a2e : List Ev.SV → List Ev.Ob → Bool := fun args objs => match args, objs with
 | [.agg [.int .i64 _, .int .i64 _, .own q0], .c (.int .i64 _), .c (.int .i64 _), .c (.int .i64 _)], [.vec q1 (.int .u8) _ false] => Nat.beq q0 0 && Nat.beq q1 5
 | _, _ => false
noncomputable def spg127_a2e (F : YF127_a2e) : Ev.Spec := fun args objs k => match args, objs with
 | [.agg [.int .i64 x0, .int .i64 x1, .own q0], .c (.int .i64 x2), .c (.int .i64 x3), .c (.int .i64 x4)], [.vec q1 (.int .u8) x5 false] => bif Nat.beq q0 0 && Nat.beq q1 5 then F x0 x1 x2 x3 x4 x5 (fun r => match r with | r0 => k (.tup [], [.vec 5 (.int .u8) r0 false])) else none
 | _, _ => none
noncomputable def spec127_a2e (fuel : Nat) : Ev.Spec := spg127_a2e (F_ref05_Put_a2e fuel)
theorem ok127_a2e (fuel : Nat) : FnOK Try.prog 127 (spec127_a2e fuel) := by
  intro args objs kk r h
  unfold spec127_a2e spg127_a2e at h
  split at h
  · skip
    obtain ⟨hb, h⟩ := cond_some' h
    simp only [Bool.and_eq_true, Nat.beq_eq, decide_eq_true_eq] at hb
    obtain ⟨rfl, rfl⟩ := hb
    exact fok127_a2e fuel _ _ kk r ((F127_a2e_eq fuel _ _ _ _ _ _ kk).trans h)
  · cases h
end Go.Proofs.Ytihfgpfofmjbaaa

set_option linter.unusedVariables false
set_option linter.unusedSimpArgs false
set_option maxRecDepth 100000
set_option maxHeartbeats 2000000
namespace Go.Proofs.Ytihfgpfofmjbaaa
open Go Ev
def kp45_9c5 (i : Nat) : Option (List Nat) := Ev.look i [(11, [0, 1, 3, 4, 8, 11, 12, 15, 17, 19]), (20, [0, 1, 3, 4, 8, 11, 12, 15, 17, 19, 22]), (100000, [12, 17]), (100002, [0, 1, 3, 4, 8, 11, 12, 15, 17, 19]), (200005, [8, 11]), (200018, [11, 17]), (400000, [12, 13]), (400002, [12, 13])]
noncomputable def Gg45_9c5 (f81 : YF81) (f86 : YF86) (f109 : YF109) (f112 : YF112) (f120 : YF120) (f121_a7e : YF121_a7e) (f122 : YF122) (f123_0a6 : YF123_0a6) (f124 : YF124) (f125 : YF125) (f126 : YF126) (f127_a2e : YF127_a2e) (f : Nat) : Option Ev.Spec := Ev.look f [(81, spg81 f81), (86, spg86 f86), (109, spg109 f109), (112, spg112 f112), (120, spg120 f120), (121, spg121_a7e f121_a7e), (122, spg122 f122), (123, spg123_0a6 f123_0a6), (124, spg124 f124), (125, spg125 f125), (126, spg126 f126), (1000127, spg127_a2e f127_a2e)]
noncomputable def G45_9c5 (fuel : Nat) : Nat → Option Ev.Spec := Gg45_9c5 (F_ref05_New fuel) (F_ref05_Valid fuel) (F_ref07_Valid fuel) (F_ref05_Sides fuel) (F_ref07_room fuel) (F_ref02_Decoder_Model_a7e fuel) (F_ref07_Size fuel) (F_ref02_Decoder_Get_0a6 fuel) (F_ref07_typical fuel) (F_ref05_At fuel) (F_ref07_context fuel) (F_ref05_Put_a2e fuel)
noncomputable def Sg_ref07_Get_9c5_2 (fuel : Nat) (f81 : YF81) (f86 : YF86) (f109 : YF109) (f112 : YF112) (f120 : YF120) (f121_a7e : YF121_a7e) (f122 : YF122) (f123_0a6 : YF123_0a6) (f124 : YF124) (f125 : YF125) (f126 : YF126) (f127_a2e : YF127_a2e) (x0 x1 : Int) (x2 x3 : Int) (x4 x5 : Int) (x6 x7 : Int) (x8 x9 : Int) (x10 x11 : Int) (x12 : Bool) (x13 x14 : (List Int)) (x15 x16 x17 : Int) (x18 : Bool) (x19 x20 x21 : Int) (x22 : (List Int)) (x23 x24 : Int) (x25 x26 : Int) (x27 x28 : (List Int)) (c : (Int × Int × Int × Int × Int × Int × Int × Int × Int × Int × Int × Int × Bool × (List Int) × (List Int) × Int × Int × Int × Bool × Int × Int × Int × (List Int) × Int × Int × Int × Int × (List Int) × (List Int)) → Option Ans) (B : (Int × Int × Int × Int × Int × Int × Int × Bool × (List Int) × (List Int) × Int × Int × (List Int) → Option Ans) × (Int × Int × Int × Int × Int × Int × Int × Int × Int × Int × Int × Bool × (List Int) × (List Int) × Int × Int × Int × Bool × Int × Int × Int × (List Int) × Int × Int × Int × Int × (List Int) × (List Int) → Option Ans)) : Option Ans := match B with
 | (ret, b) =>
  bif decide (x5 < x1) then
  (f125 (x20) (x21) (x22) (x5) (x4)
  (fun y3 =>
  bif y3 == (1 : Int) then
  c (x0, x1, x2, x3, x4, IntKind.i64.wrap (x5 + (1 : Int)), x6, x7, x8, x9, x10, x11, x12, x13, x14, x15, x16, x17, x18, x19, x20, x21, x22, x23, x24, x25, x26, x27, x28)
  else
  (f126 (x15) (x16) (x17) (x18) (x19) (x25) (x26) (x28) (x5) (x4)
  (fun y8 =>
  (f123_0a6 (IntKind.i64.wrap (x0 + y8)) (x6) (x7) (x8) (x9) (x10) (x11) (x12) (x13) (x14)
  (fun (y12_0, y12_1, y12_2, y12_3, y12_4, y12_5, y12_6, y12_7, y12_8, y12_9, y12_10) =>
  bif y12_1 != (0 : Int) then
  ret (y12_1, y12_2, y12_3, y12_4, y12_5, y12_6, y12_7, y12_8, y12_9, y12_10, (0 : Int), (0 : Int), [])
  else
  (f127_a2e (x25) (x26) (x5) (x4) (y12_0) (x28)
  (fun y17 =>
  c (x0, x1, x2, x3, x4, IntKind.i64.wrap (x5 + (1 : Int)), y12_2, y12_3, y12_4, y12_5, y12_6, y12_7, y12_8, y12_9, y12_10, x15, x16, x17, x18, x19, x20, x21, x22, x23, x24, x25, x26, x27, y17)))))))))
  else
  b (x0, x1, x2, x3, x4, x6, x7, x8, x9, x10, x11, x12, x13, x14, x15, x16, x17, x18, x19, x20, x21, x22, x23, x24, x25, x26, x27, x28)
noncomputable def S_ref07_Get_9c5_2 (fuel : Nat) (v : Int × Int × Int × Int × Int × Int × Int × Int × Int × Int × Int × Int × Bool × (List Int) × (List Int) × Int × Int × Int × Bool × Int × Int × Int × (List Int) × Int × Int × Int × Int × (List Int) × (List Int)) (c : (Int × Int × Int × Int × Int × Int × Int × Int × Int × Int × Int × Int × Bool × (List Int) × (List Int) × Int × Int × Int × Bool × Int × Int × Int × (List Int) × Int × Int × Int × Int × (List Int) × (List Int)) → Option Ans) (B : (Int × Int × Int × Int × Int × Int × Int × Bool × (List Int) × (List Int) × Int × Int × (List Int) → Option Ans) × (Int × Int × Int × Int × Int × Int × Int × Int × Int × Int × Int × Bool × (List Int) × (List Int) × Int × Int × Int × Bool × Int × Int × Int × (List Int) × Int × Int × Int × Int × (List Int) × (List Int) → Option Ans)) : Option Ans := match v with
 | (x0, x1, x2, x3, x4, x5, x6, x7, x8, x9, x10, x11, x12, x13, x14, x15, x16, x17, x18, x19, x20, x21, x22, x23, x24, x25, x26, x27, x28) => Sg_ref07_Get_9c5_2 fuel (F_ref05_New fuel) (F_ref05_Valid fuel) (F_ref07_Valid fuel) (F_ref05_Sides fuel) (F_ref07_room fuel) (F_ref02_Decoder_Model_a7e fuel) (F_ref07_Size fuel) (F_ref02_Decoder_Get_0a6 fuel) (F_ref07_typical fuel) (F_ref05_At fuel) (F_ref07_context fuel) (F_ref05_Put_a2e fuel) x0 x1 x2 x3 x4 x5 x6 x7 x8 x9 x10 x11 x12 x13 x14 x15 x16 x17 x18 x19 x20 x21 x22 x23 x24 x25 x26 x27 x28 c B
noncomputable def L_ref07_Get_9c5_2 (fuel : Nat) (v : Int × Int × Int × Int × Int × Int × Int × Int × Int × Int × Int × Int × Bool × (List Int) × (List Int) × Int × Int × Int × Bool × Int × Int × Int × (List Int) × Int × Int × Int × Int × (List Int) × (List Int)) (ret : (Int × Int × Int × Int × Int × Int × Int × Bool × (List Int) × (List Int) × Int × Int × (List Int) → Option Ans)) (b : (Int × Int × Int × Int × Int × Int × Int × Int × Int × Int × Int × Bool × (List Int) × (List Int) × Int × Int × Int × Bool × Int × Int × Int × (List Int) × Int × Int × Int × Int × (List Int) × (List Int) → Option Ans)) : Option Ans := iter (S_ref07_Get_9c5_2 fuel) fuel v (ret, b)
noncomputable def J45_9c5_2 (fuel : Nat) (i : Nat) : Option Ev.Blk := Ev.look i []
noncomputable def T45_9c5_2 (v : Int × Int × Int × Int × Int × Int × Int × Int × Int × Int × Int × Int × Bool × (List Int) × (List Int) × Int × Int × Int × Bool × Int × Int × Int × (List Int) × Int × Int × Int × Int × (List Int) × (List Int)) : Ev.St := match v with | (x0, x1, x2, x3, x4, x5, x6, x7, x8, x9, x10, x11, x12, x13, x14, x15, x16, x17, x18, x19, x20, x21, x22, x23, x24, x25, x26, x27, x28) => ⟨[(0, .c (.ptr 0 0)), (1, .c (.int .i64 x0)), (3, .c (.int .i64 x1)), (4, .c (.int .i64 x2)), (8, .c (.ptr 3 0)), (11, .c (.ptr 4 0)), (12, .c (.ptr 5 0)), (15, .c (.int .i64 x3)), (17, .c (.ptr 6 0)), (19, .c (.int .i64 x4)), (22, .c (.int .i64 x5))], [(0, .cells 164 [.int .i64 x6, .own 1, .int .u64 x7, .int .u64 x8, .own 2, .int .i64 x9, .int .u64 x10, .int .i64 x11, .bool x12]), (1, .vec 3 (.int .i64) x13 false), (2, .vec 5 (.int .u8) x14 false), (3, .cells 46 [.int .i64 x15, .int .i64 x16, .int .i64 x17, .bool x18, .int .i64 x19]), (4, .cells 39 [.int .i64 x20, .int .i64 x21, .sl (.int .u8) x22]), (5, .cells 39 [.int .i64 x23, .int .i64 x24, .own 7]), (6, .cells 39 [.int .i64 x25, .int .i64 x26, .own 8]), (7, .vec 5 (.int .u8) x27 true), (8, .vec 5 (.int .u8) x28 true)], 9, 3⟩
noncomputable def E45_9c5_2 (K : Ev.Ex → Ev.St → Option Ans) : (Int × Int × Int × Int × Int × Int × Int × Bool × (List Int) × (List Int) × Int × Int × (List Int) → Option Ans) × (Int × Int × Int × Int × Int × Int × Int × Int × Int × Int × Int × Bool × (List Int) × (List Int) × Int × Int × Int × Bool × Int × Int × Int × (List Int) × Int × Int × Int × Int × (List Int) × (List Int) → Option Ans) := ((fun v => match v with | (x0, x1, x2, x3, x4, x5, x6, x7, x8, x9, x10, x11, x12) => K .ret ⟨[(12, .c (.ptr 3 0)), (13, .c (.int .i64 x0))], [(0, .cells 164 [.int .i64 x1, .own 1, .int .u64 x2, .int .u64 x3, .own 2, .int .i64 x4, .int .u64 x5, .int .i64 x6, .bool x7]), (1, .vec 3 (.int .i64) x8 false), (2, .vec 5 (.int .u8) x9 false), (3, .cells 39 [.int .i64 x10, .int .i64 x11, .own 4]), (4, .vec 5 (.int .u8) x12 true)], 5, 3⟩), (fun v => match v with | (x0, x1, x2, x3, x4, x5, x6, x7, x8, x9, x10, x11, x12, x13, x14, x15, x16, x17, x18, x19, x20, x21, x22, x23, x24, x25, x26, x27) => K .normal ⟨[(0, .c (.ptr 0 0)), (1, .c (.int .i64 x0)), (3, .c (.int .i64 x1)), (4, .c (.int .i64 x2)), (8, .c (.ptr 3 0)), (11, .c (.ptr 4 0)), (12, .c (.ptr 5 0)), (15, .c (.int .i64 x3)), (17, .c (.ptr 6 0)), (19, .c (.int .i64 x4))], [(0, .cells 164 [.int .i64 x5, .own 1, .int .u64 x6, .int .u64 x7, .own 2, .int .i64 x8, .int .u64 x9, .int .i64 x10, .bool x11]), (1, .vec 3 (.int .i64) x12 false), (2, .vec 5 (.int .u8) x13 false), (3, .cells 46 [.int .i64 x14, .int .i64 x15, .int .i64 x16, .bool x17, .int .i64 x18]), (4, .cells 39 [.int .i64 x19, .int .i64 x20, .sl (.int .u8) x21]), (5, .cells 39 [.int .i64 x22, .int .i64 x23, .own 7]), (6, .cells 39 [.int .i64 x24, .int .i64 x25, .own 8]), (7, .vec 5 (.int .u8) x26 true), (8, .vec 5 (.int .u8) x27 true)], 9, 3⟩))
theorem S45_9c5_2_okg (fuel : Nat) (f81 : YF81) (f86 : YF86) (f109 : YF109) (f112 : YF112) (f120 : YF120) (f121_a7e : YF121_a7e) (f122 : YF122) (f123_0a6 : YF123_0a6) (f124 : YF124) (f125 : YF125) (f126 : YF126) (f127_a2e : YF127_a2e) (R : Ev.St → Option Ans) (K : Ev.Ex → Ev.St → Option Ans) (x0 x1 : Int) (x2 x3 : Int) (x4 x5 : Int) (x6 x7 : Int) (x8 x9 : Int) (x10 x11 : Int) (x12 : Bool) (x13 x14 : (List Int)) (x15 x16 x17 : Int) (x18 : Bool) (x19 x20 x21 : Int) (x22 : (List Int)) (x23 x24 : Int) (x25 x26 : Int) (x27 x28 : (List Int)) : evalCode tab (Gg45_9c5 f81 f86 f109 f112 f120 f121_a7e f122 f123_0a6 f124 f125 f126 f127_a2e) (J45_9c5_2 fuel) kp45_9c5 fuel (bodyOf 2 Try.f45) (T45_9c5_2 (x0, x1, x2, x3, x4, x5, x6, x7, x8, x9, x10, x11, x12, x13, x14, x15, x16, x17, x18, x19, x20, x21, x22, x23, x24, x25, x26, x27, x28)) (lc kp45_9c5 20 2 R K) = Sg_ref07_Get_9c5_2 fuel f81 f86 f109 f112 f120 f121_a7e f122 f123_0a6 f124 f125 f126 f127_a2e x0 x1 x2 x3 x4 x5 x6 x7 x8 x9 x10 x11 x12 x13 x14 x15 x16 x17 x18 x19 x20 x21 x22 x23 x24 x25 x26 x27 x28 (fun v => R (T45_9c5_2 v)) (E45_9c5_2 K) := by
  kernel_rfl
theorem S45_9c5_2_ok (fuel : Nat) (R : Ev.St → Option Ans) (K : Ev.Ex → Ev.St → Option Ans) (x0 x1 : Int) (x2 x3 : Int) (x4 x5 : Int) (x6 x7 : Int) (x8 x9 : Int) (x10 x11 : Int) (x12 : Bool) (x13 x14 : (List Int)) (x15 x16 x17 : Int) (x18 : Bool) (x19 x20 x21 : Int) (x22 : (List Int)) (x23 x24 : Int) (x25 x26 : Int) (x27 x28 : (List Int)) : evalCode tab (G45_9c5 fuel) (J45_9c5_2 fuel) kp45_9c5 fuel (bodyOf 2 Try.f45) (T45_9c5_2 (x0, x1, x2, x3, x4, x5, x6, x7, x8, x9, x10, x11, x12, x13, x14, x15, x16, x17, x18, x19, x20, x21, x22, x23, x24, x25, x26, x27, x28)) (lc kp45_9c5 20 2 R K) = S_ref07_Get_9c5_2 fuel (x0, x1, x2, x3, x4, x5, x6, x7, x8, x9, x10, x11, x12, x13, x14, x15, x16, x17, x18, x19, x20, x21, x22, x23, x24, x25, x26, x27, x28) (fun v => R (T45_9c5_2 v)) (E45_9c5_2 K) :=
  S45_9c5_2_okg fuel (F_ref05_New fuel) (F_ref05_Valid fuel) (F_ref07_Valid fuel) (F_ref05_Sides fuel) (F_ref07_room fuel) (F_ref02_Decoder_Model_a7e fuel) (F_ref07_Size fuel) (F_ref02_Decoder_Get_0a6 fuel) (F_ref07_typical fuel) (F_ref05_At fuel) (F_ref07_context fuel) (F_ref05_Put_a2e fuel) R K x0 x1 x2 x3 x4 x5 x6 x7 x8 x9 x10 x11 x12 x13 x14 x15 x16 x17 x18 x19 x20 x21 x22 x23 x24 x25 x26 x27 x28
noncomputable def B45_9c5_2 (fuel : Nat) : Ev.Blk := fun st K => match canonO (kp45_9c5 20) st with
 | some s => (match s with
 | ⟨[(q0, .c (.ptr q1 q2)), (q3, .c (.int .i64 x0)), (q4, .c (.int .i64 x1)), (q5, .c (.int .i64 x2)), (q6, .c (.ptr q7 q8)), (q9, .c (.ptr q10 q11)), (q12, .c (.ptr q13 q14)), (q15, .c (.int .i64 x3)), (q16, .c (.ptr q17 q18)), (q19, .c (.int .i64 x4)), (q20, .c (.int .i64 x5))], [(q21, .cells q22 [.int .i64 x6, .own q23, .int .u64 x7, .int .u64 x8, .own q24, .int .i64 x9, .int .u64 x10, .int .i64 x11, .bool x12]), (q25, .vec q26 (.int .i64) x13 false), (q27, .vec q28 (.int .u8) x14 false), (q29, .cells q30 [.int .i64 x15, .int .i64 x16, .int .i64 x17, .bool x18, .int .i64 x19]), (q31, .cells q32 [.int .i64 x20, .int .i64 x21, .sl (.int .u8) x22]), (q33, .cells q34 [.int .i64 x23, .int .i64 x24, .own q35]), (q36, .cells q37 [.int .i64 x25, .int .i64 x26, .own q38]), (q39, .vec q40 (.int .u8) x27 true), (q41, .vec q42 (.int .u8) x28 true)], q43, q44⟩ => bif Nat.beq q0 0 && Nat.beq q1 0 && Nat.beq q2 0 && Nat.beq q3 1 && Nat.beq q4 3 && Nat.beq q5 4 && Nat.beq q6 8 && Nat.beq q7 3 && Nat.beq q8 0 && Nat.beq q9 11 && Nat.beq q10 4 && Nat.beq q11 0 && Nat.beq q12 12 && Nat.beq q13 5 && Nat.beq q14 0 && Nat.beq q15 15 && Nat.beq q16 17 && Nat.beq q17 6 && Nat.beq q18 0 && Nat.beq q19 19 && Nat.beq q20 22 && Nat.beq q21 0 && Nat.beq q22 164 && Nat.beq q23 1 && Nat.beq q24 2 && Nat.beq q25 1 && Nat.beq q26 3 && Nat.beq q27 2 && Nat.beq q28 5 && Nat.beq q29 3 && Nat.beq q30 46 && Nat.beq q31 4 && Nat.beq q32 39 && Nat.beq q33 5 && Nat.beq q34 39 && Nat.beq q35 7 && Nat.beq q36 6 && Nat.beq q37 39 && Nat.beq q38 8 && Nat.beq q39 7 && Nat.beq q40 5 && Nat.beq q41 8 && Nat.beq q42 5 && Nat.beq q43 9 && Nat.beq q44 3 then iter (S_ref07_Get_9c5_2 fuel) fuel (x0, x1, x2, x3, x4, x5, x6, x7, x8, x9, x10, x11, x12, x13, x14, x15, x16, x17, x18, x19, x20, x21, x22, x23, x24, x25, x26, x27, x28) (E45_9c5_2 K) else none
 | _ => none)
 | none => none
theorem B45_9c5_2_ok (fuel : Nat) (st : Ev.St) (K : Ev.Ex → Ev.St → Option Ans) (r : Ans) (h : B45_9c5_2 fuel st K = some r) : evalCode tab (G45_9c5 fuel) (J45_9c5_2 fuel) kp45_9c5 fuel (.block 2 (.loop (bodyOf 2 Try.f45))) st K = some r := by
  unfold B45_9c5_2 at h
  split at h
  · rename_i s hs
    split at h
    · skip
      obtain ⟨hb, h⟩ := cond_some' h
      simp only [Bool.and_eq_true, Nat.beq_eq, decide_eq_true_eq] at hb
      obtain ⟨⟨⟨⟨⟨⟨⟨⟨⟨⟨⟨⟨⟨⟨⟨⟨⟨⟨⟨⟨⟨⟨⟨⟨⟨⟨⟨⟨⟨⟨⟨⟨⟨⟨⟨⟨⟨⟨⟨⟨⟨⟨⟨⟨rfl, rfl⟩, rfl⟩, rfl⟩, rfl⟩, rfl⟩, rfl⟩, rfl⟩, rfl⟩, rfl⟩, rfl⟩, rfl⟩, rfl⟩, rfl⟩, rfl⟩, rfl⟩, rfl⟩, rfl⟩, rfl⟩, rfl⟩, rfl⟩, rfl⟩, rfl⟩, rfl⟩, rfl⟩, rfl⟩, rfl⟩, rfl⟩, rfl⟩, rfl⟩, rfl⟩, rfl⟩, rfl⟩, rfl⟩, rfl⟩, rfl⟩, rfl⟩, rfl⟩, rfl⟩, rfl⟩, rfl⟩, rfl⟩, rfl⟩, rfl⟩, rfl⟩ := hb
      exact blk_loop (S := T45_9c5_2) (ks := E45_9c5_2) (step := S_ref07_Get_9c5_2 fuel) (v := (_, _, _, _, _, _, _, _, _, _, _, _, _, _, _, _, _, _, _, _, _, _, _, _, _, _, _, _, _)) (by kernel_rfl) (by kernel_rfl) (fun R K v => by obtain ⟨x0, x1, x2, x3, x4, x5, x6, x7, x8, x9, x10, x11, x12, x13, x14, x15, x16, x17, x18, x19, x20, x21, x22, x23, x24, x25, x26, x27, x28⟩ := v; exact S45_9c5_2_ok fuel R K x0 x1 x2 x3 x4 x5 x6 x7 x8 x9 x10 x11 x12 x13 x14 x15 x16 x17 x18 x19 x20 x21 x22 x23 x24 x25 x26 x27 x28) hs h
    · cases h
  · cases h
noncomputable def Sg_ref07_Get_9c5_0 (fuel : Nat) (f81 : YF81) (f86 : YF86) (f109 : YF109) (f112 : YF112) (f120 : YF120) (f121_a7e : YF121_a7e) (f122 : YF122) (f123_0a6 : YF123_0a6) (f124 : YF124) (f125 : YF125) (f126 : YF126) (f127_a2e : YF127_a2e) (x0 x1 : Int) (x2 x3 : Int) (x4 x5 : Int) (x6 x7 : Int) (x8 x9 x10 : Int) (x11 : Bool) (x12 x13 : (List Int)) (x14 x15 x16 : Int) (x17 : Bool) (x18 x19 x20 : Int) (x21 : (List Int)) (x22 x23 : Int) (x24 x25 : Int) (x26 x27 : (List Int)) (c : (Int × Int × Int × Int × Int × Int × Int × Int × Int × Int × Int × Bool × (List Int) × (List Int) × Int × Int × Int × Bool × Int × Int × Int × (List Int) × Int × Int × Int × Int × (List Int) × (List Int)) → Option Ans) (B : (Int × Int × Int × Int × Int × Int × Int × Bool × (List Int) × (List Int) × Int × Int × (List Int) → Option Ans) × (Int × Int × Int × Int × Int × Int × Bool × (List Int) × (List Int) × Int × Int × Int × Int × (List Int) × (List Int) → Option Ans)) : Option Ans := match B with
 | (ret, b) =>
  bif decide (x4 < x2) then
  bif x17 then
  (f123_0a6 (IntKind.i64.wrap (IntKind.i64.wrap (x0 + x3) - (1 : Int))) (x5) (x6) (x7) (x8) (x9) (x10) (x11) (x12) (x13)
  (fun (y4_0, y4_1, y4_2, y4_3, y4_4, y4_5, y4_6, y4_7, y4_8, y4_9, y4_10) =>
  bif y4_1 != (0 : Int) then
  ret (y4_1, y4_2, y4_3, y4_4, y4_5, y4_6, y4_7, y4_8, y4_9, y4_10, (0 : Int), (0 : Int), [])
  else
  bif y4_0 == (1 : Int) then
  bif decide ((0 : Int) ≤ Ev.loOf (some (IntKind.i64.wrap (x4 * x1))) ∧ Ev.loOf (some (IntKind.i64.wrap (x4 * x1))) ≤ Ev.hiOf Option.none (↑x27.length : Int) ∧ Ev.hiOf Option.none (↑x27.length : Int) ≤ (↑x27.length : Int)) then
  (f124 (x24) (x25) (x27) (x19) (x20) (x21) (x4)
  (fun y11 =>
  c (x0, x1, x2, x3, IntKind.i64.wrap (x4 + (1 : Int)), y4_2, y4_3, y4_4, y4_5, y4_6, y4_7, y4_8, y4_9, y4_10, x14, x15, x16, x17, x18, x19, x20, x21, x22, x23, x24, x25, x26, List.take (Ev.loOf (some (IntKind.i64.wrap (x4 * x1)))).toNat x27 ++ List.take (Ev.hiOf Option.none (↑x27.length : Int) - Ev.loOf (some (IntKind.i64.wrap (x4 * x1)))).toNat y11 ++ List.drop ((Ev.loOf (some (IntKind.i64.wrap (x4 * x1)))).toNat + Min.min (Ev.hiOf Option.none (↑x27.length : Int) - Ev.loOf (some (IntKind.i64.wrap (x4 * x1)))).toNat y11.length) x27)))
  else none
  else
  (L_ref07_Get_9c5_2 fuel (x0, x1, x2, x3, x4, (0 : Int), y4_2, y4_3, y4_4, y4_5, y4_6, y4_7, y4_8, y4_9, y4_10, x14, x15, x16, x17, x18, x19, x20, x21, x22, x23, x24, x25, x26, x27)
  (fun (ret2_0, ret2_1, ret2_2, ret2_3, ret2_4, ret2_5, ret2_6, ret2_7, ret2_8, ret2_9, ret2_10, ret2_11, ret2_12) =>
  ret (ret2_0, ret2_1, ret2_2, ret2_3, ret2_4, ret2_5, ret2_6, ret2_7, ret2_8, ret2_9, ret2_10, ret2_11, ret2_12))
  (fun (b2_0, b2_1, b2_2, b2_3, b2_4, b2_5, b2_6, b2_7, b2_8, b2_9, b2_10, b2_11, b2_12, b2_13, b2_14, b2_15, b2_16, b2_17, b2_18, b2_19, b2_20, b2_21, b2_22, b2_23, b2_24, b2_25, b2_26, b2_27) =>
  c (b2_0, b2_1, b2_2, b2_3, IntKind.i64.wrap (b2_4 + (1 : Int)), b2_5, b2_6, b2_7, b2_8, b2_9, b2_10, b2_11, b2_12, b2_13, b2_14, b2_15, b2_16, b2_17, b2_18, b2_19, b2_20, b2_21, b2_22, b2_23, b2_24, b2_25, b2_26, b2_27)))))
  else
  (L_ref07_Get_9c5_2 fuel (x0, x1, x2, x3, x4, (0 : Int), x5, x6, x7, x8, x9, x10, x11, x12, x13, x14, x15, x16, x17, x18, x19, x20, x21, x22, x23, x24, x25, x26, x27)
  (fun (ret2_0, ret2_1, ret2_2, ret2_3, ret2_4, ret2_5, ret2_6, ret2_7, ret2_8, ret2_9, ret2_10, ret2_11, ret2_12) =>
  ret (ret2_0, ret2_1, ret2_2, ret2_3, ret2_4, ret2_5, ret2_6, ret2_7, ret2_8, ret2_9, ret2_10, ret2_11, ret2_12))
  (fun (b2_0, b2_1, b2_2, b2_3, b2_4, b2_5, b2_6, b2_7, b2_8, b2_9, b2_10, b2_11, b2_12, b2_13, b2_14, b2_15, b2_16, b2_17, b2_18, b2_19, b2_20, b2_21, b2_22, b2_23, b2_24, b2_25, b2_26, b2_27) =>
  c (b2_0, b2_1, b2_2, b2_3, IntKind.i64.wrap (b2_4 + (1 : Int)), b2_5, b2_6, b2_7, b2_8, b2_9, b2_10, b2_11, b2_12, b2_13, b2_14, b2_15, b2_16, b2_17, b2_18, b2_19, b2_20, b2_21, b2_22, b2_23, b2_24, b2_25, b2_26, b2_27)))
  else
  b (x5, x6, x7, x8, x9, x10, x11, x12, x13, x22, x23, x24, x25, x26, x27)
noncomputable def S_ref07_Get_9c5_0 (fuel : Nat) (v : Int × Int × Int × Int × Int × Int × Int × Int × Int × Int × Int × Bool × (List Int) × (List Int) × Int × Int × Int × Bool × Int × Int × Int × (List Int) × Int × Int × Int × Int × (List Int) × (List Int)) (c : (Int × Int × Int × Int × Int × Int × Int × Int × Int × Int × Int × Bool × (List Int) × (List Int) × Int × Int × Int × Bool × Int × Int × Int × (List Int) × Int × Int × Int × Int × (List Int) × (List Int)) → Option Ans) (B : (Int × Int × Int × Int × Int × Int × Int × Bool × (List Int) × (List Int) × Int × Int × (List Int) → Option Ans) × (Int × Int × Int × Int × Int × Int × Bool × (List Int) × (List Int) × Int × Int × Int × Int × (List Int) × (List Int) → Option Ans)) : Option Ans := match v with
 | (x0, x1, x2, x3, x4, x5, x6, x7, x8, x9, x10, x11, x12, x13, x14, x15, x16, x17, x18, x19, x20, x21, x22, x23, x24, x25, x26, x27) => Sg_ref07_Get_9c5_0 fuel (F_ref05_New fuel) (F_ref05_Valid fuel) (F_ref07_Valid fuel) (F_ref05_Sides fuel) (F_ref07_room fuel) (F_ref02_Decoder_Model_a7e fuel) (F_ref07_Size fuel) (F_ref02_Decoder_Get_0a6 fuel) (F_ref07_typical fuel) (F_ref05_At fuel) (F_ref07_context fuel) (F_ref05_Put_a2e fuel) x0 x1 x2 x3 x4 x5 x6 x7 x8 x9 x10 x11 x12 x13 x14 x15 x16 x17 x18 x19 x20 x21 x22 x23 x24 x25 x26 x27 c B
noncomputable def L_ref07_Get_9c5_0 (fuel : Nat) (v : Int × Int × Int × Int × Int × Int × Int × Int × Int × Int × Int × Bool × (List Int) × (List Int) × Int × Int × Int × Bool × Int × Int × Int × (List Int) × Int × Int × Int × Int × (List Int) × (List Int)) (ret : (Int × Int × Int × Int × Int × Int × Int × Bool × (List Int) × (List Int) × Int × Int × (List Int) → Option Ans)) (b : (Int × Int × Int × Int × Int × Int × Bool × (List Int) × (List Int) × Int × Int × Int × Int × (List Int) × (List Int) → Option Ans)) : Option Ans := iter (S_ref07_Get_9c5_0 fuel) fuel v (ret, b)
noncomputable def J45_9c5_0 (fuel : Nat) (i : Nat) : Option Ev.Blk := Ev.look i [(100002, B45_9c5_2 fuel)]
noncomputable def T45_9c5_0 (v : Int × Int × Int × Int × Int × Int × Int × Int × Int × Int × Int × Bool × (List Int) × (List Int) × Int × Int × Int × Bool × Int × Int × Int × (List Int) × Int × Int × Int × Int × (List Int) × (List Int)) : Ev.St := match v with | (x0, x1, x2, x3, x4, x5, x6, x7, x8, x9, x10, x11, x12, x13, x14, x15, x16, x17, x18, x19, x20, x21, x22, x23, x24, x25, x26, x27) => ⟨[(0, .c (.ptr 0 0)), (1, .c (.int .i64 x0)), (3, .c (.int .i64 x1)), (4, .c (.int .i64 x2)), (8, .c (.ptr 3 0)), (11, .c (.ptr 4 0)), (12, .c (.ptr 5 0)), (15, .c (.int .i64 x3)), (17, .c (.ptr 6 0)), (19, .c (.int .i64 x4))], [(0, .cells 164 [.int .i64 x5, .own 1, .int .u64 x6, .int .u64 x7, .own 2, .int .i64 x8, .int .u64 x9, .int .i64 x10, .bool x11]), (1, .vec 3 (.int .i64) x12 false), (2, .vec 5 (.int .u8) x13 false), (3, .cells 46 [.int .i64 x14, .int .i64 x15, .int .i64 x16, .bool x17, .int .i64 x18]), (4, .cells 39 [.int .i64 x19, .int .i64 x20, .sl (.int .u8) x21]), (5, .cells 39 [.int .i64 x22, .int .i64 x23, .own 7]), (6, .cells 39 [.int .i64 x24, .int .i64 x25, .own 8]), (7, .vec 5 (.int .u8) x26 true), (8, .vec 5 (.int .u8) x27 true)], 9, 3⟩
noncomputable def E45_9c5_0 (K : Ev.Ex → Ev.St → Option Ans) : (Int × Int × Int × Int × Int × Int × Int × Bool × (List Int) × (List Int) × Int × Int × (List Int) → Option Ans) × (Int × Int × Int × Int × Int × Int × Bool × (List Int) × (List Int) × Int × Int × Int × Int × (List Int) × (List Int) → Option Ans) := ((fun v => match v with | (x0, x1, x2, x3, x4, x5, x6, x7, x8, x9, x10, x11, x12) => K .ret ⟨[(12, .c (.ptr 3 0)), (13, .c (.int .i64 x0))], [(0, .cells 164 [.int .i64 x1, .own 1, .int .u64 x2, .int .u64 x3, .own 2, .int .i64 x4, .int .u64 x5, .int .i64 x6, .bool x7]), (1, .vec 3 (.int .i64) x8 false), (2, .vec 5 (.int .u8) x9 false), (3, .cells 39 [.int .i64 x10, .int .i64 x11, .own 4]), (4, .vec 5 (.int .u8) x12 true)], 5, 3⟩), (fun v => match v with | (x0, x1, x2, x3, x4, x5, x6, x7, x8, x9, x10, x11, x12, x13, x14) => K .normal ⟨[(12, .c (.ptr 3 0)), (17, .c (.ptr 4 0))], [(0, .cells 164 [.int .i64 x0, .own 1, .int .u64 x1, .int .u64 x2, .own 2, .int .i64 x3, .int .u64 x4, .int .i64 x5, .bool x6]), (1, .vec 3 (.int .i64) x7 false), (2, .vec 5 (.int .u8) x8 false), (3, .cells 39 [.int .i64 x9, .int .i64 x10, .own 5]), (4, .cells 39 [.int .i64 x11, .int .i64 x12, .own 6]), (5, .vec 5 (.int .u8) x13 true), (6, .vec 5 (.int .u8) x14 true)], 7, 3⟩))
theorem S45_9c5_0_okg (fuel : Nat) (f81 : YF81) (f86 : YF86) (f109 : YF109) (f112 : YF112) (f120 : YF120) (f121_a7e : YF121_a7e) (f122 : YF122) (f123_0a6 : YF123_0a6) (f124 : YF124) (f125 : YF125) (f126 : YF126) (f127_a2e : YF127_a2e) (R : Ev.St → Option Ans) (K : Ev.Ex → Ev.St → Option Ans) (x0 x1 : Int) (x2 x3 : Int) (x4 x5 : Int) (x6 x7 : Int) (x8 x9 x10 : Int) (x11 : Bool) (x12 x13 : (List Int)) (x14 x15 x16 : Int) (x17 : Bool) (x18 x19 x20 : Int) (x21 : (List Int)) (x22 x23 : Int) (x24 x25 : Int) (x26 x27 : (List Int)) : evalCode tab (Gg45_9c5 f81 f86 f109 f112 f120 f121_a7e f122 f123_0a6 f124 f125 f126 f127_a2e) (J45_9c5_0 fuel) kp45_9c5 fuel (bodyOf 0 Try.f45) (T45_9c5_0 (x0, x1, x2, x3, x4, x5, x6, x7, x8, x9, x10, x11, x12, x13, x14, x15, x16, x17, x18, x19, x20, x21, x22, x23, x24, x25, x26, x27)) (lc kp45_9c5 11 0 R K) = Sg_ref07_Get_9c5_0 fuel f81 f86 f109 f112 f120 f121_a7e f122 f123_0a6 f124 f125 f126 f127_a2e x0 x1 x2 x3 x4 x5 x6 x7 x8 x9 x10 x11 x12 x13 x14 x15 x16 x17 x18 x19 x20 x21 x22 x23 x24 x25 x26 x27 (fun v => R (T45_9c5_0 v)) (E45_9c5_0 K) := by
  kernel_rfl
theorem S45_9c5_0_ok (fuel : Nat) (R : Ev.St → Option Ans) (K : Ev.Ex → Ev.St → Option Ans) (x0 x1 : Int) (x2 x3 : Int) (x4 x5 : Int) (x6 x7 : Int) (x8 x9 x10 : Int) (x11 : Bool) (x12 x13 : (List Int)) (x14 x15 x16 : Int) (x17 : Bool) (x18 x19 x20 : Int) (x21 : (List Int)) (x22 x23 : Int) (x24 x25 : Int) (x26 x27 : (List Int)) : evalCode tab (G45_9c5 fuel) (J45_9c5_0 fuel) kp45_9c5 fuel (bodyOf 0 Try.f45) (T45_9c5_0 (x0, x1, x2, x3, x4, x5, x6, x7, x8, x9, x10, x11, x12, x13, x14, x15, x16, x17, x18, x19, x20, x21, x22, x23, x24, x25, x26, x27)) (lc kp45_9c5 11 0 R K) = S_ref07_Get_9c5_0 fuel (x0, x1, x2, x3, x4, x5, x6, x7, x8, x9, x10, x11, x12, x13, x14, x15, x16, x17, x18, x19, x20, x21, x22, x23, x24, x25, x26, x27) (fun v => R (T45_9c5_0 v)) (E45_9c5_0 K) :=
  S45_9c5_0_okg fuel (F_ref05_New fuel) (F_ref05_Valid fuel) (F_ref07_Valid fuel) (F_ref05_Sides fuel) (F_ref07_room fuel) (F_ref02_Decoder_Model_a7e fuel) (F_ref07_Size fuel) (F_ref02_Decoder_Get_0a6 fuel) (F_ref07_typical fuel) (F_ref05_At fuel) (F_ref07_context fuel) (F_ref05_Put_a2e fuel) R K x0 x1 x2 x3 x4 x5 x6 x7 x8 x9 x10 x11 x12 x13 x14 x15 x16 x17 x18 x19 x20 x21 x22 x23 x24 x25 x26 x27
noncomputable def B45_9c5_0 (fuel : Nat) : Ev.Blk := fun st K => match canonO (kp45_9c5 11) st with
 | some s => (match s with
 | ⟨[(q0, .c (.ptr q1 q2)), (q3, .c (.int .i64 x0)), (q4, .c (.int .i64 x1)), (q5, .c (.int .i64 x2)), (q6, .c (.ptr q7 q8)), (q9, .c (.ptr q10 q11)), (q12, .c (.ptr q13 q14)), (q15, .c (.int .i64 x3)), (q16, .c (.ptr q17 q18)), (q19, .c (.int .i64 x4))], [(q20, .cells q21 [.int .i64 x5, .own q22, .int .u64 x6, .int .u64 x7, .own q23, .int .i64 x8, .int .u64 x9, .int .i64 x10, .bool x11]), (q24, .vec q25 (.int .i64) x12 false), (q26, .vec q27 (.int .u8) x13 false), (q28, .cells q29 [.int .i64 x14, .int .i64 x15, .int .i64 x16, .bool x17, .int .i64 x18]), (q30, .cells q31 [.int .i64 x19, .int .i64 x20, .sl (.int .u8) x21]), (q32, .cells q33 [.int .i64 x22, .int .i64 x23, .own q34]), (q35, .cells q36 [.int .i64 x24, .int .i64 x25, .own q37]), (q38, .vec q39 (.int .u8) x26 true), (q40, .vec q41 (.int .u8) x27 true)], q42, q43⟩ => bif Nat.beq q0 0 && Nat.beq q1 0 && Nat.beq q2 0 && Nat.beq q3 1 && Nat.beq q4 3 && Nat.beq q5 4 && Nat.beq q6 8 && Nat.beq q7 3 && Nat.beq q8 0 && Nat.beq q9 11 && Nat.beq q10 4 && Nat.beq q11 0 && Nat.beq q12 12 && Nat.beq q13 5 && Nat.beq q14 0 && Nat.beq q15 15 && Nat.beq q16 17 && Nat.beq q17 6 && Nat.beq q18 0 && Nat.beq q19 19 && Nat.beq q20 0 && Nat.beq q21 164 && Nat.beq q22 1 && Nat.beq q23 2 && Nat.beq q24 1 && Nat.beq q25 3 && Nat.beq q26 2 && Nat.beq q27 5 && Nat.beq q28 3 && Nat.beq q29 46 && Nat.beq q30 4 && Nat.beq q31 39 && Nat.beq q32 5 && Nat.beq q33 39 && Nat.beq q34 7 && Nat.beq q35 6 && Nat.beq q36 39 && Nat.beq q37 8 && Nat.beq q38 7 && Nat.beq q39 5 && Nat.beq q40 8 && Nat.beq q41 5 && Nat.beq q42 9 && Nat.beq q43 3 then iter (S_ref07_Get_9c5_0 fuel) fuel (x0, x1, x2, x3, x4, x5, x6, x7, x8, x9, x10, x11, x12, x13, x14, x15, x16, x17, x18, x19, x20, x21, x22, x23, x24, x25, x26, x27) (E45_9c5_0 K) else none
 | _ => none)
 | none => none
theorem B45_9c5_0_ok (fuel : Nat) (st : Ev.St) (K : Ev.Ex → Ev.St → Option Ans) (r : Ans) (h : B45_9c5_0 fuel st K = some r) : evalCode tab (G45_9c5 fuel) (J45_9c5_0 fuel) kp45_9c5 fuel (.block 0 (.loop (bodyOf 0 Try.f45))) st K = some r := by
  unfold B45_9c5_0 at h
  split at h
  · rename_i s hs
    split at h
    · skip
      obtain ⟨hb, h⟩ := cond_some' h
      simp only [Bool.and_eq_true, Nat.beq_eq, decide_eq_true_eq] at hb
      obtain ⟨⟨⟨⟨⟨⟨⟨⟨⟨⟨⟨⟨⟨⟨⟨⟨⟨⟨⟨⟨⟨⟨⟨⟨⟨⟨⟨⟨⟨⟨⟨⟨⟨⟨⟨⟨⟨⟨⟨⟨⟨⟨⟨rfl, rfl⟩, rfl⟩, rfl⟩, rfl⟩, rfl⟩, rfl⟩, rfl⟩, rfl⟩, rfl⟩, rfl⟩, rfl⟩, rfl⟩, rfl⟩, rfl⟩, rfl⟩, rfl⟩, rfl⟩, rfl⟩, rfl⟩, rfl⟩, rfl⟩, rfl⟩, rfl⟩, rfl⟩, rfl⟩, rfl⟩, rfl⟩, rfl⟩, rfl⟩, rfl⟩, rfl⟩, rfl⟩, rfl⟩, rfl⟩, rfl⟩, rfl⟩, rfl⟩, rfl⟩, rfl⟩, rfl⟩, rfl⟩, rfl⟩, rfl⟩ := hb
      exact blk_loop (S := T45_9c5_0) (ks := E45_9c5_0) (step := S_ref07_Get_9c5_0 fuel) (v := (_, _, _, _, _, _, _, _, _, _, _, _, _, _, _, _, _, _, _, _, _, _, _, _, _, _, _, _)) (by kernel_rfl) (by kernel_rfl) (fun R K v => by obtain ⟨x0, x1, x2, x3, x4, x5, x6, x7, x8, x9, x10, x11, x12, x13, x14, x15, x16, x17, x18, x19, x20, x21, x22, x23, x24, x25, x26, x27⟩ := v; exact S45_9c5_0_ok fuel R K x0 x1 x2 x3 x4 x5 x6 x7 x8 x9 x10 x11 x12 x13 x14 x15 x16 x17 x18 x19 x20 x21 x22 x23 x24 x25 x26 x27) hs h
    · cases h
  · cases h
noncomputable def J45_9c5 (fuel : Nat) (i : Nat) : Option Ev.Blk := Ev.look i [(100002, B45_9c5_2 fuel), (100000, B45_9c5_0 fuel)]
noncomputable def Fg_ref07_Get_9c5 (fuel : Nat) (f81 : YF81) (f86 : YF86) (f109 : YF109) (f112 : YF112) (f120 : YF120) (f121_a7e : YF121_a7e) (f122 : YF122) (f123_0a6 : YF123_0a6) (f124 : YF124) (f125 : YF125) (f126 : YF126) (f127_a2e : YF127_a2e) (x0 x1 : Int) (x2 x3 : Int) (x4 : Bool) (x5 x6 : Int) (x7 x8 x9 : Int) (x10 : (List Int)) (x11 x12 : Int) (x13 x14 : Int) (x15 x16 : Int) (x17 : Bool) (x18 x19 : (List Int)) (k0 : (Int × Int × Int × Int × Int × Int × Int × Int × Int × Bool × (List Int) × (List Int) × (List Int)) → Option Ans) : Option Ans :=
  (f109 (x1) (x2) (x3) (x4) (x5)
  (fun y2 =>
  bif !y2 then
  k0 ((0 : Int), (0 : Int), (2 : Int), x11, x12, x13, x14, x15, x16, x17, x18, x19, [])
  else
  (f112 (x6) (x7)
  (fun y7 =>
  bif !y7 then
  k0 ((0 : Int), (0 : Int), (30 : Int), x11, x12, x13, x14, x15, x16, x17, x18, x19, [])
  else
  (f86 (x8) (x9) (x10)
  (fun y12 =>
  bif !y12 then
  k0 ((0 : Int), (0 : Int), (30 : Int), x11, x12, x13, x14, x15, x16, x17, x18, x19, [])
  else
  (f121_a7e (x11) (x12) (x13) (x14) (x15) (x16) (x17) (x18) (x19)
  (fun (y17_0, y17_1, y17_2, y17_3, y17_4, y17_5, y17_6, y17_7, y17_8, y17_9, y17_10) =>
  (f120 (x1) (x2) (x3) (x4) (x5) (x0) ((↑y17_10.length : Int)) (x6) (x7) (x8) (x9) (x10)
  (fun y21 =>
  bif y21 != (0 : Int) then
  k0 ((0 : Int), (0 : Int), y21, y17_1, y17_2, y17_3, y17_4, y17_5, y17_6, y17_7, y17_8, y17_9, [])
  else
  (f122 (x1) (x2) (x3) (x4) (x5)
  (fun (y26_0, y26_1) =>
  (f81 (x6) (x7) ((0 : Int))
  (fun (y30_0, y30_1, y30_2, y30_3) =>
  (L_ref07_Get_9c5_0 fuel (x0, x6, x7, y26_0, (0 : Int), y17_1, y17_2, y17_3, y17_4, y17_5, y17_6, y17_7, y17_8, y17_9, x1, x2, x3, x4, x5, x8, x9, x10, (0 : Int), (0 : Int), y30_0, y30_1, [], y30_3)
  (fun (ret0_0, ret0_1, ret0_2, ret0_3, ret0_4, ret0_5, ret0_6, ret0_7, ret0_8, ret0_9, ret0_10, ret0_11, ret0_12) =>
  k0 (ret0_10, ret0_11, ret0_0, ret0_1, ret0_2, ret0_3, ret0_4, ret0_5, ret0_6, ret0_7, ret0_8, ret0_9, ret0_12))
  (fun (b0_0, b0_1, b0_2, b0_3, b0_4, b0_5, b0_6, b0_7, b0_8, b0_9, b0_10, b0_11, b0_12, b0_13, b0_14) =>
  k0 (b0_11, b0_12, (0 : Int), b0_0, b0_1, b0_2, b0_3, b0_4, b0_5, b0_6, b0_7, b0_8, b0_14)))))))))))))))))
noncomputable def F_ref07_Get_9c5 (fuel : Nat) (x0 x1 : Int) (x2 x3 : Int) (x4 : Bool) (x5 x6 : Int) (x7 x8 x9 : Int) (x10 : (List Int)) (x11 x12 : Int) (x13 x14 : Int) (x15 x16 : Int) (x17 : Bool) (x18 x19 : (List Int)) (k0 : (Int × Int × Int × Int × Int × Int × Int × Int × Int × Bool × (List Int) × (List Int) × (List Int)) → Option Ans) : Option Ans := Fg_ref07_Get_9c5 fuel (F_ref05_New fuel) (F_ref05_Valid fuel) (F_ref07_Valid fuel) (F_ref05_Sides fuel) (F_ref07_room fuel) (F_ref02_Decoder_Model_a7e fuel) (F_ref07_Size fuel) (F_ref02_Decoder_Get_0a6 fuel) (F_ref07_typical fuel) (F_ref05_At fuel) (F_ref07_context fuel) (F_ref05_Put_a2e fuel) x0 x1 x2 x3 x4 x5 x6 x7 x8 x9 x10 x11 x12 x13 x14 x15 x16 x17 x18 x19 k0
abbrev YF45_9c5 : Type := (Int) → (Int) → (Int) → (Int) → (Bool) → (Int) → (Int) → (Int) → (Int) → (Int) → ((List Int)) → (Int) → (Int) → (Int) → (Int) → (Int) → (Int) → (Bool) → ((List Int)) → ((List Int)) → ((Int × Int × Int × Int × Int × Int × Int × Int × Int × Bool × (List Int) × (List Int) × (List Int)) → Option Ans) → Option Ans
theorem F45_9c5_eqg (fuel : Nat) (f81 : YF81) (f86 : YF86) (f109 : YF109) (f112 : YF112) (f120 : YF120) (f121_a7e : YF121_a7e) (f122 : YF122) (f123_0a6 : YF123_0a6) (f124 : YF124) (f125 : YF125) (f126 : YF126) (f127_a2e : YF127_a2e) (x0 x1 : Int) (x2 x3 : Int) (x4 : Bool) (x5 x6 : Int) (x7 x8 x9 : Int) (x10 : (List Int)) (x11 x12 : Int) (x13 x14 : Int) (x15 x16 : Int) (x17 : Bool) (x18 x19 : (List Int)) (k : Ev.Cont) : evalFn tab (Gg45_9c5 f81 f86 f109 f112 f120 f121_a7e f122 f123_0a6 f124 f125 f126 f127_a2e) (J45_9c5 fuel) kp45_9c5 fuel Try.f45 [.c (.ptr 0 0), .c (.int .i64 x0), .agg [.int .i64 x1, .int .i64 x2, .int .i64 x3, .bool x4, .int .i64 x5], .c (.int .i64 x6), .c (.int .i64 x7), .agg [.int .i64 x8, .int .i64 x9, .sl (.int .u8) x10]] [.cells 164 [.int .i64 x11, .own 1, .int .u64 x12, .int .u64 x13, .own 2, .int .i64 x14, .int .u64 x15, .int .i64 x16, .bool x17], .vec 3 (.int .i64) x18 false, .vec 5 (.int .u8) x19 false] k = Fg_ref07_Get_9c5 fuel f81 f86 f109 f112 f120 f121_a7e f122 f123_0a6 f124 f125 f126 f127_a2e x0 x1 x2 x3 x4 x5 x6 x7 x8 x9 x10 x11 x12 x13 x14 x15 x16 x17 x18 x19 (fun r => match r with | (r0, r1, r2, r3, r4, r5, r6, r7, r8, r9, r10, r11, r12) => k (.tup [(true, [.int .i64 r0, .int .i64 r1, .own 3]), (false, [.int .i64 r2])], [.cells 164 [.int .i64 r3, .own 1, .int .u64 r4, .int .u64 r5, .own 2, .int .i64 r6, .int .u64 r7, .int .i64 r8, .bool r9], .vec 3 (.int .i64) r10 false, .vec 5 (.int .u8) r11 false, .vec 5 (.int .u8) r12 true])) := by
  kernel_rfl
theorem F45_9c5_eq (fuel : Nat) (x0 x1 : Int) (x2 x3 : Int) (x4 : Bool) (x5 x6 : Int) (x7 x8 x9 : Int) (x10 : (List Int)) (x11 x12 : Int) (x13 x14 : Int) (x15 x16 : Int) (x17 : Bool) (x18 x19 : (List Int)) (k : Ev.Cont) : evalFn tab (G45_9c5 fuel) (J45_9c5 fuel) kp45_9c5 fuel Try.f45 [.c (.ptr 0 0), .c (.int .i64 x0), .agg [.int .i64 x1, .int .i64 x2, .int .i64 x3, .bool x4, .int .i64 x5], .c (.int .i64 x6), .c (.int .i64 x7), .agg [.int .i64 x8, .int .i64 x9, .sl (.int .u8) x10]] [.cells 164 [.int .i64 x11, .own 1, .int .u64 x12, .int .u64 x13, .own 2, .int .i64 x14, .int .u64 x15, .int .i64 x16, .bool x17], .vec 3 (.int .i64) x18 false, .vec 5 (.int .u8) x19 false] k = F_ref07_Get_9c5 fuel x0 x1 x2 x3 x4 x5 x6 x7 x8 x9 x10 x11 x12 x13 x14 x15 x16 x17 x18 x19 (fun r => match r with | (r0, r1, r2, r3, r4, r5, r6, r7, r8, r9, r10, r11, r12) => k (.tup [(true, [.int .i64 r0, .int .i64 r1, .own 3]), (false, [.int .i64 r2])], [.cells 164 [.int .i64 r3, .own 1, .int .u64 r4, .int .u64 r5, .own 2, .int .i64 r6, .int .u64 r7, .int .i64 r8, .bool r9], .vec 3 (.int .i64) r10 false, .vec 5 (.int .u8) r11 false, .vec 5 (.int .u8) r12 true])) :=
  F45_9c5_eqg fuel (F_ref05_New fuel) (F_ref05_Valid fuel) (F_ref07_Valid fuel) (F_ref05_Sides fuel) (F_ref07_room fuel) (F_ref02_Decoder_Model_a7e fuel) (F_ref07_Size fuel) (F_ref02_Decoder_Get_0a6 fuel) (F_ref07_typical fuel) (F_ref05_At fuel) (F_ref07_context fuel) (F_ref05_Put_a2e fuel) x0 x1 x2 x3 x4 x5 x6 x7 x8 x9 x10 x11 x12 x13 x14 x15 x16 x17 x18 x19 k
theorem hG45_9c5 (fuel : Nat) : GOK Try.prog (G45_9c5 fuel) :=
  gok_cons ⟨ok81 fuel, enters_of Try.func81 (by kernel_rfl) rfl⟩ <|
  gok_cons ⟨ok86 fuel, enters_of Try.func86 (by kernel_rfl) rfl⟩ <|
  gok_cons ⟨ok109 fuel, enters_of Try.func109 (by kernel_rfl) rfl⟩ <|
  gok_cons ⟨ok112 fuel, enters_of Try.func112 (by kernel_rfl) rfl⟩ <|
  gok_cons ⟨ok120 fuel, enters_of Try.func120 (by kernel_rfl) rfl⟩ <|
  gok_cons ⟨ok121_a7e fuel, enters_of Try.func121 (by kernel_rfl) rfl⟩ <|
  gok_cons ⟨ok122 fuel, enters_of Try.func122 (by kernel_rfl) rfl⟩ <|
  gok_cons ⟨ok123_0a6 fuel, enters_of Try.func123 (by kernel_rfl) rfl⟩ <|
  gok_cons ⟨ok124 fuel, enters_of Try.func124 (by kernel_rfl) rfl⟩ <|
  gok_cons ⟨ok125 fuel, enters_of Try.func125 (by kernel_rfl) rfl⟩ <|
  gok_cons ⟨ok126 fuel, enters_of Try.func126 (by kernel_rfl) rfl⟩ <|
  gok_cons ⟨ok127_a2e fuel, enters_of Try.func127 (by kernel_rfl) rfl⟩ <|
  gok_nil
theorem B45_9c5_2_blk (fuel : Nat) : BlkOK Try.prog Try.f45.ntmps (.block 2 (.loop (bodyOf 2 Try.f45))) (B45_9c5_2 fuel) :=
  blk_of (blk_of_code tab_ok (hG45_9c5 fuel) mixed (J := J45_9c5_2 fuel) (kp := kp45_9c5) (fuel := fuel) (by kernel_rfl) (fun q hq => by
    rw [(by kernel_rfl : obl (J45_9c5_2 fuel) (.block 2 (.loop (bodyOf 2 Try.f45))) = [])] at hq
    cases hq)) (B45_9c5_2_ok fuel)
theorem B45_9c5_0_blk (fuel : Nat) : BlkOK Try.prog Try.f45.ntmps (.block 0 (.loop (bodyOf 0 Try.f45))) (B45_9c5_0 fuel) :=
  blk_of (blk_of_code tab_ok (hG45_9c5 fuel) mixed (J := J45_9c5_0 fuel) (kp := kp45_9c5) (fuel := fuel) (by kernel_rfl) (fun q hq => by
    rw [(by kernel_rfl : obl (J45_9c5_0 fuel) (.block 0 (.loop (bodyOf 0 Try.f45))) = [(.block 2 (.loop (bodyOf 2 Try.f45)), B45_9c5_2 fuel)])] at hq
    simp only [List.mem_cons, List.not_mem_nil, or_false] at hq
    subst hq
    · exact B45_9c5_2_blk fuel)) (B45_9c5_0_ok fuel)
theorem fok45_9c5 (fuel : Nat) : FnOK Try.prog 45 (evalFn tab (G45_9c5 fuel) (J45_9c5 fuel) kp45_9c5 fuel Try.f45) :=
  fn_ok tab_ok (hG45_9c5 fuel) mixed Try.func45 (c := (Try.f45.body).getD .skip) rfl (fun q hq => by
    rw [(by kernel_rfl : obl (J45_9c5 fuel) ((Try.f45.body).getD .skip) = [(.block 0 (.loop (bodyOf 0 Try.f45)), B45_9c5_0 fuel)])] at hq
    simp only [List.mem_cons, List.not_mem_nil, or_false] at hq
    subst hq
    · exact B45_9c5_0_blk fuel)
noncomputable def mt45_9c5 : List Ev.SV → List Ev.Ob → Bool := fun args objs => match args, objs with
 | [.c (.ptr q0 q1), .c (.int .i64 _), .agg [.int .i64 _, .int .i64 _, .int .i64 _, .bool _, .int .i64 _], .c (.int .i64 _), .c (.int .i64 _), .agg [.int .i64 _, .int .i64 _, .sl (.int .u8) _]], [.cells q2 [.int .i64 _, .own q3, .int .u64 _, .int .u64 _, .own q4, .int .i64 _, .int .u64 _, .int .i64 _, .bool _], .vec q5 (.int .i64) _ false, .vec q6 (.int .u8) _ false] => Nat.beq q0 0 && Nat.beq q1 0 && Nat.beq q2 164 && Nat.beq q3 1 && Nat.beq q4 2 && Nat.beq q5 3 && Nat.beq q6 5
 | _, _ => false
noncomputable def spg45_9c5 (F : YF45_9c5) : Ev.Spec := fun args objs k => match args, objs with
 | [.c (.ptr q0 q1), .c (.int .i64 x0), .agg [.int .i64 x1, .int .i64 x2, .int .i64 x3, .bool x4, .int .i64 x5], .c (.int .i64 x6), .c (.int .i64 x7), .agg [.int .i64 x8, .int .i64 x9, .sl (.int .u8) x10]], [.cells q2 [.int .i64 x11, .own q3, .int .u64 x12, .int .u64 x13, .own q4, .int .i64 x14, .int .u64 x15, .int .i64 x16, .bool x17], .vec q5 (.int .i64) x18 false, .vec q6 (.int .u8) x19 false] => bif Nat.beq q0 0 && Nat.beq q1 0 && Nat.beq q2 164 && Nat.beq q3 1 && Nat.beq q4 2 && Nat.beq q5 3 && Nat.beq q6 5 then F x0 x1 x2 x3 x4 x5 x6 x7 x8 x9 x10 x11 x12 x13 x14 x15 x16 x17 x18 x19 (fun r => match r with | (r0, r1, r2, r3, r4, r5, r6, r7, r8, r9, r10, r11, r12) => k (.tup [(true, [.int .i64 r0, .int .i64 r1, .own 3]), (false, [.int .i64 r2])], [.cells 164 [.int .i64 r3, .own 1, .int .u64 r4, .int .u64 r5, .own 2, .int .i64 r6, .int .u64 r7, .int .i64 r8, .bool r9], .vec 3 (.int .i64) r10 false, .vec 5 (.int .u8) r11 false, .vec 5 (.int .u8) r12 true])) else none
 | _, _ => none
noncomputable def spec45_9c5 (fuel : Nat) : Ev.Spec := spg45_9c5 (F_ref07_Get_9c5 fuel)
theorem ok45_9c5 (fuel : Nat) : FnOK Try.prog 45 (spec45_9c5 fuel) := by
  intro args objs kk r h
  unfold spec45_9c5 spg45_9c5 at h
  split at h
  · skip
    obtain ⟨hb, h⟩ := cond_some' h
    simp only [Bool.and_eq_true, Nat.beq_eq, decide_eq_true_eq] at hb
    obtain ⟨⟨⟨⟨⟨⟨rfl, rfl⟩, rfl⟩, rfl⟩, rfl⟩, rfl⟩, rfl⟩ := hb
    exact fok45_9c5 fuel _ _ kk r ((F45_9c5_eq fuel _ _ _ _ _ _ _ _ _ _ _ _ _ _ _ _ _ _ _ _ kk).trans h)
  · cases h
end Go.Proofs.Ytihfgpfofmjbaaa

set_option linter.unusedVariables false
set_option linter.unusedSimpArgs false
set_option maxRecDepth 100000
set_option maxHeartbeats 2000000
namespace Go.Proofs.Ytihfgpfofmjbaaa
open Go Ev
def kp49 (i : Nat) : Option (List Nat) := Ev.look i []
noncomputable def Gg49 (f43 : YF43) (f44 : YF44) (f45_9c5 : YF45_9c5) (f122 : YF122) (f : Nat) : Option Ev.Spec := Ev.look f [(43, spg43 f43), (44, spg44 f44), (45, spg45_9c5 f45_9c5), (122, spg122 f122)]
noncomputable def G49 (fuel : Nat) : Nat → Option Ev.Spec := Gg49 (F_ref02_New fuel) (F_ref02_NewDecoder fuel) (F_ref07_Get_9c5 fuel) (F_ref07_Size fuel)
noncomputable def J49 (fuel : Nat) (i : Nat) : Option Ev.Blk := Ev.look i []
noncomputable def Fg_ref07_Decode (fuel : Nat) (f43 : YF43) (f44 : YF44) (f45_9c5 : YF45_9c5) (f122 : YF122) (x0 x1 x2 : Int) (x3 : Bool) (x4 : Int) (x5 : (List Int)) (x6 x7 : Int) (k0 : (Int × Int × Int × (List Int)) → Option Ans) : Option Ans :=
  (f122 (x0) (x1) (x2) (x3) (x4)
  (fun (y2_0, y2_1) =>
  bif y2_1 != (0 : Int) then
  k0 ((0 : Int), (0 : Int), y2_1, [])
  else
  (f43 (x4) (y2_0)
  (fun (y7_0, y7_1, y7_2) =>
  (f44 (y7_0) (y7_2) (x5)
  (fun y11 =>
  none)
  (fun (y11_0, y11_1, y11_2, y11_3, y11_4, y11_5, y11_6, y11_7, y11_8, y11_9) =>
  (f45_9c5 ((0 : Int)) (x0) (x1) (x2) (x3) (x4) (x6) (x7) ((0 : Int)) ((0 : Int)) ([]) (y11_1) (y11_2) (y11_3) (y11_4) (y11_5) (y11_6) (y11_7) (y11_8) (y11_9)
  (fun (y15_0, y15_1, y15_2, y15_3, y15_4, y15_5, y15_6, y15_7, y15_8, y15_9, y15_10, y15_11, y15_12) =>
  k0 (y15_0, y15_1, y15_2, y15_12)))))))))
noncomputable def F_ref07_Decode (fuel : Nat) (x0 x1 x2 : Int) (x3 : Bool) (x4 : Int) (x5 : (List Int)) (x6 x7 : Int) (k0 : (Int × Int × Int × (List Int)) → Option Ans) : Option Ans := Fg_ref07_Decode fuel (F_ref02_New fuel) (F_ref02_NewDecoder fuel) (F_ref07_Get_9c5 fuel) (F_ref07_Size fuel) x0 x1 x2 x3 x4 x5 x6 x7 k0
abbrev YF49 : Type := (Int) → (Int) → (Int) → (Bool) → (Int) → ((List Int)) → (Int) → (Int) → ((Int × Int × Int × (List Int)) → Option Ans) → Option Ans
theorem F49_eqg (fuel : Nat) (f43 : YF43) (f44 : YF44) (f45_9c5 : YF45_9c5) (f122 : YF122) (x0 x1 x2 : Int) (x3 : Bool) (x4 : Int) (x5 : (List Int)) (x6 x7 : Int) (k : Ev.Cont) : evalFn tab (Gg49 f43 f44 f45_9c5 f122) (J49 fuel) kp49 fuel Try.f49 [.agg [.int .i64 x0, .int .i64 x1, .int .i64 x2, .bool x3, .int .i64 x4], .c (.sl (.int .u8) x5), .c (.int .i64 x6), .c (.int .i64 x7)] [] k = Fg_ref07_Decode fuel f43 f44 f45_9c5 f122 x0 x1 x2 x3 x4 x5 x6 x7 (fun r => match r with | (r0, r1, r2, r3) => k (.tup [(true, [.int .i64 r0, .int .i64 r1, .own 0]), (false, [.int .i64 r2])], [.vec 5 (.int .u8) r3 true])) := by
  kernel_rfl
theorem F49_eq (fuel : Nat) (x0 x1 x2 : Int) (x3 : Bool) (x4 : Int) (x5 : (List Int)) (x6 x7 : Int) (k : Ev.Cont) : evalFn tab (G49 fuel) (J49 fuel) kp49 fuel Try.f49 [.agg [.int .i64 x0, .int .i64 x1, .int .i64 x2, .bool x3, .int .i64 x4], .c (.sl (.int .u8) x5), .c (.int .i64 x6), .c (.int .i64 x7)] [] k = F_ref07_Decode fuel x0 x1 x2 x3 x4 x5 x6 x7 (fun r => match r with | (r0, r1, r2, r3) => k (.tup [(true, [.int .i64 r0, .int .i64 r1, .own 0]), (false, [.int .i64 r2])], [.vec 5 (.int .u8) r3 true])) :=
  F49_eqg fuel (F_ref02_New fuel) (F_ref02_NewDecoder fuel) (F_ref07_Get_9c5 fuel) (F_ref07_Size fuel) x0 x1 x2 x3 x4 x5 x6 x7 k
theorem hG49 (fuel : Nat) : GOK Try.prog (G49 fuel) :=
  gok_cons ⟨ok43 fuel, enters_of Try.func43 (by kernel_rfl) rfl⟩ <|
  gok_cons ⟨ok44 fuel, enters_of Try.func44 (by kernel_rfl) rfl⟩ <|
  gok_cons ⟨ok45_9c5 fuel, enters_of Try.func45 (by kernel_rfl) rfl⟩ <|
  gok_cons ⟨ok122 fuel, enters_of Try.func122 (by kernel_rfl) rfl⟩ <|
  gok_nil
theorem fok49 (fuel : Nat) : FnOK Try.prog 49 (evalFn tab (G49 fuel) (J49 fuel) kp49 fuel Try.f49) :=
  fn_ok tab_ok (hG49 fuel) mixed Try.func49 (c := (Try.f49.body).getD .skip) rfl (fun q hq => by
    rw [(by kernel_rfl : obl (J49 fuel) ((Try.f49.body).getD .skip) = [])] at hq
    cases hq)
noncomputable def mt49 : List Ev.SV → List Ev.Ob → Bool := fun args objs => match args, objs with
 | [.agg [.int .i64 _, .int .i64 _, .int .i64 _, .bool _, .int .i64 _], .c (.sl (.int .u8) _), .c (.int .i64 _), .c (.int .i64 _)], [] => true
 | _, _ => false
noncomputable def spg49 (F : YF49) : Ev.Spec := fun args objs k => match args, objs with
 | [.agg [.int .i64 x0, .int .i64 x1, .int .i64 x2, .bool x3, .int .i64 x4], .c (.sl (.int .u8) x5), .c (.int .i64 x6), .c (.int .i64 x7)], [] => bif true then F x0 x1 x2 x3 x4 x5 x6 x7 (fun r => match r with | (r0, r1, r2, r3) => k (.tup [(true, [.int .i64 r0, .int .i64 r1, .own 0]), (false, [.int .i64 r2])], [.vec 5 (.int .u8) r3 true])) else none
 | _, _ => none
noncomputable def spec49 (fuel : Nat) : Ev.Spec := spg49 (F_ref07_Decode fuel)
theorem ok49 (fuel : Nat) : FnOK Try.prog 49 (spec49 fuel) := by
  intro args objs kk r h
  unfold spec49 spg49 at h
  split at h
  · skip
    obtain ⟨hb, h⟩ := cond_some' h
    simp only [Bool.and_eq_true, Nat.beq_eq, decide_eq_true_eq] at hb
    clear hb
    exact fok49 fuel _ _ kk r ((F49_eq fuel _ _ _ _ _ _ _ _ kk).trans h)
  · cases h
end Go.Proofs.Ytihfgpfofmjbaaa

