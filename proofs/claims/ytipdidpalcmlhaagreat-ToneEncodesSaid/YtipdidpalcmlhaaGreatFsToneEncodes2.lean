/- What the functions that ToneEncodes reaches do: their typed texts, each with the proof that the machine does it. No condition. -/
import Derived.Test.YtipdidpalcmlhaaGreatEvX
import Derived.Test.YtipdidpalcmlhaaGreatFsToneEncodes1
set_option linter.unusedVariables false
set_option linter.unusedSimpArgs false
set_option linter.unusedVariables false
set_option linter.unusedSimpArgs false
set_option maxRecDepth 100000
set_option maxHeartbeats 2000000
namespace Go.Proofs.YtipdidpalcmlhaaGreat
open Go Ev
open Go.IntKind (i64 u64 u8 i32 u32 u16)
noncomputable section
def kp60_6c1 (i : Nat) : Option (List Nat) := Ev.look i [(6, [0, 1, 7, 8, 9, 11]), (9, [0, 1, 7, 8, 9, 11, 12]), (18, [0, 1, 7, 8, 9, 14, 16, 1000002]), (27, [0, 1, 7, 8, 9, 14, 16, 18]), (100000, [0, 1, 7, 8, 9]), (100002, [0, 1, 7, 8, 9, 11]), (100004, []), (100006, [0, 1, 7, 8, 9, 14, 16]), (200013, [7, 8, 9]), (200022, [8, 9]), (200030, [7, 8]), (400000, [10]), (400002, [10]), (400004, [10]), (400006, [10]), (600000, [])]
def Gg60_6c1 (f55 : YF55) (f88_e89 : YF88_e89) (f130 : YF130) (f135 : YF135) (f136 : YF136) (f137 : YF137) (f138_2fe : YF138_2fe) (f139 : YF139) (f140 : YF140) (f : Nat) : Option Ev.Spec := Ev.look f [(55, spg55 f55), (88, spg88_e89 f88_e89), (130, spg130 f130), (135, spg135 f135), (136, spg136 f136), (137, spg137 f137), (138, spg138_2fe f138_2fe), (139, spg139 f139), (140, spg140 f140)]
def G60_6c1 (fuel : Nat) : Nat → Option Ev.Spec := Gg60_6c1 (F_ref07_Size fuel) (F_ref02_Encoder_Put_e89 fuel) (F_ref07_Valid fuel) (F_ref05_Valid fuel) (F_ref05_At fuel) (F_ref07_room fuel) (F_ref02_Encoder_Model_2fe fuel) (F_ref07_typical fuel) (F_ref07_context fuel)
abbrev V_ref07_Put_6c1_2 : Type := Int × Int × Int × Int × Int × Int × LI × LI × Int × Int × Int × Bool × Int × Int × Int × LI × Int × Int × LI
abbrev W_ref07_Put_6c1_2 : Type := (Int × Int × Int × Int × LI × LI → OA) × (Int × Int × Int × Int × Int × LI × LI × Int × Int × Int × Bool × Int × Int × Int × LI × Int × Int × LI → OA)
def Sg_ref07_Put_6c1_2 (fuel : Nat) (f55 : YF55) (f88_e89 : YF88_e89) (f130 : YF130) (f135 : YF135) (f136 : YF136) (f137 : YF137) (f138_2fe : YF138_2fe) (f139 : YF139) (f140 : YF140) (x0 x1 : Int) (x2 x3 : Int) (x4 x5 : Int) (x6 x7 : LI) (x8 x9 x10 : Int) (x11 : Bool) (x12 x13 x14 : Int) (x15 : LI) (x16 x17 : Int) (x18 : LI) (c : V_ref07_Put_6c1_2 → OA) (B : W_ref07_Put_6c1_2) : OA := match B with | (ret, b) => bif decide (x2 < x13) then (f136 x13 x14 x15 x2 x1 (fun y3 => bif y3 == 1 then (f136 x16 x17 x18 x2 x1 (fun y8 => bif y8 == 1 then ret (30, x3, x4, x5, x6, x7) else c (x0, x1, i64.wrap (x2 + 1), x3, x4, x5, x6, x7, x8, x9, x10, x11, x12, x13, x14, x15, x16, x17, x18))) else c (x0, x1, i64.wrap (x2 + 1), x3, x4, x5, x6, x7, x8, x9, x10, x11, x12, x13, x14, x15, x16, x17, x18))) else b (x0, x1, x3, x4, x5, x6, x7, x8, x9, x10, x11, x12, x13, x14, x15, x16, x17, x18)
def S_ref07_Put_6c1_2 (fuel : Nat) (v : Int × Int × Int × Int × Int × Int × (List Int) × (List Int) × Int × Int × Int × Bool × Int × Int × Int × (List Int) × Int × Int × (List Int)) (c : (Int × Int × Int × Int × Int × Int × (List Int) × (List Int) × Int × Int × Int × Bool × Int × Int × Int × (List Int) × Int × Int × (List Int)) → Option Ans) (B : (Int × Int × Int × Int × (List Int) × (List Int) → Option Ans) × (Int × Int × Int × Int × Int × (List Int) × (List Int) × Int × Int × Int × Bool × Int × Int × Int × (List Int) × Int × Int × (List Int) → Option Ans)) : Option Ans := match v with | (x0, x1, x2, x3, x4, x5, x6, x7, x8, x9, x10, x11, x12, x13, x14, x15, x16, x17, x18) => Sg_ref07_Put_6c1_2 fuel (F_ref07_Size fuel) (F_ref02_Encoder_Put_e89 fuel) (F_ref07_Valid fuel) (F_ref05_Valid fuel) (F_ref05_At fuel) (F_ref07_room fuel) (F_ref02_Encoder_Model_2fe fuel) (F_ref07_typical fuel) (F_ref07_context fuel) x0 x1 x2 x3 x4 x5 x6 x7 x8 x9 x10 x11 x12 x13 x14 x15 x16 x17 x18 c B
def L_ref07_Put_6c1_2 (fuel : Nat) (v : V_ref07_Put_6c1_2) (ret : (Int × Int × Int × Int × (List Int) × (List Int) → Option Ans)) (b : (Int × Int × Int × Int × Int × (List Int) × (List Int) × Int × Int × Int × Bool × Int × Int × Int × (List Int) × Int × Int × (List Int) → Option Ans)) : Option Ans := iter (S_ref07_Put_6c1_2 fuel) fuel v (ret, b)
def T60_6c1_2 (v : V_ref07_Put_6c1_2) : Ev.St := match v with | (x0, x1, x2, x3, x4, x5, x6, x7, x8, x9, x10, x11, x12, x13, x14, x15, x16, x17, x18) => ⟨[(0, .c (.ptr 0 0)), (1, .c (i6 x0)), (7, .c (.ptr 3 0)), (8, .c (.ptr 4 0)), (9, .c (.ptr 5 0)), (11, .c (i6 x1)), (12, .c (i6 x2))], [(0, .cells 187 [i6 x3, .own 1, .int .u64 x4, .int .u64 x5, .own 2]), (1, .vec 3 (.int .i64) x6 false), (2, .vec 5 (.int .u8) x7 false), (3, .cells 78 [i6 x8, i6 x9, i6 x10, .bool x11, i6 x12]), (4, .cells 51 [i6 x13, i6 x14, .sl (.int .u8) x15]), (5, .cells 51 [i6 x16, i6 x17, .sl (.int .u8) x18])], 6, 3⟩
def E60_6c1_2 (K : KT) : W_ref07_Put_6c1_2 := ((fun v => match v with | (x0, x1, x2, x3, x4, x5) => K .ret ⟨[(10, .c (i6 x0))], [(0, .cells 187 [i6 x1, .own 1, .int .u64 x2, .int .u64 x3, .own 2]), (1, .vec 3 (.int .i64) x4 false), (2, .vec 5 (.int .u8) x5 false)], 3, 3⟩), (fun v => match v with | (x0, x1, x2, x3, x4, x5, x6, x7, x8, x9, x10, x11, x12, x13, x14, x15, x16, x17) => K .normal ⟨[(0, .c (.ptr 0 0)), (1, .c (i6 x0)), (7, .c (.ptr 3 0)), (8, .c (.ptr 4 0)), (9, .c (.ptr 5 0)), (11, .c (i6 x1))], [(0, .cells 187 [i6 x2, .own 1, .int .u64 x3, .int .u64 x4, .own 2]), (1, .vec 3 (.int .i64) x5 false), (2, .vec 5 (.int .u8) x6 false), (3, .cells 78 [i6 x7, i6 x8, i6 x9, .bool x10, i6 x11]), (4, .cells 51 [i6 x12, i6 x13, .sl (.int .u8) x14]), (5, .cells 51 [i6 x15, i6 x16, .sl (.int .u8) x17])], 6, 3⟩))
theorem S60_6c1_2_okg (fuel : Nat) (f55 : YF55) (f88_e89 : YF88_e89) (f130 : YF130) (f135 : YF135) (f136 : YF136) (f137 : YF137) (f138_2fe : YF138_2fe) (f139 : YF139) (f140 : YF140) (R : Ev.St → OA) (K : KT) (x0 x1 : Int) (x2 x3 : Int) (x4 x5 : Int) (x6 x7 : LI) (x8 x9 x10 : Int) (x11 : Bool) (x12 x13 x14 : Int) (x15 : LI) (x16 x17 : Int) (x18 : LI) : evalCode tab (Gg60_6c1 f55 f88_e89 f130 f135 f136 f137 f138_2fe f139 f140) J0 kp60_6c1 fuel (bodyOf 2 Tryz.f60) (T60_6c1_2 (x0, x1, x2, x3, x4, x5, x6, x7, x8, x9, x10, x11, x12, x13, x14, x15, x16, x17, x18)) (lc kp60_6c1 9 2 R K) = Sg_ref07_Put_6c1_2 fuel f55 f88_e89 f130 f135 f136 f137 f138_2fe f139 f140 x0 x1 x2 x3 x4 x5 x6 x7 x8 x9 x10 x11 x12 x13 x14 x15 x16 x17 x18 (fun v => R (T60_6c1_2 v)) (E60_6c1_2 K) := by
  kernel_rfl
def B60_6c1_2 (fuel : Nat) : Ev.Blk := fun st K => match canonO (kp60_6c1 9) st with | some s => (match s with | ⟨[(q0, .c (.ptr q1 q2)), (q3, .c (i6 x0)), (q4, .c (.ptr q5 q6)), (q7, .c (.ptr q8 q9)), (q10, .c (.ptr q11 q12)), (q13, .c (i6 x1)), (q14, .c (i6 x2))], [(q15, .cells q16 [i6 x3, .own q17, .int .u64 x4, .int .u64 x5, .own q18]), (q19, .vec q20 (.int .i64) x6 false), (q21, .vec q22 (.int .u8) x7 false), (q23, .cells q24 [i6 x8, i6 x9, i6 x10, .bool x11, i6 x12]), (q25, .cells q26 [i6 x13, i6 x14, .sl (.int .u8) x15]), (q27, .cells q28 [i6 x16, i6 x17, .sl (.int .u8) x18])], q29, q30⟩ => bif qb [q0, q1, q2, q3, q4, q5, q6, q7, q8, q9, q10, q11, q12, q13, q14, q15, q16, q17, q18, q19, q20, q21, q22, q23, q24, q25, q26, q27, q28, q29, q30] [0, 0, 0, 1, 7, 3, 0, 8, 4, 0, 9, 5, 0, 11, 12, 0, 187, 1, 2, 1, 3, 2, 5, 3, 78, 4, 51, 5, 51, 6, 3] then iter (S_ref07_Put_6c1_2 fuel) fuel (x0, x1, x2, x3, x4, x5, x6, x7, x8, x9, x10, x11, x12, x13, x14, x15, x16, x17, x18) (E60_6c1_2 K) else none | _ => none) | none => none
theorem B60_6c1_2_ok (fuel : Nat) (st : Ev.St) (K : KT) (r : Ans) (h : B60_6c1_2 fuel st K = some r) : evalCode tab (G60_6c1 fuel) J0 kp60_6c1 fuel (.block 2 (.loop (bodyOf 2 Tryz.f60))) st K = some r := by
  unfold B60_6c1_2 at h
  split at h
  · rename_i s hs
    split at h
    · skip
      obtain ⟨hb, h⟩ := cond_some' h
      cases qb_eq hb
      exact blk_loop (S := T60_6c1_2) (ks := E60_6c1_2) (step := S_ref07_Put_6c1_2 fuel) (v := (_, _, _, _, _, _, _, _, _, _, _, _, _, _, _, _, _, _, _)) (by kernel_rfl) (by kernel_rfl) (fun R K v => by obtain ⟨x0, x1, x2, x3, x4, x5, x6, x7, x8, x9, x10, x11, x12, x13, x14, x15, x16, x17, x18⟩ := v; exact S60_6c1_2_okg fuel (F_ref07_Size fuel) (F_ref02_Encoder_Put_e89 fuel) (F_ref07_Valid fuel) (F_ref05_Valid fuel) (F_ref05_At fuel) (F_ref07_room fuel) (F_ref02_Encoder_Model_2fe fuel) (F_ref07_typical fuel) (F_ref07_context fuel) R K x0 x1 x2 x3 x4 x5 x6 x7 x8 x9 x10 x11 x12 x13 x14 x15 x16 x17 x18) hs h
    · cases h
  · cases h
abbrev V_ref07_Put_6c1_0 : Type := Int × Int × Int × Int × Int × LI × LI × Int × Int × Int × Bool × Int × Int × Int × LI × Int × Int × LI
abbrev W_ref07_Put_6c1_0 : Type := (Int × Int × Int × Int × LI × LI → OA) × (Int × Int × Int × Int × LI × LI × Int × Int × Int × Bool × Int × Int × Int × LI × Int × Int × LI → OA)
def Sg_ref07_Put_6c1_0 (fuel : Nat) (f55 : YF55) (f88_e89 : YF88_e89) (f130 : YF130) (f135 : YF135) (f136 : YF136) (f137 : YF137) (f138_2fe : YF138_2fe) (f139 : YF139) (f140 : YF140) (x0 x1 : Int) (x2 x3 x4 : Int) (x5 x6 : LI) (x7 x8 x9 : Int) (x10 : Bool) (x11 x12 x13 : Int) (x14 : LI) (x15 x16 : Int) (x17 : LI) (c : V_ref07_Put_6c1_0 → OA) (B : W_ref07_Put_6c1_0) : OA := match B with | (ret, b) => bif decide (x1 < x13) then bif x12 == x15 then bif x13 == x16 then (L_ref07_Put_6c1_2 fuel (x0, x1, 0, x2, x3, x4, x5, x6, x7, x8, x9, x10, x11, x12, x13, x14, x15, x16, x17) (fun (ret2_0, ret2_1, ret2_2, ret2_3, ret2_4, ret2_5) => ret (ret2_0, ret2_1, ret2_2, ret2_3, ret2_4, ret2_5)) (fun (b2_0, b2_1, b2_2, b2_3, b2_4, b2_5, b2_6, b2_7, b2_8, b2_9, b2_10, b2_11, b2_12, b2_13, b2_14, b2_15, b2_16, b2_17) => c (b2_0, i64.wrap (b2_1 + 1), b2_2, b2_3, b2_4, b2_5, b2_6, b2_7, b2_8, b2_9, b2_10, b2_11, b2_12, b2_13, b2_14, b2_15, b2_16, b2_17))) else b (x0, x2, x3, x4, x5, x6, x7, x8, x9, x10, x11, x12, x13, x14, x15, x16, x17) else b (x0, x2, x3, x4, x5, x6, x7, x8, x9, x10, x11, x12, x13, x14, x15, x16, x17) else b (x0, x2, x3, x4, x5, x6, x7, x8, x9, x10, x11, x12, x13, x14, x15, x16, x17)
def S_ref07_Put_6c1_0 (fuel : Nat) (v : Int × Int × Int × Int × Int × (List Int) × (List Int) × Int × Int × Int × Bool × Int × Int × Int × (List Int) × Int × Int × (List Int)) (c : (Int × Int × Int × Int × Int × (List Int) × (List Int) × Int × Int × Int × Bool × Int × Int × Int × (List Int) × Int × Int × (List Int)) → Option Ans) (B : (Int × Int × Int × Int × (List Int) × (List Int) → Option Ans) × (Int × Int × Int × Int × (List Int) × (List Int) × Int × Int × Int × Bool × Int × Int × Int × (List Int) × Int × Int × (List Int) → Option Ans)) : Option Ans := match v with | (x0, x1, x2, x3, x4, x5, x6, x7, x8, x9, x10, x11, x12, x13, x14, x15, x16, x17) => Sg_ref07_Put_6c1_0 fuel (F_ref07_Size fuel) (F_ref02_Encoder_Put_e89 fuel) (F_ref07_Valid fuel) (F_ref05_Valid fuel) (F_ref05_At fuel) (F_ref07_room fuel) (F_ref02_Encoder_Model_2fe fuel) (F_ref07_typical fuel) (F_ref07_context fuel) x0 x1 x2 x3 x4 x5 x6 x7 x8 x9 x10 x11 x12 x13 x14 x15 x16 x17 c B
def L_ref07_Put_6c1_0 (fuel : Nat) (v : V_ref07_Put_6c1_0) (ret : (Int × Int × Int × Int × (List Int) × (List Int) → Option Ans)) (b : (Int × Int × Int × Int × (List Int) × (List Int) × Int × Int × Int × Bool × Int × Int × Int × (List Int) × Int × Int × (List Int) → Option Ans)) : Option Ans := iter (S_ref07_Put_6c1_0 fuel) fuel v (ret, b)
def J60_6c1_0 (fuel : Nat) (i : Nat) : Option Ev.Blk := Ev.look i [(100002, B60_6c1_2 fuel)]
def T60_6c1_0 (v : V_ref07_Put_6c1_0) : Ev.St := match v with | (x0, x1, x2, x3, x4, x5, x6, x7, x8, x9, x10, x11, x12, x13, x14, x15, x16, x17) => ⟨[(0, .c (.ptr 0 0)), (1, .c (i6 x0)), (7, .c (.ptr 3 0)), (8, .c (.ptr 4 0)), (9, .c (.ptr 5 0)), (11, .c (i6 x1))], [(0, .cells 187 [i6 x2, .own 1, .int .u64 x3, .int .u64 x4, .own 2]), (1, .vec 3 (.int .i64) x5 false), (2, .vec 5 (.int .u8) x6 false), (3, .cells 78 [i6 x7, i6 x8, i6 x9, .bool x10, i6 x11]), (4, .cells 51 [i6 x12, i6 x13, .sl (.int .u8) x14]), (5, .cells 51 [i6 x15, i6 x16, .sl (.int .u8) x17])], 6, 3⟩
def E60_6c1_0 (K : KT) : W_ref07_Put_6c1_0 := ((fun v => match v with | (x0, x1, x2, x3, x4, x5) => K .ret ⟨[(10, .c (i6 x0))], [(0, .cells 187 [i6 x1, .own 1, .int .u64 x2, .int .u64 x3, .own 2]), (1, .vec 3 (.int .i64) x4 false), (2, .vec 5 (.int .u8) x5 false)], 3, 3⟩), (fun v => match v with | (x0, x1, x2, x3, x4, x5, x6, x7, x8, x9, x10, x11, x12, x13, x14, x15, x16) => K .normal ⟨[(0, .c (.ptr 0 0)), (1, .c (i6 x0)), (7, .c (.ptr 3 0)), (8, .c (.ptr 4 0)), (9, .c (.ptr 5 0))], [(0, .cells 187 [i6 x1, .own 1, .int .u64 x2, .int .u64 x3, .own 2]), (1, .vec 3 (.int .i64) x4 false), (2, .vec 5 (.int .u8) x5 false), (3, .cells 78 [i6 x6, i6 x7, i6 x8, .bool x9, i6 x10]), (4, .cells 51 [i6 x11, i6 x12, .sl (.int .u8) x13]), (5, .cells 51 [i6 x14, i6 x15, .sl (.int .u8) x16])], 6, 3⟩))
theorem S60_6c1_0_okg (fuel : Nat) (f55 : YF55) (f88_e89 : YF88_e89) (f130 : YF130) (f135 : YF135) (f136 : YF136) (f137 : YF137) (f138_2fe : YF138_2fe) (f139 : YF139) (f140 : YF140) (R : Ev.St → OA) (K : KT) (x0 x1 : Int) (x2 x3 x4 : Int) (x5 x6 : LI) (x7 x8 x9 : Int) (x10 : Bool) (x11 x12 x13 : Int) (x14 : LI) (x15 x16 : Int) (x17 : LI) : evalCode tab (Gg60_6c1 f55 f88_e89 f130 f135 f136 f137 f138_2fe f139 f140) (J60_6c1_0 fuel) kp60_6c1 fuel (bodyOf 0 Tryz.f60) (T60_6c1_0 (x0, x1, x2, x3, x4, x5, x6, x7, x8, x9, x10, x11, x12, x13, x14, x15, x16, x17)) (lc kp60_6c1 6 0 R K) = Sg_ref07_Put_6c1_0 fuel f55 f88_e89 f130 f135 f136 f137 f138_2fe f139 f140 x0 x1 x2 x3 x4 x5 x6 x7 x8 x9 x10 x11 x12 x13 x14 x15 x16 x17 (fun v => R (T60_6c1_0 v)) (E60_6c1_0 K) := by
  kernel_rfl
def B60_6c1_0 (fuel : Nat) : Ev.Blk := fun st K => match canonO (kp60_6c1 6) st with | some s => (match s with | ⟨[(q0, .c (.ptr q1 q2)), (q3, .c (i6 x0)), (q4, .c (.ptr q5 q6)), (q7, .c (.ptr q8 q9)), (q10, .c (.ptr q11 q12)), (q13, .c (i6 x1))], [(q14, .cells q15 [i6 x2, .own q16, .int .u64 x3, .int .u64 x4, .own q17]), (q18, .vec q19 (.int .i64) x5 false), (q20, .vec q21 (.int .u8) x6 false), (q22, .cells q23 [i6 x7, i6 x8, i6 x9, .bool x10, i6 x11]), (q24, .cells q25 [i6 x12, i6 x13, .sl (.int .u8) x14]), (q26, .cells q27 [i6 x15, i6 x16, .sl (.int .u8) x17])], q28, q29⟩ => bif qb [q0, q1, q2, q3, q4, q5, q6, q7, q8, q9, q10, q11, q12, q13, q14, q15, q16, q17, q18, q19, q20, q21, q22, q23, q24, q25, q26, q27, q28, q29] [0, 0, 0, 1, 7, 3, 0, 8, 4, 0, 9, 5, 0, 11, 0, 187, 1, 2, 1, 3, 2, 5, 3, 78, 4, 51, 5, 51, 6, 3] then iter (S_ref07_Put_6c1_0 fuel) fuel (x0, x1, x2, x3, x4, x5, x6, x7, x8, x9, x10, x11, x12, x13, x14, x15, x16, x17) (E60_6c1_0 K) else none | _ => none) | none => none
theorem B60_6c1_0_ok (fuel : Nat) (st : Ev.St) (K : KT) (r : Ans) (h : B60_6c1_0 fuel st K = some r) : evalCode tab (G60_6c1 fuel) (J60_6c1_0 fuel) kp60_6c1 fuel (.block 0 (.loop (bodyOf 0 Tryz.f60))) st K = some r := by
  unfold B60_6c1_0 at h
  split at h
  · rename_i s hs
    split at h
    · skip
      obtain ⟨hb, h⟩ := cond_some' h
      cases qb_eq hb
      exact blk_loop (S := T60_6c1_0) (ks := E60_6c1_0) (step := S_ref07_Put_6c1_0 fuel) (v := (_, _, _, _, _, _, _, _, _, _, _, _, _, _, _, _, _, _)) (by kernel_rfl) (by kernel_rfl) (fun R K v => by obtain ⟨x0, x1, x2, x3, x4, x5, x6, x7, x8, x9, x10, x11, x12, x13, x14, x15, x16, x17⟩ := v; exact S60_6c1_0_okg fuel (F_ref07_Size fuel) (F_ref02_Encoder_Put_e89 fuel) (F_ref07_Valid fuel) (F_ref05_Valid fuel) (F_ref05_At fuel) (F_ref07_room fuel) (F_ref02_Encoder_Model_2fe fuel) (F_ref07_typical fuel) (F_ref07_context fuel) R K x0 x1 x2 x3 x4 x5 x6 x7 x8 x9 x10 x11 x12 x13 x14 x15 x16 x17) hs h
    · cases h
  · cases h
abbrev V_ref07_Put_6c1_6 : Type := Int × Int × Int × Int × Int × Int × Int × LI × LI × Int × Int × Int × Bool × Int × Int × Int × LI × Int × Int × LI
abbrev W_ref07_Put_6c1_6 : Type := (Int × Int × Int × Int × Int × Int × LI × LI × Int × Int × Int × Bool × Int × Int × Int × LI × Int × Int × LI → OA)
def Sg_ref07_Put_6c1_6 (fuel : Nat) (f55 : YF55) (f88_e89 : YF88_e89) (f130 : YF130) (f135 : YF135) (f136 : YF136) (f137 : YF137) (f138_2fe : YF138_2fe) (f139 : YF139) (f140 : YF140) (x0 x1 : Int) (x2 x3 : Int) (x4 x5 x6 : Int) (x7 x8 : LI) (x9 x10 x11 : Int) (x12 : Bool) (x13 x14 x15 : Int) (x16 : LI) (x17 x18 : Int) (x19 : LI) (c : V_ref07_Put_6c1_6 → OA) (B : W_ref07_Put_6c1_6) : OA := match B with | b => bif decide (x3 < x14) then (f136 x17 x18 x19 x3 x2 (fun y3 => bif y3 == 0 then (f140 x9 x10 x11 x12 x13 x14 x15 x16 x3 x2 (fun y8 => (f136 x14 x15 x16 x3 x2 (fun y12 => (f88_e89 (i64.wrap (x0 + y8)) y12 x4 x5 x6 x7 x8 (fun (y16_0, y16_1, y16_2, y16_3, y16_4, y16_5) => c (x0, x1, x2, i64.wrap (x3 + 1), y16_1, y16_2, y16_3, y16_4, y16_5, x9, x10, x11, x12, x13, x14, x15, x16, x17, x18, x19)) (fun (y16_0, y16_1, y16_2, y16_3, y16_4, y16_5) => c (x0, x1, x2, i64.wrap (x3 + 1), y16_1, y16_2, y16_3, y16_4, y16_5, x9, x10, x11, x12, x13, x14, x15, x16, x17, x18, x19))))))) else c (x0, x1, x2, i64.wrap (x3 + 1), x4, x5, x6, x7, x8, x9, x10, x11, x12, x13, x14, x15, x16, x17, x18, x19))) else b (x0, x1, x2, x4, x5, x6, x7, x8, x9, x10, x11, x12, x13, x14, x15, x16, x17, x18, x19)
def S_ref07_Put_6c1_6 (fuel : Nat) (v : Int × Int × Int × Int × Int × Int × Int × (List Int) × (List Int) × Int × Int × Int × Bool × Int × Int × Int × (List Int) × Int × Int × (List Int)) (c : (Int × Int × Int × Int × Int × Int × Int × (List Int) × (List Int) × Int × Int × Int × Bool × Int × Int × Int × (List Int) × Int × Int × (List Int)) → Option Ans) (B : (Int × Int × Int × Int × Int × Int × (List Int) × (List Int) × Int × Int × Int × Bool × Int × Int × Int × (List Int) × Int × Int × (List Int) → Option Ans)) : Option Ans := match v with | (x0, x1, x2, x3, x4, x5, x6, x7, x8, x9, x10, x11, x12, x13, x14, x15, x16, x17, x18, x19) => Sg_ref07_Put_6c1_6 fuel (F_ref07_Size fuel) (F_ref02_Encoder_Put_e89 fuel) (F_ref07_Valid fuel) (F_ref05_Valid fuel) (F_ref05_At fuel) (F_ref07_room fuel) (F_ref02_Encoder_Model_2fe fuel) (F_ref07_typical fuel) (F_ref07_context fuel) x0 x1 x2 x3 x4 x5 x6 x7 x8 x9 x10 x11 x12 x13 x14 x15 x16 x17 x18 x19 c B
def L_ref07_Put_6c1_6 (fuel : Nat) (v : V_ref07_Put_6c1_6) (b : W_ref07_Put_6c1_6) : Option Ans := iter (S_ref07_Put_6c1_6 fuel) fuel v b
def J60_6c1_6 (fuel : Nat) (i : Nat) : Option Ev.Blk := Ev.look i [(100002, B60_6c1_2 fuel), (100000, B60_6c1_0 fuel)]
def T60_6c1_6 (v : V_ref07_Put_6c1_6) : Ev.St := match v with | (x0, x1, x2, x3, x4, x5, x6, x7, x8, x9, x10, x11, x12, x13, x14, x15, x16, x17, x18, x19) => ⟨[(0, .c (.ptr 0 0)), (1, .c (i6 x0)), (7, .c (.ptr 3 0)), (8, .c (.ptr 4 0)), (9, .c (.ptr 5 0)), (14, .c (i6 x1)), (16, .c (i6 x2)), (18, .c (i6 x3))], [(0, .cells 187 [i6 x4, .own 1, .int .u64 x5, .int .u64 x6, .own 2]), (1, .vec 3 (.int .i64) x7 false), (2, .vec 5 (.int .u8) x8 true), (3, .cells 78 [i6 x9, i6 x10, i6 x11, .bool x12, i6 x13]), (4, .cells 51 [i6 x14, i6 x15, .sl (.int .u8) x16]), (5, .cells 51 [i6 x17, i6 x18, .sl (.int .u8) x19])], 6, 3⟩
def E60_6c1_6 (K : KT) : W_ref07_Put_6c1_6 := (fun v => match v with | (x0, x1, x2, x3, x4, x5, x6, x7, x8, x9, x10, x11, x12, x13, x14, x15, x16, x17, x18) => K .normal ⟨[(0, .c (.ptr 0 0)), (1, .c (i6 x0)), (7, .c (.ptr 3 0)), (8, .c (.ptr 4 0)), (9, .c (.ptr 5 0)), (14, .c (i6 x1)), (16, .c (i6 x2))], [(0, .cells 187 [i6 x3, .own 1, .int .u64 x4, .int .u64 x5, .own 2]), (1, .vec 3 (.int .i64) x6 false), (2, .vec 5 (.int .u8) x7 true), (3, .cells 78 [i6 x8, i6 x9, i6 x10, .bool x11, i6 x12]), (4, .cells 51 [i6 x13, i6 x14, .sl (.int .u8) x15]), (5, .cells 51 [i6 x16, i6 x17, .sl (.int .u8) x18])], 6, 3⟩)
theorem S60_6c1_6_okg (fuel : Nat) (f55 : YF55) (f88_e89 : YF88_e89) (f130 : YF130) (f135 : YF135) (f136 : YF136) (f137 : YF137) (f138_2fe : YF138_2fe) (f139 : YF139) (f140 : YF140) (R : Ev.St → OA) (K : KT) (x0 x1 : Int) (x2 x3 : Int) (x4 x5 x6 : Int) (x7 x8 : LI) (x9 x10 x11 : Int) (x12 : Bool) (x13 x14 x15 : Int) (x16 : LI) (x17 x18 : Int) (x19 : LI) : evalCode tab (Gg60_6c1 f55 f88_e89 f130 f135 f136 f137 f138_2fe f139 f140) (J60_6c1_6 fuel) kp60_6c1 fuel (bodyOf 6 Tryz.f60) (T60_6c1_6 (x0, x1, x2, x3, x4, x5, x6, x7, x8, x9, x10, x11, x12, x13, x14, x15, x16, x17, x18, x19)) (lc kp60_6c1 27 6 R K) = Sg_ref07_Put_6c1_6 fuel f55 f88_e89 f130 f135 f136 f137 f138_2fe f139 f140 x0 x1 x2 x3 x4 x5 x6 x7 x8 x9 x10 x11 x12 x13 x14 x15 x16 x17 x18 x19 (fun v => R (T60_6c1_6 v)) (E60_6c1_6 K) := by
  kernel_rfl
def B60_6c1_6 (fuel : Nat) : Ev.Blk := fun st K => match canonO (kp60_6c1 27) st with | some s => (match s with | ⟨[(q0, .c (.ptr q1 q2)), (q3, .c (i6 x0)), (q4, .c (.ptr q5 q6)), (q7, .c (.ptr q8 q9)), (q10, .c (.ptr q11 q12)), (q13, .c (i6 x1)), (q14, .c (i6 x2)), (q15, .c (i6 x3))], [(q16, .cells q17 [i6 x4, .own q18, .int .u64 x5, .int .u64 x6, .own q19]), (q20, .vec q21 (.int .i64) x7 false), (q22, .vec q23 (.int .u8) x8 true), (q24, .cells q25 [i6 x9, i6 x10, i6 x11, .bool x12, i6 x13]), (q26, .cells q27 [i6 x14, i6 x15, .sl (.int .u8) x16]), (q28, .cells q29 [i6 x17, i6 x18, .sl (.int .u8) x19])], q30, q31⟩ => bif qb [q0, q1, q2, q3, q4, q5, q6, q7, q8, q9, q10, q11, q12, q13, q14, q15, q16, q17, q18, q19, q20, q21, q22, q23, q24, q25, q26, q27, q28, q29, q30, q31] [0, 0, 0, 1, 7, 3, 0, 8, 4, 0, 9, 5, 0, 14, 16, 18, 0, 187, 1, 2, 1, 3, 2, 5, 3, 78, 4, 51, 5, 51, 6, 3] then iter (S_ref07_Put_6c1_6 fuel) fuel (x0, x1, x2, x3, x4, x5, x6, x7, x8, x9, x10, x11, x12, x13, x14, x15, x16, x17, x18, x19) (E60_6c1_6 K) else none | _ => none) | none => none
theorem B60_6c1_6_ok (fuel : Nat) (st : Ev.St) (K : KT) (r : Ans) (h : B60_6c1_6 fuel st K = some r) : evalCode tab (G60_6c1 fuel) (J60_6c1_6 fuel) kp60_6c1 fuel (.block 6 (.loop (bodyOf 6 Tryz.f60))) st K = some r := by
  unfold B60_6c1_6 at h
  split at h
  · rename_i s hs
    split at h
    · skip
      obtain ⟨hb, h⟩ := cond_some' h
      cases qb_eq hb
      exact blk_loop (S := T60_6c1_6) (ks := E60_6c1_6) (step := S_ref07_Put_6c1_6 fuel) (v := (_, _, _, _, _, _, _, _, _, _, _, _, _, _, _, _, _, _, _, _)) (by kernel_rfl) (by kernel_rfl) (fun R K v => by obtain ⟨x0, x1, x2, x3, x4, x5, x6, x7, x8, x9, x10, x11, x12, x13, x14, x15, x16, x17, x18, x19⟩ := v; exact S60_6c1_6_okg fuel (F_ref07_Size fuel) (F_ref02_Encoder_Put_e89 fuel) (F_ref07_Valid fuel) (F_ref05_Valid fuel) (F_ref05_At fuel) (F_ref07_room fuel) (F_ref02_Encoder_Model_2fe fuel) (F_ref07_typical fuel) (F_ref07_context fuel) R K x0 x1 x2 x3 x4 x5 x6 x7 x8 x9 x10 x11 x12 x13 x14 x15 x16 x17 x18 x19) hs h
    · cases h
  · cases h
abbrev V_ref07_Put_6c1_4 : Type := Int × Int × Int × Int × Int × Int × LI × LI × Int × Int × Int × Bool × Int × Int × Int × LI × Int × Int × LI
abbrev W_ref07_Put_6c1_4 : Type := (Int × Int × Int × LI × LI → OA)
def Sg_ref07_Put_6c1_4 (fuel : Nat) (f55 : YF55) (f88_e89 : YF88_e89) (f130 : YF130) (f135 : YF135) (f136 : YF136) (f137 : YF137) (f138_2fe : YF138_2fe) (f139 : YF139) (f140 : YF140) (x0 x1 : Int) (x2 x3 : Int) (x4 x5 : Int) (x6 x7 : LI) (x8 x9 x10 : Int) (x11 : Bool) (x12 x13 x14 : Int) (x15 : LI) (x16 x17 : Int) (x18 : LI) (c : V_ref07_Put_6c1_4 → OA) (B : W_ref07_Put_6c1_4) : OA := match B with | b => bif decide (x2 < x14) then bif x11 then bif decide (0 ≤ Ev.loOf (some (i64.wrap (x2 * x13))) ∧ Ev.loOf (some (i64.wrap (x2 * x13))) ≤ Ev.hiOf (some (i64.wrap (i64.wrap (x2 + 1) * x13))) (↑x15.length : Int) ∧ Ev.hiOf (some (i64.wrap (i64.wrap (x2 + 1) * x13))) (↑x15.length : Int) ≤ (↑x15.length : Int)) then both ((f139 x13 x14 x15 x16 x17 x18 x2 (fun y7 => both (bif (Go.strOfNums y7).toList == (Go.strOfNums (List.take (Ev.hiOf (some (i64.wrap (i64.wrap (x2 + 1) * x13))) (↑x15.length : Int) - Ev.loOf (some (i64.wrap (x2 * x13)))).toNat (List.drop (Ev.loOf (some (i64.wrap (x2 * x13)))).toNat x15))).toList then (f88_e89 (i64.wrap (i64.wrap (x0 + x1) - 1)) (1) x3 x4 x5 x6 x7 (fun (y14_0, y14_1, y14_2, y14_3, y14_4, y14_5) => c (x0, x1, i64.wrap (x2 + 1), y14_1, y14_2, y14_3, y14_4, y14_5, x8, x9, x10, x11, x12, x13, x14, x15, x16, x17, x18)) (fun (y14_0, y14_1, y14_2, y14_3, y14_4, y14_5) => c (x0, x1, i64.wrap (x2 + 1), y14_1, y14_2, y14_3, y14_4, y14_5, x8, x9, x10, x11, x12, x13, x14, x15, x16, x17, x18))) else (f88_e89 (i64.wrap (i64.wrap (x0 + x1) - 1)) (0) x3 x4 x5 x6 x7 (fun (y14_0, y14_1, y14_2, y14_3, y14_4, y14_5) => (L_ref07_Put_6c1_6 fuel (x0, x1, x2, 0, y14_1, y14_2, y14_3, y14_4, y14_5, x8, x9, x10, x11, x12, x13, x14, x15, x16, x17, x18) (fun (b6_0, b6_1, b6_2, b6_3, b6_4, b6_5, b6_6, b6_7, b6_8, b6_9, b6_10, b6_11, b6_12, b6_13, b6_14, b6_15, b6_16, b6_17, b6_18) => c (b6_0, b6_1, i64.wrap (b6_2 + 1), b6_3, b6_4, b6_5, b6_6, b6_7, b6_8, b6_9, b6_10, b6_11, b6_12, b6_13, b6_14, b6_15, b6_16, b6_17, b6_18)))) (fun (y14_0, y14_1, y14_2, y14_3, y14_4, y14_5) => (L_ref07_Put_6c1_6 fuel (x0, x1, x2, 0, y14_1, y14_2, y14_3, y14_4, y14_5, x8, x9, x10, x11, x12, x13, x14, x15, x16, x17, x18) (fun (b6_0, b6_1, b6_2, b6_3, b6_4, b6_5, b6_6, b6_7, b6_8, b6_9, b6_10, b6_11, b6_12, b6_13, b6_14, b6_15, b6_16, b6_17, b6_18) => c (b6_0, b6_1, i64.wrap (b6_2 + 1), b6_3, b6_4, b6_5, b6_6, b6_7, b6_8, b6_9, b6_10, b6_11, b6_12, b6_13, b6_14, b6_15, b6_16, b6_17, b6_18)))))) (bif (Go.strOfNums y7).toList == (Go.strOfNums (List.take (Ev.hiOf (some (i64.wrap (i64.wrap (x2 + 1) * x13))) (↑x15.length : Int) - Ev.loOf (some (i64.wrap (x2 * x13)))).toNat (List.drop (Ev.loOf (some (i64.wrap (x2 * x13)))).toNat x15))).toList then (f88_e89 (i64.wrap (i64.wrap (x0 + x1) - 1)) (1) x3 x4 x5 x6 x7 (fun (y14_0, y14_1, y14_2, y14_3, y14_4, y14_5) => c (x0, x1, i64.wrap (x2 + 1), y14_1, y14_2, y14_3, y14_4, y14_5, x8, x9, x10, x11, x12, x13, x14, x15, x16, x17, x18)) (fun (y14_0, y14_1, y14_2, y14_3, y14_4, y14_5) => c (x0, x1, i64.wrap (x2 + 1), y14_1, y14_2, y14_3, y14_4, y14_5, x8, x9, x10, x11, x12, x13, x14, x15, x16, x17, x18))) else (f88_e89 (i64.wrap (i64.wrap (x0 + x1) - 1)) (0) x3 x4 x5 x6 x7 (fun (y14_0, y14_1, y14_2, y14_3, y14_4, y14_5) => (L_ref07_Put_6c1_6 fuel (x0, x1, x2, 0, y14_1, y14_2, y14_3, y14_4, y14_5, x8, x9, x10, x11, x12, x13, x14, x15, x16, x17, x18) (fun (b6_0, b6_1, b6_2, b6_3, b6_4, b6_5, b6_6, b6_7, b6_8, b6_9, b6_10, b6_11, b6_12, b6_13, b6_14, b6_15, b6_16, b6_17, b6_18) => c (b6_0, b6_1, i64.wrap (b6_2 + 1), b6_3, b6_4, b6_5, b6_6, b6_7, b6_8, b6_9, b6_10, b6_11, b6_12, b6_13, b6_14, b6_15, b6_16, b6_17, b6_18)))) (fun (y14_0, y14_1, y14_2, y14_3, y14_4, y14_5) => (L_ref07_Put_6c1_6 fuel (x0, x1, x2, 0, y14_1, y14_2, y14_3, y14_4, y14_5, x8, x9, x10, x11, x12, x13, x14, x15, x16, x17, x18) (fun (b6_0, b6_1, b6_2, b6_3, b6_4, b6_5, b6_6, b6_7, b6_8, b6_9, b6_10, b6_11, b6_12, b6_13, b6_14, b6_15, b6_16, b6_17, b6_18) => c (b6_0, b6_1, i64.wrap (b6_2 + 1), b6_3, b6_4, b6_5, b6_6, b6_7, b6_8, b6_9, b6_10, b6_11, b6_12, b6_13, b6_14, b6_15, b6_16, b6_17, b6_18))))))))) ((f139 x13 x14 x15 x16 x17 x18 x2 (fun y7 => bif (Go.strOfNums y7).toList == (Go.strOfNums (List.take (Ev.hiOf (some (i64.wrap (i64.wrap (x2 + 1) * x13))) (↑x15.length : Int) - Ev.loOf (some (i64.wrap (x2 * x13)))).toNat (List.drop (Ev.loOf (some (i64.wrap (x2 * x13)))).toNat x15))).toList then (f88_e89 (i64.wrap (i64.wrap (x0 + x1) - 1)) (1) x3 x4 x5 x6 x7 (fun (y12_0, y12_1, y12_2, y12_3, y12_4, y12_5) => c (x0, x1, i64.wrap (x2 + 1), y12_1, y12_2, y12_3, y12_4, y12_5, x8, x9, x10, x11, x12, x13, x14, x15, x16, x17, x18)) (fun (y12_0, y12_1, y12_2, y12_3, y12_4, y12_5) => c (x0, x1, i64.wrap (x2 + 1), y12_1, y12_2, y12_3, y12_4, y12_5, x8, x9, x10, x11, x12, x13, x14, x15, x16, x17, x18))) else (f88_e89 (i64.wrap (i64.wrap (x0 + x1) - 1)) (0) x3 x4 x5 x6 x7 (fun (y12_0, y12_1, y12_2, y12_3, y12_4, y12_5) => (L_ref07_Put_6c1_6 fuel (x0, x1, x2, 0, y12_1, y12_2, y12_3, y12_4, y12_5, x8, x9, x10, x11, x12, x13, x14, x15, x16, x17, x18) (fun (b6_0, b6_1, b6_2, b6_3, b6_4, b6_5, b6_6, b6_7, b6_8, b6_9, b6_10, b6_11, b6_12, b6_13, b6_14, b6_15, b6_16, b6_17, b6_18) => c (b6_0, b6_1, i64.wrap (b6_2 + 1), b6_3, b6_4, b6_5, b6_6, b6_7, b6_8, b6_9, b6_10, b6_11, b6_12, b6_13, b6_14, b6_15, b6_16, b6_17, b6_18)))) (fun (y12_0, y12_1, y12_2, y12_3, y12_4, y12_5) => (L_ref07_Put_6c1_6 fuel (x0, x1, x2, 0, y12_1, y12_2, y12_3, y12_4, y12_5, x8, x9, x10, x11, x12, x13, x14, x15, x16, x17, x18) (fun (b6_0, b6_1, b6_2, b6_3, b6_4, b6_5, b6_6, b6_7, b6_8, b6_9, b6_10, b6_11, b6_12, b6_13, b6_14, b6_15, b6_16, b6_17, b6_18) => c (b6_0, b6_1, i64.wrap (b6_2 + 1), b6_3, b6_4, b6_5, b6_6, b6_7, b6_8, b6_9, b6_10, b6_11, b6_12, b6_13, b6_14, b6_15, b6_16, b6_17, b6_18)))))))) else none else (L_ref07_Put_6c1_6 fuel (x0, x1, x2, 0, x3, x4, x5, x6, x7, x8, x9, x10, x11, x12, x13, x14, x15, x16, x17, x18) (fun (b6_0, b6_1, b6_2, b6_3, b6_4, b6_5, b6_6, b6_7, b6_8, b6_9, b6_10, b6_11, b6_12, b6_13, b6_14, b6_15, b6_16, b6_17, b6_18) => c (b6_0, b6_1, i64.wrap (b6_2 + 1), b6_3, b6_4, b6_5, b6_6, b6_7, b6_8, b6_9, b6_10, b6_11, b6_12, b6_13, b6_14, b6_15, b6_16, b6_17, b6_18))) else b (x3, x4, x5, x6, x7)
def S_ref07_Put_6c1_4 (fuel : Nat) (v : Int × Int × Int × Int × Int × Int × (List Int) × (List Int) × Int × Int × Int × Bool × Int × Int × Int × (List Int) × Int × Int × (List Int)) (c : (Int × Int × Int × Int × Int × Int × (List Int) × (List Int) × Int × Int × Int × Bool × Int × Int × Int × (List Int) × Int × Int × (List Int)) → Option Ans) (B : (Int × Int × Int × (List Int) × (List Int) → Option Ans)) : Option Ans := match v with | (x0, x1, x2, x3, x4, x5, x6, x7, x8, x9, x10, x11, x12, x13, x14, x15, x16, x17, x18) => Sg_ref07_Put_6c1_4 fuel (F_ref07_Size fuel) (F_ref02_Encoder_Put_e89 fuel) (F_ref07_Valid fuel) (F_ref05_Valid fuel) (F_ref05_At fuel) (F_ref07_room fuel) (F_ref02_Encoder_Model_2fe fuel) (F_ref07_typical fuel) (F_ref07_context fuel) x0 x1 x2 x3 x4 x5 x6 x7 x8 x9 x10 x11 x12 x13 x14 x15 x16 x17 x18 c B
def L_ref07_Put_6c1_4 (fuel : Nat) (v : V_ref07_Put_6c1_4) (b : W_ref07_Put_6c1_4) : Option Ans := iter (S_ref07_Put_6c1_4 fuel) fuel v b
def J60_6c1_4 (fuel : Nat) (i : Nat) : Option Ev.Blk := Ev.look i [(100002, B60_6c1_2 fuel), (100000, B60_6c1_0 fuel), (100006, B60_6c1_6 fuel)]
def T60_6c1_4 (v : V_ref07_Put_6c1_4) : Ev.St := match v with | (x0, x1, x2, x3, x4, x5, x6, x7, x8, x9, x10, x11, x12, x13, x14, x15, x16, x17, x18) => ⟨[(0, .c (.ptr 0 0)), (1, .c (i6 x0)), (7, .c (.ptr 3 0)), (8, .c (.ptr 4 0)), (9, .c (.ptr 5 0)), (14, .c (i6 x1)), (16, .c (i6 x2))], [(0, .cells 187 [i6 x3, .own 1, .int .u64 x4, .int .u64 x5, .own 2]), (1, .vec 3 (.int .i64) x6 false), (2, .vec 5 (.int .u8) x7 true), (3, .cells 78 [i6 x8, i6 x9, i6 x10, .bool x11, i6 x12]), (4, .cells 51 [i6 x13, i6 x14, .sl (.int .u8) x15]), (5, .cells 51 [i6 x16, i6 x17, .sl (.int .u8) x18])], 6, 3⟩
def E60_6c1_4 (K : KT) : W_ref07_Put_6c1_4 := (fun v => match v with | (x0, x1, x2, x3, x4) => K .normal ⟨[], [(0, .cells 187 [i6 x0, .own 1, .int .u64 x1, .int .u64 x2, .own 2]), (1, .vec 3 (.int .i64) x3 false), (2, .vec 5 (.int .u8) x4 true)], 3, 3⟩)
theorem S60_6c1_4_okg (fuel : Nat) (f55 : YF55) (f88_e89 : YF88_e89) (f130 : YF130) (f135 : YF135) (f136 : YF136) (f137 : YF137) (f138_2fe : YF138_2fe) (f139 : YF139) (f140 : YF140) (R : Ev.St → OA) (K : KT) (x0 x1 : Int) (x2 x3 : Int) (x4 x5 : Int) (x6 x7 : LI) (x8 x9 x10 : Int) (x11 : Bool) (x12 x13 x14 : Int) (x15 : LI) (x16 x17 : Int) (x18 : LI) : evalCode tab (Gg60_6c1 f55 f88_e89 f130 f135 f136 f137 f138_2fe f139 f140) (J60_6c1_4 fuel) kp60_6c1 fuel (bodyOf 4 Tryz.f60) (T60_6c1_4 (x0, x1, x2, x3, x4, x5, x6, x7, x8, x9, x10, x11, x12, x13, x14, x15, x16, x17, x18)) (lc kp60_6c1 18 4 R K) = Sg_ref07_Put_6c1_4 fuel f55 f88_e89 f130 f135 f136 f137 f138_2fe f139 f140 x0 x1 x2 x3 x4 x5 x6 x7 x8 x9 x10 x11 x12 x13 x14 x15 x16 x17 x18 (fun v => R (T60_6c1_4 v)) (E60_6c1_4 K) := by
  kernel_rfl
def B60_6c1_4 (fuel : Nat) : Ev.Blk := fun st K => match canonO (kp60_6c1 18) st with | some s => (match s with | ⟨[(q0, .c (.ptr q1 q2)), (q3, .c (i6 x0)), (q4, .c (.ptr q5 q6)), (q7, .c (.ptr q8 q9)), (q10, .c (.ptr q11 q12)), (q13, .c (i6 x1)), (q14, .c (i6 x2))], [(q15, .cells q16 [i6 x3, .own q17, .int .u64 x4, .int .u64 x5, .own q18]), (q19, .vec q20 (.int .i64) x6 false), (q21, .vec q22 (.int .u8) x7 true), (q23, .cells q24 [i6 x8, i6 x9, i6 x10, .bool x11, i6 x12]), (q25, .cells q26 [i6 x13, i6 x14, .sl (.int .u8) x15]), (q27, .cells q28 [i6 x16, i6 x17, .sl (.int .u8) x18])], q29, q30⟩ => bif qb [q0, q1, q2, q3, q4, q5, q6, q7, q8, q9, q10, q11, q12, q13, q14, q15, q16, q17, q18, q19, q20, q21, q22, q23, q24, q25, q26, q27, q28, q29, q30] [0, 0, 0, 1, 7, 3, 0, 8, 4, 0, 9, 5, 0, 14, 16, 0, 187, 1, 2, 1, 3, 2, 5, 3, 78, 4, 51, 5, 51, 6, 3] then iter (S_ref07_Put_6c1_4 fuel) fuel (x0, x1, x2, x3, x4, x5, x6, x7, x8, x9, x10, x11, x12, x13, x14, x15, x16, x17, x18) (E60_6c1_4 K) else none | _ => none) | none => none
theorem B60_6c1_4_ok (fuel : Nat) (st : Ev.St) (K : KT) (r : Ans) (h : B60_6c1_4 fuel st K = some r) : evalCode tab (G60_6c1 fuel) (J60_6c1_4 fuel) kp60_6c1 fuel (.block 4 (.loop (bodyOf 4 Tryz.f60))) st K = some r := by
  unfold B60_6c1_4 at h
  split at h
  · rename_i s hs
    split at h
    · skip
      obtain ⟨hb, h⟩ := cond_some' h
      cases qb_eq hb
      exact blk_loop (S := T60_6c1_4) (ks := E60_6c1_4) (step := S_ref07_Put_6c1_4 fuel) (v := (_, _, _, _, _, _, _, _, _, _, _, _, _, _, _, _, _, _, _)) (by kernel_rfl) (by kernel_rfl) (fun R K v => by obtain ⟨x0, x1, x2, x3, x4, x5, x6, x7, x8, x9, x10, x11, x12, x13, x14, x15, x16, x17, x18⟩ := v; exact S60_6c1_4_okg fuel (F_ref07_Size fuel) (F_ref02_Encoder_Put_e89 fuel) (F_ref07_Valid fuel) (F_ref05_Valid fuel) (F_ref05_At fuel) (F_ref07_room fuel) (F_ref02_Encoder_Model_2fe fuel) (F_ref07_typical fuel) (F_ref07_context fuel) R K x0 x1 x2 x3 x4 x5 x6 x7 x8 x9 x10 x11 x12 x13 x14 x15 x16 x17 x18) hs h
    · cases h
  · cases h
def J60_6c1 (fuel : Nat) (i : Nat) : Option Ev.Blk := Ev.look i [(100002, B60_6c1_2 fuel), (100000, B60_6c1_0 fuel), (100006, B60_6c1_6 fuel), (100004, B60_6c1_4 fuel)]
def Fg_ref07_Put_6c1 (fuel : Nat) (f55 : YF55) (f88_e89 : YF88_e89) (f130 : YF130) (f135 : YF135) (f136 : YF136) (f137 : YF137) (f138_2fe : YF138_2fe) (f139 : YF139) (f140 : YF140) (x0 x1 : Int) (x2 x3 : Int) (x4 : Bool) (x5 x6 x7 : Int) (x8 : LI) (x9 x10 : Int) (x11 : LI) (x12 x13 x14 : Int) (x15 x16 : LI) (k0 : (Int × Int × Int × Int × LI × LI) → OA) (k1 : (Int × Int × Int × Int × LI × LI) → OA) : OA := (f130 x1 x2 x3 x4 x5 (fun y2 => bif !y2 then k0 (2, x12, x13, x14, x15, x16) else (f135 x6 x7 x8 (fun y7 => bif !y7 then k0 (30, x12, x13, x14, x15, x16) else (f135 x9 x10 x11 (fun y12 => bif !y12 then k0 (30, x12, x13, x14, x15, x16) else (L_ref07_Put_6c1_0 fuel (x0, 0, x12, x13, x14, x15, x16, x1, x2, x3, x4, x5, x6, x7, x8, x9, x10, x11) (fun (ret0_0, ret0_1, ret0_2, ret0_3, ret0_4, ret0_5) => k0 (ret0_0, ret0_1, ret0_2, ret0_3, ret0_4, ret0_5)) (fun (b0_0, b0_1, b0_2, b0_3, b0_4, b0_5, b0_6, b0_7, b0_8, b0_9, b0_10, b0_11, b0_12, b0_13, b0_14, b0_15, b0_16) => (f138_2fe b0_1 b0_2 b0_3 b0_4 b0_5 (fun (y21_0, y21_1, y21_2, y21_3, y21_4, y21_5, y21_6) => (f137 b0_6 b0_7 b0_8 b0_9 b0_10 b0_0 ((↑y21_6.length : Int)) b0_11 b0_12 b0_14 b0_15 b0_16 (fun y25 => bif y25 != 0 then k0 (y25, y21_1, y21_2, y21_3, y21_4, y21_5) else (f55 b0_6 b0_7 b0_8 b0_9 b0_10 (fun (y30_0, y30_1) => (L_ref07_Put_6c1_4 fuel (b0_0, y30_0, 0, y21_1, y21_2, y21_3, y21_4, y21_5, b0_6, b0_7, b0_8, b0_9, b0_10, b0_11, b0_12, b0_13, b0_14, b0_15, b0_16) (fun (b4_0, b4_1, b4_2, b4_3, b4_4) => k1 (0, b4_0, b4_1, b4_2, b4_3, b4_4)))))))))))))))))
abbrev YF60_6c1 : Type := Int → Int → Int → Int → Bool → Int → Int → Int → LI → Int → Int → LI → Int → Int → Int → LI → LI → ((Int × Int × Int × Int × LI × LI) → Option Ans) → ((Int × Int × Int × Int × LI × LI) → Option Ans) → Option Ans
def F_ref07_Put_6c1 (fuel : Nat) : YF60_6c1 := Fg_ref07_Put_6c1 fuel (F_ref07_Size fuel) (F_ref02_Encoder_Put_e89 fuel) (F_ref07_Valid fuel) (F_ref05_Valid fuel) (F_ref05_At fuel) (F_ref07_room fuel) (F_ref02_Encoder_Model_2fe fuel) (F_ref07_typical fuel) (F_ref07_context fuel)
theorem F60_6c1_eqg (fuel : Nat) (f55 : YF55) (f88_e89 : YF88_e89) (f130 : YF130) (f135 : YF135) (f136 : YF136) (f137 : YF137) (f138_2fe : YF138_2fe) (f139 : YF139) (f140 : YF140) (x0 x1 : Int) (x2 x3 : Int) (x4 : Bool) (x5 x6 x7 : Int) (x8 : LI) (x9 x10 : Int) (x11 : LI) (x12 x13 x14 : Int) (x15 x16 : LI) (k : Ev.Cont) : evalFn tab (Gg60_6c1 f55 f88_e89 f130 f135 f136 f137 f138_2fe f139 f140) (J60_6c1 fuel) kp60_6c1 fuel Tryz.f60 [.c (.ptr 0 0), .c (i6 x0), .agg [i6 x1, i6 x2, i6 x3, .bool x4, i6 x5], .agg [i6 x6, i6 x7, .sl (.int .u8) x8], .agg [i6 x9, i6 x10, .sl (.int .u8) x11]] [.cells 187 [i6 x12, .own 1, .int .u64 x13, .int .u64 x14, .own 2], .vec 3 (.int .i64) x15 false, .vec 5 (.int .u8) x16 false] k = Fg_ref07_Put_6c1 fuel f55 f88_e89 f130 f135 f136 f137 f138_2fe f139 f140 x0 x1 x2 x3 x4 x5 x6 x7 x8 x9 x10 x11 x12 x13 x14 x15 x16 (fun r => match r with | (r0, r1, r2, r3, r4, r5) => k (.c (i6 r0), [.cells 187 [i6 r1, .own 1, .int .u64 r2, .int .u64 r3, .own 2], .vec 3 (.int .i64) r4 false, .vec 5 (.int .u8) r5 false])) (fun r => match r with | (r0, r1, r2, r3, r4, r5) => k (.c (i6 r0), [.cells 187 [i6 r1, .own 1, .int .u64 r2, .int .u64 r3, .own 2], .vec 3 (.int .i64) r4 false, .vec 5 (.int .u8) r5 true])) := by
  kernel_rfl
theorem hG60_6c1 (fuel : Nat) : GOK Tryz.prog (G60_6c1 fuel) :=
  gc (ok55 fuel) Tryz.func55 (by kernel_rfl) rfl <|
  gc (ok88_e89 fuel) Tryz.func88 (by kernel_rfl) rfl <|
  gc (ok130 fuel) Tryz.func130 (by kernel_rfl) rfl <|
  gc (ok135 fuel) Tryz.func135 (by kernel_rfl) rfl <|
  gc (ok136 fuel) Tryz.func136 (by kernel_rfl) rfl <|
  gc (ok137 fuel) Tryz.func137 (by kernel_rfl) rfl <|
  gc (ok138_2fe fuel) Tryz.func138 (by kernel_rfl) rfl <|
  gc (ok139 fuel) Tryz.func139 (by kernel_rfl) rfl <|
  gc (ok140 fuel) Tryz.func140 (by kernel_rfl) rfl <|
  gok_nil
theorem B60_6c1_2_blk (fuel : Nat) : BlkOK Tryz.prog Tryz.f60.ntmps (.block 2 (.loop (bodyOf 2 Tryz.f60))) (B60_6c1_2 fuel) := bo0 (hG60_6c1 fuel) (by kernel_rfl) (by kernel_rfl) (B60_6c1_2_ok fuel)
theorem B60_6c1_0_blk (fuel : Nat) : BlkOK Tryz.prog Tryz.f60.ntmps (.block 0 (.loop (bodyOf 0 Tryz.f60))) (B60_6c1_0 fuel) :=
  blk_of (blk_of_code tab_ok (hG60_6c1 fuel) mixed (J := J60_6c1_0 fuel) (kp := kp60_6c1) (fuel := fuel) (by kernel_rfl) (fun q hq => by
    rw [(by kernel_rfl : obl (J60_6c1_0 fuel) (.block 0 (.loop (bodyOf 0 Tryz.f60))) = [(.block 2 (.loop (bodyOf 2 Tryz.f60)), B60_6c1_2 fuel)])] at hq
    simp only [List.mem_cons, List.not_mem_nil, or_false] at hq
    subst hq
    · exact B60_6c1_2_blk fuel)) (B60_6c1_0_ok fuel)
theorem B60_6c1_6_blk (fuel : Nat) : BlkOK Tryz.prog Tryz.f60.ntmps (.block 6 (.loop (bodyOf 6 Tryz.f60))) (B60_6c1_6 fuel) := bo0 (hG60_6c1 fuel) (by kernel_rfl) (by kernel_rfl) (B60_6c1_6_ok fuel)
theorem B60_6c1_4_blk (fuel : Nat) : BlkOK Tryz.prog Tryz.f60.ntmps (.block 4 (.loop (bodyOf 4 Tryz.f60))) (B60_6c1_4 fuel) :=
  blk_of (blk_of_code tab_ok (hG60_6c1 fuel) mixed (J := J60_6c1_4 fuel) (kp := kp60_6c1) (fuel := fuel) (by kernel_rfl) (fun q hq => by
    rw [(by kernel_rfl : obl (J60_6c1_4 fuel) (.block 4 (.loop (bodyOf 4 Tryz.f60))) = [(.block 6 (.loop (bodyOf 6 Tryz.f60)), B60_6c1_6 fuel)])] at hq
    simp only [List.mem_cons, List.not_mem_nil, or_false] at hq
    subst hq
    · exact B60_6c1_6_blk fuel)) (B60_6c1_4_ok fuel)
theorem fok60_6c1 (fuel : Nat) : FnOK Tryz.prog 60 (evalFn tab (G60_6c1 fuel) (J60_6c1 fuel) kp60_6c1 fuel Tryz.f60) :=
  fn_ok tab_ok (hG60_6c1 fuel) mixed Tryz.func60 (c := (Tryz.f60.body).getD .skip) rfl (fun q hq => by
    rw [(by kernel_rfl : obl (J60_6c1 fuel) ((Tryz.f60.body).getD .skip) = [(.block 0 (.loop (bodyOf 0 Tryz.f60)), B60_6c1_0 fuel), (.block 4 (.loop (bodyOf 4 Tryz.f60)), B60_6c1_4 fuel)])] at hq
    simp only [List.mem_cons, List.not_mem_nil, or_false] at hq
    rcases hq with rfl | rfl
    · exact B60_6c1_0_blk fuel
    · exact B60_6c1_4_blk fuel)
def spg60_6c1 (F : YF60_6c1) : Ev.Spec := fun args objs k => match args, objs with | [.c (.ptr q0 q1), .c (i6 x0), .agg [i6 x1, i6 x2, i6 x3, .bool x4, i6 x5], .agg [i6 x6, i6 x7, .sl (.int .u8) x8], .agg [i6 x9, i6 x10, .sl (.int .u8) x11]], [.cells q2 [i6 x12, .own q3, .int .u64 x13, .int .u64 x14, .own q4], .vec q5 (.int .i64) x15 false, .vec q6 (.int .u8) x16 false] => bif qb [q0, q1, q2, q3, q4, q5, q6] [0, 0, 187, 1, 2, 3, 5] then F x0 x1 x2 x3 x4 x5 x6 x7 x8 x9 x10 x11 x12 x13 x14 x15 x16 (fun r => match r with | (r0, r1, r2, r3, r4, r5) => k (.c (i6 r0), [.cells 187 [i6 r1, .own 1, .int .u64 r2, .int .u64 r3, .own 2], .vec 3 (.int .i64) r4 false, .vec 5 (.int .u8) r5 false])) (fun r => match r with | (r0, r1, r2, r3, r4, r5) => k (.c (i6 r0), [.cells 187 [i6 r1, .own 1, .int .u64 r2, .int .u64 r3, .own 2], .vec 3 (.int .i64) r4 false, .vec 5 (.int .u8) r5 true])) else none | _, _ => none
theorem ok60_6c1 (fuel : Nat) : FnOK Tryz.prog 60 (spg60_6c1 (F_ref07_Put_6c1 fuel)) := by
  intro args objs kk r h
  unfold spg60_6c1 at h
  split at h
  · skip
    obtain ⟨hb, h⟩ := cond_some' h
    cases qb_eq hb
    exact fok60_6c1 fuel _ _ kk r ((F60_6c1_eqg fuel (F_ref07_Size fuel) (F_ref02_Encoder_Put_e89 fuel) (F_ref07_Valid fuel) (F_ref05_Valid fuel) (F_ref05_At fuel) (F_ref07_room fuel) (F_ref02_Encoder_Model_2fe fuel) (F_ref07_typical fuel) (F_ref07_context fuel) _ _ _ _ _ _ _ _ _ _ _ _ _ _ _ _ _ kk).trans h)
  · cases h
def kp58 (i : Nat) : Option (List Nat) := Ev.look i [(4, [0, 1, 6]), (10, [0, 7, 8]), (14, [0, 7, 8, 9, 10]), (100000, [0, 1]), (100002, [7]), (100004, [0, 7, 8, 9]), (200006, [0]), (200016, [0]), (400000, [4, 5]), (400002, [4, 5]), (400004, [4, 5])]
def Gg58 (f : Nat) : Option Ev.Spec := Ev.look f []
def G58 (fuel : Nat) : Nat → Option Ev.Spec := Gg58
def S_ref11_Planes_0 (fuel : Nat) (v : (List Int) × Int × Int) (c : ((List Int) × Int × Int) → Option Ans) (B : (Int × (List (List Int)) → Option Ans) × ((List Int) × Int → Option Ans)) : Option Ans := match v, B with | (x0, x1, x2), (ret, b) => bif decide (x2 < (↑x0.length : Int)) then bif decide ((0 : Int) ≤ x2 ∧ x2 < (↑x0.length : Int)) then bif decide (x0.getD x2.toNat (0 : Int) < (0 : Int)) then ret ((2 : Int), []) else bif decide ((0 : Int) ≤ x2 ∧ x2 < (↑x0.length : Int)) then bif decide (x1 < (0 : Int)) then none else bif decide (x0.getD x2.toNat (0 : Int) ≥ Ev.ishl IntKind.i64 (1 : Int) x1) then ret ((2 : Int), []) else c (x0, x1, i64.wrap (x2 + (1 : Int))) else none else none else b (x0, x1)
def L_ref11_Planes_0 (fuel : Nat) (v : (List Int) × Int × Int) (ret : (Int × (List (List Int)) → Option Ans)) (b : ((List Int) × Int → Option Ans)) : Option Ans := iter (S_ref11_Planes_0 fuel) fuel v (ret, b)
def T58_0 (v : LI × Int × Int) : Ev.St := match v with | (x0, x1, x2) => ⟨[(0, .c (.sl (.int .i64) x0)), (1, .c (i6 x1)), (6, .c (i6 x2))], [], 0, 0⟩
def E58_0 (K : KT) : (Int × (List LI) → OA) × (LI × Int → OA) := ((fun v => match v with | (x0, x1) => K .ret ⟨[(4, .c (.own 0)), (5, .c (i6 x0))], [(0, .vec 30 (.sl (.int .u8)) x1 true)], 1, 0⟩), (fun v => match v with | (x0, x1) => K .normal ⟨[(0, .c (.sl (.int .i64) x0)), (1, .c (i6 x1))], [], 0, 0⟩))
theorem S58_0_ok (fuel : Nat) (R : Ev.St → OA) (K : KT) (x0 : LI) (x1 x2 : Int) : evalCode tab (G58 fuel) J0 kp58 fuel (bodyOf 0 Tryz.f58) (T58_0 (x0, x1, x2)) (lc kp58 4 0 R K) = S_ref11_Planes_0 fuel (x0, x1, x2) (fun v => R (T58_0 v)) (E58_0 K) := by
  kernel_rfl
def B58_0 (fuel : Nat) : Ev.Blk := fun st K => match canonO (kp58 4) st with | some s => (match s with | ⟨[(q0, .c (.sl (.int .i64) x0)), (q1, .c (i6 x1)), (q2, .c (i6 x2))], [], q3, q4⟩ => bif qb [q0, q1, q2, q3, q4] [0, 1, 6, 0, 0] then iter (S_ref11_Planes_0 fuel) fuel (x0, x1, x2) (E58_0 K) else none | _ => none) | none => none
theorem B58_0_ok (fuel : Nat) (st : Ev.St) (K : KT) (r : Ans) (h : B58_0 fuel st K = some r) : evalCode tab (G58 fuel) J0 kp58 fuel (.block 0 (.loop (bodyOf 0 Tryz.f58))) st K = some r := by
  unfold B58_0 at h
  split at h
  · rename_i s hs
    split at h
    · skip
      obtain ⟨hb, h⟩ := cond_some' h
      cases qb_eq hb
      exact blk_loop (S := T58_0) (ks := E58_0) (step := S_ref11_Planes_0 fuel) (v := (_, _, _)) (by kernel_rfl) (by kernel_rfl) (fun R K v => by obtain ⟨x0, x1, x2⟩ := v; exact S58_0_ok fuel R K x0 x1 x2) hs h
    · cases h
  · cases h
abbrev V_ref11_Planes_4 : Type := LI × Int × Int × (List LI) × LI
abbrev W_ref11_Planes_4 : Type := (LI × Int × (List LI) × LI → OA)
def S_ref11_Planes_4 (fuel : Nat) (v : (List Int) × Int × Int × (List (List Int)) × (List Int)) (c : ((List Int) × Int × Int × (List (List Int)) × (List Int)) → Option Ans) (B : ((List Int) × Int × (List (List Int)) × (List Int) → Option Ans)) : Option Ans := match v, B with | (x0, x1, x2, x3, x4), b => bif decide (x2 < (↑x0.length : Int)) then bif decide ((0 : Int) ≤ x2 ∧ x2 < (↑x0.length : Int)) then bif decide (x1 < (0 : Int)) then none else bif decide ((0 : Int) ≤ x2 ∧ x2 < (↑x0.length : Int)) then bif decide (i64.wrap (x1 + (1 : Int)) < (0 : Int)) then none else bif decide ((x4.length + [u8.wrap ((i64.wrap (Ev.ishr IntKind.i64 (x0.getD x2.toNat (0 : Int)) x1 + Ev.ishr IntKind.i64 (x0.getD x2.toNat (0 : Int)) (i64.wrap (x1 + (1 : Int))))).tmod (2 : Int))].length) * (1 : Nat) ≤ (140737488355328 : Nat) ∧ x4.length + [u8.wrap ((i64.wrap (Ev.ishr IntKind.i64 (x0.getD x2.toNat (0 : Int)) x1 + Ev.ishr IntKind.i64 (x0.getD x2.toNat (0 : Int)) (i64.wrap (x1 + (1 : Int))))).tmod (2 : Int))].length ≤ (140737488355328 : Nat)) then c (x0, x1, i64.wrap (x2 + (1 : Int)), x3, x4 ++ [u8.wrap ((i64.wrap (Ev.ishr IntKind.i64 (x0.getD x2.toNat (0 : Int)) x1 + Ev.ishr IntKind.i64 (x0.getD x2.toNat (0 : Int)) (i64.wrap (x1 + (1 : Int))))).tmod (2 : Int))]) else none else none else none else b (x0, x1, x3, x4)
def L_ref11_Planes_4 (fuel : Nat) (v : V_ref11_Planes_4) (b : W_ref11_Planes_4) : Option Ans := iter (S_ref11_Planes_4 fuel) fuel v b
def J58_4 (fuel : Nat) (i : Nat) : Option Ev.Blk := Ev.look i [(100000, B58_0 fuel)]
def T58_4 (v : V_ref11_Planes_4) : Ev.St := match v with | (x0, x1, x2, x3, x4) => ⟨[(0, .c (.sl (.int .i64) x0)), (7, .c (.own 0)), (8, .c (i6 x1)), (9, .c (.own 1)), (10, .c (i6 x2))], [(0, .vec 30 (.sl (.int .u8)) x3 true), (1, .vec 5 (.int .u8) x4 true)], 2, 0⟩
def E58_4 (K : KT) : W_ref11_Planes_4 := (fun v => match v with | (x0, x1, x2, x3) => K .normal ⟨[(0, .c (.sl (.int .i64) x0)), (7, .c (.own 0)), (8, .c (i6 x1)), (9, .c (.own 1))], [(0, .vec 30 (.sl (.int .u8)) x2 true), (1, .vec 5 (.int .u8) x3 true)], 2, 0⟩)
theorem S58_4_ok (fuel : Nat) (R : Ev.St → OA) (K : KT) (x0 : LI) (x1 x2 : Int) (x3 : (List LI)) (x4 : LI) : evalCode tab (G58 fuel) (J58_4 fuel) kp58 fuel (bodyOf 4 Tryz.f58) (T58_4 (x0, x1, x2, x3, x4)) (lc kp58 14 4 R K) = S_ref11_Planes_4 fuel (x0, x1, x2, x3, x4) (fun v => R (T58_4 v)) (E58_4 K) := by
  kernel_rfl
def B58_4 (fuel : Nat) : Ev.Blk := fun st K => match canonO (kp58 14) st with | some s => (match s with | ⟨[(q0, .c (.sl (.int .i64) x0)), (q1, .c (.own q2)), (q3, .c (i6 x1)), (q4, .c (.own q5)), (q6, .c (i6 x2))], [(q7, .vec q8 (.sl (.int .u8)) x3 true), (q9, .vec q10 (.int .u8) x4 true)], q11, q12⟩ => bif qb [q0, q1, q2, q3, q4, q5, q6, q7, q8, q9, q10, q11, q12] [0, 7, 0, 8, 9, 1, 10, 0, 30, 1, 5, 2, 0] then iter (S_ref11_Planes_4 fuel) fuel (x0, x1, x2, x3, x4) (E58_4 K) else none | _ => none) | none => none
theorem B58_4_ok (fuel : Nat) (st : Ev.St) (K : KT) (r : Ans) (h : B58_4 fuel st K = some r) : evalCode tab (G58 fuel) (J58_4 fuel) kp58 fuel (.block 4 (.loop (bodyOf 4 Tryz.f58))) st K = some r := by
  unfold B58_4 at h
  split at h
  · rename_i s hs
    split at h
    · skip
      obtain ⟨hb, h⟩ := cond_some' h
      cases qb_eq hb
      exact blk_loop (S := T58_4) (ks := E58_4) (step := S_ref11_Planes_4 fuel) (v := (_, _, _, _, _)) (by kernel_rfl) (by kernel_rfl) (fun R K v => by obtain ⟨x0, x1, x2, x3, x4⟩ := v; exact S58_4_ok fuel R K x0 x1 x2 x3 x4) hs h
    · cases h
  · cases h
def S_ref11_Planes_2 (fuel : Nat) (v : (List Int) × Int × (List (List Int))) (c : ((List Int) × Int × (List (List Int))) → Option Ans) (B : ((List (List Int)) → Option Ans)) : Option Ans := match v, B with | (x0, x1, x2), b => bif decide (x1 ≥ (0 : Int)) then (L_ref11_Planes_4 fuel (x0, x1, (0 : Int), x2, []) (fun (b4_0, b4_1, b4_2, b4_3) => bif decide ((b4_2.length + [b4_3].length) * (24 : Nat) ≤ (140737488355328 : Nat) ∧ b4_2.length + [b4_3].length ≤ (140737488355328 : Nat)) then c (b4_0, i64.wrap (b4_1 - (1 : Int)), b4_2 ++ [b4_3]) else none)) else b x2
def L_ref11_Planes_2 (fuel : Nat) (v : (List Int) × Int × (List (List Int))) (b : ((List (List Int)) → Option Ans)) : Option Ans := iter (S_ref11_Planes_2 fuel) fuel v b
def J58_2 (fuel : Nat) (i : Nat) : Option Ev.Blk := Ev.look i [(100000, B58_0 fuel), (100004, B58_4 fuel)]
def T58_2 (v : LI × Int × (List LI)) : Ev.St := match v with | (x0, x1, x2) => ⟨[(0, .c (.sl (.int .i64) x0)), (7, .c (.own 0)), (8, .c (i6 x1))], [(0, .vec 30 (.sl (.int .u8)) x2 true)], 1, 0⟩
def E58_2 (K : KT) : ((List LI) → OA) := (fun v => match v with | x0 => K .normal ⟨[(7, .c (.own 0))], [(0, .vec 30 (.sl (.int .u8)) x0 true)], 1, 0⟩)
theorem S58_2_ok (fuel : Nat) (R : Ev.St → OA) (K : KT) (x0 : LI) (x1 : Int) (x2 : (List LI)) : evalCode tab (G58 fuel) (J58_2 fuel) kp58 fuel (bodyOf 2 Tryz.f58) (T58_2 (x0, x1, x2)) (lc kp58 10 2 R K) = S_ref11_Planes_2 fuel (x0, x1, x2) (fun v => R (T58_2 v)) (E58_2 K) := by
  kernel_rfl
def B58_2 (fuel : Nat) : Ev.Blk := fun st K => match canonO (kp58 10) st with | some s => (match s with | ⟨[(q0, .c (.sl (.int .i64) x0)), (q1, .c (.own q2)), (q3, .c (i6 x1))], [(q4, .vec q5 (.sl (.int .u8)) x2 true)], q6, q7⟩ => bif qb [q0, q1, q2, q3, q4, q5, q6, q7] [0, 7, 0, 8, 0, 30, 1, 0] then iter (S_ref11_Planes_2 fuel) fuel (x0, x1, x2) (E58_2 K) else none | _ => none) | none => none
theorem B58_2_ok (fuel : Nat) (st : Ev.St) (K : KT) (r : Ans) (h : B58_2 fuel st K = some r) : evalCode tab (G58 fuel) (J58_2 fuel) kp58 fuel (.block 2 (.loop (bodyOf 2 Tryz.f58))) st K = some r := by
  unfold B58_2 at h
  split at h
  · rename_i s hs
    split at h
    · skip
      obtain ⟨hb, h⟩ := cond_some' h
      cases qb_eq hb
      exact blk_loop (S := T58_2) (ks := E58_2) (step := S_ref11_Planes_2 fuel) (v := (_, _, _)) (by kernel_rfl) (by kernel_rfl) (fun R K v => by obtain ⟨x0, x1, x2⟩ := v; exact S58_2_ok fuel R K x0 x1 x2) hs h
    · cases h
  · cases h
def J58 (fuel : Nat) (i : Nat) : Option Ev.Blk := Ev.look i [(100000, B58_0 fuel), (100004, B58_4 fuel), (100002, B58_2 fuel)]
def F_ref11_Planes (fuel : Nat) (x0 : (List Int)) (x1 : Int) (k0 : (Int × (List (List Int))) → Option Ans) : Option Ans := bif decide (x1 < 0) then k0 (2, []) else bif decide (x1 > 8) then k0 (2, []) else (L_ref11_Planes_0 fuel (x0, x1, 0) (fun (ret0_0, ret0_1) => k0 (ret0_0, ret0_1)) (fun (b0_0, b0_1) => (L_ref11_Planes_2 fuel (b0_0, i64.wrap (b0_1 - 1), []) (fun b2_0 => k0 (0, b2_0)))))
abbrev YF58 : Type := LI → Int → ((Int × (List LI)) → Option Ans) → Option Ans
theorem F58_eq (fuel : Nat) (x0 : LI) (x1 : Int) (k : Ev.Cont) : evalFn tab (G58 fuel) (J58 fuel) kp58 fuel Tryz.f58 [.c (.sl (.int .i64) x0), .c (i6 x1)] [] k = F_ref11_Planes fuel x0 x1 (fun r => match r with | (r0, r1) => k (.tup [(false, [.own 0]), (false, [i6 r0])], [.vec 30 (.sl (.int .u8)) r1 true])) := by
  kernel_rfl
theorem hG58 (fuel : Nat) : GOK Tryz.prog (G58 fuel) :=
  gok_nil
theorem B58_0_blk (fuel : Nat) : BlkOK Tryz.prog Tryz.f58.ntmps (.block 0 (.loop (bodyOf 0 Tryz.f58))) (B58_0 fuel) := bo0 (hG58 fuel) (by kernel_rfl) (by kernel_rfl) (B58_0_ok fuel)
theorem B58_4_blk (fuel : Nat) : BlkOK Tryz.prog Tryz.f58.ntmps (.block 4 (.loop (bodyOf 4 Tryz.f58))) (B58_4 fuel) := bo0 (hG58 fuel) (by kernel_rfl) (by kernel_rfl) (B58_4_ok fuel)
theorem B58_2_blk (fuel : Nat) : BlkOK Tryz.prog Tryz.f58.ntmps (.block 2 (.loop (bodyOf 2 Tryz.f58))) (B58_2 fuel) :=
  blk_of (blk_of_code tab_ok (hG58 fuel) mixed (J := J58_2 fuel) (kp := kp58) (fuel := fuel) (by kernel_rfl) (fun q hq => by
    rw [(by kernel_rfl : obl (J58_2 fuel) (.block 2 (.loop (bodyOf 2 Tryz.f58))) = [(.block 4 (.loop (bodyOf 4 Tryz.f58)), B58_4 fuel)])] at hq
    simp only [List.mem_cons, List.not_mem_nil, or_false] at hq
    subst hq
    · exact B58_4_blk fuel)) (B58_2_ok fuel)
theorem fok58 (fuel : Nat) : FnOK Tryz.prog 58 (evalFn tab (G58 fuel) (J58 fuel) kp58 fuel Tryz.f58) :=
  fn_ok tab_ok (hG58 fuel) mixed Tryz.func58 (c := (Tryz.f58.body).getD .skip) rfl (fun q hq => by
    rw [(by kernel_rfl : obl (J58 fuel) ((Tryz.f58.body).getD .skip) = [(.block 0 (.loop (bodyOf 0 Tryz.f58)), B58_0 fuel), (.block 2 (.loop (bodyOf 2 Tryz.f58)), B58_2 fuel)])] at hq
    simp only [List.mem_cons, List.not_mem_nil, or_false] at hq
    rcases hq with rfl | rfl
    · exact B58_0_blk fuel
    · exact B58_2_blk fuel)
def spg58 (F : YF58) : Ev.Spec := fun args objs k => match args, objs with | [.c (.sl (.int .i64) x0), .c (i6 x1)], [] => F x0 x1 (fun r => match r with | (r0, r1) => k (.tup [(false, [.own 0]), (false, [i6 r0])], [.vec 30 (.sl (.int .u8)) r1 true])) | _, _ => none
theorem ok58 (fuel : Nat) : FnOK Tryz.prog 58 (spg58 (F_ref11_Planes fuel)) := by
  intro args objs kk r h
  unfold spg58 at h
  split at h
  · skip
    exact fok58 fuel _ _ kk r ((F58_eq fuel _ _ kk).trans h)
  · cases h
def kp64 (i : Nat) : Option (List Nat) := Ev.look i []
def Gg64 (f : Nat) : Option Ev.Spec := Ev.look f []
def G64 (fuel : Nat) : Nat → Option Ev.Spec := Gg64
def F_ref11_isPlace (fuel : Nat) (x0 : Int) (k0 : (Bool) → Option Ans) : Option Ans := bif decide (x0 ≥ (-1048576 : Int)) then k0 (decide (x0 ≤ 1048576)) else k0 false
abbrev YF64 : Type := Int → (Bool → Option Ans) → Option Ans
theorem F64_eq (fuel : Nat) (x0 : Int) (k : Ev.Cont) : evalFn tab (G64 fuel) J0 kp64 fuel Tryz.f64 [.c (i6 x0)] [] k = F_ref11_isPlace fuel x0 (fun r => match r with | r0 => k (.c (.bool r0), [])) := by
  kernel_rfl
theorem hG64 (fuel : Nat) : GOK Tryz.prog (G64 fuel) :=
  gok_nil
def spg64 (F : YF64) : Ev.Spec := fun args objs k => match args, objs with | [.c (i6 x0)], [] => F x0 (fun r => match r with | r0 => k (.c (.bool r0), [])) | _, _ => none
theorem ok64 (fuel : Nat) : FnOK Tryz.prog 64 (spg64 (F_ref11_isPlace fuel)) := by
  intro args objs kk r h
  unfold spg64 at h
  split at h
  · skip
    exact fo0 (hG64 fuel) Tryz.func64 rfl (by kernel_rfl) _ _ kk r ((F64_eq fuel _ kk).trans h)
  · cases h
def kp17 (i : Nat) : Option (List Nat) := Ev.look i []
def Gg17 (f64 : YF64) (f : Nat) : Option Ev.Spec := Ev.look f [(64, spg64 f64)]
def G17 (fuel : Nat) : Nat → Option Ev.Spec := Gg17 (F_ref11_isPlace fuel)
def Fg_ref11_Valid (fuel : Nat) (f64 : YF64) (x0 x1 : Int) (x2 x3 : Int) (x4 x5 : Int) (x6 x7 : Int) (x8 : Bool) (x9 : Int) (k0 : (Bool) → OA) : OA := bif decide (x0 < 0) then k0 false else bif decide (x1 < 0) then k0 false else bif decide (x0 > 64) then k0 false else bif decide (x1 > 64) then k0 false else bif decide (i64.wrap (x0 * x1) > 8192) then k0 false else (f64 x2 (fun y7 => bif !y7 then k0 false else (f64 x3 (fun y12 => bif !y12 then k0 false else (f64 x4 (fun y17 => bif !y17 then k0 false else (f64 x5 (fun y22 => bif !y22 then k0 false else bif decide (x6 ≥ 0) then bif decide (x6 ≤ 3) then bif decide (x7 ≥ 0) then bif decide (x7 ≤ 1) then bif decide (x9 ≥ 0) then k0 (decide (x9 ≤ 4)) else k0 false else k0 false else k0 false else k0 false else k0 false))))))))
abbrev YF17 : Type := Int → Int → Int → Int → Int → Int → Int → Int → Bool → Int → (Bool → Option Ans) → Option Ans
def F_ref11_Valid (fuel : Nat) : YF17 := Fg_ref11_Valid fuel (F_ref11_isPlace fuel)
theorem F17_eqg (fuel : Nat) (f64 : YF64) (x0 x1 : Int) (x2 x3 : Int) (x4 x5 : Int) (x6 x7 : Int) (x8 : Bool) (x9 : Int) (k : Ev.Cont) : evalFn tab (Gg17 f64) J0 kp17 fuel Tryz.f17 [.agg [i6 x0, i6 x1, i6 x2, i6 x3, i6 x4, i6 x5, i6 x6, i6 x7, .bool x8, i6 x9]] [] k = Fg_ref11_Valid fuel f64 x0 x1 x2 x3 x4 x5 x6 x7 x8 x9 (fun r => match r with | r0 => k (.c (.bool r0), [])) := by
  kernel_rfl
theorem hG17 (fuel : Nat) : GOK Tryz.prog (G17 fuel) :=
  gc (ok64 fuel) Tryz.func64 (by kernel_rfl) rfl <|
  gok_nil
def spg17 (F : YF17) : Ev.Spec := fun args objs k => match args, objs with | [.agg [i6 x0, i6 x1, i6 x2, i6 x3, i6 x4, i6 x5, i6 x6, i6 x7, .bool x8, i6 x9]], [] => F x0 x1 x2 x3 x4 x5 x6 x7 x8 x9 (fun r => match r with | r0 => k (.c (.bool r0), [])) | _, _ => none
theorem ok17 (fuel : Nat) : FnOK Tryz.prog 17 (spg17 (F_ref11_Valid fuel)) := by
  intro args objs kk r h
  unfold spg17 at h
  split at h
  · skip
    exact fo0 (hG17 fuel) Tryz.func17 rfl (by kernel_rfl) _ _ kk r ((F17_eqg fuel (F_ref11_isPlace fuel) _ _ _ _ _ _ _ _ _ _ kk).trans h)
  · cases h
def kp152 (i : Nat) : Option (List Nat) := Ev.look i [(2, [0, 3]), (100000, []), (200004, [0]), (400000, [2])]
def Gg152 (f135 : YF135) (f : Nat) : Option Ev.Spec := Ev.look f [(135, spg135 f135)]
def G152 (fuel : Nat) : Nat → Option Ev.Spec := Gg152 (F_ref05_Valid fuel)
def Sg_ref11_bitmaps_0 (fuel : Nat) (f135 : YF135) (x0 : (List (Int × (Int × LI)))) (x1 : Int) (c : ((List (Int × (Int × LI))) × Int) → OA) (B : (Int → OA) × (Unit → OA)) : OA := match B with | (ret, b) => bif decide (x1 < (↑x0.length : Int)) then bif decide (0 ≤ x1 ∧ x1 < (↑x0.length : Int)) then (f135 ((x0.getD x1.toNat (0, 0, [])).fst) ((x0.getD x1.toNat (0, 0, [])).snd.fst) ((x0.getD x1.toNat (0, 0, [])).snd.snd) (fun y4 => bif !y4 then ret (30) else bif decide (0 ≤ x1 ∧ x1 < (↑x0.length : Int)) then bif decide ((0 : Int) ≤ (0 : Int) ∧ (0 : Int) < (↑x0.length : Int)) then bif (x0.getD x1.toNat (0, 0, [])).fst != (x0.getD (Int.toNat 0) (0, 0, [])).fst then ret (30) else bif decide (0 ≤ x1 ∧ x1 < (↑x0.length : Int)) then bif decide ((0 : Int) ≤ (0 : Int) ∧ (0 : Int) < (↑x0.length : Int)) then bif (x0.getD x1.toNat (0, 0, [])).snd.fst != (x0.getD (Int.toNat 0) (0, 0, [])).snd.fst then ret (30) else c (x0, i64.wrap (x1 + 1)) else none else none else none else none)) else none else b ()
def S_ref11_bitmaps_0 (fuel : Nat) (v : (List (Int × (Int × (List Int)))) × Int) (c : ((List (Int × (Int × (List Int)))) × Int) → Option Ans) (B : (Int → Option Ans) × (Unit → Option Ans)) : Option Ans := match v with | (x0, x1) => Sg_ref11_bitmaps_0 fuel (F_ref05_Valid fuel) x0 x1 c B
def L_ref11_bitmaps_0 (fuel : Nat) (v : (List (Int × (Int × (List Int)))) × Int) (ret : (Int → Option Ans)) (b : (Unit → Option Ans)) : Option Ans := iter (S_ref11_bitmaps_0 fuel) fuel v (ret, b)
def T152_0 (v : (List (Int × (Int × LI))) × Int) : Ev.St := match v with | (x0, x1) => ⟨[(0, .c (.sl (.pair (.int .i64) (.pair (.int .i64) (.sl (.int .u8)))) x0)), (3, .c (i6 x1))], [], 0, 0⟩
def E152_0 (K : KT) : (Int → OA) × (Unit → OA) := ((fun v => match v with | x0 => K .ret ⟨[(2, .c (i6 x0))], [], 0, 0⟩), (fun v => match v with | () => K .normal ⟨[], [], 0, 0⟩))
theorem S152_0_okg (fuel : Nat) (f135 : YF135) (R : Ev.St → OA) (K : KT) (x0 : (List (Int × (Int × LI)))) (x1 : Int) : evalCode tab (Gg152 f135) J0 kp152 fuel (bodyOf 0 Tryz.f152) (T152_0 (x0, x1)) (lc kp152 2 0 R K) = Sg_ref11_bitmaps_0 fuel f135 x0 x1 (fun v => R (T152_0 v)) (E152_0 K) := by
  kernel_rfl
def B152_0 (fuel : Nat) : Ev.Blk := fun st K => match canonO (kp152 2) st with | some s => (match s with | ⟨[(q0, .c (.sl (.pair (.int .i64) (.pair (.int .i64) (.sl (.int .u8)))) x0)), (q1, .c (i6 x1))], [], q2, q3⟩ => bif qb [q0, q1, q2, q3] [0, 3, 0, 0] then iter (S_ref11_bitmaps_0 fuel) fuel (x0, x1) (E152_0 K) else none | _ => none) | none => none
theorem B152_0_ok (fuel : Nat) (st : Ev.St) (K : KT) (r : Ans) (h : B152_0 fuel st K = some r) : evalCode tab (G152 fuel) J0 kp152 fuel (.block 0 (.loop (bodyOf 0 Tryz.f152))) st K = some r := by
  unfold B152_0 at h
  split at h
  · rename_i s hs
    split at h
    · skip
      obtain ⟨hb, h⟩ := cond_some' h
      cases qb_eq hb
      exact blk_loop (S := T152_0) (ks := E152_0) (step := S_ref11_bitmaps_0 fuel) (v := (_, _)) (by kernel_rfl) (by kernel_rfl) (fun R K v => by obtain ⟨x0, x1⟩ := v; exact S152_0_okg fuel (F_ref05_Valid fuel) R K x0 x1) hs h
    · cases h
  · cases h
def J152 (fuel : Nat) (i : Nat) : Option Ev.Blk := Ev.look i [(100000, B152_0 fuel)]
def Fg_ref11_bitmaps (fuel : Nat) (f135 : YF135) (x0 : (List (Int × Int × LI))) (k0 : (Int) → OA) : OA := (L_ref11_bitmaps_0 fuel (x0, 0) (fun ret0_0 => k0 ret0_0) (fun () => k0 (0)))
abbrev YF152 : Type := ((List (Int × Int × LI))) → (Int → Option Ans) → Option Ans
def F_ref11_bitmaps (fuel : Nat) : YF152 := Fg_ref11_bitmaps fuel (F_ref05_Valid fuel)
theorem F152_eqg (fuel : Nat) (f135 : YF135) (x0 : (List (Int × Int × LI))) (k : Ev.Cont) : evalFn tab (Gg152 f135) (J152 fuel) kp152 fuel Tryz.f152 [.c (.sl (.pair (.int .i64) (.pair (.int .i64) (.sl (.int .u8)))) x0)] [] k = Fg_ref11_bitmaps fuel f135 x0 (fun r => match r with | r0 => k (.c (i6 r0), [])) := by
  kernel_rfl
theorem hG152 (fuel : Nat) : GOK Tryz.prog (G152 fuel) :=
  gc (ok135 fuel) Tryz.func135 (by kernel_rfl) rfl <|
  gok_nil
theorem B152_0_blk (fuel : Nat) : BlkOK Tryz.prog Tryz.f152.ntmps (.block 0 (.loop (bodyOf 0 Tryz.f152))) (B152_0 fuel) := bo0 (hG152 fuel) (by kernel_rfl) (by kernel_rfl) (B152_0_ok fuel)
def spg152 (F : YF152) : Ev.Spec := fun args objs k => match args, objs with | [.c (.sl (.pair (.int .i64) (.pair (.int .i64) (.sl (.int .u8)))) x0)], [] => F x0 (fun r => match r with | r0 => k (.c (i6 r0), [])) | _, _ => none
theorem ok152 (fuel : Nat) : FnOK Tryz.prog 152 (spg152 (F_ref11_bitmaps fuel)) := by
  intro args objs kk r h
  unfold spg152 at h
  split at h
  · skip
    exact fo1 (hG152 fuel) Tryz.func152 rfl (B152_0_blk fuel) (by kernel_rfl) _ _ kk r ((F152_eqg fuel (F_ref05_Valid fuel) _ kk).trans h)
  · cases h
def kp224 (i : Nat) : Option (List Nat) := Ev.look i []
def Gg224 (f153 : YF153) (f : Nat) : Option Ev.Spec := Ev.look f [(153, spg153 f153)]
def G224 (fuel : Nat) : Nat → Option Ev.Spec := Gg224 (F_ref05_Sides fuel)
def Fg_ref11_isSides (fuel : Nat) (f153 : YF153) (x0 x1 x2 : Int) (k0 : (Bool) → OA) : OA := bif decide (x0 ≥ 1) then bif decide (x0 ≤ 64) then bif decide (x1 ≥ 1) then bif decide (x2 ≥ 1) then bif decide (x1 ≤ 16) then bif decide (x2 ≤ 16) then (f153 (i64.wrap (x0 * x1)) x2 (fun y8 => k0 y8)) else k0 false else k0 false else k0 false else k0 false else k0 false else k0 false
abbrev YF224 : Type := Int → Int → Int → (Bool → Option Ans) → Option Ans
def F_ref11_isSides (fuel : Nat) : YF224 := Fg_ref11_isSides fuel (F_ref05_Sides fuel)
theorem F224_eqg (fuel : Nat) (f153 : YF153) (x0 x1 x2 : Int) (k : Ev.Cont) : evalFn tab (Gg224 f153) J0 kp224 fuel Tryz.f224 [.c (i6 x0), .c (i6 x1), .c (i6 x2)] [] k = Fg_ref11_isSides fuel f153 x0 x1 x2 (fun r => match r with | r0 => k (.c (.bool r0), [])) := by
  kernel_rfl
theorem hG224 (fuel : Nat) : GOK Tryz.prog (G224 fuel) :=
  gc (ok153 fuel) Tryz.func153 (by kernel_rfl) rfl <|
  gok_nil
def spg224 (F : YF224) : Ev.Spec := fun args objs k => match args, objs with | [.c (i6 x0), .c (i6 x1), .c (i6 x2)], [] => F x0 x1 x2 (fun r => match r with | r0 => k (.c (.bool r0), [])) | _, _ => none
theorem ok224 (fuel : Nat) : FnOK Tryz.prog 224 (spg224 (F_ref11_isSides fuel)) := by
  intro args objs kk r h
  unfold spg224 at h
  split at h
  · skip
    exact fo0 (hG224 fuel) Tryz.func224 rfl (by kernel_rfl) _ _ kk r ((F224_eqg fuel (F_ref05_Sides fuel) _ _ _ kk).trans h)
  · cases h
def kp154 (i : Nat) : Option (List Nat) := Ev.look i []
def Gg154 (f224 : YF224) (f : Nat) : Option Ev.Spec := Ev.look f [(224, spg224 f224)]
def G154 (fuel : Nat) : Nat → Option Ev.Spec := Gg154 (F_ref11_isSides fuel)
def Fg_ref11_patterns (fuel : Nat) (f224 : YF224) (x0 : (List (Int × Int × LI))) (k0 : (Int) → OA) : OA := bif (↑x0.length : Int) == 0 then k0 (2) else bif decide ((0 : Int) ≤ (0 : Int) ∧ (0 : Int) < (↑x0.length : Int)) then bif decide ((0 : Int) ≤ (0 : Int) ∧ (0 : Int) < (↑x0.length : Int)) then (f224 ((↑x0.length : Int)) ((x0.getD (Int.toNat 0) (0, 0, [])).fst) ((x0.getD (Int.toNat 0) (0, 0, [])).snd.fst) (fun y5 => bif !y5 then k0 (2) else k0 (0))) else none else none
abbrev YF154 : Type := ((List (Int × Int × LI))) → (Int → Option Ans) → Option Ans
def F_ref11_patterns (fuel : Nat) : YF154 := Fg_ref11_patterns fuel (F_ref11_isSides fuel)
theorem F154_eqg (fuel : Nat) (f224 : YF224) (x0 : (List (Int × Int × LI))) (k : Ev.Cont) : evalFn tab (Gg154 f224) J0 kp154 fuel Tryz.f154 [.c (.sl (.pair (.int .i64) (.pair (.int .i64) (.sl (.int .u8)))) x0)] [] k = Fg_ref11_patterns fuel f224 x0 (fun r => match r with | r0 => k (.c (i6 r0), [])) := by
  kernel_rfl
theorem hG154 (fuel : Nat) : GOK Tryz.prog (G154 fuel) :=
  gc (ok224 fuel) Tryz.func224 (by kernel_rfl) rfl <|
  gok_nil
def spg154 (F : YF154) : Ev.Spec := fun args objs k => match args, objs with | [.c (.sl (.pair (.int .i64) (.pair (.int .i64) (.sl (.int .u8)))) x0)], [] => F x0 (fun r => match r with | r0 => k (.c (i6 r0), [])) | _, _ => none
theorem ok154 (fuel : Nat) : FnOK Tryz.prog 154 (spg154 (F_ref11_patterns fuel)) := by
  intro args objs kk r h
  unfold spg154 at h
  split at h
  · skip
    exact fo0 (hG154 fuel) Tryz.func154 rfl (by kernel_rfl) _ _ kk r ((F154_eqg fuel (F_ref11_isSides fuel) _ kk).trans h)
  · cases h
def kp68 (i : Nat) : Option (List Nat) := Ev.look i []
def Gg68 (f17 : YF17) (f152 : YF152) (f153 : YF153) (f154 : YF154) (f : Nat) : Option Ev.Spec := Ev.look f [(17, spg17 f17), (152, spg152 f152), (153, spg153 f153), (154, spg154 f154)]
def G68 (fuel : Nat) : Nat → Option Ev.Spec := Gg68 (F_ref11_Valid fuel) (F_ref11_bitmaps fuel) (F_ref05_Sides fuel) (F_ref11_patterns fuel)
def Fg_ref11_asked (fuel : Nat) (f17 : YF17) (f152 : YF152) (f153 : YF153) (f154 : YF154) (x0 x1 : Int) (x2 x3 : Int) (x4 x5 : Int) (x6 x7 : Int) (x8 : Bool) (x9 : Int) (x10 : (List (Int × Int × LI))) (x11 x12 : Int) (k0 : (Int) → OA) : OA := (f17 x0 x1 x2 x3 x4 x5 x6 x7 x8 x9 (fun y2 => bif !y2 then k0 (2) else (f152 x10 (fun y7 => bif y7 != 0 then k0 (30) else (f153 x11 x12 (fun y12 => bif !y12 then k0 (30) else (f154 x10 (fun y17 => k0 y17))))))))
abbrev YF68 : Type := Int → Int → Int → Int → Int → Int → Int → Int → Bool → Int → ((List (Int × Int × LI))) → Int → Int → (Int → Option Ans) → Option Ans
def F_ref11_asked (fuel : Nat) : YF68 := Fg_ref11_asked fuel (F_ref11_Valid fuel) (F_ref11_bitmaps fuel) (F_ref05_Sides fuel) (F_ref11_patterns fuel)
theorem F68_eqg (fuel : Nat) (f17 : YF17) (f152 : YF152) (f153 : YF153) (f154 : YF154) (x0 x1 : Int) (x2 x3 : Int) (x4 x5 : Int) (x6 x7 : Int) (x8 : Bool) (x9 : Int) (x10 : (List (Int × Int × LI))) (x11 x12 : Int) (k : Ev.Cont) : evalFn tab (Gg68 f17 f152 f153 f154) J0 kp68 fuel Tryz.f68 [.agg [i6 x0, i6 x1, i6 x2, i6 x3, i6 x4, i6 x5, i6 x6, i6 x7, .bool x8, i6 x9], .c (.sl (.pair (.int .i64) (.pair (.int .i64) (.sl (.int .u8)))) x10), .c (i6 x11), .c (i6 x12)] [] k = Fg_ref11_asked fuel f17 f152 f153 f154 x0 x1 x2 x3 x4 x5 x6 x7 x8 x9 x10 x11 x12 (fun r => match r with | r0 => k (.c (i6 r0), [])) := by
  kernel_rfl
theorem hG68 (fuel : Nat) : GOK Tryz.prog (G68 fuel) :=
  gc (ok17 fuel) Tryz.func17 (by kernel_rfl) rfl <|
  gc (ok152 fuel) Tryz.func152 (by kernel_rfl) rfl <|
  gc (ok153 fuel) Tryz.func153 (by kernel_rfl) rfl <|
  gc (ok154 fuel) Tryz.func154 (by kernel_rfl) rfl <|
  gok_nil
def spg68 (F : YF68) : Ev.Spec := fun args objs k => match args, objs with | [.agg [i6 x0, i6 x1, i6 x2, i6 x3, i6 x4, i6 x5, i6 x6, i6 x7, .bool x8, i6 x9], .c (.sl (.pair (.int .i64) (.pair (.int .i64) (.sl (.int .u8)))) x10), .c (i6 x11), .c (i6 x12)], [] => F x0 x1 x2 x3 x4 x5 x6 x7 x8 x9 x10 x11 x12 (fun r => match r with | r0 => k (.c (i6 r0), [])) | _, _ => none
theorem ok68 (fuel : Nat) : FnOK Tryz.prog 68 (spg68 (F_ref11_asked fuel)) := by
  intro args objs kk r h
  unfold spg68 at h
  split at h
  · skip
    exact fo0 (hG68 fuel) Tryz.func68 rfl (by kernel_rfl) _ _ kk r ((F68_eqg fuel (F_ref11_Valid fuel) (F_ref11_bitmaps fuel) (F_ref05_Sides fuel) (F_ref11_patterns fuel) _ _ _ _ _ _ _ _ _ _ _ _ _ kk).trans h)
  · cases h
def kp220 (i : Nat) : Option (List Nat) := Ev.look i [(3, [0, 1, 2, 6, 7, 8]), (100000, [6, 7]), (400000, [6])]
def Gg220 (f : Nat) : Option Ev.Spec := Ev.look f []
def G220 (fuel : Nat) : Nat → Option Ev.Spec := Gg220
abbrev V_ref05_make2_0 : Type := Int × Int × Int × Int × Int × Int × Int × Int × LI × LI
abbrev W_ref05_make2_0 : Type := (Int × Int × Int × Int × LI × LI → OA)
def S_ref05_make2_0 (fuel : Nat) (v : Int × Int × Int × Int × Int × Int × Int × Int × (List Int) × (List Int)) (c : (Int × Int × Int × Int × Int × Int × Int × Int × (List Int) × (List Int)) → Option Ans) (B : (Int × Int × Int × Int × (List Int) × (List Int) → Option Ans)) : Option Ans := match v, B with | (x0, x1, x2, x3, x4, x5, x6, x7, x8, x9), b => bif decide (x3 < i64.wrap (x0 * x1)) then bif decide ((x9.length + [u8.wrap x2].length) * (1 : Nat) ≤ (140737488355328 : Nat) ∧ x9.length + [u8.wrap x2].length ≤ (140737488355328 : Nat)) then c (x0, x1, x2, i64.wrap (x3 + (1 : Int)), x4, x5, x6, x7, x8, x9 ++ [u8.wrap x2]) else none else b (x4, x5, x6, x7, x8, x9)
def L_ref05_make2_0 (fuel : Nat) (v : V_ref05_make2_0) (b : W_ref05_make2_0) : Option Ans := iter (S_ref05_make2_0 fuel) fuel v b
def T220_0 (v : V_ref05_make2_0) : Ev.St := match v with | (x0, x1, x2, x3, x4, x5, x6, x7, x8, x9) => ⟨[(0, .c (i6 x0)), (1, .c (i6 x1)), (2, .c (i6 x2)), (6, .c (.ptr 0 0)), (7, .c (.ptr 1 0)), (8, .c (i6 x3))], [(0, .cells 51 [i6 x4, i6 x5, .own 2]), (1, .cells 51 [i6 x6, i6 x7, .own 3]), (2, .vec 5 (.int .u8) x8 true), (3, .vec 5 (.int .u8) x9 true)], 4, 0⟩
def E220_0 (K : KT) : W_ref05_make2_0 := (fun v => match v with | (x0, x1, x2, x3, x4, x5) => K .normal ⟨[(6, .c (.ptr 0 0)), (7, .c (.ptr 1 0))], [(0, .cells 51 [i6 x0, i6 x1, .own 2]), (1, .cells 51 [i6 x2, i6 x3, .own 3]), (2, .vec 5 (.int .u8) x4 true), (3, .vec 5 (.int .u8) x5 true)], 4, 0⟩)
theorem S220_0_ok (fuel : Nat) (R : Ev.St → OA) (K : KT) (x0 x1 : Int) (x2 x3 : Int) (x4 x5 : Int) (x6 x7 : Int) (x8 x9 : LI) : evalCode tab (G220 fuel) J0 kp220 fuel (bodyOf 0 Tryz.f220) (T220_0 (x0, x1, x2, x3, x4, x5, x6, x7, x8, x9)) (lc kp220 3 0 R K) = S_ref05_make2_0 fuel (x0, x1, x2, x3, x4, x5, x6, x7, x8, x9) (fun v => R (T220_0 v)) (E220_0 K) := by
  kernel_rfl
def B220_0 (fuel : Nat) : Ev.Blk := fun st K => match canonO (kp220 3) st with | some s => (match s with | ⟨[(q0, .c (i6 x0)), (q1, .c (i6 x1)), (q2, .c (i6 x2)), (q3, .c (.ptr q4 q5)), (q6, .c (.ptr q7 q8)), (q9, .c (i6 x3))], [(q10, .cells q11 [i6 x4, i6 x5, .own q12]), (q13, .cells q14 [i6 x6, i6 x7, .own q15]), (q16, .vec q17 (.int .u8) x8 true), (q18, .vec q19 (.int .u8) x9 true)], q20, q21⟩ => bif qb [q0, q1, q2, q3, q4, q5, q6, q7, q8, q9, q10, q11, q12, q13, q14, q15, q16, q17, q18, q19, q20, q21] [0, 1, 2, 6, 0, 0, 7, 1, 0, 8, 0, 51, 2, 1, 51, 3, 2, 5, 3, 5, 4, 0] then iter (S_ref05_make2_0 fuel) fuel (x0, x1, x2, x3, x4, x5, x6, x7, x8, x9) (E220_0 K) else none | _ => none) | none => none
theorem B220_0_ok (fuel : Nat) (st : Ev.St) (K : KT) (r : Ans) (h : B220_0 fuel st K = some r) : evalCode tab (G220 fuel) J0 kp220 fuel (.block 0 (.loop (bodyOf 0 Tryz.f220))) st K = some r := by
  unfold B220_0 at h
  split at h
  · rename_i s hs
    split at h
    · skip
      obtain ⟨hb, h⟩ := cond_some' h
      cases qb_eq hb
      exact blk_loop (S := T220_0) (ks := E220_0) (step := S_ref05_make2_0 fuel) (v := (_, _, _, _, _, _, _, _, _, _)) (by kernel_rfl) (by kernel_rfl) (fun R K v => by obtain ⟨x0, x1, x2, x3, x4, x5, x6, x7, x8, x9⟩ := v; exact S220_0_ok fuel R K x0 x1 x2 x3 x4 x5 x6 x7 x8 x9) hs h
    · cases h
  · cases h
def J220 (fuel : Nat) (i : Nat) : Option Ev.Blk := Ev.look i [(100000, B220_0 fuel)]
def F_ref05_make2 (fuel : Nat) (x0 x1 x2 : Int) (k0 : (Int × Int × (List Int)) → Option Ans) : Option Ans := (L_ref05_make2_0 fuel (x0, x1, x2, 0, 0, 0, x0, x1, [], []) (fun (b0_0, b0_1, b0_2, b0_3, b0_4, b0_5) => k0 (b0_2, b0_3, b0_5)))
abbrev YF220 : Type := Int → Int → Int → ((Int × Int × LI) → Option Ans) → Option Ans
theorem F220_eq (fuel : Nat) (x0 x1 x2 : Int) (k : Ev.Cont) : evalFn tab (G220 fuel) (J220 fuel) kp220 fuel Tryz.f220 [.c (i6 x0), .c (i6 x1), .c (i6 x2)] [] k = F_ref05_make2 fuel x0 x1 x2 (fun r => match r with | (r0, r1, r2) => k (.agg [i6 r0, i6 r1, .own 0], [.vec 5 (.int .u8) r2 true])) := by
  kernel_rfl
theorem hG220 (fuel : Nat) : GOK Tryz.prog (G220 fuel) :=
  gok_nil
theorem B220_0_blk (fuel : Nat) : BlkOK Tryz.prog Tryz.f220.ntmps (.block 0 (.loop (bodyOf 0 Tryz.f220))) (B220_0 fuel) := bo0 (hG220 fuel) (by kernel_rfl) (by kernel_rfl) (B220_0_ok fuel)
def spg220 (F : YF220) : Ev.Spec := fun args objs k => match args, objs with | [.c (i6 x0), .c (i6 x1), .c (i6 x2)], [] => F x0 x1 x2 (fun r => match r with | (r0, r1, r2) => k (.agg [i6 r0, i6 r1, .own 0], [.vec 5 (.int .u8) r2 true])) | _, _ => none
theorem ok220 (fuel : Nat) : FnOK Tryz.prog 220 (spg220 (F_ref05_make2 fuel)) := by
  intro args objs kk r h
  unfold spg220 at h
  split at h
  · skip
    exact fo1 (hG220 fuel) Tryz.func220 rfl (B220_0_blk fuel) (by kernel_rfl) _ _ kk r ((F220_eq fuel _ _ _ kk).trans h)
  · cases h
def kp141 (i : Nat) : Option (List Nat) := Ev.look i []
def Gg141 (f153 : YF153) (f220 : YF220) (f : Nat) : Option Ev.Spec := Ev.look f [(153, spg153 f153), (220, spg220 f220)]
def G141 (fuel : Nat) : Nat → Option Ev.Spec := Gg141 (F_ref05_Sides fuel) (F_ref05_make2 fuel)
def Fg_ref05_New (fuel : Nat) (f153 : YF153) (f220 : YF220) (x0 x1 x2 : Int) (k0 : (Int × Int × Int × LI) → OA) : OA := bif decide (x0 < 0) then k0 (0, 0, 2, []) else bif decide (x1 < 0) then k0 (0, 0, 2, []) else bif decide (x2 < 0) then k0 (0, 0, 2, []) else bif decide (x2 > 1) then k0 (0, 0, 2, []) else (f153 x0 x1 (fun y6 => bif !y6 then k0 (0, 0, 4, []) else (f220 x0 x1 x2 (fun (y11_0, y11_1, y11_2) => k0 (y11_0, y11_1, 0, y11_2)))))
abbrev YF141 : Type := Int → Int → Int → ((Int × Int × Int × LI) → Option Ans) → Option Ans
def F_ref05_New (fuel : Nat) : YF141 := Fg_ref05_New fuel (F_ref05_Sides fuel) (F_ref05_make2 fuel)
theorem F141_eqg (fuel : Nat) (f153 : YF153) (f220 : YF220) (x0 x1 x2 : Int) (k : Ev.Cont) : evalFn tab (Gg141 f153 f220) J0 kp141 fuel Tryz.f141 [.c (i6 x0), .c (i6 x1), .c (i6 x2)] [] k = Fg_ref05_New fuel f153 f220 x0 x1 x2 (fun r => match r with | (r0, r1, r2, r3) => k (.tup [(true, [i6 r0, i6 r1, .own 0]), (false, [i6 r2])], [.vec 5 (.int .u8) r3 true])) := by
  kernel_rfl
theorem hG141 (fuel : Nat) : GOK Tryz.prog (G141 fuel) :=
  gc (ok153 fuel) Tryz.func153 (by kernel_rfl) rfl <|
  gc (ok220 fuel) Tryz.func220 (by kernel_rfl) rfl <|
  gok_nil
def spg141 (F : YF141) : Ev.Spec := fun args objs k => match args, objs with | [.c (i6 x0), .c (i6 x1), .c (i6 x2)], [] => F x0 x1 x2 (fun r => match r with | (r0, r1, r2, r3) => k (.tup [(true, [i6 r0, i6 r1, .own 0]), (false, [i6 r2])], [.vec 5 (.int .u8) r3 true])) | _, _ => none
theorem ok141 (fuel : Nat) : FnOK Tryz.prog 141 (spg141 (F_ref05_New fuel)) := by
  intro args objs kk r h
  unfold spg141 at h
  split at h
  · skip
    exact fo0 (hG141 fuel) Tryz.func141 rfl (by kernel_rfl) _ _ kk r ((F141_eqg fuel (F_ref05_Sides fuel) (F_ref05_make2 fuel) _ _ _ kk).trans h)
  · cases h
def kp143_a2e (i : Nat) : Option (List Nat) := Ev.look i []
def Gg143_a2e (f : Nat) : Option Ev.Spec := Ev.look f []
def G143_a2e (fuel : Nat) : Nat → Option Ev.Spec := Gg143_a2e
def F_ref05_Put_a2e (fuel : Nat) (x0 x1 : Int) (x2 x3 x4 : Int) (x5 : (List Int)) (k0 : ((List Int)) → Option Ans) : Option Ans := bif decide (0 ≤ i64.wrap (i64.wrap (x3 * x0) + x2) ∧ i64.wrap (i64.wrap (x3 * x0) + x2) < (↑x5.length : Int)) then k0 (x5.set (i64.wrap (i64.wrap (x3 * x0) + x2)).toNat (u8.wrap x4)) else none
abbrev YF143_a2e : Type := Int → Int → Int → Int → Int → LI → (LI → Option Ans) → Option Ans
theorem F143_a2e_eq (fuel : Nat) (x0 x1 : Int) (x2 x3 x4 : Int) (x5 : LI) (k : Ev.Cont) : evalFn tab (G143_a2e fuel) J0 kp143_a2e fuel Tryz.f143 [.agg [i6 x0, i6 x1, .own 0], .c (i6 x2), .c (i6 x3), .c (i6 x4)] [.vec 5 (.int .u8) x5 false] k = F_ref05_Put_a2e fuel x0 x1 x2 x3 x4 x5 (fun r => match r with | r0 => k (.tup [], [.vec 5 (.int .u8) r0 false])) := by
  kernel_rfl
theorem hG143_a2e (fuel : Nat) : GOK Tryz.prog (G143_a2e fuel) :=
  gok_nil
def spg143_a2e (F : YF143_a2e) : Ev.Spec := fun args objs k => match args, objs with | [.agg [i6 x0, i6 x1, .own q0], .c (i6 x2), .c (i6 x3), .c (i6 x4)], [.vec q1 (.int .u8) x5 false] => bif qb [q0, q1] [0, 5] then F x0 x1 x2 x3 x4 x5 (fun r => match r with | r0 => k (.tup [], [.vec 5 (.int .u8) r0 false])) else none | _, _ => none
theorem ok143_a2e (fuel : Nat) : FnOK Tryz.prog 143 (spg143_a2e (F_ref05_Put_a2e fuel)) := by
  intro args objs kk r h
  unfold spg143_a2e at h
  split at h
  · skip
    obtain ⟨hb, h⟩ := cond_some' h
    cases qb_eq hb
    exact fo0 (hG143_a2e fuel) Tryz.func143 rfl (by kernel_rfl) _ _ kk r ((F143_a2e_eq fuel _ _ _ _ _ _ kk).trans h)
  · cases h
def kp221 (i : Nat) : Option (List Nat) := Ev.look i []
def Gg221 (f : Nat) : Option Ev.Spec := Ev.look f []
def G221 (fuel : Nat) : Nat → Option Ev.Spec := Gg221
def F_ref11_down (fuel : Nat) (x0 : Int) (k0 : (Int) → Option Ans) : Option Ans := k0 (Ev.ishr IntKind.i64 x0 8)
abbrev YF221 : Type := Int → (Int → Option Ans) → Option Ans
theorem F221_eq (fuel : Nat) (x0 : Int) (k : Ev.Cont) : evalFn tab (G221 fuel) J0 kp221 fuel Tryz.f221 [.c (i6 x0)] [] k = F_ref11_down fuel x0 (fun r => match r with | r0 => k (.c (i6 r0), [])) := by
  kernel_rfl
theorem hG221 (fuel : Nat) : GOK Tryz.prog (G221 fuel) :=
  gok_nil
def spg221 (F : YF221) : Ev.Spec := fun args objs k => match args, objs with | [.c (i6 x0)], [] => F x0 (fun r => match r with | r0 => k (.c (i6 r0), [])) | _, _ => none
theorem ok221 (fuel : Nat) : FnOK Tryz.prog 221 (spg221 (F_ref11_down fuel)) := by
  intro args objs kk r h
  unfold spg221 at h
  split at h
  · skip
    exact fo0 (hG221 fuel) Tryz.func221 rfl (by kernel_rfl) _ _ kk r ((F221_eq fuel _ kk).trans h)
  · cases h
def kp142 (i : Nat) : Option (List Nat) := Ev.look i [(200001, [3])]
def Gg142 (f221 : YF221) (f : Nat) : Option Ev.Spec := Ev.look f [(221, spg221 f221)]
def G142 (fuel : Nat) : Nat → Option Ev.Spec := Gg142 (F_ref11_down fuel)
def Fg_ref11_cell (fuel : Nat) (f221 : YF221) (x0 x1 : Int) (x2 x3 : Int) (x4 x5 : Int) (x6 x7 : Int) (x8 : Bool) (x9 x10 x11 : Int) (k0 : (Int × Int) → OA) : OA := (f221 (i64.wrap (i64.wrap (x2 + i64.wrap (x10 * x5)) + i64.wrap (x11 * x4))) (fun y2 => (f221 (i64.wrap (i64.wrap (x3 + i64.wrap (x10 * x4)) - i64.wrap (x11 * x5))) (fun y6 => k0 (y2, y6)))))
abbrev YF142 : Type := Int → Int → Int → Int → Int → Int → Int → Int → Bool → Int → Int → Int → ((Int × Int) → Option Ans) → Option Ans
def F_ref11_cell (fuel : Nat) : YF142 := Fg_ref11_cell fuel (F_ref11_down fuel)
theorem F142_eqg (fuel : Nat) (f221 : YF221) (x0 x1 : Int) (x2 x3 : Int) (x4 x5 : Int) (x6 x7 : Int) (x8 : Bool) (x9 x10 x11 : Int) (k : Ev.Cont) : evalFn tab (Gg142 f221) J0 kp142 fuel Tryz.f142 [.agg [i6 x0, i6 x1, i6 x2, i6 x3, i6 x4, i6 x5, i6 x6, i6 x7, .bool x8, i6 x9], .c (i6 x10), .c (i6 x11)] [] k = Fg_ref11_cell fuel f221 x0 x1 x2 x3 x4 x5 x6 x7 x8 x9 x10 x11 (fun r => match r with | (r0, r1) => k (.tup [(false, [i6 r0]), (false, [i6 r1])], [])) := by
  kernel_rfl
theorem hG142 (fuel : Nat) : GOK Tryz.prog (G142 fuel) :=
  gc (ok221 fuel) Tryz.func221 (by kernel_rfl) rfl <|
  gok_nil
def spg142 (F : YF142) : Ev.Spec := fun args objs k => match args, objs with | [.agg [i6 x0, i6 x1, i6 x2, i6 x3, i6 x4, i6 x5, i6 x6, i6 x7, .bool x8, i6 x9], .c (i6 x10), .c (i6 x11)], [] => F x0 x1 x2 x3 x4 x5 x6 x7 x8 x9 x10 x11 (fun r => match r with | (r0, r1) => k (.tup [(false, [i6 r0]), (false, [i6 r1])], [])) | _, _ => none
theorem ok142 (fuel : Nat) : FnOK Tryz.prog 142 (spg142 (F_ref11_cell fuel)) := by
  intro args objs kk r h
  unfold spg142 at h
  split at h
  · skip
    exact fo0 (hG142 fuel) Tryz.func142 rfl (by kernel_rfl) _ _ kk r ((F142_eqg fuel (F_ref11_down fuel) _ _ _ _ _ _ _ _ _ _ _ _ kk).trans h)
  · cases h
def kp61 (i : Nat) : Option (List Nat) := Ev.look i [(3, [1, 2, 3, 4, 8, 9, 11]), (6, [1, 2, 3, 4, 8, 9, 11, 12]), (100000, [8, 9]), (100002, [1, 2, 3, 4, 8, 9, 11]), (400000, [8]), (400002, [8])]
def Gg61 (f141 : YF141) (f142 : YF142) (f143_a2e : YF143_a2e) (f : Nat) : Option Ev.Spec := Ev.look f [(141, spg141 f141), (142, spg142 f142), (1000143, spg143_a2e f143_a2e)]
def G61 (fuel : Nat) : Nat → Option Ev.Spec := Gg61 (F_ref05_New fuel) (F_ref11_cell fuel) (F_ref05_Put_a2e fuel)
abbrev V_ref11_skipped_2 : Type := (List (Int × (Int × LI))) × Int × Int × Int × Int × Int × Int × Int × Int × Int × Int × Int × Int × Bool × Int × Int × Int × Int × Int × LI × LI
abbrev W_ref11_skipped_2 : Type := ((List (Int × (Int × LI))) × Int × Int × Int × Int × Int × Int × Int × Int × Int × Int × Int × Bool × Int × Int × Int × Int × Int × LI × LI → OA)
def Sg_ref11_skipped_2 (fuel : Nat) (f141 : YF141) (f142 : YF142) (f143_a2e : YF143_a2e) (x0 : (List (Int × (Int × LI)))) (x1 x2 : Int) (x3 x4 : Int) (x5 x6 : Int) (x7 x8 : Int) (x9 x10 : Int) (x11 x12 : Int) (x13 : Bool) (x14 x15 : Int) (x16 x17 x18 : Int) (x19 x20 : LI) (c : V_ref11_skipped_2 → OA) (B : W_ref11_skipped_2) : OA := match B with | b => bif decide (x4 < x5) then (f142 x5 x6 x7 x8 x9 x10 x11 x12 x13 x14 x3 x4 (fun (y3_0, y3_1) => bif x13 then bif decide ((0 : Int) ≤ (0 : Int) ∧ (0 : Int) < (↑x0.length : Int)) then bif decide (i64.wrap (y3_0 + (x0.getD (Int.toNat 0) (0, 0, [])).fst) ≤ 0) then (f143_a2e x17 x18 x4 x3 (1) x20 (fun y10 => c (x0, x1, x2, x3, i64.wrap (x4 + 1), x5, x6, x7, x8, x9, x10, x11, x12, x13, x14, x15, x16, x17, x18, x19, y10))) else bif decide ((0 : Int) ≤ (0 : Int) ∧ (0 : Int) < (↑x0.length : Int)) then bif decide (i64.wrap (y3_1 + (x0.getD (Int.toNat 0) (0, 0, [])).snd.fst) ≤ 0) then (f143_a2e x17 x18 x4 x3 (1) x20 (fun y12 => c (x0, x1, x2, x3, i64.wrap (x4 + 1), x5, x6, x7, x8, x9, x10, x11, x12, x13, x14, x15, x16, x17, x18, x19, y12))) else bif decide (y3_0 ≥ x1) then (f143_a2e x17 x18 x4 x3 (1) x20 (fun y13 => c (x0, x1, x2, x3, i64.wrap (x4 + 1), x5, x6, x7, x8, x9, x10, x11, x12, x13, x14, x15, x16, x17, x18, x19, y13))) else bif decide (y3_1 ≥ x2) then (f143_a2e x17 x18 x4 x3 (1) x20 (fun y14 => c (x0, x1, x2, x3, i64.wrap (x4 + 1), x5, x6, x7, x8, x9, x10, x11, x12, x13, x14, x15, x16, x17, x18, x19, y14))) else c (x0, x1, x2, x3, i64.wrap (x4 + 1), x5, x6, x7, x8, x9, x10, x11, x12, x13, x14, x15, x16, x17, x18, x19, x20) else none else none else c (x0, x1, x2, x3, i64.wrap (x4 + 1), x5, x6, x7, x8, x9, x10, x11, x12, x13, x14, x15, x16, x17, x18, x19, x20))) else b (x0, x1, x2, x3, x5, x6, x7, x8, x9, x10, x11, x12, x13, x14, x15, x16, x17, x18, x19, x20)
def S_ref11_skipped_2 (fuel : Nat) (v : (List (Int × (Int × (List Int)))) × Int × Int × Int × Int × Int × Int × Int × Int × Int × Int × Int × Int × Bool × Int × Int × Int × Int × Int × (List Int) × (List Int)) (c : ((List (Int × (Int × (List Int)))) × Int × Int × Int × Int × Int × Int × Int × Int × Int × Int × Int × Int × Bool × Int × Int × Int × Int × Int × (List Int) × (List Int)) → Option Ans) (B : ((List (Int × (Int × (List Int)))) × Int × Int × Int × Int × Int × Int × Int × Int × Int × Int × Int × Bool × Int × Int × Int × Int × Int × (List Int) × (List Int) → Option Ans)) : Option Ans := match v with | (x0, x1, x2, x3, x4, x5, x6, x7, x8, x9, x10, x11, x12, x13, x14, x15, x16, x17, x18, x19, x20) => Sg_ref11_skipped_2 fuel (F_ref05_New fuel) (F_ref11_cell fuel) (F_ref05_Put_a2e fuel) x0 x1 x2 x3 x4 x5 x6 x7 x8 x9 x10 x11 x12 x13 x14 x15 x16 x17 x18 x19 x20 c B
def L_ref11_skipped_2 (fuel : Nat) (v : V_ref11_skipped_2) (b : W_ref11_skipped_2) : Option Ans := iter (S_ref11_skipped_2 fuel) fuel v b
def T61_2 (v : V_ref11_skipped_2) : Ev.St := match v with | (x0, x1, x2, x3, x4, x5, x6, x7, x8, x9, x10, x11, x12, x13, x14, x15, x16, x17, x18, x19, x20) => ⟨[(1, .c (.sl (.pair (.int .i64) (.pair (.int .i64) (.sl (.int .u8)))) x0)), (2, .c (i6 x1)), (3, .c (i6 x2)), (4, .c (.ptr 0 0)), (8, .c (.ptr 1 0)), (9, .c (.ptr 2 0)), (11, .c (i6 x3)), (12, .c (i6 x4))], [(0, .cells 23 [i6 x5, i6 x6, i6 x7, i6 x8, i6 x9, i6 x10, i6 x11, i6 x12, .bool x13, i6 x14]), (1, .cells 51 [i6 x15, i6 x16, .own 3]), (2, .cells 51 [i6 x17, i6 x18, .own 4]), (3, .vec 5 (.int .u8) x19 true), (4, .vec 5 (.int .u8) x20 true)], 5, 0⟩
def E61_2 (K : KT) : W_ref11_skipped_2 := (fun v => match v with | (x0, x1, x2, x3, x4, x5, x6, x7, x8, x9, x10, x11, x12, x13, x14, x15, x16, x17, x18, x19) => K .normal ⟨[(1, .c (.sl (.pair (.int .i64) (.pair (.int .i64) (.sl (.int .u8)))) x0)), (2, .c (i6 x1)), (3, .c (i6 x2)), (4, .c (.ptr 0 0)), (8, .c (.ptr 1 0)), (9, .c (.ptr 2 0)), (11, .c (i6 x3))], [(0, .cells 23 [i6 x4, i6 x5, i6 x6, i6 x7, i6 x8, i6 x9, i6 x10, i6 x11, .bool x12, i6 x13]), (1, .cells 51 [i6 x14, i6 x15, .own 3]), (2, .cells 51 [i6 x16, i6 x17, .own 4]), (3, .vec 5 (.int .u8) x18 true), (4, .vec 5 (.int .u8) x19 true)], 5, 0⟩)
theorem S61_2_okg (fuel : Nat) (f141 : YF141) (f142 : YF142) (f143_a2e : YF143_a2e) (R : Ev.St → OA) (K : KT) (x0 : (List (Int × (Int × LI)))) (x1 x2 : Int) (x3 x4 : Int) (x5 x6 : Int) (x7 x8 : Int) (x9 x10 : Int) (x11 x12 : Int) (x13 : Bool) (x14 x15 : Int) (x16 x17 x18 : Int) (x19 x20 : LI) : evalCode tab (Gg61 f141 f142 f143_a2e) J0 kp61 fuel (bodyOf 2 Tryz.f61) (T61_2 (x0, x1, x2, x3, x4, x5, x6, x7, x8, x9, x10, x11, x12, x13, x14, x15, x16, x17, x18, x19, x20)) (lc kp61 6 2 R K) = Sg_ref11_skipped_2 fuel f141 f142 f143_a2e x0 x1 x2 x3 x4 x5 x6 x7 x8 x9 x10 x11 x12 x13 x14 x15 x16 x17 x18 x19 x20 (fun v => R (T61_2 v)) (E61_2 K) := by
  kernel_rfl
def B61_2 (fuel : Nat) : Ev.Blk := fun st K => match canonO (kp61 6) st with | some s => (match s with | ⟨[(q0, .c (.sl (.pair (.int .i64) (.pair (.int .i64) (.sl (.int .u8)))) x0)), (q1, .c (i6 x1)), (q2, .c (i6 x2)), (q3, .c (.ptr q4 q5)), (q6, .c (.ptr q7 q8)), (q9, .c (.ptr q10 q11)), (q12, .c (i6 x3)), (q13, .c (i6 x4))], [(q14, .cells q15 [i6 x5, i6 x6, i6 x7, i6 x8, i6 x9, i6 x10, i6 x11, i6 x12, .bool x13, i6 x14]), (q16, .cells q17 [i6 x15, i6 x16, .own q18]), (q19, .cells q20 [i6 x17, i6 x18, .own q21]), (q22, .vec q23 (.int .u8) x19 true), (q24, .vec q25 (.int .u8) x20 true)], q26, q27⟩ => bif qb [q0, q1, q2, q3, q4, q5, q6, q7, q8, q9, q10, q11, q12, q13, q14, q15, q16, q17, q18, q19, q20, q21, q22, q23, q24, q25, q26, q27] [1, 2, 3, 4, 0, 0, 8, 1, 0, 9, 2, 0, 11, 12, 0, 23, 1, 51, 3, 2, 51, 4, 3, 5, 4, 5, 5, 0] then iter (S_ref11_skipped_2 fuel) fuel (x0, x1, x2, x3, x4, x5, x6, x7, x8, x9, x10, x11, x12, x13, x14, x15, x16, x17, x18, x19, x20) (E61_2 K) else none | _ => none) | none => none
theorem B61_2_ok (fuel : Nat) (st : Ev.St) (K : KT) (r : Ans) (h : B61_2 fuel st K = some r) : evalCode tab (G61 fuel) J0 kp61 fuel (.block 2 (.loop (bodyOf 2 Tryz.f61))) st K = some r := by
  unfold B61_2 at h
  split at h
  · rename_i s hs
    split at h
    · skip
      obtain ⟨hb, h⟩ := cond_some' h
      cases qb_eq hb
      exact blk_loop (S := T61_2) (ks := E61_2) (step := S_ref11_skipped_2 fuel) (v := (_, _, _, _, _, _, _, _, _, _, _, _, _, _, _, _, _, _, _, _, _)) (by kernel_rfl) (by kernel_rfl) (fun R K v => by obtain ⟨x0, x1, x2, x3, x4, x5, x6, x7, x8, x9, x10, x11, x12, x13, x14, x15, x16, x17, x18, x19, x20⟩ := v; exact S61_2_okg fuel (F_ref05_New fuel) (F_ref11_cell fuel) (F_ref05_Put_a2e fuel) R K x0 x1 x2 x3 x4 x5 x6 x7 x8 x9 x10 x11 x12 x13 x14 x15 x16 x17 x18 x19 x20) hs h
    · cases h
  · cases h
abbrev V_ref11_skipped_0 : Type := (List (Int × (Int × LI))) × Int × Int × Int × Int × Int × Int × Int × Int × Int × Int × Int × Bool × Int × Int × Int × Int × Int × LI × LI
abbrev W_ref11_skipped_0 : Type := (Int × Int × Int × Int × LI × LI → OA)
def Sg_ref11_skipped_0 (fuel : Nat) (f141 : YF141) (f142 : YF142) (f143_a2e : YF143_a2e) (x0 : (List (Int × (Int × LI)))) (x1 x2 : Int) (x3 x4 : Int) (x5 x6 : Int) (x7 x8 : Int) (x9 x10 x11 : Int) (x12 : Bool) (x13 x14 : Int) (x15 x16 x17 : Int) (x18 x19 : LI) (c : V_ref11_skipped_0 → OA) (B : W_ref11_skipped_0) : OA := match B with | b => bif decide (x3 < x5) then (L_ref11_skipped_2 fuel (x0, x1, x2, x3, 0, x4, x5, x6, x7, x8, x9, x10, x11, x12, x13, x14, x15, x16, x17, x18, x19) (fun (b2_0, b2_1, b2_2, b2_3, b2_4, b2_5, b2_6, b2_7, b2_8, b2_9, b2_10, b2_11, b2_12, b2_13, b2_14, b2_15, b2_16, b2_17, b2_18, b2_19) => c (b2_0, b2_1, b2_2, i64.wrap (b2_3 + 1), b2_4, b2_5, b2_6, b2_7, b2_8, b2_9, b2_10, b2_11, b2_12, b2_13, b2_14, b2_15, b2_16, b2_17, b2_18, b2_19))) else b (x14, x15, x16, x17, x18, x19)
def S_ref11_skipped_0 (fuel : Nat) (v : (List (Int × (Int × (List Int)))) × Int × Int × Int × Int × Int × Int × Int × Int × Int × Int × Int × Bool × Int × Int × Int × Int × Int × (List Int) × (List Int)) (c : ((List (Int × (Int × (List Int)))) × Int × Int × Int × Int × Int × Int × Int × Int × Int × Int × Int × Bool × Int × Int × Int × Int × Int × (List Int) × (List Int)) → Option Ans) (B : (Int × Int × Int × Int × (List Int) × (List Int) → Option Ans)) : Option Ans := match v with | (x0, x1, x2, x3, x4, x5, x6, x7, x8, x9, x10, x11, x12, x13, x14, x15, x16, x17, x18, x19) => Sg_ref11_skipped_0 fuel (F_ref05_New fuel) (F_ref11_cell fuel) (F_ref05_Put_a2e fuel) x0 x1 x2 x3 x4 x5 x6 x7 x8 x9 x10 x11 x12 x13 x14 x15 x16 x17 x18 x19 c B
def L_ref11_skipped_0 (fuel : Nat) (v : V_ref11_skipped_0) (b : W_ref11_skipped_0) : Option Ans := iter (S_ref11_skipped_0 fuel) fuel v b
def J61_0 (fuel : Nat) (i : Nat) : Option Ev.Blk := Ev.look i [(100002, B61_2 fuel)]
def T61_0 (v : V_ref11_skipped_0) : Ev.St := match v with | (x0, x1, x2, x3, x4, x5, x6, x7, x8, x9, x10, x11, x12, x13, x14, x15, x16, x17, x18, x19) => ⟨[(1, .c (.sl (.pair (.int .i64) (.pair (.int .i64) (.sl (.int .u8)))) x0)), (2, .c (i6 x1)), (3, .c (i6 x2)), (4, .c (.ptr 0 0)), (8, .c (.ptr 1 0)), (9, .c (.ptr 2 0)), (11, .c (i6 x3))], [(0, .cells 23 [i6 x4, i6 x5, i6 x6, i6 x7, i6 x8, i6 x9, i6 x10, i6 x11, .bool x12, i6 x13]), (1, .cells 51 [i6 x14, i6 x15, .own 3]), (2, .cells 51 [i6 x16, i6 x17, .own 4]), (3, .vec 5 (.int .u8) x18 true), (4, .vec 5 (.int .u8) x19 true)], 5, 0⟩
def E61_0 (K : KT) : W_ref11_skipped_0 := (fun v => match v with | (x0, x1, x2, x3, x4, x5) => K .normal ⟨[(8, .c (.ptr 0 0)), (9, .c (.ptr 1 0))], [(0, .cells 51 [i6 x0, i6 x1, .own 2]), (1, .cells 51 [i6 x2, i6 x3, .own 3]), (2, .vec 5 (.int .u8) x4 true), (3, .vec 5 (.int .u8) x5 true)], 4, 0⟩)
theorem S61_0_okg (fuel : Nat) (f141 : YF141) (f142 : YF142) (f143_a2e : YF143_a2e) (R : Ev.St → OA) (K : KT) (x0 : (List (Int × (Int × LI)))) (x1 x2 : Int) (x3 x4 : Int) (x5 x6 : Int) (x7 x8 : Int) (x9 x10 x11 : Int) (x12 : Bool) (x13 x14 : Int) (x15 x16 x17 : Int) (x18 x19 : LI) : evalCode tab (Gg61 f141 f142 f143_a2e) (J61_0 fuel) kp61 fuel (bodyOf 0 Tryz.f61) (T61_0 (x0, x1, x2, x3, x4, x5, x6, x7, x8, x9, x10, x11, x12, x13, x14, x15, x16, x17, x18, x19)) (lc kp61 3 0 R K) = Sg_ref11_skipped_0 fuel f141 f142 f143_a2e x0 x1 x2 x3 x4 x5 x6 x7 x8 x9 x10 x11 x12 x13 x14 x15 x16 x17 x18 x19 (fun v => R (T61_0 v)) (E61_0 K) := by
  kernel_rfl
def B61_0 (fuel : Nat) : Ev.Blk := fun st K => match canonO (kp61 3) st with | some s => (match s with | ⟨[(q0, .c (.sl (.pair (.int .i64) (.pair (.int .i64) (.sl (.int .u8)))) x0)), (q1, .c (i6 x1)), (q2, .c (i6 x2)), (q3, .c (.ptr q4 q5)), (q6, .c (.ptr q7 q8)), (q9, .c (.ptr q10 q11)), (q12, .c (i6 x3))], [(q13, .cells q14 [i6 x4, i6 x5, i6 x6, i6 x7, i6 x8, i6 x9, i6 x10, i6 x11, .bool x12, i6 x13]), (q15, .cells q16 [i6 x14, i6 x15, .own q17]), (q18, .cells q19 [i6 x16, i6 x17, .own q20]), (q21, .vec q22 (.int .u8) x18 true), (q23, .vec q24 (.int .u8) x19 true)], q25, q26⟩ => bif qb [q0, q1, q2, q3, q4, q5, q6, q7, q8, q9, q10, q11, q12, q13, q14, q15, q16, q17, q18, q19, q20, q21, q22, q23, q24, q25, q26] [1, 2, 3, 4, 0, 0, 8, 1, 0, 9, 2, 0, 11, 0, 23, 1, 51, 3, 2, 51, 4, 3, 5, 4, 5, 5, 0] then iter (S_ref11_skipped_0 fuel) fuel (x0, x1, x2, x3, x4, x5, x6, x7, x8, x9, x10, x11, x12, x13, x14, x15, x16, x17, x18, x19) (E61_0 K) else none | _ => none) | none => none
theorem B61_0_ok (fuel : Nat) (st : Ev.St) (K : KT) (r : Ans) (h : B61_0 fuel st K = some r) : evalCode tab (G61 fuel) (J61_0 fuel) kp61 fuel (.block 0 (.loop (bodyOf 0 Tryz.f61))) st K = some r := by
  unfold B61_0 at h
  split at h
  · rename_i s hs
    split at h
    · skip
      obtain ⟨hb, h⟩ := cond_some' h
      cases qb_eq hb
      exact blk_loop (S := T61_0) (ks := E61_0) (step := S_ref11_skipped_0 fuel) (v := (_, _, _, _, _, _, _, _, _, _, _, _, _, _, _, _, _, _, _, _)) (by kernel_rfl) (by kernel_rfl) (fun R K v => by obtain ⟨x0, x1, x2, x3, x4, x5, x6, x7, x8, x9, x10, x11, x12, x13, x14, x15, x16, x17, x18, x19⟩ := v; exact S61_0_okg fuel (F_ref05_New fuel) (F_ref11_cell fuel) (F_ref05_Put_a2e fuel) R K x0 x1 x2 x3 x4 x5 x6 x7 x8 x9 x10 x11 x12 x13 x14 x15 x16 x17 x18 x19) hs h
    · cases h
  · cases h
def J61 (fuel : Nat) (i : Nat) : Option Ev.Blk := Ev.look i [(100002, B61_2 fuel), (100000, B61_0 fuel)]
def Fg_ref11_skipped (fuel : Nat) (f141 : YF141) (f142 : YF142) (f143_a2e : YF143_a2e) (x0 x1 : Int) (x2 x3 : Int) (x4 x5 : Int) (x6 x7 : Int) (x8 : Bool) (x9 : Int) (x10 : (List (Int × Int × LI))) (x11 x12 : Int) (k0 : (Int × Int × LI) → OA) : OA := (f141 x0 x1 (0) (fun (y2_0, y2_1, y2_2, y2_3) => (L_ref11_skipped_0 fuel (x10, x11, x12, 0, x0, x1, x2, x3, x4, x5, x6, x7, x8, x9, 0, 0, y2_0, y2_1, [], y2_3) (fun (b0_0, b0_1, b0_2, b0_3, b0_4, b0_5) => k0 (b0_2, b0_3, b0_5)))))
abbrev YF61 : Type := Int → Int → Int → Int → Int → Int → Int → Int → Bool → Int → ((List (Int × Int × LI))) → Int → Int → ((Int × Int × LI) → Option Ans) → Option Ans
def F_ref11_skipped (fuel : Nat) : YF61 := Fg_ref11_skipped fuel (F_ref05_New fuel) (F_ref11_cell fuel) (F_ref05_Put_a2e fuel)
theorem F61_eqg (fuel : Nat) (f141 : YF141) (f142 : YF142) (f143_a2e : YF143_a2e) (x0 x1 : Int) (x2 x3 : Int) (x4 x5 : Int) (x6 x7 : Int) (x8 : Bool) (x9 : Int) (x10 : (List (Int × Int × LI))) (x11 x12 : Int) (k : Ev.Cont) : evalFn tab (Gg61 f141 f142 f143_a2e) (J61 fuel) kp61 fuel Tryz.f61 [.agg [i6 x0, i6 x1, i6 x2, i6 x3, i6 x4, i6 x5, i6 x6, i6 x7, .bool x8, i6 x9], .c (.sl (.pair (.int .i64) (.pair (.int .i64) (.sl (.int .u8)))) x10), .c (i6 x11), .c (i6 x12)] [] k = Fg_ref11_skipped fuel f141 f142 f143_a2e x0 x1 x2 x3 x4 x5 x6 x7 x8 x9 x10 x11 x12 (fun r => match r with | (r0, r1, r2) => k (.agg [i6 r0, i6 r1, .own 0], [.vec 5 (.int .u8) r2 true])) := by
  kernel_rfl
theorem hG61 (fuel : Nat) : GOK Tryz.prog (G61 fuel) :=
  gc (ok141 fuel) Tryz.func141 (by kernel_rfl) rfl <|
  gc (ok142 fuel) Tryz.func142 (by kernel_rfl) rfl <|
  gc (ok143_a2e fuel) Tryz.func143 (by kernel_rfl) rfl <|
  gok_nil
theorem B61_2_blk (fuel : Nat) : BlkOK Tryz.prog Tryz.f61.ntmps (.block 2 (.loop (bodyOf 2 Tryz.f61))) (B61_2 fuel) := bo0 (hG61 fuel) (by kernel_rfl) (by kernel_rfl) (B61_2_ok fuel)
theorem B61_0_blk (fuel : Nat) : BlkOK Tryz.prog Tryz.f61.ntmps (.block 0 (.loop (bodyOf 0 Tryz.f61))) (B61_0 fuel) :=
  blk_of (blk_of_code tab_ok (hG61 fuel) mixed (J := J61_0 fuel) (kp := kp61) (fuel := fuel) (by kernel_rfl) (fun q hq => by
    rw [(by kernel_rfl : obl (J61_0 fuel) (.block 0 (.loop (bodyOf 0 Tryz.f61))) = [(.block 2 (.loop (bodyOf 2 Tryz.f61)), B61_2 fuel)])] at hq
    simp only [List.mem_cons, List.not_mem_nil, or_false] at hq
    subst hq
    · exact B61_2_blk fuel)) (B61_0_ok fuel)
def spg61 (F : YF61) : Ev.Spec := fun args objs k => match args, objs with | [.agg [i6 x0, i6 x1, i6 x2, i6 x3, i6 x4, i6 x5, i6 x6, i6 x7, .bool x8, i6 x9], .c (.sl (.pair (.int .i64) (.pair (.int .i64) (.sl (.int .u8)))) x10), .c (i6 x11), .c (i6 x12)], [] => F x0 x1 x2 x3 x4 x5 x6 x7 x8 x9 x10 x11 x12 (fun r => match r with | (r0, r1, r2) => k (.agg [i6 r0, i6 r1, .own 0], [.vec 5 (.int .u8) r2 true])) | _, _ => none
theorem ok61 (fuel : Nat) : FnOK Tryz.prog 61 (spg61 (F_ref11_skipped fuel)) := by
  intro args objs kk r h
  unfold spg61 at h
  split at h
  · skip
    exact fo1 (hG61 fuel) Tryz.func61 rfl (B61_0_blk fuel) (by kernel_rfl) _ _ kk r ((F61_eqg fuel (F_ref05_New fuel) (F_ref11_cell fuel) (F_ref05_Put_a2e fuel) _ _ _ _ _ _ _ _ _ _ _ _ _ kk).trans h)
  · cases h
def kp53 (i : Nat) : Option (List Nat) := Ev.look i [(8, [1, 4, 12, 13]), (100000, []), (400000, [10])]
def Gg53 (f61 : YF61) (f68 : YF68) (f : Nat) : Option Ev.Spec := Ev.look f [(61, spg61 f61), (68, spg68 f68)]
def G53 (fuel : Nat) : Nat → Option Ev.Spec := Gg53 (F_ref11_skipped fuel) (F_ref11_asked fuel)
abbrev V_ref11_given_0 : Type := (List (Int × (Int × LI))) × LI × Int × Int × Int × LI
abbrev W_ref11_given_0 : Type := (Int → OA) × (Unit → OA)
def Sg_ref11_given_0 (fuel : Nat) (f61 : YF61) (f68 : YF68) (x0 : (List (Int × (Int × LI)))) (x1 : LI) (x2 x3 x4 : Int) (x5 : LI) (c : V_ref11_given_0 → OA) (B : W_ref11_given_0) : OA := match B with | (ret, b) => bif decide (x2 < (↑x1.length : Int)) then bif decide (0 ≤ x2 ∧ x2 < (↑x1.length : Int)) then bif decide (x1.getD x2.toNat (0 : Int) < (0 : Int)) then ret (2) else bif decide (0 ≤ x2 ∧ x2 < (↑x1.length : Int)) then bif decide (x1.getD x2.toNat 0 ≥ (↑x0.length : Int)) then ret (2) else bif decide (0 ≤ x2 ∧ x2 < (↑x5.length : Int)) then bif x5.getD x2.toNat (0 : Int) == (1 : Int) then bif decide (0 ≤ x2 ∧ x2 < (↑x1.length : Int)) then bif x1.getD x2.toNat (0 : Int) != (0 : Int) then ret (2) else c (x0, x1, i64.wrap (x2 + 1), x3, x4, x5) else none else c (x0, x1, i64.wrap (x2 + 1), x3, x4, x5) else none else none else none else b ()
def S_ref11_given_0 (fuel : Nat) (v : (List (Int × (Int × (List Int)))) × (List Int) × Int × Int × Int × (List Int)) (c : ((List (Int × (Int × (List Int)))) × (List Int) × Int × Int × Int × (List Int)) → Option Ans) (B : (Int → Option Ans) × (Unit → Option Ans)) : Option Ans := match v with | (x0, x1, x2, x3, x4, x5) => Sg_ref11_given_0 fuel (F_ref11_skipped fuel) (F_ref11_asked fuel) x0 x1 x2 x3 x4 x5 c B
def L_ref11_given_0 (fuel : Nat) (v : V_ref11_given_0) (ret : (Int → Option Ans)) (b : (Unit → Option Ans)) : Option Ans := iter (S_ref11_given_0 fuel) fuel v (ret, b)
def T53_0 (v : V_ref11_given_0) : Ev.St := match v with | (x0, x1, x2, x3, x4, x5) => ⟨[(1, .c (.sl (.pair (.int .i64) (.pair (.int .i64) (.sl (.int .u8)))) x0)), (4, .c (.sl (.int .i64) x1)), (12, .c (.ptr 0 0)), (13, .c (i6 x2))], [(0, .cells 51 [i6 x3, i6 x4, .own 1]), (1, .vec 5 (.int .u8) x5 true)], 2, 0⟩
def E53_0 (K : KT) : W_ref11_given_0 := ((fun v => match v with | x0 => K .ret ⟨[(10, .c (i6 x0))], [], 0, 0⟩), (fun v => match v with | () => K .normal ⟨[], [], 0, 0⟩))
theorem S53_0_okg (fuel : Nat) (f61 : YF61) (f68 : YF68) (R : Ev.St → OA) (K : KT) (x0 : (List (Int × (Int × LI)))) (x1 : LI) (x2 x3 x4 : Int) (x5 : LI) : evalCode tab (Gg53 f61 f68) J0 kp53 fuel (bodyOf 0 Tryz.f53) (T53_0 (x0, x1, x2, x3, x4, x5)) (lc kp53 8 0 R K) = Sg_ref11_given_0 fuel f61 f68 x0 x1 x2 x3 x4 x5 (fun v => R (T53_0 v)) (E53_0 K) := by
  kernel_rfl
def B53_0 (fuel : Nat) : Ev.Blk := fun st K => match canonO (kp53 8) st with | some s => (match s with | ⟨[(q0, .c (.sl (.pair (.int .i64) (.pair (.int .i64) (.sl (.int .u8)))) x0)), (q1, .c (.sl (.int .i64) x1)), (q2, .c (.ptr q3 q4)), (q5, .c (i6 x2))], [(q6, .cells q7 [i6 x3, i6 x4, .own q8]), (q9, .vec q10 (.int .u8) x5 true)], q11, q12⟩ => bif qb [q0, q1, q2, q3, q4, q5, q6, q7, q8, q9, q10, q11, q12] [1, 4, 12, 0, 0, 13, 0, 51, 1, 1, 5, 2, 0] then iter (S_ref11_given_0 fuel) fuel (x0, x1, x2, x3, x4, x5) (E53_0 K) else none | _ => none) | none => none
theorem B53_0_ok (fuel : Nat) (st : Ev.St) (K : KT) (r : Ans) (h : B53_0 fuel st K = some r) : evalCode tab (G53 fuel) J0 kp53 fuel (.block 0 (.loop (bodyOf 0 Tryz.f53))) st K = some r := by
  unfold B53_0 at h
  split at h
  · rename_i s hs
    split at h
    · skip
      obtain ⟨hb, h⟩ := cond_some' h
      cases qb_eq hb
      exact blk_loop (S := T53_0) (ks := E53_0) (step := S_ref11_given_0 fuel) (v := (_, _, _, _, _, _)) (by kernel_rfl) (by kernel_rfl) (fun R K v => by obtain ⟨x0, x1, x2, x3, x4, x5⟩ := v; exact S53_0_okg fuel (F_ref11_skipped fuel) (F_ref11_asked fuel) R K x0 x1 x2 x3 x4 x5) hs h
    · cases h
  · cases h
def J53 (fuel : Nat) (i : Nat) : Option Ev.Blk := Ev.look i [(100000, B53_0 fuel)]
def Fg_ref11_given (fuel : Nat) (f61 : YF61) (f68 : YF68) (x0 x1 : Int) (x2 x3 : Int) (x4 x5 : Int) (x6 x7 : Int) (x8 : Bool) (x9 : Int) (x10 : (List (Int × Int × LI))) (x11 x12 : Int) (x13 : LI) (k0 : (Int) → OA) : OA := (f68 x0 x1 x2 x3 x4 x5 x6 x7 x8 x9 x10 x11 x12 (fun y2 => bif y2 != 0 then k0 y2 else bif (↑x13.length : Int) != i64.wrap (x0 * x1) then k0 (2) else (f61 x0 x1 x2 x3 x4 x5 x6 x7 x8 x9 x10 x11 x12 (fun (y8_0, y8_1, y8_2) => (L_ref11_given_0 fuel (x10, x13, 0, y8_0, y8_1, y8_2) (fun ret0_0 => k0 ret0_0) (fun () => k0 (0)))))))
abbrev YF53 : Type := Int → Int → Int → Int → Int → Int → Int → Int → Bool → Int → ((List (Int × Int × LI))) → Int → Int → LI → (Int → Option Ans) → Option Ans
def F_ref11_given (fuel : Nat) : YF53 := Fg_ref11_given fuel (F_ref11_skipped fuel) (F_ref11_asked fuel)
theorem F53_eqg (fuel : Nat) (f61 : YF61) (f68 : YF68) (x0 x1 : Int) (x2 x3 : Int) (x4 x5 : Int) (x6 x7 : Int) (x8 : Bool) (x9 : Int) (x10 : (List (Int × Int × LI))) (x11 x12 : Int) (x13 : LI) (k : Ev.Cont) : evalFn tab (Gg53 f61 f68) (J53 fuel) kp53 fuel Tryz.f53 [.agg [i6 x0, i6 x1, i6 x2, i6 x3, i6 x4, i6 x5, i6 x6, i6 x7, .bool x8, i6 x9], .c (.sl (.pair (.int .i64) (.pair (.int .i64) (.sl (.int .u8)))) x10), .c (i6 x11), .c (i6 x12), .c (.sl (.int .i64) x13)] [] k = Fg_ref11_given fuel f61 f68 x0 x1 x2 x3 x4 x5 x6 x7 x8 x9 x10 x11 x12 x13 (fun r => match r with | r0 => k (.c (i6 r0), [])) := by
  kernel_rfl
theorem hG53 (fuel : Nat) : GOK Tryz.prog (G53 fuel) :=
  gc (ok61 fuel) Tryz.func61 (by kernel_rfl) rfl <|
  gc (ok68 fuel) Tryz.func68 (by kernel_rfl) rfl <|
  gok_nil
theorem B53_0_blk (fuel : Nat) : BlkOK Tryz.prog Tryz.f53.ntmps (.block 0 (.loop (bodyOf 0 Tryz.f53))) (B53_0 fuel) := bo0 (hG53 fuel) (by kernel_rfl) (by kernel_rfl) (B53_0_ok fuel)
def spg53 (F : YF53) : Ev.Spec := fun args objs k => match args, objs with | [.agg [i6 x0, i6 x1, i6 x2, i6 x3, i6 x4, i6 x5, i6 x6, i6 x7, .bool x8, i6 x9], .c (.sl (.pair (.int .i64) (.pair (.int .i64) (.sl (.int .u8)))) x10), .c (i6 x11), .c (i6 x12), .c (.sl (.int .i64) x13)], [] => F x0 x1 x2 x3 x4 x5 x6 x7 x8 x9 x10 x11 x12 x13 (fun r => match r with | r0 => k (.c (i6 r0), [])) | _, _ => none
theorem ok53 (fuel : Nat) : FnOK Tryz.prog 53 (spg53 (F_ref11_given fuel)) := by
  intro args objs kk r h
  unfold spg53 at h
  split at h
  · skip
    exact fo1 (hG53 fuel) Tryz.func53 rfl (B53_0_blk fuel) (by kernel_rfl) _ _ kk r ((F53_eqg fuel (F_ref11_skipped fuel) (F_ref11_asked fuel) _ _ _ _ _ _ _ _ _ _ _ _ _ _ kk).trans h)
  · cases h
def kp129 (i : Nat) : Option (List Nat) := Ev.look i []
def Gg129 (f : Nat) : Option Ev.Spec := Ev.look f []
def G129 (fuel : Nat) : Nat → Option Ev.Spec := Gg129
def F_ref07_Usual (fuel : Nat) (x0 : Int) (k0 : (Int × Int × Int × Bool × Int × Int) → Option Ans) : Option Ans := bif decide (x0 < 0) then k0 (0, 0, 0, false, 0, 2) else bif decide (x0 > 3) then k0 (0, 0, 0, false, 0, 2) else k0 (x0, i64.wrap (3 - x0.tmod 2), (-1 : Int), true, 0, 0)
abbrev YF129 : Type := Int → ((Int × Int × Int × Bool × Int × Int) → Option Ans) → Option Ans
theorem F129_eq (fuel : Nat) (x0 : Int) (k : Ev.Cont) : evalFn tab (G129 fuel) J0 kp129 fuel Tryz.f129 [.c (i6 x0)] [] k = F_ref07_Usual fuel x0 (fun r => match r with | (r0, r1, r2, r3, r4, r5) => k (.tup [(true, [i6 r0, i6 r1, i6 r2, .bool r3, i6 r4]), (false, [i6 r5])], [])) := by
  kernel_rfl
theorem hG129 (fuel : Nat) : GOK Tryz.prog (G129 fuel) :=
  gok_nil
def spg129 (F : YF129) : Ev.Spec := fun args objs k => match args, objs with | [.c (i6 x0)], [] => F x0 (fun r => match r with | (r0, r1, r2, r3, r4, r5) => k (.tup [(true, [i6 r0, i6 r1, i6 r2, .bool r3, i6 r4]), (false, [i6 r5])], [])) | _, _ => none
theorem ok129 (fuel : Nat) : FnOK Tryz.prog 129 (spg129 (F_ref07_Usual fuel)) := by
  intro args objs kk r h
  unfold spg129 at h
  split at h
  · skip
    exact fo0 (hG129 fuel) Tryz.func129 rfl (by kernel_rfl) _ _ kk r ((F129_eq fuel _ kk).trans h)
  · cases h
def kp54 (i : Nat) : Option (List Nat) := Ev.look i [(200002, [1])]
def Gg54 (f129 : YF129) (f : Nat) : Option Ev.Spec := Ev.look f [(129, spg129 f129)]
def G54 (fuel : Nat) : Nat → Option Ev.Spec := Gg54 (F_ref07_Usual fuel)
def Fg_ref11_options (fuel : Nat) (f129 : YF129) (x0 x1 : Int) (x2 x3 : Int) (x4 x5 : Int) (x6 x7 : Int) (x8 : Bool) (x9 : Int) (k0 : (Int × Int × Int × Bool × Int) → OA) : OA := (f129 x6 (fun (y2_0, y2_1, y2_2, y2_3, y2_4, y2_5) => k0 (y2_0, y2_1, y2_2, false, x7)))
abbrev YF54 : Type := Int → Int → Int → Int → Int → Int → Int → Int → Bool → Int → ((Int × Int × Int × Bool × Int) → Option Ans) → Option Ans
def F_ref11_options (fuel : Nat) : YF54 := Fg_ref11_options fuel (F_ref07_Usual fuel)
theorem F54_eqg (fuel : Nat) (f129 : YF129) (x0 x1 : Int) (x2 x3 : Int) (x4 x5 : Int) (x6 x7 : Int) (x8 : Bool) (x9 : Int) (k : Ev.Cont) : evalFn tab (Gg54 f129) J0 kp54 fuel Tryz.f54 [.agg [i6 x0, i6 x1, i6 x2, i6 x3, i6 x4, i6 x5, i6 x6, i6 x7, .bool x8, i6 x9]] [] k = Fg_ref11_options fuel f129 x0 x1 x2 x3 x4 x5 x6 x7 x8 x9 (fun r => match r with | (r0, r1, r2, r3, r4) => k (.agg [i6 r0, i6 r1, i6 r2, .bool r3, i6 r4], [])) := by
  kernel_rfl
theorem hG54 (fuel : Nat) : GOK Tryz.prog (G54 fuel) :=
  gc (ok129 fuel) Tryz.func129 (by kernel_rfl) rfl <|
  gok_nil
def spg54 (F : YF54) : Ev.Spec := fun args objs k => match args, objs with | [.agg [i6 x0, i6 x1, i6 x2, i6 x3, i6 x4, i6 x5, i6 x6, i6 x7, .bool x8, i6 x9]], [] => F x0 x1 x2 x3 x4 x5 x6 x7 x8 x9 (fun r => match r with | (r0, r1, r2, r3, r4) => k (.agg [i6 r0, i6 r1, i6 r2, .bool r3, i6 r4], [])) | _, _ => none
theorem ok54 (fuel : Nat) : FnOK Tryz.prog 54 (spg54 (F_ref11_options fuel)) := by
  intro args objs kk r h
  unfold spg54 at h
  split at h
  · skip
    exact fo0 (hG54 fuel) Tryz.func54 rfl (by kernel_rfl) _ _ kk r ((F54_eqg fuel (F_ref07_Usual fuel) _ _ _ _ _ _ _ _ _ _ kk).trans h)
  · cases h
def kp15 (i : Nat) : Option (List Nat) := Ev.look i [(10, [1, 2, 3, 5, 13, 18, 20, 22]), (100000, [18]), (200012, [5, 13, 20]), (400000, [10, 11])]
def Gg15 (f53 : YF53) (f54 : YF54) (f55 : YF55) (f56 : YF56) (f57 : YF57) (f58 : YF58) (f59 : YF59) (f60_6c1 : YF60_6c1) (f61 : YF61) (f62_2fe : YF62_2fe) (f : Nat) : Option Ev.Spec := Ev.look f [(53, spg53 f53), (54, spg54 f54), (55, spg55 f55), (56, spg56 f56), (57, spg57 f57), (58, spg58 f58), (59, spg59 f59), (60, spg60_6c1 f60_6c1), (61, spg61 f61), (62, spg62_2fe f62_2fe)]
def G15 (fuel : Nat) : Nat → Option Ev.Spec := Gg15 (F_ref11_given fuel) (F_ref11_options fuel) (F_ref07_Size fuel) (F_ref02_New fuel) (F_ref02_NewEncoder fuel) (F_ref11_Planes fuel) (F_ref03_Width fuel) (F_ref07_Put_6c1 fuel) (F_ref11_skipped fuel) (F_ref02_Encoder_End_2fe fuel)
abbrev V_ref11_Encode_0 : Type := (List (Int × (Int × LI))) × Int × Int × Int × Int × Int × Int × Int × Int × Int × Int × Int × Bool × Int × Int × Int × Int × Bool × Int × Int × Int × Int × (List LI) × LI × LI
abbrev W_ref11_Encode_0 : Type := (Int × Int × Int × LI × LI → OA)
def Sg_ref11_Encode_0 (fuel : Nat) (f53 : YF53) (f54 : YF54) (f55 : YF55) (f56 : YF56) (f57 : YF57) (f58 : YF58) (f59 : YF59) (f60_6c1 : YF60_6c1) (f61 : YF61) (f62_2fe : YF62_2fe) (x0 : (List (Int × (Int × LI)))) (x1 x2 : Int) (x3 x4 : Int) (x5 x6 : Int) (x7 x8 : Int) (x9 x10 x11 : Int) (x12 : Bool) (x13 x14 : Int) (x15 x16 : Int) (x17 : Bool) (x18 x19 : Int) (x20 x21 : Int) (x22 : (List LI)) (x23 x24 : LI) (c : V_ref11_Encode_0 → OA) (B : W_ref11_Encode_0) : OA := match B with | b => bif decide (x3 < (↑x22.length : Int)) then bif decide (0 ≤ x3 ∧ x3 < (↑x22.length : Int)) then both (both ((f61 x4 x5 x6 x7 x8 x9 x10 x11 x12 x13 x0 x1 x2 (fun (y8_0, y8_1, y8_2) => (f60_6c1 (0) x14 x15 x16 x17 x18 x4 x5 (x22.getD x3.toNat []) y8_0 y8_1 y8_2 x19 x20 x21 x23 x24 (fun (y12_0, y12_1, y12_2, y12_3, y12_4, y12_5) => c (x0, x1, x2, i64.wrap (x3 + 1), x4, x5, x6, x7, x8, x9, x10, x11, x12, x13, x14, x15, x16, x17, x18, y12_1, y12_2, y12_3, x22, y12_4, y12_5)) (fun (y12_0, y12_1, y12_2, y12_3, y12_4, y12_5) => c (x0, x1, x2, i64.wrap (x3 + 1), x4, x5, x6, x7, x8, x9, x10, x11, x12, x13, x14, x15, x16, x17, x18, y12_1, y12_2, y12_3, x22, y12_4, y12_5)))))) ((f61 x4 x5 x6 x7 x8 x9 x10 x11 x12 x13 x0 x1 x2 (fun (y8_0, y8_1, y8_2) => (f60_6c1 (0) x14 x15 x16 x17 x18 x4 x5 (x22.getD x3.toNat []) y8_0 y8_1 y8_2 x19 x20 x21 x23 x24 (fun (y12_0, y12_1, y12_2, y12_3, y12_4, y12_5) => c (x0, x1, x2, i64.wrap (x3 + 1), x4, x5, x6, x7, x8, x9, x10, x11, x12, x13, x14, x15, x16, x17, x18, y12_1, y12_2, y12_3, x22, y12_4, y12_5)) (fun (y12_0, y12_1, y12_2, y12_3, y12_4, y12_5) => c (x0, x1, x2, i64.wrap (x3 + 1), x4, x5, x6, x7, x8, x9, x10, x11, x12, x13, x14, x15, x16, x17, x18, y12_1, y12_2, y12_3, x22, y12_4, y12_5))))))) ((f61 x4 x5 x6 x7 x8 x9 x10 x11 x12 x13 x0 x1 x2 (fun (y6_0, y6_1, y6_2) => (f60_6c1 (0) x14 x15 x16 x17 x18 x4 x5 (x22.getD x3.toNat []) y6_0 y6_1 y6_2 x19 x20 x21 x23 x24 (fun (y10_0, y10_1, y10_2, y10_3, y10_4, y10_5) => c (x0, x1, x2, i64.wrap (x3 + 1), x4, x5, x6, x7, x8, x9, x10, x11, x12, x13, x14, x15, x16, x17, x18, y10_1, y10_2, y10_3, x22, y10_4, y10_5)) (fun (y10_0, y10_1, y10_2, y10_3, y10_4, y10_5) => c (x0, x1, x2, i64.wrap (x3 + 1), x4, x5, x6, x7, x8, x9, x10, x11, x12, x13, x14, x15, x16, x17, x18, y10_1, y10_2, y10_3, x22, y10_4, y10_5)))))) else none else b (x19, x20, x21, x23, x24)
def S_ref11_Encode_0 (fuel : Nat) (v : (List (Int × (Int × (List Int)))) × Int × Int × Int × Int × Int × Int × Int × Int × Int × Int × Int × Bool × Int × Int × Int × Int × Bool × Int × Int × Int × Int × (List (List Int)) × (List Int) × (List Int)) (c : ((List (Int × (Int × (List Int)))) × Int × Int × Int × Int × Int × Int × Int × Int × Int × Int × Int × Bool × Int × Int × Int × Int × Bool × Int × Int × Int × Int × (List (List Int)) × (List Int) × (List Int)) → Option Ans) (B : (Int × Int × Int × (List Int) × (List Int) → Option Ans)) : Option Ans := match v with | (x0, x1, x2, x3, x4, x5, x6, x7, x8, x9, x10, x11, x12, x13, x14, x15, x16, x17, x18, x19, x20, x21, x22, x23, x24) => Sg_ref11_Encode_0 fuel (F_ref11_given fuel) (F_ref11_options fuel) (F_ref07_Size fuel) (F_ref02_New fuel) (F_ref02_NewEncoder fuel) (F_ref11_Planes fuel) (F_ref03_Width fuel) (F_ref07_Put_6c1 fuel) (F_ref11_skipped fuel) (F_ref02_Encoder_End_2fe fuel) x0 x1 x2 x3 x4 x5 x6 x7 x8 x9 x10 x11 x12 x13 x14 x15 x16 x17 x18 x19 x20 x21 x22 x23 x24 c B
def L_ref11_Encode_0 (fuel : Nat) (v : V_ref11_Encode_0) (b : W_ref11_Encode_0) : Option Ans := iter (S_ref11_Encode_0 fuel) fuel v b
def T15_0 (v : V_ref11_Encode_0) : Ev.St := match v with | (x0, x1, x2, x3, x4, x5, x6, x7, x8, x9, x10, x11, x12, x13, x14, x15, x16, x17, x18, x19, x20, x21, x22, x23, x24) => ⟨[(1, .c (.sl (.pair (.int .i64) (.pair (.int .i64) (.sl (.int .u8)))) x0)), (2, .c (i6 x1)), (3, .c (i6 x2)), (5, .c (.ptr 0 0)), (13, .c (.ptr 1 0)), (18, .c (.ptr 2 0)), (20, .c (.own 3)), (22, .c (i6 x3))], [(0, .cells 23 [i6 x4, i6 x5, i6 x6, i6 x7, i6 x8, i6 x9, i6 x10, i6 x11, .bool x12, i6 x13]), (1, .cells 78 [i6 x14, i6 x15, i6 x16, .bool x17, i6 x18]), (2, .cells 187 [i6 x19, .own 4, .int .u64 x20, .int .u64 x21, .own 5]), (3, .vec 30 (.sl (.int .u8)) x22 true), (4, .vec 3 (.int .i64) x23 true), (5, .vec 5 (.int .u8) x24 true)], 6, 0⟩
def E15_0 (K : KT) : W_ref11_Encode_0 := (fun v => match v with | (x0, x1, x2, x3, x4) => K .normal ⟨[(18, .c (.ptr 0 0))], [(0, .cells 187 [i6 x0, .own 1, .int .u64 x1, .int .u64 x2, .own 2]), (1, .vec 3 (.int .i64) x3 true), (2, .vec 5 (.int .u8) x4 true)], 3, 0⟩)
theorem S15_0_okg (fuel : Nat) (f53 : YF53) (f54 : YF54) (f55 : YF55) (f56 : YF56) (f57 : YF57) (f58 : YF58) (f59 : YF59) (f60_6c1 : YF60_6c1) (f61 : YF61) (f62_2fe : YF62_2fe) (R : Ev.St → OA) (K : KT) (x0 : (List (Int × (Int × LI)))) (x1 x2 : Int) (x3 x4 : Int) (x5 x6 : Int) (x7 x8 : Int) (x9 x10 x11 : Int) (x12 : Bool) (x13 x14 : Int) (x15 x16 : Int) (x17 : Bool) (x18 x19 : Int) (x20 x21 : Int) (x22 : (List LI)) (x23 x24 : LI) : evalCode tab (Gg15 f53 f54 f55 f56 f57 f58 f59 f60_6c1 f61 f62_2fe) J0 kp15 fuel (bodyOf 0 Tryz.f15) (T15_0 (x0, x1, x2, x3, x4, x5, x6, x7, x8, x9, x10, x11, x12, x13, x14, x15, x16, x17, x18, x19, x20, x21, x22, x23, x24)) (lc kp15 10 0 R K) = Sg_ref11_Encode_0 fuel f53 f54 f55 f56 f57 f58 f59 f60_6c1 f61 f62_2fe x0 x1 x2 x3 x4 x5 x6 x7 x8 x9 x10 x11 x12 x13 x14 x15 x16 x17 x18 x19 x20 x21 x22 x23 x24 (fun v => R (T15_0 v)) (E15_0 K) := by
  kernel_rfl
def B15_0 (fuel : Nat) : Ev.Blk := fun st K => match canonO (kp15 10) st with | some s => (match s with | ⟨[(q0, .c (.sl (.pair (.int .i64) (.pair (.int .i64) (.sl (.int .u8)))) x0)), (q1, .c (i6 x1)), (q2, .c (i6 x2)), (q3, .c (.ptr q4 q5)), (q6, .c (.ptr q7 q8)), (q9, .c (.ptr q10 q11)), (q12, .c (.own q13)), (q14, .c (i6 x3))], [(q15, .cells q16 [i6 x4, i6 x5, i6 x6, i6 x7, i6 x8, i6 x9, i6 x10, i6 x11, .bool x12, i6 x13]), (q17, .cells q18 [i6 x14, i6 x15, i6 x16, .bool x17, i6 x18]), (q19, .cells q20 [i6 x19, .own q21, .int .u64 x20, .int .u64 x21, .own q22]), (q23, .vec q24 (.sl (.int .u8)) x22 true), (q25, .vec q26 (.int .i64) x23 true), (q27, .vec q28 (.int .u8) x24 true)], q29, q30⟩ => bif qb [q0, q1, q2, q3, q4, q5, q6, q7, q8, q9, q10, q11, q12, q13, q14, q15, q16, q17, q18, q19, q20, q21, q22, q23, q24, q25, q26, q27, q28, q29, q30] [1, 2, 3, 5, 0, 0, 13, 1, 0, 18, 2, 0, 20, 3, 22, 0, 23, 1, 78, 2, 187, 4, 5, 3, 30, 4, 3, 5, 5, 6, 0] then iter (S_ref11_Encode_0 fuel) fuel (x0, x1, x2, x3, x4, x5, x6, x7, x8, x9, x10, x11, x12, x13, x14, x15, x16, x17, x18, x19, x20, x21, x22, x23, x24) (E15_0 K) else none | _ => none) | none => none
theorem B15_0_ok (fuel : Nat) (st : Ev.St) (K : KT) (r : Ans) (h : B15_0 fuel st K = some r) : evalCode tab (G15 fuel) J0 kp15 fuel (.block 0 (.loop (bodyOf 0 Tryz.f15))) st K = some r := by
  unfold B15_0 at h
  split at h
  · rename_i s hs
    split at h
    · skip
      obtain ⟨hb, h⟩ := cond_some' h
      cases qb_eq hb
      exact blk_loop (S := T15_0) (ks := E15_0) (step := S_ref11_Encode_0 fuel) (v := (_, _, _, _, _, _, _, _, _, _, _, _, _, _, _, _, _, _, _, _, _, _, _, _, _)) (by kernel_rfl) (by kernel_rfl) (fun R K v => by obtain ⟨x0, x1, x2, x3, x4, x5, x6, x7, x8, x9, x10, x11, x12, x13, x14, x15, x16, x17, x18, x19, x20, x21, x22, x23, x24⟩ := v; exact S15_0_okg fuel (F_ref11_given fuel) (F_ref11_options fuel) (F_ref07_Size fuel) (F_ref02_New fuel) (F_ref02_NewEncoder fuel) (F_ref11_Planes fuel) (F_ref03_Width fuel) (F_ref07_Put_6c1 fuel) (F_ref11_skipped fuel) (F_ref02_Encoder_End_2fe fuel) R K x0 x1 x2 x3 x4 x5 x6 x7 x8 x9 x10 x11 x12 x13 x14 x15 x16 x17 x18 x19 x20 x21 x22 x23 x24) hs h
    · cases h
  · cases h
def J15 (fuel : Nat) (i : Nat) : Option Ev.Blk := Ev.look i [(100000, B15_0 fuel)]
def Fg_ref11_Encode (fuel : Nat) (f53 : YF53) (f54 : YF54) (f55 : YF55) (f56 : YF56) (f57 : YF57) (f58 : YF58) (f59 : YF59) (f60_6c1 : YF60_6c1) (f61 : YF61) (f62_2fe : YF62_2fe) (x0 x1 : Int) (x2 x3 : Int) (x4 x5 : Int) (x6 x7 : Int) (x8 : Bool) (x9 : Int) (x10 : (List (Int × Int × LI))) (x11 x12 : Int) (x13 : LI) (k0 : (Int × LI) → OA) : OA := (f53 x0 x1 x2 x3 x4 x5 x6 x7 x8 x9 x10 x11 x12 x13 (fun y2 => bif y2 != 0 then k0 (y2, []) else (f54 x0 x1 x2 x3 x4 x5 x6 x7 x8 x9 (fun (y7_0, y7_1, y7_2, y7_3, y7_4) => (f55 y7_0 y7_1 y7_2 y7_3 y7_4 (fun (y11_0, y11_1) => (f56 y7_4 y11_0 (fun (y15_0, y15_1, y15_2) => (f57 y15_0 y15_2 (fun y19 => (f59 ((↑x10.length : Int)) (fun y23 => (f58 x13 y23 (fun (y27_0, y27_1) => none))))) (fun (y19_0, y19_1, y19_2, y19_3, y19_4, y19_5) => (f59 ((↑x10.length : Int)) (fun y23 => (f58 x13 y23 (fun (y27_0, y27_1) => (L_ref11_Encode_0 fuel (x10, x11, x12, 0, x0, x1, x2, x3, x4, x5, x6, x7, x8, x9, y7_0, y7_1, y7_2, y7_3, y7_4, y19_1, y19_2, y19_3, y27_1, y19_4, y19_5) (fun (b0_0, b0_1, b0_2, b0_3, b0_4) => (f62_2fe b0_0 b0_1 b0_2 b0_3 b0_4 (fun (y35_0, y35_1, y35_2, y35_3, y35_4, y35_5) => k0 (0, y35_5)))))))))))))))))))
abbrev YF15 : Type := Int → Int → Int → Int → Int → Int → Int → Int → Bool → Int → ((List (Int × Int × LI))) → Int → Int → LI → ((Int × LI) → Option Ans) → Option Ans
def F_ref11_Encode (fuel : Nat) : YF15 := Fg_ref11_Encode fuel (F_ref11_given fuel) (F_ref11_options fuel) (F_ref07_Size fuel) (F_ref02_New fuel) (F_ref02_NewEncoder fuel) (F_ref11_Planes fuel) (F_ref03_Width fuel) (F_ref07_Put_6c1 fuel) (F_ref11_skipped fuel) (F_ref02_Encoder_End_2fe fuel)
theorem F15_eqg (fuel : Nat) (f53 : YF53) (f54 : YF54) (f55 : YF55) (f56 : YF56) (f57 : YF57) (f58 : YF58) (f59 : YF59) (f60_6c1 : YF60_6c1) (f61 : YF61) (f62_2fe : YF62_2fe) (x0 x1 : Int) (x2 x3 : Int) (x4 x5 : Int) (x6 x7 : Int) (x8 : Bool) (x9 : Int) (x10 : (List (Int × Int × LI))) (x11 x12 : Int) (x13 : LI) (k : Ev.Cont) : evalFn tab (Gg15 f53 f54 f55 f56 f57 f58 f59 f60_6c1 f61 f62_2fe) (J15 fuel) kp15 fuel Tryz.f15 [.agg [i6 x0, i6 x1, i6 x2, i6 x3, i6 x4, i6 x5, i6 x6, i6 x7, .bool x8, i6 x9], .c (.sl (.pair (.int .i64) (.pair (.int .i64) (.sl (.int .u8)))) x10), .c (i6 x11), .c (i6 x12), .c (.sl (.int .i64) x13)] [] k = Fg_ref11_Encode fuel f53 f54 f55 f56 f57 f58 f59 f60_6c1 f61 f62_2fe x0 x1 x2 x3 x4 x5 x6 x7 x8 x9 x10 x11 x12 x13 (fun r => match r with | (r0, r1) => k (.tup [(false, [.own 0]), (false, [i6 r0])], [.vec 5 (.int .u8) r1 true])) := by
  kernel_rfl
theorem hG15 (fuel : Nat) : GOK Tryz.prog (G15 fuel) :=
  gc (ok53 fuel) Tryz.func53 (by kernel_rfl) rfl <|
  gc (ok54 fuel) Tryz.func54 (by kernel_rfl) rfl <|
  gc (ok55 fuel) Tryz.func55 (by kernel_rfl) rfl <|
  gc (ok56 fuel) Tryz.func56 (by kernel_rfl) rfl <|
  gc (ok57 fuel) Tryz.func57 (by kernel_rfl) rfl <|
  gc (ok58 fuel) Tryz.func58 (by kernel_rfl) rfl <|
  gc (ok59 fuel) Tryz.func59 (by kernel_rfl) rfl <|
  gc (ok60_6c1 fuel) Tryz.func60 (by kernel_rfl) rfl <|
  gc (ok61 fuel) Tryz.func61 (by kernel_rfl) rfl <|
  gc (ok62_2fe fuel) Tryz.func62 (by kernel_rfl) rfl <|
  gok_nil
theorem B15_0_blk (fuel : Nat) : BlkOK Tryz.prog Tryz.f15.ntmps (.block 0 (.loop (bodyOf 0 Tryz.f15))) (B15_0 fuel) := bo0 (hG15 fuel) (by kernel_rfl) (by kernel_rfl) (B15_0_ok fuel)
def spg15 (F : YF15) : Ev.Spec := fun args objs k => match args, objs with | [.agg [i6 x0, i6 x1, i6 x2, i6 x3, i6 x4, i6 x5, i6 x6, i6 x7, .bool x8, i6 x9], .c (.sl (.pair (.int .i64) (.pair (.int .i64) (.sl (.int .u8)))) x10), .c (i6 x11), .c (i6 x12), .c (.sl (.int .i64) x13)], [] => F x0 x1 x2 x3 x4 x5 x6 x7 x8 x9 x10 x11 x12 x13 (fun r => match r with | (r0, r1) => k (.tup [(false, [.own 0]), (false, [i6 r0])], [.vec 5 (.int .u8) r1 true])) | _, _ => none
theorem ok15 (fuel : Nat) : FnOK Tryz.prog 15 (spg15 (F_ref11_Encode fuel)) := by
  intro args objs kk r h
  unfold spg15 at h
  split at h
  · skip
    exact fo1 (hG15 fuel) Tryz.func15 rfl (B15_0_blk fuel) (by kernel_rfl) _ _ kk r ((F15_eqg fuel (F_ref11_given fuel) (F_ref11_options fuel) (F_ref07_Size fuel) (F_ref02_New fuel) (F_ref02_NewEncoder fuel) (F_ref11_Planes fuel) (F_ref03_Width fuel) (F_ref07_Put_6c1 fuel) (F_ref11_skipped fuel) (F_ref02_Encoder_End_2fe fuel) _ _ _ _ _ _ _ _ _ _ _ _ _ _ kk).trans h)
  · cases h
def kp48 (i : Nat) : Option (List Nat) := Ev.look i []
def Gg48 (f : Nat) : Option Ev.Spec := Ev.look f []
def G48 (fuel : Nat) : Nat → Option Ev.Spec := Gg48
def F_coder_New (fuel : Nat) (x0 x1 : Int) (k0 : (Int × Int × (List Int)) → Option Ans) : Option Ans := bif x0 != 0 then bif x0 != 1 then k0 (0, 2, []) else bif decide (x1 < 0) then k0 (0, 2, []) else bif decide (x1 > 8192) then k0 (0, 2, []) else bif decide (0 ≤ x1 ∧ x1 = x1 ∧ (↑(8 : Nat) : Int) * x1 ≤ 281474976710656 ∧ x1 ≤ 281474976710656) then k0 (x0, 0, List.replicate x1.toNat (0 : Int)) else none else bif decide (x1 < 0) then k0 (0, 2, []) else bif decide (x1 > 8192) then k0 (0, 2, []) else bif decide (0 ≤ x1 ∧ x1 = x1 ∧ (↑(8 : Nat) : Int) * x1 ≤ 281474976710656 ∧ x1 ≤ 281474976710656) then k0 (x0, 0, List.replicate x1.toNat (0 : Int)) else none
abbrev YF48 : Type := Int → Int → ((Int × Int × LI) → Option Ans) → Option Ans
theorem F48_eq (fuel : Nat) (x0 x1 : Int) (k : Ev.Cont) : evalFn tab (G48 fuel) J0 kp48 fuel Tryz.f48 [.c (i6 x0), .c (i6 x1)] [] k = F_coder_New fuel x0 x1 (fun r => match r with | (r0, r1, r2) => k (.tup [(true, [i6 r0, .own 0]), (false, [i6 r1])], [.vec 3 (.int .i64) r2 true])) := by
  kernel_rfl
theorem hG48 (fuel : Nat) : GOK Tryz.prog (G48 fuel) :=
  gok_nil
def spg48 (F : YF48) : Ev.Spec := fun args objs k => match args, objs with | [.c (i6 x0), .c (i6 x1)], [] => F x0 x1 (fun r => match r with | (r0, r1, r2) => k (.tup [(true, [i6 r0, .own 0]), (false, [i6 r1])], [.vec 3 (.int .i64) r2 true])) | _, _ => none
theorem ok48 (fuel : Nat) : FnOK Tryz.prog 48 (spg48 (F_coder_New fuel)) := by
  intro args objs kk r h
  unfold spg48 at h
  split at h
  · skip
    exact fo0 (hG48 fuel) Tryz.func48 rfl (by kernel_rfl) _ _ kk r ((F48_eq fuel _ _ kk).trans h)
  · cases h
def kp145_40a (i : Nat) : Option (List Nat) := Ev.look i [(200001, [0]), (200002, [0])]
def Gg145_40a (f : Nat) : Option Ev.Spec := Ev.look f []
def G145_40a (fuel : Nat) : Nat → Option Ev.Spec := Gg145_40a
def F_coder_Decoder_shift_40a (fuel : Nat) (x0 x1 : Int) (x2 x3 : Int) (x4 x5 : Int) (x6 x7 : Bool) (x8 x9 : (List Int)) (k0 : (Int × Int × Int × Int × Int × Int × Bool × Bool × (List Int) × (List Int)) → Option Ans) : Option Ans := bif decide (x3 < (↑x9.length : Int)) then bif decide (0 ≤ x3 ∧ x3 < (↑x9.length : Int)) then k0 (x0, x1, x2, i64.wrap (x3 + 1), Ev.ior IntKind.u64 (Ev.iand IntKind.u64 (Ev.ishl IntKind.u64 x4 8) 4294967295) (u64.wrap (x9.getD x3.toNat 0)), x5, x6, x7, x8, x9) else none else k0 (x0, x1, x2, i64.wrap (x3 + 1), Ev.ior IntKind.u64 (Ev.iand IntKind.u64 (Ev.ishl IntKind.u64 x4 8) 4294967295) (u64.wrap 0), i64.wrap (x5 + 1), x6, x7, x8, x9)
abbrev YF145_40a : Type := Int → Int → Int → Int → Int → Int → Bool → Bool → LI → LI → ((Int × Int × Int × Int × Int × Int × Bool × Bool × LI × LI) → Option Ans) → Option Ans
theorem F145_40a_eq (fuel : Nat) (x0 x1 : Int) (x2 x3 : Int) (x4 x5 : Int) (x6 x7 : Bool) (x8 x9 : LI) (k : Ev.Cont) : evalFn tab (G145_40a fuel) J0 kp145_40a fuel Tryz.f145 [.c (.ptr 0 0)] [.cells 194 (i6 x0 :: .own 1 :: ctb (.int .u64 x1 :: .int .u64 x2 :: .own 2 :: i6 x3 :: .int .u64 x4 :: i6 x5 :: .bool x6 :: .bool x7 :: [])), .vec 3 (.int .i64) x8 false, .vec 5 (.int .u8) x9 false] k = F_coder_Decoder_shift_40a fuel x0 x1 x2 x3 x4 x5 x6 x7 x8 x9 (fun r => match r with | (r0, r1, r2, r3, r4, r5, r6, r7, r8, r9) => k (.tup [], [.cells 194 (i6 r0 :: .own 1 :: ctb (.int .u64 r1 :: .int .u64 r2 :: .own 2 :: i6 r3 :: .int .u64 r4 :: i6 r5 :: .bool r6 :: .bool r7 :: [])), .vec 3 (.int .i64) r8 false, .vec 5 (.int .u8) r9 false])) := by
  kernel_rfl
theorem hG145_40a (fuel : Nat) : GOK Tryz.prog (G145_40a fuel) :=
  gok_nil
def spg145_40a (F : YF145_40a) : Ev.Spec := fun args objs k => match args, objs with | [.c (.ptr q0 q1)], [.cells q2 cs0, .vec q3 (.int .i64) x8 false, .vec q4 (.int .u8) x9 false] => (match splitRun 2 ctn cs0 with | some ([i6 x0, .own q5], [.int .u64 x1, .int .u64 x2, .own q6, i6 x3, .int .u64 x4, i6 x5, .bool x6, .bool x7]) => bif qb [q0, q1, q2, q3, q4, q5, q6] [0, 0, 194, 3, 5, 1, 2] then F x0 x1 x2 x3 x4 x5 x6 x7 x8 x9 (fun r => match r with | (r0, r1, r2, r3, r4, r5, r6, r7, r8, r9) => k (.tup [], [.cells 194 (i6 r0 :: .own 1 :: ctb (.int .u64 r1 :: .int .u64 r2 :: .own 2 :: i6 r3 :: .int .u64 r4 :: i6 r5 :: .bool r6 :: .bool r7 :: [])), .vec 3 (.int .i64) r8 false, .vec 5 (.int .u8) r9 false])) else none | _ => none) | _, _ => none
theorem ok145_40a (fuel : Nat) : FnOK Tryz.prog 145 (spg145_40a (F_coder_Decoder_shift_40a fuel)) := by
  intro args objs kk r h
  unfold spg145_40a at h
  split at h
  · skip
    split at h
    rotate_left 1
    · cases h
    rename_i hsp
    have esp := splitRun_eq hsp
    subst esp
    obtain ⟨hb, h⟩ := cond_some' h
    cases qb_eq hb
    exact fo0 (hG145_40a fuel) Tryz.func145 rfl (by kernel_rfl) _ _ kk r ((F145_40a_eq fuel _ _ _ _ _ _ _ _ _ _ kk).trans h)
  · cases h
def kp118 (i : Nat) : Option (List Nat) := Ev.look i [(7, [3, 24, 25, 26]), (100000, []), (400000, [2])]
def Gg118 (f : Nat) : Option Ev.Spec := Ev.look f []
def G118 (fuel : Nat) : Nat → Option Ev.Spec := Gg118
def S_coder_Valid_0 (fuel : Nat) (v : Int × (List Int) × Int × Int) (c : (Int × (List Int) × Int × Int) → Option Ans) (B : (Bool → Option Ans) × (Unit → Option Ans)) : Option Ans := match v, B with | (x0, x1, x2, x3), (ret, b) => bif decide (x3 < x2) then bif decide ((0 : Int) ≤ x3 ∧ x3 < (↑x1.length : Int)) then bif decide (x1.getD x3.toNat (0 : Int) < (0 : Int)) then ret false else bif decide (x1.getD x3.toNat (0 : Int) ≥ x0) then ret false else c (x0, x1, x2, i64.wrap (x3 + (1 : Int))) else none else b ()
def L_coder_Valid_0 (fuel : Nat) (v : Int × (List Int) × Int × Int) (ret : (Bool → Option Ans)) (b : (Unit → Option Ans)) : Option Ans := iter (S_coder_Valid_0 fuel) fuel v (ret, b)
def T118_0 (v : Int × LI × Int × Int) : Ev.St := match v with | (x0, x1, x2, x3) => ⟨[(3, .c (i6 x0)), (24, .c (.sl (.int .i64) x1)), (25, .c (i6 x2)), (26, .c (i6 x3))], [], 0, 0⟩
def E118_0 (K : KT) : (Bool → OA) × (Unit → OA) := ((fun v => match v with | x0 => K .ret ⟨[(2, .c (.bool x0))], [], 0, 0⟩), (fun v => match v with | () => K .normal ⟨[], [], 0, 0⟩))
theorem S118_0_ok (fuel : Nat) (R : Ev.St → OA) (K : KT) (x0 : Int) (x1 : LI) (x2 x3 : Int) : evalCode tab (G118 fuel) J0 kp118 fuel (bodyOf 0 Tryz.f118) (T118_0 (x0, x1, x2, x3)) (lc kp118 7 0 R K) = S_coder_Valid_0 fuel (x0, x1, x2, x3) (fun v => R (T118_0 v)) (E118_0 K) := by
  kernel_rfl
def B118_0 (fuel : Nat) : Ev.Blk := fun st K => match canonO (kp118 7) st with | some s => (match s with | ⟨[(q0, .c (i6 x0)), (q1, .c (.sl (.int .i64) x1)), (q2, .c (i6 x2)), (q3, .c (i6 x3))], [], q4, q5⟩ => bif qb [q0, q1, q2, q3, q4, q5] [3, 24, 25, 26, 0, 0] then iter (S_coder_Valid_0 fuel) fuel (x0, x1, x2, x3) (E118_0 K) else none | _ => none) | none => none
theorem B118_0_ok (fuel : Nat) (st : Ev.St) (K : KT) (r : Ans) (h : B118_0 fuel st K = some r) : evalCode tab (G118 fuel) J0 kp118 fuel (.block 0 (.loop (bodyOf 0 Tryz.f118))) st K = some r := by
  unfold B118_0 at h
  split at h
  · rename_i s hs
    split at h
    · skip
      obtain ⟨hb, h⟩ := cond_some' h
      cases qb_eq hb
      exact blk_loop (S := T118_0) (ks := E118_0) (step := S_coder_Valid_0 fuel) (v := (_, _, _, _)) (by kernel_rfl) (by kernel_rfl) (fun R K v => by obtain ⟨x0, x1, x2, x3⟩ := v; exact S118_0_ok fuel R K x0 x1 x2 x3) hs h
    · cases h
  · cases h
def J118 (fuel : Nat) (i : Nat) : Option Ev.Blk := Ev.look i [(100000, B118_0 fuel)]
def F_coder_Valid (fuel : Nat) (x0 : Int) (x1 : (List Int)) (k0 : (Bool) → Option Ans) : Option Ans := bif x0 != 0 then bif x0 != 1 then k0 false else bif decide ((↑x1.length : Int) > 8192) then k0 false else bif x0 == 1 then (L_coder_Valid_0 fuel (65536, x1, (↑x1.length : Int), 0) (fun ret0_0 => k0 ret0_0) (fun () => k0 true)) else (L_coder_Valid_0 fuel (64, x1, (↑x1.length : Int), 0) (fun ret0_0 => k0 ret0_0) (fun () => k0 true)) else bif decide ((↑x1.length : Int) > 8192) then k0 false else bif x0 == 1 then (L_coder_Valid_0 fuel (65536, x1, (↑x1.length : Int), 0) (fun ret0_0 => k0 ret0_0) (fun () => k0 true)) else (L_coder_Valid_0 fuel (64, x1, (↑x1.length : Int), 0) (fun ret0_0 => k0 ret0_0) (fun () => k0 true))
abbrev YF118 : Type := Int → LI → (Bool → Option Ans) → Option Ans
theorem F118_eq (fuel : Nat) (x0 : Int) (x1 : LI) (k : Ev.Cont) : evalFn tab (G118 fuel) (J118 fuel) kp118 fuel Tryz.f118 [.agg [i6 x0, .sl (.int .i64) x1]] [] k = F_coder_Valid fuel x0 x1 (fun r => match r with | r0 => k (.c (.bool r0), [])) := by
  kernel_rfl
theorem hG118 (fuel : Nat) : GOK Tryz.prog (G118 fuel) :=
  gok_nil
theorem B118_0_blk (fuel : Nat) : BlkOK Tryz.prog Tryz.f118.ntmps (.block 0 (.loop (bodyOf 0 Tryz.f118))) (B118_0 fuel) := bo0 (hG118 fuel) (by kernel_rfl) (by kernel_rfl) (B118_0_ok fuel)
def spg118 (F : YF118) : Ev.Spec := fun args objs k => match args, objs with | [.agg [i6 x0, .sl (.int .i64) x1]], [] => F x0 x1 (fun r => match r with | r0 => k (.c (.bool r0), [])) | _, _ => none
theorem ok118 (fuel : Nat) : FnOK Tryz.prog 118 (spg118 (F_coder_Valid fuel)) := by
  intro args objs kk r h
  unfold spg118 at h
  split at h
  · skip
    exact fo1 (hG118 fuel) Tryz.func118 rfl (B118_0_blk fuel) (by kernel_rfl) _ _ kk r ((F118_eq fuel _ _ kk).trans h)
  · cases h
def kp205 (i : Nat) : Option (List Nat) := Ev.look i [(4, [0, 1, 2, 4]), (100000, [0, 1]), (400000, [0])]
def Gg205 (f : Nat) : Option Ev.Spec := Ev.look f []
def G205 (fuel : Nat) : Nat → Option Ev.Spec := Gg205
def F_coder_chances (fuel : Nat)  (k0 : (Unit) → Option Ans) : Option Ans := k0 ()
abbrev YF205 : Type := ((Unit) → Option Ans) → Option Ans
theorem F205_eq (fuel : Nat)  (k : Ev.Cont) : evalFn tab (G205 fuel) J0 kp205 100 Tryz.f205 [] [] k = F_coder_chances fuel  (fun r => match r with | () => k (.agg (ctb []), [])) := by
  kernel_rfl
theorem hG205 (fuel : Nat) : GOK Tryz.prog (G205 fuel) :=
  gok_nil
theorem fok205 (fuel : Nat) : FnOK Tryz.prog 205 (evalFn tab (G205 fuel) J0 kp205 100 Tryz.f205) :=
  fn_ok tab_ok (hG205 fuel) mixed Tryz.func205 (c := (Tryz.f205.body).getD .skip) rfl (fun q hq => by
    rw [(by kernel_rfl : obl J0 ((Tryz.f205.body).getD .skip) = [])] at hq
    cases hq)
def spg205 (F : YF205) : Ev.Spec := fun args objs k => match args, objs with | [], [] => F  (fun r => match r with | () => k (.agg (ctb []), [])) | _, _ => none
theorem ok205 (fuel : Nat) : FnOK Tryz.prog 205 (spg205 (F_coder_chances fuel)) := by
  intro args objs kk r h
  unfold spg205 at h
  split at h
  · skip
    exact fok205 fuel _ _ kk r ((F205_eq fuel kk).trans h)
  · cases h
def kp204 (i : Nat) : Option (List Nat) := Ev.look i [(200001, [1])]
def Gg204 (f : Nat) : Option Ev.Spec := Ev.look f []
def G204 (fuel : Nat) : Nat → Option Ev.Spec := Gg204
def F_coder_clone (fuel : Nat) (x0 : Int) (x1 : (List Int)) (k0 : (Int × (List Int)) → Option Ans) : Option Ans := bif decide (((0 : Nat) + x1.length) * (8 : Nat) ≤ (140737488355328 : Nat) ∧ (0 : Nat) + x1.length ≤ (140737488355328 : Nat)) then k0 (x0, [] ++ x1) else none
abbrev YF204 : Type := Int → LI → ((Int × LI) → Option Ans) → Option Ans
theorem F204_eq (fuel : Nat) (x0 : Int) (x1 : LI) (k : Ev.Cont) : evalFn tab (G204 fuel) J0 kp204 fuel Tryz.f204 [.agg [i6 x0, .sl (.int .i64) x1]] [] k = F_coder_clone fuel x0 x1 (fun r => match r with | (r0, r1) => k (.agg [i6 r0, .own 0], [.vec 3 (.int .i64) r1 true])) := by
  kernel_rfl
theorem hG204 (fuel : Nat) : GOK Tryz.prog (G204 fuel) :=
  gok_nil
def spg204 (F : YF204) : Ev.Spec := fun args objs k => match args, objs with | [.agg [i6 x0, .sl (.int .i64) x1]], [] => F x0 x1 (fun r => match r with | (r0, r1) => k (.agg [i6 r0, .own 0], [.vec 3 (.int .i64) r1 true])) | _, _ => none
theorem ok204 (fuel : Nat) : FnOK Tryz.prog 204 (spg204 (F_coder_clone fuel)) := by
  intro args objs kk r h
  unfold spg204 at h
  split at h
  · skip
    exact fo0 (hG204 fuel) Tryz.func204 rfl (by kernel_rfl) _ _ kk r ((F204_eq fuel _ _ kk).trans h)
  · cases h
end
end Go.Proofs.YtipdidpalcmlhaaGreat

