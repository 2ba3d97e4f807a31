/- What the functions that GenericBest reaches do: their typed texts, each with the proof that the machine does it. No condition. -/
import Derived.Test.YtihfgpfofmjbaaaEvX
import Derived.Test.YtihfgpfofmjbaaaFsGenericBest1
set_option linter.unusedVariables false
set_option linter.unusedSimpArgs false
set_option linter.unusedVariables false
set_option linter.unusedSimpArgs false
set_option maxRecDepth 100000
set_option maxHeartbeats 2000000
namespace Go.Proofs.Ytihfgpfofmjbaaa
open Go Ev
def kp91_d0e (i : Nat) : Option (List Nat) := Ev.look i [(4, [0, 1, 7, 8, 9, 10, 27, 28, 1000002]), (13, [0, 1, 7, 8, 9, 10, 11, 27, 28, 60, 61]), (100000, []), (100002, [0, 1, 7, 8, 9, 10, 27, 28]), (200008, [8, 9]), (200017, [8]), (400000, []), (400002, [])]
noncomputable def Gg91_d0e (f90 : YF90) (f97 : YF97) (f99_cf0 : YF99_cf0) (f158_a34 : YF158_a34) (f161 : YF161) (f162_b9e : YF162_b9e) (f163 : YF163) (f : Nat) : Option Ev.Spec := Ev.look f [(90, spg90 f90), (97, spg97 f97), (99, spg99_cf0 f99_cf0), (158, spg158_a34 f158_a34), (161, spg161 f161), (162, spg162_b9e f162_b9e), (163, spg163 f163)]
noncomputable def G91_d0e (fuel : Nat) : Nat → Option Ev.Spec := Gg91_d0e (F_generic_contexts fuel) (F_generic_newPlane fuel) (F_coder_Encoder_Put_cf0 fuel) (F_generic_plane_context_a34 fuel) (F_bytes_Equal fuel) (F_generic_plane_above_b9e fuel) (F_generic_skips fuel)
noncomputable def S_generic_put_d0e_2 (fuel : Nat) (v : Int × Int × Int × Int × Int × Int × Int × Int × Int × Bool × (List Int) × (List Int) × Int × Int × Int × Bool × Int × Int × Int × (List Int) × Int × Int × (List Int) × Int × Int × (List Int) × (List (Int × Int))) (c : (Int × Int × Int × Int × Int × Int × Int × Int × Int × Bool × (List Int) × (List Int) × Int × Int × Int × Bool × Int × Int × Int × (List Int) × Int × Int × (List Int) × Int × Int × (List Int) × (List (Int × Int))) → Option Ans) (B : (Int × Int × Int × Int × Int × Int × Bool × (List Int) × (List Int) × Int × Int × Int × Bool × Int × Int × Int × (List Int) × Int × Int × (List Int) × Int × Int × (List Int) × (List (Int × Int)) → Option Ans)) : Option Ans := match v, B with
  | (x0, x1, x2, x3, x4, x5, x6, x7, x8, x9, x10, x11, x12, x13, x14, x15, x16, x17, x18, x19, x20, x21, x22, x23, x24, x25, x26), b =>
   bif Decidable.decide (x5 < x4) then
      (F_generic_skips fuel (x20) (x21) (x22) (Go.IntKind.i64.wrap (Go.IntKind.i64.wrap (x1 * x17) + x5))
        (fun y3 =>
          bif !y3 then
           bif Decidable.decide ((0 : Int) ≤ Go.IntKind.i64.wrap (Go.IntKind.i64.wrap (x1 * x17) + x5) ∧ Go.IntKind.i64.wrap (Go.IntKind.i64.wrap (x1 * x17) + x5) < (↑x19.length : Int)) then
           (F_generic_plane_context_a34 fuel (x5) (x1) (x23) (x24) (x25) (x26)
              (fun (y9_0, y9_1, y9_2, y9_3, y9_4) =>
                (F_coder_Encoder_Put_cf0 fuel (Go.IntKind.i64.wrap (x0 + y9_0)) (Go.IntKind.i64.wrap (x19.getD (Go.IntKind.i64.wrap (Go.IntKind.i64.wrap (x1 * x17) + x5)).toNat (0 : Int))) (x6) (x7) (x8) (x9) (x10) (x11)
                  (fun (y13_0, y13_1, y13_2, y13_3, y13_4, y13_5, y13_6) =>
                    c (x0, x1, x2, x3, x4, Go.IntKind.i64.wrap (x5 + (1 : Int)), y13_1, y13_2, y13_3, y13_4, y13_5, y13_6, x12, x13, x14, x15, x16, x17, x18, x19, x20, x21, x22, y9_1, y9_2, y9_3, y9_4))
                  (fun (y13_0, y13_1, y13_2, y13_3, y13_4, y13_5, y13_6) =>
                    c (x0, x1, x2, x3, x4, Go.IntKind.i64.wrap (x5 + (1 : Int)), y13_1, y13_2, y13_3, y13_4, y13_5, y13_6, x12, x13, x14, x15, x16, x17, x18, x19, x20, x21, x22, y9_1, y9_2, y9_3, y9_4)))))
           else none
          else
           c (x0, x1, x2, x3, x4, Go.IntKind.i64.wrap (x5 + (1 : Int)), x6, x7, x8, x9, x10, x11, x12, x13, x14, x15, x16, x17, x18, x19, x20, x21, x22, x23, x24, x25, x26)))
     else
      b (x0, x2, x3, x6, x7, x8, x9, x10, x11, x12, x13, x14, x15, x16, x17, x18, x19, x20, x21, x22, x23, x24, x25, x26)
noncomputable def L_generic_put_d0e_2 (fuel : Nat) (v : Int × Int × Int × Int × Int × Int × Int × Int × Int × Bool × (List Int) × (List Int) × Int × Int × Int × Bool × Int × Int × Int × (List Int) × Int × Int × (List Int) × Int × Int × (List Int) × (List (Int × Int))) (b : (Int × Int × Int × Int × Int × Int × Bool × (List Int) × (List Int) × Int × Int × Int × Bool × Int × Int × Int × (List Int) × Int × Int × (List Int) × Int × Int × (List Int) × (List (Int × Int)) → Option Ans)) : Option Ans := iter (S_generic_put_d0e_2 fuel) fuel v b
noncomputable def J91_d0e_2 (fuel : Nat) (i : Nat) : Option Ev.Blk := Ev.look i []
noncomputable def T91_d0e_2 (v : Int × Int × Int × Int × Int × Int × Int × Int × Int × Bool × (List Int) × (List Int) × Int × Int × Int × Bool × Int × Int × Int × (List Int) × Int × Int × (List Int) × Int × Int × (List Int) × (List (Int × Int))) : Ev.St := match v with | (x0, x1, x2, x3, x4, x5, x6, x7, x8, x9, x10, x11, x12, x13, x14, x15, x16, x17, x18, x19, x20, x21, x22, x23, x24, x25, x26) => ⟨[(0, .c (.ptr 0 0)), (1, .c (.int .i64 x0)), (7, .c (.ptr 3 0)), (8, .c (.ptr 4 0)), (9, .c (.ptr 5 0)), (10, .c (.ptr 6 0)), (11, .c (.int .i64 x1)), (27, .c (.int .i64 x2)), (28, .c (.int .i64 x3)), (60, .c (.int .i64 x4)), (61, .c (.int .i64 x5))], [(0, .cells 172 (.int .i64 x6 :: .own 1 :: .int .i64 2048 :: .int .i64 1792 :: .int .i64 1568 :: .int .i64 1372 :: .int .i64 1201 :: .int .i64 1051 :: .int .i64 920 :: .int .i64 805 :: .int .i64 705 :: .int .i64 617 :: .int .i64 540 :: .int .i64 473 :: .int .i64 414 :: .int .i64 363 :: .int .i64 318 :: .int .i64 279 :: .int .i64 245 :: .int .i64 215 :: .int .i64 189 :: .int .i64 166 :: .int .i64 146 :: .int .i64 128 :: .int .i64 112 :: .int .i64 98 :: .int .i64 86 :: .int .i64 76 :: .int .i64 67 :: .int .i64 59 :: .int .i64 52 :: .int .i64 46 :: .int .i64 41 :: .int .i64 36 :: .int .u64 x7 :: .int .u64 x8 :: .own 2 :: .bool x9 :: [])), (1, .vec 3 (.int .i64) x10 false), (2, .vec 5 (.int .u8) x11 true), (3, .cells 46 [.int .i64 x12, .int .i64 x13, .int .i64 x14, .bool x15, .int .i64 x16]), (4, .cells 39 [.int .i64 x17, .int .i64 x18, .sl (.int .u8) x19]), (5, .cells 39 [.int .i64 x20, .int .i64 x21, .sl (.int .u8) x22]), (6, .cells 137 [.int .i64 x23, .int .i64 x24, .sl (.int .u8) x25, .own 7]), (7, .vec 44 (.pair (.int .i64) (.int .i64)) x26 true)], 8, 3⟩
noncomputable def E91_d0e_2 (K : Ev.Ex → Ev.St → Option Ans) : (Int × Int × Int × Int × Int × Int × Bool × (List Int) × (List Int) × Int × Int × Int × Bool × Int × Int × Int × (List Int) × Int × Int × (List Int) × Int × Int × (List Int) × (List (Int × Int)) → Option Ans) := (fun v => match v with | (x0, x1, x2, x3, x4, x5, x6, x7, x8, x9, x10, x11, x12, x13, x14, x15, x16, x17, x18, x19, x20, x21, x22, x23) => K .normal ⟨[(0, .c (.ptr 0 0)), (1, .c (.int .i64 x0)), (7, .c (.ptr 3 0)), (8, .c (.ptr 4 0)), (9, .c (.ptr 5 0)), (10, .c (.ptr 6 0)), (27, .c (.int .i64 x1)), (28, .c (.int .i64 x2))], [(0, .cells 172 (.int .i64 x3 :: .own 1 :: .int .i64 2048 :: .int .i64 1792 :: .int .i64 1568 :: .int .i64 1372 :: .int .i64 1201 :: .int .i64 1051 :: .int .i64 920 :: .int .i64 805 :: .int .i64 705 :: .int .i64 617 :: .int .i64 540 :: .int .i64 473 :: .int .i64 414 :: .int .i64 363 :: .int .i64 318 :: .int .i64 279 :: .int .i64 245 :: .int .i64 215 :: .int .i64 189 :: .int .i64 166 :: .int .i64 146 :: .int .i64 128 :: .int .i64 112 :: .int .i64 98 :: .int .i64 86 :: .int .i64 76 :: .int .i64 67 :: .int .i64 59 :: .int .i64 52 :: .int .i64 46 :: .int .i64 41 :: .int .i64 36 :: .int .u64 x4 :: .int .u64 x5 :: .own 2 :: .bool x6 :: [])), (1, .vec 3 (.int .i64) x7 false), (2, .vec 5 (.int .u8) x8 true), (3, .cells 46 [.int .i64 x9, .int .i64 x10, .int .i64 x11, .bool x12, .int .i64 x13]), (4, .cells 39 [.int .i64 x14, .int .i64 x15, .sl (.int .u8) x16]), (5, .cells 39 [.int .i64 x17, .int .i64 x18, .sl (.int .u8) x19]), (6, .cells 137 [.int .i64 x20, .int .i64 x21, .sl (.int .u8) x22, .own 7]), (7, .vec 44 (.pair (.int .i64) (.int .i64)) x23 true)], 8, 3⟩)
theorem S91_d0e_2_okg (fuel : Nat) (f90 : YF90) (f97 : YF97) (f99_cf0 : YF99_cf0) (f158_a34 : YF158_a34) (f161 : YF161) (f162_b9e : YF162_b9e) (f163 : YF163) (R : Ev.St → Option Ans) (K : Ev.Ex → Ev.St → Option Ans) (x0 : Int) (x1 : Int) (x2 : Int) (x3 : Int) (x4 : Int) (x5 : Int) (x6 : Int) (x7 : Int) (x8 : Int) (x9 : Bool) (x10 : (List Int)) (x11 : (List Int)) (x12 : Int) (x13 : Int) (x14 : Int) (x15 : Bool) (x16 : Int) (x17 : Int) (x18 : Int) (x19 : (List Int)) (x20 : Int) (x21 : Int) (x22 : (List Int)) (x23 : Int) (x24 : Int) (x25 : (List Int)) (x26 : (List (Int × Int))) : evalCode tab (Gg91_d0e f90 f97 f99_cf0 f158_a34 f161 f162_b9e f163) (J91_d0e_2 fuel) kp91_d0e fuel (bodyOf 2 Try.f91) (T91_d0e_2 (x0, x1, x2, x3, x4, x5, x6, x7, x8, x9, x10, x11, x12, x13, x14, x15, x16, x17, x18, x19, x20, x21, x22, x23, x24, x25, x26)) (lc kp91_d0e 13 2 R K) = (fun (c : (Int × Int × Int × Int × Int × Int × Int × Int × Int × Bool × (List Int) × (List Int) × Int × Int × Int × Bool × Int × Int × Int × (List Int) × Int × Int × (List Int) × Int × Int × (List Int) × (List (Int × Int))) → Option Ans) (B : (Int × Int × Int × Int × Int × Int × Bool × (List Int) × (List Int) × Int × Int × Int × Bool × Int × Int × Int × (List Int) × Int × Int × (List Int) × Int × Int × (List Int) × (List (Int × Int)) → Option Ans)) => match B with
  | b =>
   bif Decidable.decide (x5 < x4) then
      (f163 (x20) (x21) (x22) (Go.IntKind.i64.wrap (Go.IntKind.i64.wrap (x1 * x17) + x5))
        (fun y3 =>
          bif !y3 then
           bif Decidable.decide ((0 : Int) ≤ Go.IntKind.i64.wrap (Go.IntKind.i64.wrap (x1 * x17) + x5) ∧ Go.IntKind.i64.wrap (Go.IntKind.i64.wrap (x1 * x17) + x5) < (↑x19.length : Int)) then
           (f158_a34 (x5) (x1) (x23) (x24) (x25) (x26)
              (fun (y9_0, y9_1, y9_2, y9_3, y9_4) =>
                (f99_cf0 (Go.IntKind.i64.wrap (x0 + y9_0)) (Go.IntKind.i64.wrap (x19.getD (Go.IntKind.i64.wrap (Go.IntKind.i64.wrap (x1 * x17) + x5)).toNat (0 : Int))) (x6) (x7) (x8) (x9) (x10) (x11)
                  (fun (y13_0, y13_1, y13_2, y13_3, y13_4, y13_5, y13_6) =>
                    c (x0, x1, x2, x3, x4, Go.IntKind.i64.wrap (x5 + (1 : Int)), y13_1, y13_2, y13_3, y13_4, y13_5, y13_6, x12, x13, x14, x15, x16, x17, x18, x19, x20, x21, x22, y9_1, y9_2, y9_3, y9_4))
                  (fun (y13_0, y13_1, y13_2, y13_3, y13_4, y13_5, y13_6) =>
                    c (x0, x1, x2, x3, x4, Go.IntKind.i64.wrap (x5 + (1 : Int)), y13_1, y13_2, y13_3, y13_4, y13_5, y13_6, x12, x13, x14, x15, x16, x17, x18, x19, x20, x21, x22, y9_1, y9_2, y9_3, y9_4)))))
           else none
          else
           c (x0, x1, x2, x3, x4, Go.IntKind.i64.wrap (x5 + (1 : Int)), x6, x7, x8, x9, x10, x11, x12, x13, x14, x15, x16, x17, x18, x19, x20, x21, x22, x23, x24, x25, x26)))
     else
      b (x0, x2, x3, x6, x7, x8, x9, x10, x11, x12, x13, x14, x15, x16, x17, x18, x19, x20, x21, x22, x23, x24, x25, x26)) (fun v => R (T91_d0e_2 v)) (E91_d0e_2 K) := by
  kernel_rfl
theorem S91_d0e_2_ok (fuel : Nat) (R : Ev.St → Option Ans) (K : Ev.Ex → Ev.St → Option Ans) (x0 : Int) (x1 : Int) (x2 : Int) (x3 : Int) (x4 : Int) (x5 : Int) (x6 : Int) (x7 : Int) (x8 : Int) (x9 : Bool) (x10 : (List Int)) (x11 : (List Int)) (x12 : Int) (x13 : Int) (x14 : Int) (x15 : Bool) (x16 : Int) (x17 : Int) (x18 : Int) (x19 : (List Int)) (x20 : Int) (x21 : Int) (x22 : (List Int)) (x23 : Int) (x24 : Int) (x25 : (List Int)) (x26 : (List (Int × Int))) : evalCode tab (G91_d0e fuel) (J91_d0e_2 fuel) kp91_d0e fuel (bodyOf 2 Try.f91) (T91_d0e_2 (x0, x1, x2, x3, x4, x5, x6, x7, x8, x9, x10, x11, x12, x13, x14, x15, x16, x17, x18, x19, x20, x21, x22, x23, x24, x25, x26)) (lc kp91_d0e 13 2 R K) = S_generic_put_d0e_2 fuel (x0, x1, x2, x3, x4, x5, x6, x7, x8, x9, x10, x11, x12, x13, x14, x15, x16, x17, x18, x19, x20, x21, x22, x23, x24, x25, x26) (fun v => R (T91_d0e_2 v)) (E91_d0e_2 K) :=
  S91_d0e_2_okg fuel (F_generic_contexts fuel) (F_generic_newPlane fuel) (F_coder_Encoder_Put_cf0 fuel) (F_generic_plane_context_a34 fuel) (F_bytes_Equal fuel) (F_generic_plane_above_b9e fuel) (F_generic_skips fuel) R K x0 x1 x2 x3 x4 x5 x6 x7 x8 x9 x10 x11 x12 x13 x14 x15 x16 x17 x18 x19 x20 x21 x22 x23 x24 x25 x26
noncomputable def B91_d0e_2 (fuel : Nat) : Ev.Blk := fun st K => match canonO (kp91_d0e 13) st with
  | some s => (match s with
    | ⟨[(q0, .c (.ptr q1 q2)), (q3, .c (.int .i64 x0)), (q4, .c (.ptr q5 q6)), (q7, .c (.ptr q8 q9)), (q10, .c (.ptr q11 q12)), (q13, .c (.ptr q14 q15)), (q16, .c (.int .i64 x1)), (q17, .c (.int .i64 x2)), (q18, .c (.int .i64 x3)), (q19, .c (.int .i64 x4)), (q20, .c (.int .i64 x5))], [(q21, .cells q22 cs0), (q23, .vec q24 (.int .i64) x10 false), (q25, .vec q26 (.int .u8) x11 true), (q27, .cells q28 [.int .i64 x12, .int .i64 x13, .int .i64 x14, .bool x15, .int .i64 x16]), (q29, .cells q30 [.int .i64 x17, .int .i64 x18, .sl (.int .u8) x19]), (q31, .cells q32 [.int .i64 x20, .int .i64 x21, .sl (.int .u8) x22]), (q33, .cells q34 [.int .i64 x23, .int .i64 x24, .sl (.int .u8) x25, .own q35]), (q36, .vec q37 (.pair (.int .i64) (.int .i64)) x26 true)], q38, q39⟩ => (match splitRun 2 [(.i64, 2048), (.i64, 1792), (.i64, 1568), (.i64, 1372), (.i64, 1201), (.i64, 1051), (.i64, 920), (.i64, 805), (.i64, 705), (.i64, 617), (.i64, 540), (.i64, 473), (.i64, 414), (.i64, 363), (.i64, 318), (.i64, 279), (.i64, 245), (.i64, 215), (.i64, 189), (.i64, 166), (.i64, 146), (.i64, 128), (.i64, 112), (.i64, 98), (.i64, 86), (.i64, 76), (.i64, 67), (.i64, 59), (.i64, 52), (.i64, 46), (.i64, 41), (.i64, 36)] cs0 with | some ([.int .i64 x6, .own q40], [.int .u64 x7, .int .u64 x8, .own q41, .bool x9]) => bif Nat.beq q0 0 && Nat.beq q1 0 && Nat.beq q2 0 && Nat.beq q3 1 && Nat.beq q4 7 && Nat.beq q5 3 && Nat.beq q6 0 && Nat.beq q7 8 && Nat.beq q8 4 && Nat.beq q9 0 && Nat.beq q10 9 && Nat.beq q11 5 && Nat.beq q12 0 && Nat.beq q13 10 && Nat.beq q14 6 && Nat.beq q15 0 && Nat.beq q16 11 && Nat.beq q17 27 && Nat.beq q18 28 && Nat.beq q19 60 && Nat.beq q20 61 && Nat.beq q21 0 && Nat.beq q22 172 && Nat.beq q23 1 && Nat.beq q24 3 && Nat.beq q25 2 && Nat.beq q26 5 && Nat.beq q27 3 && Nat.beq q28 46 && Nat.beq q29 4 && Nat.beq q30 39 && Nat.beq q31 5 && Nat.beq q32 39 && Nat.beq q33 6 && Nat.beq q34 137 && Nat.beq q35 7 && Nat.beq q36 7 && Nat.beq q37 44 && Nat.beq q38 8 && Nat.beq q39 3 && Nat.beq q40 1 && Nat.beq q41 2 then iter (S_generic_put_d0e_2 fuel) fuel (x0, x1, x2, x3, x4, x5, x6, x7, x8, x9, x10, x11, x12, x13, x14, x15, x16, x17, x18, x19, x20, x21, x22, x23, x24, x25, x26) (E91_d0e_2 K) else none | _ => none)
    | _ => none)
  | none => none
theorem B91_d0e_2_ok (fuel : Nat) (st : Ev.St) (K : Ev.Ex → Ev.St → Option Ans) (r : Ans) (h : B91_d0e_2 fuel st K = some r) : evalCode tab (G91_d0e fuel) (J91_d0e_2 fuel) kp91_d0e fuel (.block 2 (.loop (bodyOf 2 Try.f91))) st K = some r := by
  unfold B91_d0e_2 at h
  split at h
  · rename_i s hs
    split at h
    · skip
      split at h
      rotate_left 1
      · cases h
      rename_i hsp
      have esp := splitRun_eq hsp
      subst esp
      obtain ⟨hb, h⟩ := cond_some' h
      simp only [Bool.and_eq_true, Nat.beq_eq, decide_eq_true_eq] at hb
      obtain ⟨⟨⟨⟨⟨⟨⟨⟨⟨⟨⟨⟨⟨⟨⟨⟨⟨⟨⟨⟨⟨⟨⟨⟨⟨⟨⟨⟨⟨⟨⟨⟨⟨⟨⟨⟨⟨⟨⟨⟨⟨rfl, rfl⟩, rfl⟩, rfl⟩, rfl⟩, rfl⟩, rfl⟩, rfl⟩, rfl⟩, rfl⟩, rfl⟩, rfl⟩, rfl⟩, rfl⟩, rfl⟩, rfl⟩, rfl⟩, rfl⟩, rfl⟩, rfl⟩, rfl⟩, rfl⟩, rfl⟩, rfl⟩, rfl⟩, rfl⟩, rfl⟩, rfl⟩, rfl⟩, rfl⟩, rfl⟩, rfl⟩, rfl⟩, rfl⟩, rfl⟩, rfl⟩, rfl⟩, rfl⟩, rfl⟩, rfl⟩, rfl⟩, rfl⟩ := hb
      exact blk_loop (S := T91_d0e_2) (ks := E91_d0e_2) (step := S_generic_put_d0e_2 fuel) (v := (_, _, _, _, _, _, _, _, _, _, _, _, _, _, _, _, _, _, _, _, _, _, _, _, _, _, _)) (by kernel_rfl) (by kernel_rfl) (fun R K v => by obtain ⟨x0, x1, x2, x3, x4, x5, x6, x7, x8, x9, x10, x11, x12, x13, x14, x15, x16, x17, x18, x19, x20, x21, x22, x23, x24, x25, x26⟩ := v; exact S91_d0e_2_ok fuel R K x0 x1 x2 x3 x4 x5 x6 x7 x8 x9 x10 x11 x12 x13 x14 x15 x16 x17 x18 x19 x20 x21 x22 x23 x24 x25 x26) hs h
    · cases h
  · cases h
noncomputable def S_generic_put_d0e_0 (fuel : Nat) (v : Int × Int × Int × Int × Int × Int × Bool × (List Int) × (List Int) × Int × Int × Int × Bool × Int × Int × Int × (List Int) × Int × Int × (List Int) × Int × Int × (List Int) × (List (Int × Int))) (c : (Int × Int × Int × Int × Int × Int × Bool × (List Int) × (List Int) × Int × Int × Int × Bool × Int × Int × Int × (List Int) × Int × Int × (List Int) × Int × Int × (List Int) × (List (Int × Int))) → Option Ans) (B : (Int × Int × Int × Bool × (List Int) × (List Int) → Option Ans)) : Option Ans := match v, B with
  | (x0, x1, x2, x3, x4, x5, x6, x7, x8, x9, x10, x11, x12, x13, x14, x15, x16, x17, x18, x19, x20, x21, x22, x23), b =>
   bif Decidable.decide (x2 < x1) then
      bif x12 then
       bif Decidable.decide ((0 : Int) ≤ Ev.loOf (Option.some (Go.IntKind.i64.wrap (x2 * x14))) ∧ Ev.loOf (Option.some (Go.IntKind.i64.wrap (x2 * x14))) ≤ Ev.hiOf (Option.some (Go.IntKind.i64.wrap (Go.IntKind.i64.wrap (x2 + (1 : Int)) * x14))) (↑x16.length : Int) ∧ Ev.hiOf (Option.some (Go.IntKind.i64.wrap (Go.IntKind.i64.wrap (x2 + (1 : Int)) * x14))) (↑x16.length : Int) ≤ (↑x16.length : Int)) then
       (F_generic_plane_above_b9e fuel (x2) (x17) (x18) (x19) (x20) (x21) (x22) (x23)
          (fun (y5_0, y5_1, y5_2, y5_3, y5_4) =>
            (F_bytes_Equal fuel (y5_4) (List.take (Ev.hiOf (Option.some (Go.IntKind.i64.wrap (Go.IntKind.i64.wrap (x2 + (1 : Int)) * x14))) (↑x16.length : Int) - Ev.loOf (Option.some (Go.IntKind.i64.wrap (x2 * x14)))).toNat (List.drop (Ev.loOf (Option.some (Go.IntKind.i64.wrap (x2 * x14)))).toNat x16))
              (fun y9 =>
                bif y9 then
                 (F_generic_contexts fuel (x9) (x10) (x11) (x12) (x13)
                   (fun y14 =>
                     (F_coder_Encoder_Put_cf0 fuel (Go.IntKind.i64.wrap (x0 + y14)) ((1 : Int)) (x3) (x4) (x5) (x6) (x7) (x8)
                       (fun (y18_0, y18_1, y18_2, y18_3, y18_4, y18_5, y18_6) =>
                         c (x0, x1, Go.IntKind.i64.wrap (x2 + (1 : Int)), y18_1, y18_2, y18_3, y18_4, y18_5, y18_6, x9, x10, x11, x12, x13, x14, x15, x16, x17, x18, x19, y5_0, y5_1, y5_2, y5_3))
                       (fun (y18_0, y18_1, y18_2, y18_3, y18_4, y18_5, y18_6) =>
                         c (x0, x1, Go.IntKind.i64.wrap (x2 + (1 : Int)), y18_1, y18_2, y18_3, y18_4, y18_5, y18_6, x9, x10, x11, x12, x13, x14, x15, x16, x17, x18, x19, y5_0, y5_1, y5_2, y5_3)))))
                else
                 (F_generic_contexts fuel (x9) (x10) (x11) (x12) (x13)
                   (fun y14 =>
                     (F_coder_Encoder_Put_cf0 fuel (Go.IntKind.i64.wrap (x0 + y14)) ((0 : Int)) (x3) (x4) (x5) (x6) (x7) (x8)
                       (fun (y18_0, y18_1, y18_2, y18_3, y18_4, y18_5, y18_6) =>
                         (L_generic_put_d0e_2 fuel (x0, x2, x1, x2, x14, (0 : Int), y18_1, y18_2, y18_3, y18_4, y18_5, y18_6, x9, x10, x11, x12, x13, x14, x15, x16, x17, x18, x19, y5_0, y5_1, y5_2, y5_3)
                           (fun (b2_0, b2_1, b2_2, b2_3, b2_4, b2_5, b2_6, b2_7, b2_8, b2_9, b2_10, b2_11, b2_12, b2_13, b2_14, b2_15, b2_16, b2_17, b2_18, b2_19, b2_20, b2_21, b2_22, b2_23) =>
                             c (b2_0, b2_1, Go.IntKind.i64.wrap (b2_2 + (1 : Int)), b2_3, b2_4, b2_5, b2_6, b2_7, b2_8, b2_9, b2_10, b2_11, b2_12, b2_13, b2_14, b2_15, b2_16, b2_17, b2_18, b2_19, b2_20, b2_21, b2_22, b2_23))))
                       (fun (y18_0, y18_1, y18_2, y18_3, y18_4, y18_5, y18_6) =>
                         (L_generic_put_d0e_2 fuel (x0, x2, x1, x2, x14, (0 : Int), y18_1, y18_2, y18_3, y18_4, y18_5, y18_6, x9, x10, x11, x12, x13, x14, x15, x16, x17, x18, x19, y5_0, y5_1, y5_2, y5_3)
                           (fun (b2_0, b2_1, b2_2, b2_3, b2_4, b2_5, b2_6, b2_7, b2_8, b2_9, b2_10, b2_11, b2_12, b2_13, b2_14, b2_15, b2_16, b2_17, b2_18, b2_19, b2_20, b2_21, b2_22, b2_23) =>
                             c (b2_0, b2_1, Go.IntKind.i64.wrap (b2_2 + (1 : Int)), b2_3, b2_4, b2_5, b2_6, b2_7, b2_8, b2_9, b2_10, b2_11, b2_12, b2_13, b2_14, b2_15, b2_16, b2_17, b2_18, b2_19, b2_20, b2_21, b2_22, b2_23)))))))))))
       else none
      else
       (L_generic_put_d0e_2 fuel (x0, x2, x1, x2, x14, (0 : Int), x3, x4, x5, x6, x7, x8, x9, x10, x11, x12, x13, x14, x15, x16, x17, x18, x19, x20, x21, x22, x23)
         (fun (b2_0, b2_1, b2_2, b2_3, b2_4, b2_5, b2_6, b2_7, b2_8, b2_9, b2_10, b2_11, b2_12, b2_13, b2_14, b2_15, b2_16, b2_17, b2_18, b2_19, b2_20, b2_21, b2_22, b2_23) =>
           c (b2_0, b2_1, Go.IntKind.i64.wrap (b2_2 + (1 : Int)), b2_3, b2_4, b2_5, b2_6, b2_7, b2_8, b2_9, b2_10, b2_11, b2_12, b2_13, b2_14, b2_15, b2_16, b2_17, b2_18, b2_19, b2_20, b2_21, b2_22, b2_23)))
     else
      b (x3, x4, x5, x6, x7, x8)
noncomputable def L_generic_put_d0e_0 (fuel : Nat) (v : Int × Int × Int × Int × Int × Int × Bool × (List Int) × (List Int) × Int × Int × Int × Bool × Int × Int × Int × (List Int) × Int × Int × (List Int) × Int × Int × (List Int) × (List (Int × Int))) (b : (Int × Int × Int × Bool × (List Int) × (List Int) → Option Ans)) : Option Ans := iter (S_generic_put_d0e_0 fuel) fuel v b
noncomputable def J91_d0e_0 (fuel : Nat) (i : Nat) : Option Ev.Blk := Ev.look i [(100002, B91_d0e_2 fuel)]
noncomputable def T91_d0e_0 (v : Int × Int × Int × Int × Int × Int × Bool × (List Int) × (List Int) × Int × Int × Int × Bool × Int × Int × Int × (List Int) × Int × Int × (List Int) × Int × Int × (List Int) × (List (Int × Int))) : Ev.St := match v with | (x0, x1, x2, x3, x4, x5, x6, x7, x8, x9, x10, x11, x12, x13, x14, x15, x16, x17, x18, x19, x20, x21, x22, x23) => ⟨[(0, .c (.ptr 0 0)), (1, .c (.int .i64 x0)), (7, .c (.ptr 3 0)), (8, .c (.ptr 4 0)), (9, .c (.ptr 5 0)), (10, .c (.ptr 6 0)), (27, .c (.int .i64 x1)), (28, .c (.int .i64 x2))], [(0, .cells 172 (.int .i64 x3 :: .own 1 :: .int .i64 2048 :: .int .i64 1792 :: .int .i64 1568 :: .int .i64 1372 :: .int .i64 1201 :: .int .i64 1051 :: .int .i64 920 :: .int .i64 805 :: .int .i64 705 :: .int .i64 617 :: .int .i64 540 :: .int .i64 473 :: .int .i64 414 :: .int .i64 363 :: .int .i64 318 :: .int .i64 279 :: .int .i64 245 :: .int .i64 215 :: .int .i64 189 :: .int .i64 166 :: .int .i64 146 :: .int .i64 128 :: .int .i64 112 :: .int .i64 98 :: .int .i64 86 :: .int .i64 76 :: .int .i64 67 :: .int .i64 59 :: .int .i64 52 :: .int .i64 46 :: .int .i64 41 :: .int .i64 36 :: .int .u64 x4 :: .int .u64 x5 :: .own 2 :: .bool x6 :: [])), (1, .vec 3 (.int .i64) x7 false), (2, .vec 5 (.int .u8) x8 true), (3, .cells 46 [.int .i64 x9, .int .i64 x10, .int .i64 x11, .bool x12, .int .i64 x13]), (4, .cells 39 [.int .i64 x14, .int .i64 x15, .sl (.int .u8) x16]), (5, .cells 39 [.int .i64 x17, .int .i64 x18, .sl (.int .u8) x19]), (6, .cells 137 [.int .i64 x20, .int .i64 x21, .sl (.int .u8) x22, .own 7]), (7, .vec 44 (.pair (.int .i64) (.int .i64)) x23 true)], 8, 3⟩
noncomputable def E91_d0e_0 (K : Ev.Ex → Ev.St → Option Ans) : (Int × Int × Int × Bool × (List Int) × (List Int) → Option Ans) := (fun v => match v with | (x0, x1, x2, x3, x4, x5) => K .normal ⟨[], [(0, .cells 172 (.int .i64 x0 :: .own 1 :: .int .i64 2048 :: .int .i64 1792 :: .int .i64 1568 :: .int .i64 1372 :: .int .i64 1201 :: .int .i64 1051 :: .int .i64 920 :: .int .i64 805 :: .int .i64 705 :: .int .i64 617 :: .int .i64 540 :: .int .i64 473 :: .int .i64 414 :: .int .i64 363 :: .int .i64 318 :: .int .i64 279 :: .int .i64 245 :: .int .i64 215 :: .int .i64 189 :: .int .i64 166 :: .int .i64 146 :: .int .i64 128 :: .int .i64 112 :: .int .i64 98 :: .int .i64 86 :: .int .i64 76 :: .int .i64 67 :: .int .i64 59 :: .int .i64 52 :: .int .i64 46 :: .int .i64 41 :: .int .i64 36 :: .int .u64 x1 :: .int .u64 x2 :: .own 2 :: .bool x3 :: [])), (1, .vec 3 (.int .i64) x4 false), (2, .vec 5 (.int .u8) x5 true)], 3, 3⟩)
theorem S91_d0e_0_okg (fuel : Nat) (f90 : YF90) (f97 : YF97) (f99_cf0 : YF99_cf0) (f158_a34 : YF158_a34) (f161 : YF161) (f162_b9e : YF162_b9e) (f163 : YF163) (R : Ev.St → Option Ans) (K : Ev.Ex → Ev.St → Option Ans) (x0 : Int) (x1 : Int) (x2 : Int) (x3 : Int) (x4 : Int) (x5 : Int) (x6 : Bool) (x7 : (List Int)) (x8 : (List Int)) (x9 : Int) (x10 : Int) (x11 : Int) (x12 : Bool) (x13 : Int) (x14 : Int) (x15 : Int) (x16 : (List Int)) (x17 : Int) (x18 : Int) (x19 : (List Int)) (x20 : Int) (x21 : Int) (x22 : (List Int)) (x23 : (List (Int × Int))) : evalCode tab (Gg91_d0e f90 f97 f99_cf0 f158_a34 f161 f162_b9e f163) (J91_d0e_0 fuel) kp91_d0e fuel (bodyOf 0 Try.f91) (T91_d0e_0 (x0, x1, x2, x3, x4, x5, x6, x7, x8, x9, x10, x11, x12, x13, x14, x15, x16, x17, x18, x19, x20, x21, x22, x23)) (lc kp91_d0e 4 0 R K) = (fun (c : (Int × Int × Int × Int × Int × Int × Bool × (List Int) × (List Int) × Int × Int × Int × Bool × Int × Int × Int × (List Int) × Int × Int × (List Int) × Int × Int × (List Int) × (List (Int × Int))) → Option Ans) (B : (Int × Int × Int × Bool × (List Int) × (List Int) → Option Ans)) => match B with
  | b =>
   bif Decidable.decide (x2 < x1) then
      bif x12 then
       bif Decidable.decide ((0 : Int) ≤ Ev.loOf (Option.some (Go.IntKind.i64.wrap (x2 * x14))) ∧ Ev.loOf (Option.some (Go.IntKind.i64.wrap (x2 * x14))) ≤ Ev.hiOf (Option.some (Go.IntKind.i64.wrap (Go.IntKind.i64.wrap (x2 + (1 : Int)) * x14))) (↑x16.length : Int) ∧ Ev.hiOf (Option.some (Go.IntKind.i64.wrap (Go.IntKind.i64.wrap (x2 + (1 : Int)) * x14))) (↑x16.length : Int) ≤ (↑x16.length : Int)) then
       (f162_b9e (x2) (x17) (x18) (x19) (x20) (x21) (x22) (x23)
          (fun (y5_0, y5_1, y5_2, y5_3, y5_4) =>
            (f161 (y5_4) (List.take (Ev.hiOf (Option.some (Go.IntKind.i64.wrap (Go.IntKind.i64.wrap (x2 + (1 : Int)) * x14))) (↑x16.length : Int) - Ev.loOf (Option.some (Go.IntKind.i64.wrap (x2 * x14)))).toNat (List.drop (Ev.loOf (Option.some (Go.IntKind.i64.wrap (x2 * x14)))).toNat x16))
              (fun y9 =>
                bif y9 then
                 (f90 (x9) (x10) (x11) (x12) (x13)
                   (fun y14 =>
                     (f99_cf0 (Go.IntKind.i64.wrap (x0 + y14)) ((1 : Int)) (x3) (x4) (x5) (x6) (x7) (x8)
                       (fun (y18_0, y18_1, y18_2, y18_3, y18_4, y18_5, y18_6) =>
                         c (x0, x1, Go.IntKind.i64.wrap (x2 + (1 : Int)), y18_1, y18_2, y18_3, y18_4, y18_5, y18_6, x9, x10, x11, x12, x13, x14, x15, x16, x17, x18, x19, y5_0, y5_1, y5_2, y5_3))
                       (fun (y18_0, y18_1, y18_2, y18_3, y18_4, y18_5, y18_6) =>
                         c (x0, x1, Go.IntKind.i64.wrap (x2 + (1 : Int)), y18_1, y18_2, y18_3, y18_4, y18_5, y18_6, x9, x10, x11, x12, x13, x14, x15, x16, x17, x18, x19, y5_0, y5_1, y5_2, y5_3)))))
                else
                 (f90 (x9) (x10) (x11) (x12) (x13)
                   (fun y14 =>
                     (f99_cf0 (Go.IntKind.i64.wrap (x0 + y14)) ((0 : Int)) (x3) (x4) (x5) (x6) (x7) (x8)
                       (fun (y18_0, y18_1, y18_2, y18_3, y18_4, y18_5, y18_6) =>
                         (L_generic_put_d0e_2 fuel (x0, x2, x1, x2, x14, (0 : Int), y18_1, y18_2, y18_3, y18_4, y18_5, y18_6, x9, x10, x11, x12, x13, x14, x15, x16, x17, x18, x19, y5_0, y5_1, y5_2, y5_3)
                           (fun (b2_0, b2_1, b2_2, b2_3, b2_4, b2_5, b2_6, b2_7, b2_8, b2_9, b2_10, b2_11, b2_12, b2_13, b2_14, b2_15, b2_16, b2_17, b2_18, b2_19, b2_20, b2_21, b2_22, b2_23) =>
                             c (b2_0, b2_1, Go.IntKind.i64.wrap (b2_2 + (1 : Int)), b2_3, b2_4, b2_5, b2_6, b2_7, b2_8, b2_9, b2_10, b2_11, b2_12, b2_13, b2_14, b2_15, b2_16, b2_17, b2_18, b2_19, b2_20, b2_21, b2_22, b2_23))))
                       (fun (y18_0, y18_1, y18_2, y18_3, y18_4, y18_5, y18_6) =>
                         (L_generic_put_d0e_2 fuel (x0, x2, x1, x2, x14, (0 : Int), y18_1, y18_2, y18_3, y18_4, y18_5, y18_6, x9, x10, x11, x12, x13, x14, x15, x16, x17, x18, x19, y5_0, y5_1, y5_2, y5_3)
                           (fun (b2_0, b2_1, b2_2, b2_3, b2_4, b2_5, b2_6, b2_7, b2_8, b2_9, b2_10, b2_11, b2_12, b2_13, b2_14, b2_15, b2_16, b2_17, b2_18, b2_19, b2_20, b2_21, b2_22, b2_23) =>
                             c (b2_0, b2_1, Go.IntKind.i64.wrap (b2_2 + (1 : Int)), b2_3, b2_4, b2_5, b2_6, b2_7, b2_8, b2_9, b2_10, b2_11, b2_12, b2_13, b2_14, b2_15, b2_16, b2_17, b2_18, b2_19, b2_20, b2_21, b2_22, b2_23)))))))))))
       else none
      else
       (L_generic_put_d0e_2 fuel (x0, x2, x1, x2, x14, (0 : Int), x3, x4, x5, x6, x7, x8, x9, x10, x11, x12, x13, x14, x15, x16, x17, x18, x19, x20, x21, x22, x23)
         (fun (b2_0, b2_1, b2_2, b2_3, b2_4, b2_5, b2_6, b2_7, b2_8, b2_9, b2_10, b2_11, b2_12, b2_13, b2_14, b2_15, b2_16, b2_17, b2_18, b2_19, b2_20, b2_21, b2_22, b2_23) =>
           c (b2_0, b2_1, Go.IntKind.i64.wrap (b2_2 + (1 : Int)), b2_3, b2_4, b2_5, b2_6, b2_7, b2_8, b2_9, b2_10, b2_11, b2_12, b2_13, b2_14, b2_15, b2_16, b2_17, b2_18, b2_19, b2_20, b2_21, b2_22, b2_23)))
     else
      b (x3, x4, x5, x6, x7, x8)) (fun v => R (T91_d0e_0 v)) (E91_d0e_0 K) := by
  kernel_rfl
theorem S91_d0e_0_ok (fuel : Nat) (R : Ev.St → Option Ans) (K : Ev.Ex → Ev.St → Option Ans) (x0 : Int) (x1 : Int) (x2 : Int) (x3 : Int) (x4 : Int) (x5 : Int) (x6 : Bool) (x7 : (List Int)) (x8 : (List Int)) (x9 : Int) (x10 : Int) (x11 : Int) (x12 : Bool) (x13 : Int) (x14 : Int) (x15 : Int) (x16 : (List Int)) (x17 : Int) (x18 : Int) (x19 : (List Int)) (x20 : Int) (x21 : Int) (x22 : (List Int)) (x23 : (List (Int × Int))) : evalCode tab (G91_d0e fuel) (J91_d0e_0 fuel) kp91_d0e fuel (bodyOf 0 Try.f91) (T91_d0e_0 (x0, x1, x2, x3, x4, x5, x6, x7, x8, x9, x10, x11, x12, x13, x14, x15, x16, x17, x18, x19, x20, x21, x22, x23)) (lc kp91_d0e 4 0 R K) = S_generic_put_d0e_0 fuel (x0, x1, x2, x3, x4, x5, x6, x7, x8, x9, x10, x11, x12, x13, x14, x15, x16, x17, x18, x19, x20, x21, x22, x23) (fun v => R (T91_d0e_0 v)) (E91_d0e_0 K) :=
  S91_d0e_0_okg fuel (F_generic_contexts fuel) (F_generic_newPlane fuel) (F_coder_Encoder_Put_cf0 fuel) (F_generic_plane_context_a34 fuel) (F_bytes_Equal fuel) (F_generic_plane_above_b9e fuel) (F_generic_skips fuel) R K x0 x1 x2 x3 x4 x5 x6 x7 x8 x9 x10 x11 x12 x13 x14 x15 x16 x17 x18 x19 x20 x21 x22 x23
noncomputable def B91_d0e_0 (fuel : Nat) : Ev.Blk := fun st K => match canonO (kp91_d0e 4) st with
  | some s => (match s with
    | ⟨[(q0, .c (.ptr q1 q2)), (q3, .c (.int .i64 x0)), (q4, .c (.ptr q5 q6)), (q7, .c (.ptr q8 q9)), (q10, .c (.ptr q11 q12)), (q13, .c (.ptr q14 q15)), (q16, .c (.int .i64 x1)), (q17, .c (.int .i64 x2))], [(q18, .cells q19 cs0), (q20, .vec q21 (.int .i64) x7 false), (q22, .vec q23 (.int .u8) x8 true), (q24, .cells q25 [.int .i64 x9, .int .i64 x10, .int .i64 x11, .bool x12, .int .i64 x13]), (q26, .cells q27 [.int .i64 x14, .int .i64 x15, .sl (.int .u8) x16]), (q28, .cells q29 [.int .i64 x17, .int .i64 x18, .sl (.int .u8) x19]), (q30, .cells q31 [.int .i64 x20, .int .i64 x21, .sl (.int .u8) x22, .own q32]), (q33, .vec q34 (.pair (.int .i64) (.int .i64)) x23 true)], q35, q36⟩ => (match splitRun 2 [(.i64, 2048), (.i64, 1792), (.i64, 1568), (.i64, 1372), (.i64, 1201), (.i64, 1051), (.i64, 920), (.i64, 805), (.i64, 705), (.i64, 617), (.i64, 540), (.i64, 473), (.i64, 414), (.i64, 363), (.i64, 318), (.i64, 279), (.i64, 245), (.i64, 215), (.i64, 189), (.i64, 166), (.i64, 146), (.i64, 128), (.i64, 112), (.i64, 98), (.i64, 86), (.i64, 76), (.i64, 67), (.i64, 59), (.i64, 52), (.i64, 46), (.i64, 41), (.i64, 36)] cs0 with | some ([.int .i64 x3, .own q37], [.int .u64 x4, .int .u64 x5, .own q38, .bool x6]) => bif Nat.beq q0 0 && Nat.beq q1 0 && Nat.beq q2 0 && Nat.beq q3 1 && Nat.beq q4 7 && Nat.beq q5 3 && Nat.beq q6 0 && Nat.beq q7 8 && Nat.beq q8 4 && Nat.beq q9 0 && Nat.beq q10 9 && Nat.beq q11 5 && Nat.beq q12 0 && Nat.beq q13 10 && Nat.beq q14 6 && Nat.beq q15 0 && Nat.beq q16 27 && Nat.beq q17 28 && Nat.beq q18 0 && Nat.beq q19 172 && Nat.beq q20 1 && Nat.beq q21 3 && Nat.beq q22 2 && Nat.beq q23 5 && Nat.beq q24 3 && Nat.beq q25 46 && Nat.beq q26 4 && Nat.beq q27 39 && Nat.beq q28 5 && Nat.beq q29 39 && Nat.beq q30 6 && Nat.beq q31 137 && Nat.beq q32 7 && Nat.beq q33 7 && Nat.beq q34 44 && Nat.beq q35 8 && Nat.beq q36 3 && Nat.beq q37 1 && Nat.beq q38 2 then iter (S_generic_put_d0e_0 fuel) fuel (x0, x1, x2, x3, x4, x5, x6, x7, x8, x9, x10, x11, x12, x13, x14, x15, x16, x17, x18, x19, x20, x21, x22, x23) (E91_d0e_0 K) else none | _ => none)
    | _ => none)
  | none => none
theorem B91_d0e_0_ok (fuel : Nat) (st : Ev.St) (K : Ev.Ex → Ev.St → Option Ans) (r : Ans) (h : B91_d0e_0 fuel st K = some r) : evalCode tab (G91_d0e fuel) (J91_d0e_0 fuel) kp91_d0e fuel (.block 0 (.loop (bodyOf 0 Try.f91))) st K = some r := by
  unfold B91_d0e_0 at h
  split at h
  · rename_i s hs
    split at h
    · skip
      split at h
      rotate_left 1
      · cases h
      rename_i hsp
      have esp := splitRun_eq hsp
      subst esp
      obtain ⟨hb, h⟩ := cond_some' h
      simp only [Bool.and_eq_true, Nat.beq_eq, decide_eq_true_eq] at hb
      obtain ⟨⟨⟨⟨⟨⟨⟨⟨⟨⟨⟨⟨⟨⟨⟨⟨⟨⟨⟨⟨⟨⟨⟨⟨⟨⟨⟨⟨⟨⟨⟨⟨⟨⟨⟨⟨⟨⟨rfl, rfl⟩, rfl⟩, rfl⟩, rfl⟩, rfl⟩, rfl⟩, rfl⟩, rfl⟩, rfl⟩, rfl⟩, rfl⟩, rfl⟩, rfl⟩, rfl⟩, rfl⟩, rfl⟩, rfl⟩, rfl⟩, rfl⟩, rfl⟩, rfl⟩, rfl⟩, rfl⟩, rfl⟩, rfl⟩, rfl⟩, rfl⟩, rfl⟩, rfl⟩, rfl⟩, rfl⟩, rfl⟩, rfl⟩, rfl⟩, rfl⟩, rfl⟩, rfl⟩, rfl⟩ := hb
      exact blk_loop (S := T91_d0e_0) (ks := E91_d0e_0) (step := S_generic_put_d0e_0 fuel) (v := (_, _, _, _, _, _, _, _, _, _, _, _, _, _, _, _, _, _, _, _, _, _, _, _)) (by kernel_rfl) (by kernel_rfl) (fun R K v => by obtain ⟨x0, x1, x2, x3, x4, x5, x6, x7, x8, x9, x10, x11, x12, x13, x14, x15, x16, x17, x18, x19, x20, x21, x22, x23⟩ := v; exact S91_d0e_0_ok fuel R K x0 x1 x2 x3 x4 x5 x6 x7 x8 x9 x10 x11 x12 x13 x14 x15 x16 x17 x18 x19 x20 x21 x22 x23) hs h
    · cases h
  · cases h
noncomputable def J91_d0e (fuel : Nat) (i : Nat) : Option Ev.Blk := Ev.look i [(100002, B91_d0e_2 fuel), (100000, B91_d0e_0 fuel)]
noncomputable def F_generic_put_d0e (fuel : Nat) (x0 : Int) (x1 : Int) (x2 : Int) (x3 : Int) (x4 : Bool) (x5 : Int) (x6 : Int) (x7 : Int) (x8 : (List Int)) (x9 : Int) (x10 : Int) (x11 : (List Int)) (x12 : Int) (x13 : Int) (x14 : Int) (x15 : Bool) (x16 : (List Int)) (x17 : (List Int)) (k0 : (Int × Int × Int × Bool × (List Int) × (List Int)) → Option Ans) : Option Ans :=
  (F_generic_newPlane fuel (x1) (x2) (x3) (x4) (x5) (x6) (x7)
    (fun (y2_0, y2_1, y2_2, y2_3) =>
      (L_generic_put_d0e_0 fuel (x0, x7, (0 : Int), x12, x13, x14, x15, x16, x17, x1, x2, x3, x4, x5, x6, x7, x8, x9, x10, x11, y2_0, y2_1, x8, y2_3)
        (fun (b0_0, b0_1, b0_2, b0_3, b0_4, b0_5) =>
          k0 (b0_0, b0_1, b0_2, b0_3, b0_4, b0_5)))))
abbrev YF91_d0e : Type := (Int) → (Int) → (Int) → (Int) → (Bool) → (Int) → (Int) → (Int) → ((List Int)) → (Int) → (Int) → ((List Int)) → (Int) → (Int) → (Int) → (Bool) → ((List Int)) → ((List Int)) → ((Int × Int × Int × Bool × (List Int) × (List Int)) → Option Ans) → Option Ans
theorem F91_d0e_eqg (fuel : Nat) (f90 : YF90) (f97 : YF97) (f99_cf0 : YF99_cf0) (f158_a34 : YF158_a34) (f161 : YF161) (f162_b9e : YF162_b9e) (f163 : YF163) (x0 : Int) (x1 : Int) (x2 : Int) (x3 : Int) (x4 : Bool) (x5 : Int) (x6 : Int) (x7 : Int) (x8 : (List Int)) (x9 : Int) (x10 : Int) (x11 : (List Int)) (x12 : Int) (x13 : Int) (x14 : Int) (x15 : Bool) (x16 : (List Int)) (x17 : (List Int)) (k : Ev.Cont) : evalFn tab (Gg91_d0e f90 f97 f99_cf0 f158_a34 f161 f162_b9e f163) (J91_d0e fuel) kp91_d0e fuel Try.f91 [.c (.ptr 0 0), .c (.int .i64 x0), .agg [.int .i64 x1, .int .i64 x2, .int .i64 x3, .bool x4, .int .i64 x5], .agg [.int .i64 x6, .int .i64 x7, .sl (.int .u8) x8], .agg [.int .i64 x9, .int .i64 x10, .sl (.int .u8) x11]] [.cells 172 (.int .i64 x12 :: .own 1 :: .int .i64 2048 :: .int .i64 1792 :: .int .i64 1568 :: .int .i64 1372 :: .int .i64 1201 :: .int .i64 1051 :: .int .i64 920 :: .int .i64 805 :: .int .i64 705 :: .int .i64 617 :: .int .i64 540 :: .int .i64 473 :: .int .i64 414 :: .int .i64 363 :: .int .i64 318 :: .int .i64 279 :: .int .i64 245 :: .int .i64 215 :: .int .i64 189 :: .int .i64 166 :: .int .i64 146 :: .int .i64 128 :: .int .i64 112 :: .int .i64 98 :: .int .i64 86 :: .int .i64 76 :: .int .i64 67 :: .int .i64 59 :: .int .i64 52 :: .int .i64 46 :: .int .i64 41 :: .int .i64 36 :: .int .u64 x13 :: .int .u64 x14 :: .own 2 :: .bool x15 :: []), .vec 3 (.int .i64) x16 false, .vec 5 (.int .u8) x17 false] k = (fun  (k0 : (Int × Int × Int × Bool × (List Int) × (List Int)) → Option Ans) =>
  (f97 (x1) (x2) (x3) (x4) (x5) (x6) (x7)
    (fun (y2_0, y2_1, y2_2, y2_3) =>
      (L_generic_put_d0e_0 fuel (x0, x7, (0 : Int), x12, x13, x14, x15, x16, x17, x1, x2, x3, x4, x5, x6, x7, x8, x9, x10, x11, y2_0, y2_1, x8, y2_3)
        (fun (b0_0, b0_1, b0_2, b0_3, b0_4, b0_5) =>
          k0 (b0_0, b0_1, b0_2, b0_3, b0_4, b0_5)))))) (fun r => match r with | (r0, r1, r2, r3, r4, r5) => k (.tup [], [.cells 172 (.int .i64 r0 :: .own 1 :: .int .i64 2048 :: .int .i64 1792 :: .int .i64 1568 :: .int .i64 1372 :: .int .i64 1201 :: .int .i64 1051 :: .int .i64 920 :: .int .i64 805 :: .int .i64 705 :: .int .i64 617 :: .int .i64 540 :: .int .i64 473 :: .int .i64 414 :: .int .i64 363 :: .int .i64 318 :: .int .i64 279 :: .int .i64 245 :: .int .i64 215 :: .int .i64 189 :: .int .i64 166 :: .int .i64 146 :: .int .i64 128 :: .int .i64 112 :: .int .i64 98 :: .int .i64 86 :: .int .i64 76 :: .int .i64 67 :: .int .i64 59 :: .int .i64 52 :: .int .i64 46 :: .int .i64 41 :: .int .i64 36 :: .int .u64 r1 :: .int .u64 r2 :: .own 2 :: .bool r3 :: []), .vec 3 (.int .i64) r4 false, .vec 5 (.int .u8) r5 true])) := by
  kernel_rfl
theorem F91_d0e_eq (fuel : Nat) (x0 : Int) (x1 : Int) (x2 : Int) (x3 : Int) (x4 : Bool) (x5 : Int) (x6 : Int) (x7 : Int) (x8 : (List Int)) (x9 : Int) (x10 : Int) (x11 : (List Int)) (x12 : Int) (x13 : Int) (x14 : Int) (x15 : Bool) (x16 : (List Int)) (x17 : (List Int)) (k : Ev.Cont) : evalFn tab (G91_d0e fuel) (J91_d0e fuel) kp91_d0e fuel Try.f91 [.c (.ptr 0 0), .c (.int .i64 x0), .agg [.int .i64 x1, .int .i64 x2, .int .i64 x3, .bool x4, .int .i64 x5], .agg [.int .i64 x6, .int .i64 x7, .sl (.int .u8) x8], .agg [.int .i64 x9, .int .i64 x10, .sl (.int .u8) x11]] [.cells 172 (.int .i64 x12 :: .own 1 :: .int .i64 2048 :: .int .i64 1792 :: .int .i64 1568 :: .int .i64 1372 :: .int .i64 1201 :: .int .i64 1051 :: .int .i64 920 :: .int .i64 805 :: .int .i64 705 :: .int .i64 617 :: .int .i64 540 :: .int .i64 473 :: .int .i64 414 :: .int .i64 363 :: .int .i64 318 :: .int .i64 279 :: .int .i64 245 :: .int .i64 215 :: .int .i64 189 :: .int .i64 166 :: .int .i64 146 :: .int .i64 128 :: .int .i64 112 :: .int .i64 98 :: .int .i64 86 :: .int .i64 76 :: .int .i64 67 :: .int .i64 59 :: .int .i64 52 :: .int .i64 46 :: .int .i64 41 :: .int .i64 36 :: .int .u64 x13 :: .int .u64 x14 :: .own 2 :: .bool x15 :: []), .vec 3 (.int .i64) x16 false, .vec 5 (.int .u8) x17 false] k = F_generic_put_d0e fuel x0 x1 x2 x3 x4 x5 x6 x7 x8 x9 x10 x11 x12 x13 x14 x15 x16 x17 (fun r => match r with | (r0, r1, r2, r3, r4, r5) => k (.tup [], [.cells 172 (.int .i64 r0 :: .own 1 :: .int .i64 2048 :: .int .i64 1792 :: .int .i64 1568 :: .int .i64 1372 :: .int .i64 1201 :: .int .i64 1051 :: .int .i64 920 :: .int .i64 805 :: .int .i64 705 :: .int .i64 617 :: .int .i64 540 :: .int .i64 473 :: .int .i64 414 :: .int .i64 363 :: .int .i64 318 :: .int .i64 279 :: .int .i64 245 :: .int .i64 215 :: .int .i64 189 :: .int .i64 166 :: .int .i64 146 :: .int .i64 128 :: .int .i64 112 :: .int .i64 98 :: .int .i64 86 :: .int .i64 76 :: .int .i64 67 :: .int .i64 59 :: .int .i64 52 :: .int .i64 46 :: .int .i64 41 :: .int .i64 36 :: .int .u64 r1 :: .int .u64 r2 :: .own 2 :: .bool r3 :: []), .vec 3 (.int .i64) r4 false, .vec 5 (.int .u8) r5 true])) :=
  F91_d0e_eqg fuel (F_generic_contexts fuel) (F_generic_newPlane fuel) (F_coder_Encoder_Put_cf0 fuel) (F_generic_plane_context_a34 fuel) (F_bytes_Equal fuel) (F_generic_plane_above_b9e fuel) (F_generic_skips fuel) x0 x1 x2 x3 x4 x5 x6 x7 x8 x9 x10 x11 x12 x13 x14 x15 x16 x17 k
theorem hG91_d0e (fuel : Nat) : GOK Try.prog (G91_d0e fuel) :=
  gok_cons ⟨ok90 fuel, enters_of Try.func90 (by kernel_rfl) rfl⟩ <|
  gok_cons ⟨ok97 fuel, enters_of Try.func97 (by kernel_rfl) rfl⟩ <|
  gok_cons ⟨ok99_cf0 fuel, enters_of Try.func99 (by kernel_rfl) rfl⟩ <|
  gok_cons ⟨ok158_a34 fuel, enters_of Try.func158 (by kernel_rfl) rfl⟩ <|
  gok_cons ⟨ok161 fuel, enters_of Try.func161 (by kernel_rfl) rfl⟩ <|
  gok_cons ⟨ok162_b9e fuel, enters_of Try.func162 (by kernel_rfl) rfl⟩ <|
  gok_cons ⟨ok163 fuel, enters_of Try.func163 (by kernel_rfl) rfl⟩ <|
  gok_nil
theorem B91_d0e_2_blk (fuel : Nat) : BlkOK Try.prog Try.f91.ntmps (.block 2 (.loop (bodyOf 2 Try.f91))) (B91_d0e_2 fuel) :=
  blk_of (blk_of_code tab_ok (hG91_d0e fuel) mixed (J := J91_d0e_2 fuel) (kp := kp91_d0e) (fuel := fuel) (by kernel_rfl) (fun q hq => by
    rw [(by kernel_rfl : obl (J91_d0e_2 fuel) (.block 2 (.loop (bodyOf 2 Try.f91))) = [])] at hq
    cases hq)) (B91_d0e_2_ok fuel)
theorem B91_d0e_0_blk (fuel : Nat) : BlkOK Try.prog Try.f91.ntmps (.block 0 (.loop (bodyOf 0 Try.f91))) (B91_d0e_0 fuel) :=
  blk_of (blk_of_code tab_ok (hG91_d0e fuel) mixed (J := J91_d0e_0 fuel) (kp := kp91_d0e) (fuel := fuel) (by kernel_rfl) (fun q hq => by
    rw [(by kernel_rfl : obl (J91_d0e_0 fuel) (.block 0 (.loop (bodyOf 0 Try.f91))) = [(.block 2 (.loop (bodyOf 2 Try.f91)), B91_d0e_2 fuel)])] at hq
    simp only [List.mem_cons, List.not_mem_nil, or_false] at hq
    subst hq
    · exact B91_d0e_2_blk fuel)) (B91_d0e_0_ok fuel)
theorem fok91_d0e (fuel : Nat) : FnOK Try.prog 91 (evalFn tab (G91_d0e fuel) (J91_d0e fuel) kp91_d0e fuel Try.f91) :=
  fn_ok tab_ok (hG91_d0e fuel) mixed Try.func91 (c := (Try.f91.body).getD .skip) rfl (fun q hq => by
    rw [(by kernel_rfl : obl (J91_d0e fuel) ((Try.f91.body).getD .skip) = [(.block 0 (.loop (bodyOf 0 Try.f91)), B91_d0e_0 fuel)])] at hq
    simp only [List.mem_cons, List.not_mem_nil, or_false] at hq
    subst hq
    · exact B91_d0e_0_blk fuel)
noncomputable def mt91_d0e : List Ev.SV → List Ev.Ob → Bool := fun args objs => match args, objs with
  | [.c (.ptr q0 q1), .c (.int .i64 _), .agg [.int .i64 _, .int .i64 _, .int .i64 _, .bool _, .int .i64 _], .agg [.int .i64 _, .int .i64 _, .sl (.int .u8) _], .agg [.int .i64 _, .int .i64 _, .sl (.int .u8) _]], [.cells q2 cs0, .vec q3 (.int .i64) _ false, .vec q4 (.int .u8) _ false] => (match splitRun 2 [(.i64, 2048), (.i64, 1792), (.i64, 1568), (.i64, 1372), (.i64, 1201), (.i64, 1051), (.i64, 920), (.i64, 805), (.i64, 705), (.i64, 617), (.i64, 540), (.i64, 473), (.i64, 414), (.i64, 363), (.i64, 318), (.i64, 279), (.i64, 245), (.i64, 215), (.i64, 189), (.i64, 166), (.i64, 146), (.i64, 128), (.i64, 112), (.i64, 98), (.i64, 86), (.i64, 76), (.i64, 67), (.i64, 59), (.i64, 52), (.i64, 46), (.i64, 41), (.i64, 36)] cs0 with | some ([.int .i64 _, .own q5], [.int .u64 _, .int .u64 _, .own q6, .bool _]) => Nat.beq q0 0 && Nat.beq q1 0 && Nat.beq q2 172 && Nat.beq q3 3 && Nat.beq q4 5 && Nat.beq q5 1 && Nat.beq q6 2 | _ => false)
  | _, _ => false
noncomputable def spg91_d0e (F : YF91_d0e) : Ev.Spec := fun args objs k => match args, objs with
  | [.c (.ptr q0 q1), .c (.int .i64 x0), .agg [.int .i64 x1, .int .i64 x2, .int .i64 x3, .bool x4, .int .i64 x5], .agg [.int .i64 x6, .int .i64 x7, .sl (.int .u8) x8], .agg [.int .i64 x9, .int .i64 x10, .sl (.int .u8) x11]], [.cells q2 cs0, .vec q3 (.int .i64) x16 false, .vec q4 (.int .u8) x17 false] => (match splitRun 2 [(.i64, 2048), (.i64, 1792), (.i64, 1568), (.i64, 1372), (.i64, 1201), (.i64, 1051), (.i64, 920), (.i64, 805), (.i64, 705), (.i64, 617), (.i64, 540), (.i64, 473), (.i64, 414), (.i64, 363), (.i64, 318), (.i64, 279), (.i64, 245), (.i64, 215), (.i64, 189), (.i64, 166), (.i64, 146), (.i64, 128), (.i64, 112), (.i64, 98), (.i64, 86), (.i64, 76), (.i64, 67), (.i64, 59), (.i64, 52), (.i64, 46), (.i64, 41), (.i64, 36)] cs0 with | some ([.int .i64 x12, .own q5], [.int .u64 x13, .int .u64 x14, .own q6, .bool x15]) => bif Nat.beq q0 0 && Nat.beq q1 0 && Nat.beq q2 172 && Nat.beq q3 3 && Nat.beq q4 5 && Nat.beq q5 1 && Nat.beq q6 2 then F x0 x1 x2 x3 x4 x5 x6 x7 x8 x9 x10 x11 x12 x13 x14 x15 x16 x17 (fun r => match r with | (r0, r1, r2, r3, r4, r5) => k (.tup [], [.cells 172 (.int .i64 r0 :: .own 1 :: .int .i64 2048 :: .int .i64 1792 :: .int .i64 1568 :: .int .i64 1372 :: .int .i64 1201 :: .int .i64 1051 :: .int .i64 920 :: .int .i64 805 :: .int .i64 705 :: .int .i64 617 :: .int .i64 540 :: .int .i64 473 :: .int .i64 414 :: .int .i64 363 :: .int .i64 318 :: .int .i64 279 :: .int .i64 245 :: .int .i64 215 :: .int .i64 189 :: .int .i64 166 :: .int .i64 146 :: .int .i64 128 :: .int .i64 112 :: .int .i64 98 :: .int .i64 86 :: .int .i64 76 :: .int .i64 67 :: .int .i64 59 :: .int .i64 52 :: .int .i64 46 :: .int .i64 41 :: .int .i64 36 :: .int .u64 r1 :: .int .u64 r2 :: .own 2 :: .bool r3 :: []), .vec 3 (.int .i64) r4 false, .vec 5 (.int .u8) r5 true])) else none | _ => none)
  | _, _ => none
noncomputable def spec91_d0e (fuel : Nat) : Ev.Spec := spg91_d0e (F_generic_put_d0e fuel)
theorem ok91_d0e (fuel : Nat) : FnOK Try.prog 91 (spec91_d0e fuel) := by
  intro args objs kk r h
  unfold spec91_d0e spg91_d0e at h
  split at h
  · skip
    split at h
    rotate_left 1
    · cases h
    rename_i hsp
    have esp := splitRun_eq hsp
    subst esp
    obtain ⟨hb, h⟩ := cond_some' h
    simp only [Bool.and_eq_true, Nat.beq_eq, decide_eq_true_eq] at hb
    obtain ⟨⟨⟨⟨⟨⟨rfl, rfl⟩, rfl⟩, rfl⟩, rfl⟩, rfl⟩, rfl⟩ := hb
    exact fok91_d0e fuel _ _ kk r ((F91_d0e_eq fuel _ _ _ _ _ _ _ _ _ _ _ _ _ _ _ _ _ _ kk).trans h)
  · cases h
end Go.Proofs.Ytihfgpfofmjbaaa

set_option linter.unusedVariables false
set_option linter.unusedSimpArgs false
set_option maxRecDepth 100000
set_option maxHeartbeats 2000000
namespace Go.Proofs.Ytihfgpfofmjbaaa
open Go Ev
def kp99_9ef (i : Nat) : Option (List Nat) := Ev.look i [(6, [0]), (100001, []), (400001, [6])]
noncomputable def Gg99_9ef (f164_975 : YF164_975) (f : Nat) : Option Ev.Spec := Ev.look f [(164, spg164_975 f164_975)]
noncomputable def G99_9ef (fuel : Nat) : Nat → Option Ev.Spec := Gg99_9ef (F_coder_Encoder_none_975 fuel)
noncomputable def J99_9ef (fuel : Nat) (i : Nat) : Option Ev.Blk := Ev.look i []
noncomputable def F_coder_Encoder_Put_9ef (fuel : Nat) (x0 : Int) (x1 : Int) (k0 : (Int) → Option Ans) : Option Ans :=
  (F_coder_Encoder_none_975 fuel
    (fun y2 =>
      bif y2 then
       k0 ((7 : Int))
      else
       bif Decidable.decide (x0 < (0 : Int)) then
       k0 ((2 : Int))
       else none))
abbrev YF99_9ef : Type := (Int) → (Int) → ((Int) → Option Ans) → Option Ans
theorem F99_9ef_eqg (fuel : Nat) (f164_975 : YF164_975) (x0 : Int) (x1 : Int) (k : Ev.Cont) : evalFn tab (Gg99_9ef f164_975) (J99_9ef fuel) kp99_9ef fuel Try.f99 [.c (.nilptr), .c (.int .i64 x0), .c (.int .i64 x1)] [] k = (fun  (k0 : (Int) → Option Ans) =>
  (f164_975
    (fun y2 =>
      bif y2 then
       k0 ((7 : Int))
      else
       bif Decidable.decide (x0 < (0 : Int)) then
       k0 ((2 : Int))
       else none))) (fun r => match r with | r0 => k (.c (.int .i64 r0), [])) := by
  kernel_rfl
theorem F99_9ef_eq (fuel : Nat) (x0 : Int) (x1 : Int) (k : Ev.Cont) : evalFn tab (G99_9ef fuel) (J99_9ef fuel) kp99_9ef fuel Try.f99 [.c (.nilptr), .c (.int .i64 x0), .c (.int .i64 x1)] [] k = F_coder_Encoder_Put_9ef fuel x0 x1 (fun r => match r with | r0 => k (.c (.int .i64 r0), [])) :=
  F99_9ef_eqg fuel (F_coder_Encoder_none_975 fuel) x0 x1 k
theorem hG99_9ef (fuel : Nat) : GOK Try.prog (G99_9ef fuel) :=
  gok_cons ⟨ok164_975 fuel, enters_of Try.func164 (by kernel_rfl) rfl⟩ <|
  gok_nil
theorem fok99_9ef (fuel : Nat) : FnOK Try.prog 99 (evalFn tab (G99_9ef fuel) (J99_9ef fuel) kp99_9ef fuel Try.f99) :=
  fn_ok tab_ok (hG99_9ef fuel) mixed Try.func99 (c := (Try.f99.body).getD .skip) rfl (fun q hq => by
    rw [(by kernel_rfl : obl (J99_9ef fuel) ((Try.f99.body).getD .skip) = [])] at hq
    cases hq)
noncomputable def mt99_9ef : List Ev.SV → List Ev.Ob → Bool := fun args objs => match args, objs with
  | [.c (.nilptr), .c (.int .i64 _), .c (.int .i64 _)], [] => true
  | _, _ => false
noncomputable def spg99_9ef (F : YF99_9ef) : Ev.Spec := fun args objs k => match args, objs with
  | [.c (.nilptr), .c (.int .i64 x0), .c (.int .i64 x1)], [] => bif true then F x0 x1 (fun r => match r with | r0 => k (.c (.int .i64 r0), [])) else none
  | _, _ => none
noncomputable def spec99_9ef (fuel : Nat) : Ev.Spec := spg99_9ef (F_coder_Encoder_Put_9ef fuel)
theorem ok99_9ef (fuel : Nat) : FnOK Try.prog 99 (spec99_9ef fuel) := by
  intro args objs kk r h
  unfold spec99_9ef spg99_9ef at h
  split at h
  · skip
    obtain ⟨hb, h⟩ := cond_some' h
    simp only [Bool.and_eq_true, Nat.beq_eq, decide_eq_true_eq] at hb
    clear hb
    exact fok99_9ef fuel _ _ kk r ((F99_9ef_eq fuel _ _ kk).trans h)
  · cases h
end Go.Proofs.Ytihfgpfofmjbaaa

set_option linter.unusedVariables false
set_option linter.unusedSimpArgs false
set_option maxRecDepth 100000
set_option maxHeartbeats 2000000
namespace Go.Proofs.Ytihfgpfofmjbaaa
open Go Ev
def kp91_f4f (i : Nat) : Option (List Nat) := Ev.look i [(4, [0, 1, 7, 8, 9, 10, 27, 28]), (13, [0, 1, 7, 8, 9, 10, 11, 27, 28, 60, 61]), (100000, []), (100002, [0, 1, 7, 8, 9, 10, 27, 28]), (200008, [8, 9]), (200017, [8]), (400000, []), (400002, [])]
noncomputable def Gg91_f4f (f90 : YF90) (f97 : YF97) (f99_9ef : YF99_9ef) (f158_a34 : YF158_a34) (f161 : YF161) (f162_b9e : YF162_b9e) (f163 : YF163) (f : Nat) : Option Ev.Spec := Ev.look f [(90, spg90 f90), (97, spg97 f97), (99, spg99_9ef f99_9ef), (158, spg158_a34 f158_a34), (161, spg161 f161), (162, spg162_b9e f162_b9e), (163, spg163 f163)]
noncomputable def G91_f4f (fuel : Nat) : Nat → Option Ev.Spec := Gg91_f4f (F_generic_contexts fuel) (F_generic_newPlane fuel) (F_coder_Encoder_Put_9ef fuel) (F_generic_plane_context_a34 fuel) (F_bytes_Equal fuel) (F_generic_plane_above_b9e fuel) (F_generic_skips fuel)
noncomputable def S_generic_put_f4f_2 (fuel : Nat) (v : Int × Int × Int × Int × Int × Int × Int × Int × Int × Bool × Int × Int × Int × (List Int) × Int × Int × (List Int) × Int × Int × (List Int) × (List (Int × Int))) (c : (Int × Int × Int × Int × Int × Int × Int × Int × Int × Bool × Int × Int × Int × (List Int) × Int × Int × (List Int) × Int × Int × (List Int) × (List (Int × Int))) → Option Ans) (B : (Int × Int × Int × Int × Int × Int × Bool × Int × Int × Int × (List Int) × Int × Int × (List Int) × Int × Int × (List Int) × (List (Int × Int)) → Option Ans)) : Option Ans := match v, B with
  | (x0, x1, x2, x3, x4, x5, x6, x7, x8, x9, x10, x11, x12, x13, x14, x15, x16, x17, x18, x19, x20), b =>
   bif Decidable.decide (x5 < x4) then
      (F_generic_skips fuel (x14) (x15) (x16) (Go.IntKind.i64.wrap (Go.IntKind.i64.wrap (x1 * x11) + x5))
        (fun y3 =>
          bif !y3 then
           bif Decidable.decide ((0 : Int) ≤ Go.IntKind.i64.wrap (Go.IntKind.i64.wrap (x1 * x11) + x5) ∧ Go.IntKind.i64.wrap (Go.IntKind.i64.wrap (x1 * x11) + x5) < (↑x13.length : Int)) then
           (F_generic_plane_context_a34 fuel (x5) (x1) (x17) (x18) (x19) (x20)
              (fun (y9_0, y9_1, y9_2, y9_3, y9_4) =>
                (F_coder_Encoder_Put_9ef fuel (Go.IntKind.i64.wrap (x0 + y9_0)) (Go.IntKind.i64.wrap (x13.getD (Go.IntKind.i64.wrap (Go.IntKind.i64.wrap (x1 * x11) + x5)).toNat (0 : Int)))
                  (fun y13 =>
                    c (x0, x1, x2, x3, x4, Go.IntKind.i64.wrap (x5 + (1 : Int)), x6, x7, x8, x9, x10, x11, x12, x13, x14, x15, x16, y9_1, y9_2, y9_3, y9_4)))))
           else none
          else
           c (x0, x1, x2, x3, x4, Go.IntKind.i64.wrap (x5 + (1 : Int)), x6, x7, x8, x9, x10, x11, x12, x13, x14, x15, x16, x17, x18, x19, x20)))
     else
      b (x0, x2, x3, x6, x7, x8, x9, x10, x11, x12, x13, x14, x15, x16, x17, x18, x19, x20)
noncomputable def L_generic_put_f4f_2 (fuel : Nat) (v : Int × Int × Int × Int × Int × Int × Int × Int × Int × Bool × Int × Int × Int × (List Int) × Int × Int × (List Int) × Int × Int × (List Int) × (List (Int × Int))) (b : (Int × Int × Int × Int × Int × Int × Bool × Int × Int × Int × (List Int) × Int × Int × (List Int) × Int × Int × (List Int) × (List (Int × Int)) → Option Ans)) : Option Ans := iter (S_generic_put_f4f_2 fuel) fuel v b
noncomputable def J91_f4f_2 (fuel : Nat) (i : Nat) : Option Ev.Blk := Ev.look i []
noncomputable def T91_f4f_2 (v : Int × Int × Int × Int × Int × Int × Int × Int × Int × Bool × Int × Int × Int × (List Int) × Int × Int × (List Int) × Int × Int × (List Int) × (List (Int × Int))) : Ev.St := match v with | (x0, x1, x2, x3, x4, x5, x6, x7, x8, x9, x10, x11, x12, x13, x14, x15, x16, x17, x18, x19, x20) => ⟨[(0, .c (.nilptr)), (1, .c (.int .i64 x0)), (7, .c (.ptr 0 0)), (8, .c (.ptr 1 0)), (9, .c (.ptr 2 0)), (10, .c (.ptr 3 0)), (11, .c (.int .i64 x1)), (27, .c (.int .i64 x2)), (28, .c (.int .i64 x3)), (60, .c (.int .i64 x4)), (61, .c (.int .i64 x5))], [(0, .cells 46 [.int .i64 x6, .int .i64 x7, .int .i64 x8, .bool x9, .int .i64 x10]), (1, .cells 39 [.int .i64 x11, .int .i64 x12, .sl (.int .u8) x13]), (2, .cells 39 [.int .i64 x14, .int .i64 x15, .sl (.int .u8) x16]), (3, .cells 137 [.int .i64 x17, .int .i64 x18, .sl (.int .u8) x19, .own 4]), (4, .vec 44 (.pair (.int .i64) (.int .i64)) x20 true)], 5, 0⟩
noncomputable def E91_f4f_2 (K : Ev.Ex → Ev.St → Option Ans) : (Int × Int × Int × Int × Int × Int × Bool × Int × Int × Int × (List Int) × Int × Int × (List Int) × Int × Int × (List Int) × (List (Int × Int)) → Option Ans) := (fun v => match v with | (x0, x1, x2, x3, x4, x5, x6, x7, x8, x9, x10, x11, x12, x13, x14, x15, x16, x17) => K .normal ⟨[(0, .c (.nilptr)), (1, .c (.int .i64 x0)), (7, .c (.ptr 0 0)), (8, .c (.ptr 1 0)), (9, .c (.ptr 2 0)), (10, .c (.ptr 3 0)), (27, .c (.int .i64 x1)), (28, .c (.int .i64 x2))], [(0, .cells 46 [.int .i64 x3, .int .i64 x4, .int .i64 x5, .bool x6, .int .i64 x7]), (1, .cells 39 [.int .i64 x8, .int .i64 x9, .sl (.int .u8) x10]), (2, .cells 39 [.int .i64 x11, .int .i64 x12, .sl (.int .u8) x13]), (3, .cells 137 [.int .i64 x14, .int .i64 x15, .sl (.int .u8) x16, .own 4]), (4, .vec 44 (.pair (.int .i64) (.int .i64)) x17 true)], 5, 0⟩)
theorem S91_f4f_2_okg (fuel : Nat) (f90 : YF90) (f97 : YF97) (f99_9ef : YF99_9ef) (f158_a34 : YF158_a34) (f161 : YF161) (f162_b9e : YF162_b9e) (f163 : YF163) (R : Ev.St → Option Ans) (K : Ev.Ex → Ev.St → Option Ans) (x0 : Int) (x1 : Int) (x2 : Int) (x3 : Int) (x4 : Int) (x5 : Int) (x6 : Int) (x7 : Int) (x8 : Int) (x9 : Bool) (x10 : Int) (x11 : Int) (x12 : Int) (x13 : (List Int)) (x14 : Int) (x15 : Int) (x16 : (List Int)) (x17 : Int) (x18 : Int) (x19 : (List Int)) (x20 : (List (Int × Int))) : evalCode tab (Gg91_f4f f90 f97 f99_9ef f158_a34 f161 f162_b9e f163) (J91_f4f_2 fuel) kp91_f4f fuel (bodyOf 2 Try.f91) (T91_f4f_2 (x0, x1, x2, x3, x4, x5, x6, x7, x8, x9, x10, x11, x12, x13, x14, x15, x16, x17, x18, x19, x20)) (lc kp91_f4f 13 2 R K) = (fun (c : (Int × Int × Int × Int × Int × Int × Int × Int × Int × Bool × Int × Int × Int × (List Int) × Int × Int × (List Int) × Int × Int × (List Int) × (List (Int × Int))) → Option Ans) (B : (Int × Int × Int × Int × Int × Int × Bool × Int × Int × Int × (List Int) × Int × Int × (List Int) × Int × Int × (List Int) × (List (Int × Int)) → Option Ans)) => match B with
  | b =>
   bif Decidable.decide (x5 < x4) then
      (f163 (x14) (x15) (x16) (Go.IntKind.i64.wrap (Go.IntKind.i64.wrap (x1 * x11) + x5))
        (fun y3 =>
          bif !y3 then
           bif Decidable.decide ((0 : Int) ≤ Go.IntKind.i64.wrap (Go.IntKind.i64.wrap (x1 * x11) + x5) ∧ Go.IntKind.i64.wrap (Go.IntKind.i64.wrap (x1 * x11) + x5) < (↑x13.length : Int)) then
           (f158_a34 (x5) (x1) (x17) (x18) (x19) (x20)
              (fun (y9_0, y9_1, y9_2, y9_3, y9_4) =>
                (f99_9ef (Go.IntKind.i64.wrap (x0 + y9_0)) (Go.IntKind.i64.wrap (x13.getD (Go.IntKind.i64.wrap (Go.IntKind.i64.wrap (x1 * x11) + x5)).toNat (0 : Int)))
                  (fun y13 =>
                    c (x0, x1, x2, x3, x4, Go.IntKind.i64.wrap (x5 + (1 : Int)), x6, x7, x8, x9, x10, x11, x12, x13, x14, x15, x16, y9_1, y9_2, y9_3, y9_4)))))
           else none
          else
           c (x0, x1, x2, x3, x4, Go.IntKind.i64.wrap (x5 + (1 : Int)), x6, x7, x8, x9, x10, x11, x12, x13, x14, x15, x16, x17, x18, x19, x20)))
     else
      b (x0, x2, x3, x6, x7, x8, x9, x10, x11, x12, x13, x14, x15, x16, x17, x18, x19, x20)) (fun v => R (T91_f4f_2 v)) (E91_f4f_2 K) := by
  kernel_rfl
theorem S91_f4f_2_ok (fuel : Nat) (R : Ev.St → Option Ans) (K : Ev.Ex → Ev.St → Option Ans) (x0 : Int) (x1 : Int) (x2 : Int) (x3 : Int) (x4 : Int) (x5 : Int) (x6 : Int) (x7 : Int) (x8 : Int) (x9 : Bool) (x10 : Int) (x11 : Int) (x12 : Int) (x13 : (List Int)) (x14 : Int) (x15 : Int) (x16 : (List Int)) (x17 : Int) (x18 : Int) (x19 : (List Int)) (x20 : (List (Int × Int))) : evalCode tab (G91_f4f fuel) (J91_f4f_2 fuel) kp91_f4f fuel (bodyOf 2 Try.f91) (T91_f4f_2 (x0, x1, x2, x3, x4, x5, x6, x7, x8, x9, x10, x11, x12, x13, x14, x15, x16, x17, x18, x19, x20)) (lc kp91_f4f 13 2 R K) = S_generic_put_f4f_2 fuel (x0, x1, x2, x3, x4, x5, x6, x7, x8, x9, x10, x11, x12, x13, x14, x15, x16, x17, x18, x19, x20) (fun v => R (T91_f4f_2 v)) (E91_f4f_2 K) :=
  S91_f4f_2_okg fuel (F_generic_contexts fuel) (F_generic_newPlane fuel) (F_coder_Encoder_Put_9ef fuel) (F_generic_plane_context_a34 fuel) (F_bytes_Equal fuel) (F_generic_plane_above_b9e fuel) (F_generic_skips fuel) R K x0 x1 x2 x3 x4 x5 x6 x7 x8 x9 x10 x11 x12 x13 x14 x15 x16 x17 x18 x19 x20
noncomputable def B91_f4f_2 (fuel : Nat) : Ev.Blk := fun st K => match canonO (kp91_f4f 13) st with
  | some s => (match s with
    | ⟨[(q0, .c (.nilptr)), (q1, .c (.int .i64 x0)), (q2, .c (.ptr q3 q4)), (q5, .c (.ptr q6 q7)), (q8, .c (.ptr q9 q10)), (q11, .c (.ptr q12 q13)), (q14, .c (.int .i64 x1)), (q15, .c (.int .i64 x2)), (q16, .c (.int .i64 x3)), (q17, .c (.int .i64 x4)), (q18, .c (.int .i64 x5))], [(q19, .cells q20 [.int .i64 x6, .int .i64 x7, .int .i64 x8, .bool x9, .int .i64 x10]), (q21, .cells q22 [.int .i64 x11, .int .i64 x12, .sl (.int .u8) x13]), (q23, .cells q24 [.int .i64 x14, .int .i64 x15, .sl (.int .u8) x16]), (q25, .cells q26 [.int .i64 x17, .int .i64 x18, .sl (.int .u8) x19, .own q27]), (q28, .vec q29 (.pair (.int .i64) (.int .i64)) x20 true)], q30, q31⟩ => bif Nat.beq q0 0 && Nat.beq q1 1 && Nat.beq q2 7 && Nat.beq q3 0 && Nat.beq q4 0 && Nat.beq q5 8 && Nat.beq q6 1 && Nat.beq q7 0 && Nat.beq q8 9 && Nat.beq q9 2 && Nat.beq q10 0 && Nat.beq q11 10 && Nat.beq q12 3 && Nat.beq q13 0 && Nat.beq q14 11 && Nat.beq q15 27 && Nat.beq q16 28 && Nat.beq q17 60 && Nat.beq q18 61 && Nat.beq q19 0 && Nat.beq q20 46 && Nat.beq q21 1 && Nat.beq q22 39 && Nat.beq q23 2 && Nat.beq q24 39 && Nat.beq q25 3 && Nat.beq q26 137 && Nat.beq q27 4 && Nat.beq q28 4 && Nat.beq q29 44 && Nat.beq q30 5 && Nat.beq q31 0 then iter (S_generic_put_f4f_2 fuel) fuel (x0, x1, x2, x3, x4, x5, x6, x7, x8, x9, x10, x11, x12, x13, x14, x15, x16, x17, x18, x19, x20) (E91_f4f_2 K) else none
    | _ => none)
  | none => none
theorem B91_f4f_2_ok (fuel : Nat) (st : Ev.St) (K : Ev.Ex → Ev.St → Option Ans) (r : Ans) (h : B91_f4f_2 fuel st K = some r) : evalCode tab (G91_f4f fuel) (J91_f4f_2 fuel) kp91_f4f fuel (.block 2 (.loop (bodyOf 2 Try.f91))) st K = some r := by
  unfold B91_f4f_2 at h
  split at h
  · rename_i s hs
    split at h
    · skip
      obtain ⟨hb, h⟩ := cond_some' h
      simp only [Bool.and_eq_true, Nat.beq_eq, decide_eq_true_eq] at hb
      obtain ⟨⟨⟨⟨⟨⟨⟨⟨⟨⟨⟨⟨⟨⟨⟨⟨⟨⟨⟨⟨⟨⟨⟨⟨⟨⟨⟨⟨⟨⟨⟨rfl, rfl⟩, rfl⟩, rfl⟩, rfl⟩, rfl⟩, rfl⟩, rfl⟩, rfl⟩, rfl⟩, rfl⟩, rfl⟩, rfl⟩, rfl⟩, rfl⟩, rfl⟩, rfl⟩, rfl⟩, rfl⟩, rfl⟩, rfl⟩, rfl⟩, rfl⟩, rfl⟩, rfl⟩, rfl⟩, rfl⟩, rfl⟩, rfl⟩, rfl⟩, rfl⟩, rfl⟩ := hb
      exact blk_loop (S := T91_f4f_2) (ks := E91_f4f_2) (step := S_generic_put_f4f_2 fuel) (v := (_, _, _, _, _, _, _, _, _, _, _, _, _, _, _, _, _, _, _, _, _)) (by kernel_rfl) (by kernel_rfl) (fun R K v => by obtain ⟨x0, x1, x2, x3, x4, x5, x6, x7, x8, x9, x10, x11, x12, x13, x14, x15, x16, x17, x18, x19, x20⟩ := v; exact S91_f4f_2_ok fuel R K x0 x1 x2 x3 x4 x5 x6 x7 x8 x9 x10 x11 x12 x13 x14 x15 x16 x17 x18 x19 x20) hs h
    · cases h
  · cases h
noncomputable def S_generic_put_f4f_0 (fuel : Nat) (v : Int × Int × Int × Int × Int × Int × Bool × Int × Int × Int × (List Int) × Int × Int × (List Int) × Int × Int × (List Int) × (List (Int × Int))) (c : (Int × Int × Int × Int × Int × Int × Bool × Int × Int × Int × (List Int) × Int × Int × (List Int) × Int × Int × (List Int) × (List (Int × Int))) → Option Ans) (B : (Unit → Option Ans)) : Option Ans := match v, B with
  | (x0, x1, x2, x3, x4, x5, x6, x7, x8, x9, x10, x11, x12, x13, x14, x15, x16, x17), b =>
   bif Decidable.decide (x2 < x1) then
      bif x6 then
       bif Decidable.decide ((0 : Int) ≤ Ev.loOf (Option.some (Go.IntKind.i64.wrap (x2 * x8))) ∧ Ev.loOf (Option.some (Go.IntKind.i64.wrap (x2 * x8))) ≤ Ev.hiOf (Option.some (Go.IntKind.i64.wrap (Go.IntKind.i64.wrap (x2 + (1 : Int)) * x8))) (↑x10.length : Int) ∧ Ev.hiOf (Option.some (Go.IntKind.i64.wrap (Go.IntKind.i64.wrap (x2 + (1 : Int)) * x8))) (↑x10.length : Int) ≤ (↑x10.length : Int)) then
       (F_generic_plane_above_b9e fuel (x2) (x11) (x12) (x13) (x14) (x15) (x16) (x17)
          (fun (y5_0, y5_1, y5_2, y5_3, y5_4) =>
            (F_bytes_Equal fuel (y5_4) (List.take (Ev.hiOf (Option.some (Go.IntKind.i64.wrap (Go.IntKind.i64.wrap (x2 + (1 : Int)) * x8))) (↑x10.length : Int) - Ev.loOf (Option.some (Go.IntKind.i64.wrap (x2 * x8)))).toNat (List.drop (Ev.loOf (Option.some (Go.IntKind.i64.wrap (x2 * x8)))).toNat x10))
              (fun y9 =>
                bif y9 then
                 (F_generic_contexts fuel (x3) (x4) (x5) (x6) (x7)
                   (fun y14 =>
                     (F_coder_Encoder_Put_9ef fuel (Go.IntKind.i64.wrap (x0 + y14)) ((1 : Int))
                       (fun y18 =>
                         c (x0, x1, Go.IntKind.i64.wrap (x2 + (1 : Int)), x3, x4, x5, x6, x7, x8, x9, x10, x11, x12, x13, y5_0, y5_1, y5_2, y5_3)))))
                else
                 (F_generic_contexts fuel (x3) (x4) (x5) (x6) (x7)
                   (fun y14 =>
                     (F_coder_Encoder_Put_9ef fuel (Go.IntKind.i64.wrap (x0 + y14)) ((0 : Int))
                       (fun y18 =>
                         (L_generic_put_f4f_2 fuel (x0, x2, x1, x2, x8, (0 : Int), x3, x4, x5, x6, x7, x8, x9, x10, x11, x12, x13, y5_0, y5_1, y5_2, y5_3)
                           (fun (b2_0, b2_1, b2_2, b2_3, b2_4, b2_5, b2_6, b2_7, b2_8, b2_9, b2_10, b2_11, b2_12, b2_13, b2_14, b2_15, b2_16, b2_17) =>
                             c (b2_0, b2_1, Go.IntKind.i64.wrap (b2_2 + (1 : Int)), b2_3, b2_4, b2_5, b2_6, b2_7, b2_8, b2_9, b2_10, b2_11, b2_12, b2_13, b2_14, b2_15, b2_16, b2_17)))))))))))
       else none
      else
       (L_generic_put_f4f_2 fuel (x0, x2, x1, x2, x8, (0 : Int), x3, x4, x5, x6, x7, x8, x9, x10, x11, x12, x13, x14, x15, x16, x17)
         (fun (b2_0, b2_1, b2_2, b2_3, b2_4, b2_5, b2_6, b2_7, b2_8, b2_9, b2_10, b2_11, b2_12, b2_13, b2_14, b2_15, b2_16, b2_17) =>
           c (b2_0, b2_1, Go.IntKind.i64.wrap (b2_2 + (1 : Int)), b2_3, b2_4, b2_5, b2_6, b2_7, b2_8, b2_9, b2_10, b2_11, b2_12, b2_13, b2_14, b2_15, b2_16, b2_17)))
     else
      b ()
noncomputable def L_generic_put_f4f_0 (fuel : Nat) (v : Int × Int × Int × Int × Int × Int × Bool × Int × Int × Int × (List Int) × Int × Int × (List Int) × Int × Int × (List Int) × (List (Int × Int))) (b : (Unit → Option Ans)) : Option Ans := iter (S_generic_put_f4f_0 fuel) fuel v b
noncomputable def J91_f4f_0 (fuel : Nat) (i : Nat) : Option Ev.Blk := Ev.look i [(100002, B91_f4f_2 fuel)]
noncomputable def T91_f4f_0 (v : Int × Int × Int × Int × Int × Int × Bool × Int × Int × Int × (List Int) × Int × Int × (List Int) × Int × Int × (List Int) × (List (Int × Int))) : Ev.St := match v with | (x0, x1, x2, x3, x4, x5, x6, x7, x8, x9, x10, x11, x12, x13, x14, x15, x16, x17) => ⟨[(0, .c (.nilptr)), (1, .c (.int .i64 x0)), (7, .c (.ptr 0 0)), (8, .c (.ptr 1 0)), (9, .c (.ptr 2 0)), (10, .c (.ptr 3 0)), (27, .c (.int .i64 x1)), (28, .c (.int .i64 x2))], [(0, .cells 46 [.int .i64 x3, .int .i64 x4, .int .i64 x5, .bool x6, .int .i64 x7]), (1, .cells 39 [.int .i64 x8, .int .i64 x9, .sl (.int .u8) x10]), (2, .cells 39 [.int .i64 x11, .int .i64 x12, .sl (.int .u8) x13]), (3, .cells 137 [.int .i64 x14, .int .i64 x15, .sl (.int .u8) x16, .own 4]), (4, .vec 44 (.pair (.int .i64) (.int .i64)) x17 true)], 5, 0⟩
noncomputable def E91_f4f_0 (K : Ev.Ex → Ev.St → Option Ans) : (Unit → Option Ans) := (fun v => match v with | () => K .normal ⟨[], [], 0, 0⟩)
theorem S91_f4f_0_okg (fuel : Nat) (f90 : YF90) (f97 : YF97) (f99_9ef : YF99_9ef) (f158_a34 : YF158_a34) (f161 : YF161) (f162_b9e : YF162_b9e) (f163 : YF163) (R : Ev.St → Option Ans) (K : Ev.Ex → Ev.St → Option Ans) (x0 : Int) (x1 : Int) (x2 : Int) (x3 : Int) (x4 : Int) (x5 : Int) (x6 : Bool) (x7 : Int) (x8 : Int) (x9 : Int) (x10 : (List Int)) (x11 : Int) (x12 : Int) (x13 : (List Int)) (x14 : Int) (x15 : Int) (x16 : (List Int)) (x17 : (List (Int × Int))) : evalCode tab (Gg91_f4f f90 f97 f99_9ef f158_a34 f161 f162_b9e f163) (J91_f4f_0 fuel) kp91_f4f fuel (bodyOf 0 Try.f91) (T91_f4f_0 (x0, x1, x2, x3, x4, x5, x6, x7, x8, x9, x10, x11, x12, x13, x14, x15, x16, x17)) (lc kp91_f4f 4 0 R K) = (fun (c : (Int × Int × Int × Int × Int × Int × Bool × Int × Int × Int × (List Int) × Int × Int × (List Int) × Int × Int × (List Int) × (List (Int × Int))) → Option Ans) (B : (Unit → Option Ans)) => match B with
  | b =>
   bif Decidable.decide (x2 < x1) then
      bif x6 then
       bif Decidable.decide ((0 : Int) ≤ Ev.loOf (Option.some (Go.IntKind.i64.wrap (x2 * x8))) ∧ Ev.loOf (Option.some (Go.IntKind.i64.wrap (x2 * x8))) ≤ Ev.hiOf (Option.some (Go.IntKind.i64.wrap (Go.IntKind.i64.wrap (x2 + (1 : Int)) * x8))) (↑x10.length : Int) ∧ Ev.hiOf (Option.some (Go.IntKind.i64.wrap (Go.IntKind.i64.wrap (x2 + (1 : Int)) * x8))) (↑x10.length : Int) ≤ (↑x10.length : Int)) then
       (f162_b9e (x2) (x11) (x12) (x13) (x14) (x15) (x16) (x17)
          (fun (y5_0, y5_1, y5_2, y5_3, y5_4) =>
            (f161 (y5_4) (List.take (Ev.hiOf (Option.some (Go.IntKind.i64.wrap (Go.IntKind.i64.wrap (x2 + (1 : Int)) * x8))) (↑x10.length : Int) - Ev.loOf (Option.some (Go.IntKind.i64.wrap (x2 * x8)))).toNat (List.drop (Ev.loOf (Option.some (Go.IntKind.i64.wrap (x2 * x8)))).toNat x10))
              (fun y9 =>
                bif y9 then
                 (f90 (x3) (x4) (x5) (x6) (x7)
                   (fun y14 =>
                     (f99_9ef (Go.IntKind.i64.wrap (x0 + y14)) ((1 : Int))
                       (fun y18 =>
                         c (x0, x1, Go.IntKind.i64.wrap (x2 + (1 : Int)), x3, x4, x5, x6, x7, x8, x9, x10, x11, x12, x13, y5_0, y5_1, y5_2, y5_3)))))
                else
                 (f90 (x3) (x4) (x5) (x6) (x7)
                   (fun y14 =>
                     (f99_9ef (Go.IntKind.i64.wrap (x0 + y14)) ((0 : Int))
                       (fun y18 =>
                         (L_generic_put_f4f_2 fuel (x0, x2, x1, x2, x8, (0 : Int), x3, x4, x5, x6, x7, x8, x9, x10, x11, x12, x13, y5_0, y5_1, y5_2, y5_3)
                           (fun (b2_0, b2_1, b2_2, b2_3, b2_4, b2_5, b2_6, b2_7, b2_8, b2_9, b2_10, b2_11, b2_12, b2_13, b2_14, b2_15, b2_16, b2_17) =>
                             c (b2_0, b2_1, Go.IntKind.i64.wrap (b2_2 + (1 : Int)), b2_3, b2_4, b2_5, b2_6, b2_7, b2_8, b2_9, b2_10, b2_11, b2_12, b2_13, b2_14, b2_15, b2_16, b2_17)))))))))))
       else none
      else
       (L_generic_put_f4f_2 fuel (x0, x2, x1, x2, x8, (0 : Int), x3, x4, x5, x6, x7, x8, x9, x10, x11, x12, x13, x14, x15, x16, x17)
         (fun (b2_0, b2_1, b2_2, b2_3, b2_4, b2_5, b2_6, b2_7, b2_8, b2_9, b2_10, b2_11, b2_12, b2_13, b2_14, b2_15, b2_16, b2_17) =>
           c (b2_0, b2_1, Go.IntKind.i64.wrap (b2_2 + (1 : Int)), b2_3, b2_4, b2_5, b2_6, b2_7, b2_8, b2_9, b2_10, b2_11, b2_12, b2_13, b2_14, b2_15, b2_16, b2_17)))
     else
      b ()) (fun v => R (T91_f4f_0 v)) (E91_f4f_0 K) := by
  kernel_rfl
theorem S91_f4f_0_ok (fuel : Nat) (R : Ev.St → Option Ans) (K : Ev.Ex → Ev.St → Option Ans) (x0 : Int) (x1 : Int) (x2 : Int) (x3 : Int) (x4 : Int) (x5 : Int) (x6 : Bool) (x7 : Int) (x8 : Int) (x9 : Int) (x10 : (List Int)) (x11 : Int) (x12 : Int) (x13 : (List Int)) (x14 : Int) (x15 : Int) (x16 : (List Int)) (x17 : (List (Int × Int))) : evalCode tab (G91_f4f fuel) (J91_f4f_0 fuel) kp91_f4f fuel (bodyOf 0 Try.f91) (T91_f4f_0 (x0, x1, x2, x3, x4, x5, x6, x7, x8, x9, x10, x11, x12, x13, x14, x15, x16, x17)) (lc kp91_f4f 4 0 R K) = S_generic_put_f4f_0 fuel (x0, x1, x2, x3, x4, x5, x6, x7, x8, x9, x10, x11, x12, x13, x14, x15, x16, x17) (fun v => R (T91_f4f_0 v)) (E91_f4f_0 K) :=
  S91_f4f_0_okg fuel (F_generic_contexts fuel) (F_generic_newPlane fuel) (F_coder_Encoder_Put_9ef fuel) (F_generic_plane_context_a34 fuel) (F_bytes_Equal fuel) (F_generic_plane_above_b9e fuel) (F_generic_skips fuel) R K x0 x1 x2 x3 x4 x5 x6 x7 x8 x9 x10 x11 x12 x13 x14 x15 x16 x17
noncomputable def B91_f4f_0 (fuel : Nat) : Ev.Blk := fun st K => match canonO (kp91_f4f 4) st with
  | some s => (match s with
    | ⟨[(q0, .c (.nilptr)), (q1, .c (.int .i64 x0)), (q2, .c (.ptr q3 q4)), (q5, .c (.ptr q6 q7)), (q8, .c (.ptr q9 q10)), (q11, .c (.ptr q12 q13)), (q14, .c (.int .i64 x1)), (q15, .c (.int .i64 x2))], [(q16, .cells q17 [.int .i64 x3, .int .i64 x4, .int .i64 x5, .bool x6, .int .i64 x7]), (q18, .cells q19 [.int .i64 x8, .int .i64 x9, .sl (.int .u8) x10]), (q20, .cells q21 [.int .i64 x11, .int .i64 x12, .sl (.int .u8) x13]), (q22, .cells q23 [.int .i64 x14, .int .i64 x15, .sl (.int .u8) x16, .own q24]), (q25, .vec q26 (.pair (.int .i64) (.int .i64)) x17 true)], q27, q28⟩ => bif Nat.beq q0 0 && Nat.beq q1 1 && Nat.beq q2 7 && Nat.beq q3 0 && Nat.beq q4 0 && Nat.beq q5 8 && Nat.beq q6 1 && Nat.beq q7 0 && Nat.beq q8 9 && Nat.beq q9 2 && Nat.beq q10 0 && Nat.beq q11 10 && Nat.beq q12 3 && Nat.beq q13 0 && Nat.beq q14 27 && Nat.beq q15 28 && Nat.beq q16 0 && Nat.beq q17 46 && Nat.beq q18 1 && Nat.beq q19 39 && Nat.beq q20 2 && Nat.beq q21 39 && Nat.beq q22 3 && Nat.beq q23 137 && Nat.beq q24 4 && Nat.beq q25 4 && Nat.beq q26 44 && Nat.beq q27 5 && Nat.beq q28 0 then iter (S_generic_put_f4f_0 fuel) fuel (x0, x1, x2, x3, x4, x5, x6, x7, x8, x9, x10, x11, x12, x13, x14, x15, x16, x17) (E91_f4f_0 K) else none
    | _ => none)
  | none => none
theorem B91_f4f_0_ok (fuel : Nat) (st : Ev.St) (K : Ev.Ex → Ev.St → Option Ans) (r : Ans) (h : B91_f4f_0 fuel st K = some r) : evalCode tab (G91_f4f fuel) (J91_f4f_0 fuel) kp91_f4f fuel (.block 0 (.loop (bodyOf 0 Try.f91))) st K = some r := by
  unfold B91_f4f_0 at h
  split at h
  · rename_i s hs
    split at h
    · skip
      obtain ⟨hb, h⟩ := cond_some' h
      simp only [Bool.and_eq_true, Nat.beq_eq, decide_eq_true_eq] at hb
      obtain ⟨⟨⟨⟨⟨⟨⟨⟨⟨⟨⟨⟨⟨⟨⟨⟨⟨⟨⟨⟨⟨⟨⟨⟨⟨⟨⟨⟨rfl, rfl⟩, rfl⟩, rfl⟩, rfl⟩, rfl⟩, rfl⟩, rfl⟩, rfl⟩, rfl⟩, rfl⟩, rfl⟩, rfl⟩, rfl⟩, rfl⟩, rfl⟩, rfl⟩, rfl⟩, rfl⟩, rfl⟩, rfl⟩, rfl⟩, rfl⟩, rfl⟩, rfl⟩, rfl⟩, rfl⟩, rfl⟩, rfl⟩ := hb
      exact blk_loop (S := T91_f4f_0) (ks := E91_f4f_0) (step := S_generic_put_f4f_0 fuel) (v := (_, _, _, _, _, _, _, _, _, _, _, _, _, _, _, _, _, _)) (by kernel_rfl) (by kernel_rfl) (fun R K v => by obtain ⟨x0, x1, x2, x3, x4, x5, x6, x7, x8, x9, x10, x11, x12, x13, x14, x15, x16, x17⟩ := v; exact S91_f4f_0_ok fuel R K x0 x1 x2 x3 x4 x5 x6 x7 x8 x9 x10 x11 x12 x13 x14 x15 x16 x17) hs h
    · cases h
  · cases h
noncomputable def J91_f4f (fuel : Nat) (i : Nat) : Option Ev.Blk := Ev.look i [(100002, B91_f4f_2 fuel), (100000, B91_f4f_0 fuel)]
noncomputable def F_generic_put_f4f (fuel : Nat) (x0 : Int) (x1 : Int) (x2 : Int) (x3 : Int) (x4 : Bool) (x5 : Int) (x6 : Int) (x7 : Int) (x8 : (List Int)) (x9 : Int) (x10 : Int) (x11 : (List Int)) (k0 : (Unit) → Option Ans) : Option Ans :=
  (F_generic_newPlane fuel (x1) (x2) (x3) (x4) (x5) (x6) (x7)
    (fun (y2_0, y2_1, y2_2, y2_3) =>
      (L_generic_put_f4f_0 fuel (x0, x7, (0 : Int), x1, x2, x3, x4, x5, x6, x7, x8, x9, x10, x11, y2_0, y2_1, x8, y2_3)
        (fun () =>
          k0 ()))))
abbrev YF91_f4f : Type := (Int) → (Int) → (Int) → (Int) → (Bool) → (Int) → (Int) → (Int) → ((List Int)) → (Int) → (Int) → ((List Int)) → ((Unit) → Option Ans) → Option Ans
theorem F91_f4f_eqg (fuel : Nat) (f90 : YF90) (f97 : YF97) (f99_9ef : YF99_9ef) (f158_a34 : YF158_a34) (f161 : YF161) (f162_b9e : YF162_b9e) (f163 : YF163) (x0 : Int) (x1 : Int) (x2 : Int) (x3 : Int) (x4 : Bool) (x5 : Int) (x6 : Int) (x7 : Int) (x8 : (List Int)) (x9 : Int) (x10 : Int) (x11 : (List Int)) (k : Ev.Cont) : evalFn tab (Gg91_f4f f90 f97 f99_9ef f158_a34 f161 f162_b9e f163) (J91_f4f fuel) kp91_f4f fuel Try.f91 [.c (.nilptr), .c (.int .i64 x0), .agg [.int .i64 x1, .int .i64 x2, .int .i64 x3, .bool x4, .int .i64 x5], .agg [.int .i64 x6, .int .i64 x7, .sl (.int .u8) x8], .agg [.int .i64 x9, .int .i64 x10, .sl (.int .u8) x11]] [] k = (fun  (k0 : (Unit) → Option Ans) =>
  (f97 (x1) (x2) (x3) (x4) (x5) (x6) (x7)
    (fun (y2_0, y2_1, y2_2, y2_3) =>
      (L_generic_put_f4f_0 fuel (x0, x7, (0 : Int), x1, x2, x3, x4, x5, x6, x7, x8, x9, x10, x11, y2_0, y2_1, x8, y2_3)
        (fun () =>
          k0 ()))))) (fun r => match r with | () => k (.tup [], [])) := by
  kernel_rfl
theorem F91_f4f_eq (fuel : Nat) (x0 : Int) (x1 : Int) (x2 : Int) (x3 : Int) (x4 : Bool) (x5 : Int) (x6 : Int) (x7 : Int) (x8 : (List Int)) (x9 : Int) (x10 : Int) (x11 : (List Int)) (k : Ev.Cont) : evalFn tab (G91_f4f fuel) (J91_f4f fuel) kp91_f4f fuel Try.f91 [.c (.nilptr), .c (.int .i64 x0), .agg [.int .i64 x1, .int .i64 x2, .int .i64 x3, .bool x4, .int .i64 x5], .agg [.int .i64 x6, .int .i64 x7, .sl (.int .u8) x8], .agg [.int .i64 x9, .int .i64 x10, .sl (.int .u8) x11]] [] k = F_generic_put_f4f fuel x0 x1 x2 x3 x4 x5 x6 x7 x8 x9 x10 x11 (fun r => match r with | () => k (.tup [], [])) :=
  F91_f4f_eqg fuel (F_generic_contexts fuel) (F_generic_newPlane fuel) (F_coder_Encoder_Put_9ef fuel) (F_generic_plane_context_a34 fuel) (F_bytes_Equal fuel) (F_generic_plane_above_b9e fuel) (F_generic_skips fuel) x0 x1 x2 x3 x4 x5 x6 x7 x8 x9 x10 x11 k
theorem hG91_f4f (fuel : Nat) : GOK Try.prog (G91_f4f fuel) :=
  gok_cons ⟨ok90 fuel, enters_of Try.func90 (by kernel_rfl) rfl⟩ <|
  gok_cons ⟨ok97 fuel, enters_of Try.func97 (by kernel_rfl) rfl⟩ <|
  gok_cons ⟨ok99_9ef fuel, enters_of Try.func99 (by kernel_rfl) rfl⟩ <|
  gok_cons ⟨ok158_a34 fuel, enters_of Try.func158 (by kernel_rfl) rfl⟩ <|
  gok_cons ⟨ok161 fuel, enters_of Try.func161 (by kernel_rfl) rfl⟩ <|
  gok_cons ⟨ok162_b9e fuel, enters_of Try.func162 (by kernel_rfl) rfl⟩ <|
  gok_cons ⟨ok163 fuel, enters_of Try.func163 (by kernel_rfl) rfl⟩ <|
  gok_nil
theorem B91_f4f_2_blk (fuel : Nat) : BlkOK Try.prog Try.f91.ntmps (.block 2 (.loop (bodyOf 2 Try.f91))) (B91_f4f_2 fuel) :=
  blk_of (blk_of_code tab_ok (hG91_f4f fuel) mixed (J := J91_f4f_2 fuel) (kp := kp91_f4f) (fuel := fuel) (by kernel_rfl) (fun q hq => by
    rw [(by kernel_rfl : obl (J91_f4f_2 fuel) (.block 2 (.loop (bodyOf 2 Try.f91))) = [])] at hq
    cases hq)) (B91_f4f_2_ok fuel)
theorem B91_f4f_0_blk (fuel : Nat) : BlkOK Try.prog Try.f91.ntmps (.block 0 (.loop (bodyOf 0 Try.f91))) (B91_f4f_0 fuel) :=
  blk_of (blk_of_code tab_ok (hG91_f4f fuel) mixed (J := J91_f4f_0 fuel) (kp := kp91_f4f) (fuel := fuel) (by kernel_rfl) (fun q hq => by
    rw [(by kernel_rfl : obl (J91_f4f_0 fuel) (.block 0 (.loop (bodyOf 0 Try.f91))) = [(.block 2 (.loop (bodyOf 2 Try.f91)), B91_f4f_2 fuel)])] at hq
    simp only [List.mem_cons, List.not_mem_nil, or_false] at hq
    subst hq
    · exact B91_f4f_2_blk fuel)) (B91_f4f_0_ok fuel)
theorem fok91_f4f (fuel : Nat) : FnOK Try.prog 91 (evalFn tab (G91_f4f fuel) (J91_f4f fuel) kp91_f4f fuel Try.f91) :=
  fn_ok tab_ok (hG91_f4f fuel) mixed Try.func91 (c := (Try.f91.body).getD .skip) rfl (fun q hq => by
    rw [(by kernel_rfl : obl (J91_f4f fuel) ((Try.f91.body).getD .skip) = [(.block 0 (.loop (bodyOf 0 Try.f91)), B91_f4f_0 fuel)])] at hq
    simp only [List.mem_cons, List.not_mem_nil, or_false] at hq
    subst hq
    · exact B91_f4f_0_blk fuel)
noncomputable def mt91_f4f : List Ev.SV → List Ev.Ob → Bool := fun args objs => match args, objs with
  | [.c (.nilptr), .c (.int .i64 _), .agg [.int .i64 _, .int .i64 _, .int .i64 _, .bool _, .int .i64 _], .agg [.int .i64 _, .int .i64 _, .sl (.int .u8) _], .agg [.int .i64 _, .int .i64 _, .sl (.int .u8) _]], [] => true
  | _, _ => false
noncomputable def spg91_f4f (F : YF91_f4f) : Ev.Spec := fun args objs k => match args, objs with
  | [.c (.nilptr), .c (.int .i64 x0), .agg [.int .i64 x1, .int .i64 x2, .int .i64 x3, .bool x4, .int .i64 x5], .agg [.int .i64 x6, .int .i64 x7, .sl (.int .u8) x8], .agg [.int .i64 x9, .int .i64 x10, .sl (.int .u8) x11]], [] => bif true then F x0 x1 x2 x3 x4 x5 x6 x7 x8 x9 x10 x11 (fun r => match r with | () => k (.tup [], [])) else none
  | _, _ => none
noncomputable def spec91_f4f (fuel : Nat) : Ev.Spec := spg91_f4f (F_generic_put_f4f fuel)
theorem ok91_f4f (fuel : Nat) : FnOK Try.prog 91 (spec91_f4f fuel) := by
  intro args objs kk r h
  unfold spec91_f4f spg91_f4f at h
  split at h
  · skip
    obtain ⟨hb, h⟩ := cond_some' h
    simp only [Bool.and_eq_true, Nat.beq_eq, decide_eq_true_eq] at hb
    clear hb
    exact fok91_f4f fuel _ _ kk r ((F91_f4f_eq fuel _ _ _ _ _ _ _ _ _ _ _ _ kk).trans h)
  · cases h
end Go.Proofs.Ytihfgpfofmjbaaa

set_option linter.unusedVariables false
set_option linter.unusedSimpArgs false
set_option maxRecDepth 100000
set_option maxHeartbeats 2000000
namespace Go.Proofs.Ytihfgpfofmjbaaa
open Go Ev
def kp30 (i : Nat) : Option (List Nat) := Ev.look i [(200005, [2])]
noncomputable def Gg30 (f41 : YF41) (f46 : YF46) (f88 : YF88) (f89 : YF89) (f90 : YF90) (f91_f4f : YF91_f4f) (f91_d0e : YF91_d0e) (f92_975 : YF92_975) (f92_a20 : YF92_a20) (f : Nat) : Option Ev.Spec := Ev.look f [(41, spg41 f41), (46, spg46 f46), (88, spg88 f88), (89, spg89 f89), (90, spg90 f90), (91, alt mt91_f4f (spg91_f4f f91_f4f) (spg91_d0e f91_d0e)), (92, alt mt92_975 (spg92_975 f92_975) (spg92_a20 f92_a20))]
noncomputable def G30 (fuel : Nat) : Nat → Option Ev.Spec := Gg30 (F_coder_New fuel) (F_coder_NewEncoder fuel) (F_generic_Valid fuel) (F_bitmap_Valid fuel) (F_generic_contexts fuel) (F_generic_put_f4f fuel) (F_generic_put_d0e fuel) (F_coder_Encoder_End_975 fuel) (F_coder_Encoder_End_a20 fuel)
noncomputable def J30 (fuel : Nat) (i : Nat) : Option Ev.Blk := Ev.look i []
noncomputable def F_generic_Encode (fuel : Nat) (x0 : Int) (x1 : Int) (x2 : Int) (x3 : Bool) (x4 : Int) (x5 : Int) (x6 : Int) (x7 : (List Int)) (k0 : (Int × (List Int)) → Option Ans) : Option Ans :=
  (F_generic_Valid fuel (x0) (x1) (x2) (x3) (x4)
    (fun y2 =>
      bif !y2 then
       k0 ((2 : Int), [])
      else
       (F_bitmap_Valid fuel (x5) (x6) (x7)
         (fun y7 =>
           bif !y7 then
            k0 ((30 : Int), [])
           else
            both ((F_generic_contexts fuel (x0) (x1) (x2) (x3) (x4)
                (fun y14 =>
                  both ((F_coder_New fuel (x4) (Go.IntKind.i64.wrap (y14 + (1 : Int)))
                      (fun (y20_0, y20_1, y20_2) =>
                        (F_coder_NewEncoder fuel (y20_0) (y20_2)
                          (fun y24 =>
                            (F_generic_put_f4f fuel ((0 : Int)) (x0) (x1) (x2) (x3) (x4) (x5) (x6) (x7) ((0 : Int)) ((0 : Int)) ([])
                              (fun y28 =>
                                (F_coder_Encoder_End_975 fuel
                                  (fun y32 =>
                                    k0 ((0 : Int), y32))))))
                          (fun (y24_0, y24_1, y24_2, y24_3, y24_4, y24_5, y24_6) =>
                            (F_generic_put_d0e fuel ((0 : Int)) (x0) (x1) (x2) (x3) (x4) (x5) (x6) (x7) ((0 : Int)) ((0 : Int)) ([]) (y24_1) (y24_2) (y24_3) (y24_4) (y24_5) (y24_6)
                              (fun (y28_0, y28_1, y28_2, y28_3, y28_4, y28_5) =>
                                (F_coder_Encoder_End_a20 fuel (y28_0) (y28_1) (y28_2) (y28_3) (y28_4) (y28_5)
                                  (fun (y32_0, y32_1, y32_2, y32_3, y32_4, y32_5, y32_6) =>
                                    k0 ((0 : Int), y32_6))))))))))
                   ((F_coder_New fuel (x4) (Go.IntKind.i64.wrap (y14 + (1 : Int)))
                      (fun (y20_0, y20_1, y20_2) =>
                        (F_coder_NewEncoder fuel (y20_0) (y20_2)
                          (fun y24 =>
                            (F_generic_put_f4f fuel ((0 : Int)) (x0) (x1) (x2) (x3) (x4) (x5) (x6) (x7) ((0 : Int)) ((0 : Int)) ([])
                              (fun y28 =>
                                (F_coder_Encoder_End_975 fuel
                                  (fun y32 =>
                                    k0 ((0 : Int), y32))))))
                          (fun (y24_0, y24_1, y24_2, y24_3, y24_4, y24_5, y24_6) =>
                            (F_generic_put_d0e fuel ((0 : Int)) (x0) (x1) (x2) (x3) (x4) (x5) (x6) (x7) ((0 : Int)) ((0 : Int)) ([]) (y24_1) (y24_2) (y24_3) (y24_4) (y24_5) (y24_6)
                              (fun (y28_0, y28_1, y28_2, y28_3, y28_4, y28_5) =>
                                (F_coder_Encoder_End_a20 fuel (y28_0) (y28_1) (y28_2) (y28_3) (y28_4) (y28_5)
                                  (fun (y32_0, y32_1, y32_2, y32_3, y32_4, y32_5, y32_6) =>
                                    k0 ((0 : Int), y32_6)))))))))))))
             ((F_generic_contexts fuel (x0) (x1) (x2) (x3) (x4)
                (fun y14 =>
                  (F_coder_New fuel (x4) (Go.IntKind.i64.wrap (y14 + (1 : Int)))
                    (fun (y18_0, y18_1, y18_2) =>
                      (F_coder_NewEncoder fuel (y18_0) (y18_2)
                        (fun y22 =>
                          (F_generic_put_f4f fuel ((0 : Int)) (x0) (x1) (x2) (x3) (x4) (x5) (x6) (x7) ((0 : Int)) ((0 : Int)) ([])
                            (fun y26 =>
                              (F_coder_Encoder_End_975 fuel
                                (fun y30 =>
                                  k0 ((0 : Int), y30))))))
                        (fun (y22_0, y22_1, y22_2, y22_3, y22_4, y22_5, y22_6) =>
                          (F_generic_put_d0e fuel ((0 : Int)) (x0) (x1) (x2) (x3) (x4) (x5) (x6) (x7) ((0 : Int)) ((0 : Int)) ([]) (y22_1) (y22_2) (y22_3) (y22_4) (y22_5) (y22_6)
                            (fun (y26_0, y26_1, y26_2, y26_3, y26_4, y26_5) =>
                              (F_coder_Encoder_End_a20 fuel (y26_0) (y26_1) (y26_2) (y26_3) (y26_4) (y26_5)
                                (fun (y30_0, y30_1, y30_2, y30_3, y30_4, y30_5, y30_6) =>
                                  k0 ((0 : Int), y30_6))))))))))))))))
abbrev YF30 : Type := (Int) → (Int) → (Int) → (Bool) → (Int) → (Int) → (Int) → ((List Int)) → ((Int × (List Int)) → Option Ans) → Option Ans
theorem F30_eqg (fuel : Nat) (f41 : YF41) (f46 : YF46) (f88 : YF88) (f89 : YF89) (f90 : YF90) (f91_f4f : YF91_f4f) (f91_d0e : YF91_d0e) (f92_975 : YF92_975) (f92_a20 : YF92_a20) (x0 : Int) (x1 : Int) (x2 : Int) (x3 : Bool) (x4 : Int) (x5 : Int) (x6 : Int) (x7 : (List Int)) (k : Ev.Cont) : evalFn tab (Gg30 f41 f46 f88 f89 f90 f91_f4f f91_d0e f92_975 f92_a20) (J30 fuel) kp30 fuel Try.f30 [.agg [.int .i64 x0, .int .i64 x1, .int .i64 x2, .bool x3, .int .i64 x4], .agg [.int .i64 x5, .int .i64 x6, .sl (.int .u8) x7]] [] k = (fun  (k0 : (Int × (List Int)) → Option Ans) =>
  (f88 (x0) (x1) (x2) (x3) (x4)
    (fun y2 =>
      bif !y2 then
       k0 ((2 : Int), [])
      else
       (f89 (x5) (x6) (x7)
         (fun y7 =>
           bif !y7 then
            k0 ((30 : Int), [])
           else
            both ((f90 (x0) (x1) (x2) (x3) (x4)
                (fun y14 =>
                  both ((f41 (x4) (Go.IntKind.i64.wrap (y14 + (1 : Int)))
                      (fun (y20_0, y20_1, y20_2) =>
                        (f46 (y20_0) (y20_2)
                          (fun y24 =>
                            (f91_f4f ((0 : Int)) (x0) (x1) (x2) (x3) (x4) (x5) (x6) (x7) ((0 : Int)) ((0 : Int)) ([])
                              (fun y28 =>
                                (f92_975
                                  (fun y32 =>
                                    k0 ((0 : Int), y32))))))
                          (fun (y24_0, y24_1, y24_2, y24_3, y24_4, y24_5, y24_6) =>
                            (f91_d0e ((0 : Int)) (x0) (x1) (x2) (x3) (x4) (x5) (x6) (x7) ((0 : Int)) ((0 : Int)) ([]) (y24_1) (y24_2) (y24_3) (y24_4) (y24_5) (y24_6)
                              (fun (y28_0, y28_1, y28_2, y28_3, y28_4, y28_5) =>
                                (f92_a20 (y28_0) (y28_1) (y28_2) (y28_3) (y28_4) (y28_5)
                                  (fun (y32_0, y32_1, y32_2, y32_3, y32_4, y32_5, y32_6) =>
                                    k0 ((0 : Int), y32_6))))))))))
                   ((f41 (x4) (Go.IntKind.i64.wrap (y14 + (1 : Int)))
                      (fun (y20_0, y20_1, y20_2) =>
                        (f46 (y20_0) (y20_2)
                          (fun y24 =>
                            (f91_f4f ((0 : Int)) (x0) (x1) (x2) (x3) (x4) (x5) (x6) (x7) ((0 : Int)) ((0 : Int)) ([])
                              (fun y28 =>
                                (f92_975
                                  (fun y32 =>
                                    k0 ((0 : Int), y32))))))
                          (fun (y24_0, y24_1, y24_2, y24_3, y24_4, y24_5, y24_6) =>
                            (f91_d0e ((0 : Int)) (x0) (x1) (x2) (x3) (x4) (x5) (x6) (x7) ((0 : Int)) ((0 : Int)) ([]) (y24_1) (y24_2) (y24_3) (y24_4) (y24_5) (y24_6)
                              (fun (y28_0, y28_1, y28_2, y28_3, y28_4, y28_5) =>
                                (f92_a20 (y28_0) (y28_1) (y28_2) (y28_3) (y28_4) (y28_5)
                                  (fun (y32_0, y32_1, y32_2, y32_3, y32_4, y32_5, y32_6) =>
                                    k0 ((0 : Int), y32_6)))))))))))))
             ((f90 (x0) (x1) (x2) (x3) (x4)
                (fun y14 =>
                  (f41 (x4) (Go.IntKind.i64.wrap (y14 + (1 : Int)))
                    (fun (y18_0, y18_1, y18_2) =>
                      (f46 (y18_0) (y18_2)
                        (fun y22 =>
                          (f91_f4f ((0 : Int)) (x0) (x1) (x2) (x3) (x4) (x5) (x6) (x7) ((0 : Int)) ((0 : Int)) ([])
                            (fun y26 =>
                              (f92_975
                                (fun y30 =>
                                  k0 ((0 : Int), y30))))))
                        (fun (y22_0, y22_1, y22_2, y22_3, y22_4, y22_5, y22_6) =>
                          (f91_d0e ((0 : Int)) (x0) (x1) (x2) (x3) (x4) (x5) (x6) (x7) ((0 : Int)) ((0 : Int)) ([]) (y22_1) (y22_2) (y22_3) (y22_4) (y22_5) (y22_6)
                            (fun (y26_0, y26_1, y26_2, y26_3, y26_4, y26_5) =>
                              (f92_a20 (y26_0) (y26_1) (y26_2) (y26_3) (y26_4) (y26_5)
                                (fun (y30_0, y30_1, y30_2, y30_3, y30_4, y30_5, y30_6) =>
                                  k0 ((0 : Int), y30_6))))))))))))))))) (fun r => match r with | (r0, r1) => k (.tup [(false, [.own 0]), (false, [.int .i64 r0])], [.vec 5 (.int .u8) r1 true])) := by
  kernel_rfl
theorem F30_eq (fuel : Nat) (x0 : Int) (x1 : Int) (x2 : Int) (x3 : Bool) (x4 : Int) (x5 : Int) (x6 : Int) (x7 : (List Int)) (k : Ev.Cont) : evalFn tab (G30 fuel) (J30 fuel) kp30 fuel Try.f30 [.agg [.int .i64 x0, .int .i64 x1, .int .i64 x2, .bool x3, .int .i64 x4], .agg [.int .i64 x5, .int .i64 x6, .sl (.int .u8) x7]] [] k = F_generic_Encode fuel x0 x1 x2 x3 x4 x5 x6 x7 (fun r => match r with | (r0, r1) => k (.tup [(false, [.own 0]), (false, [.int .i64 r0])], [.vec 5 (.int .u8) r1 true])) :=
  F30_eqg fuel (F_coder_New fuel) (F_coder_NewEncoder fuel) (F_generic_Valid fuel) (F_bitmap_Valid fuel) (F_generic_contexts fuel) (F_generic_put_f4f fuel) (F_generic_put_d0e fuel) (F_coder_Encoder_End_975 fuel) (F_coder_Encoder_End_a20 fuel) x0 x1 x2 x3 x4 x5 x6 x7 k
theorem hG30 (fuel : Nat) : GOK Try.prog (G30 fuel) :=
  gok_cons ⟨ok41 fuel, enters_of Try.func41 (by kernel_rfl) rfl⟩ <|
  gok_cons ⟨ok46 fuel, enters_of Try.func46 (by kernel_rfl) rfl⟩ <|
  gok_cons ⟨ok88 fuel, enters_of Try.func88 (by kernel_rfl) rfl⟩ <|
  gok_cons ⟨ok89 fuel, enters_of Try.func89 (by kernel_rfl) rfl⟩ <|
  gok_cons ⟨ok90 fuel, enters_of Try.func90 (by kernel_rfl) rfl⟩ <|
  gok_cons ⟨alt_ok (ok91_f4f fuel) (ok91_d0e fuel), enters_of Try.func91 (by kernel_rfl) rfl⟩ <|
  gok_cons ⟨alt_ok (ok92_975 fuel) (ok92_a20 fuel), enters_of Try.func92 (by kernel_rfl) rfl⟩ <|
  gok_nil
theorem fok30 (fuel : Nat) : FnOK Try.prog 30 (evalFn tab (G30 fuel) (J30 fuel) kp30 fuel Try.f30) :=
  fn_ok tab_ok (hG30 fuel) mixed Try.func30 (c := (Try.f30.body).getD .skip) rfl (fun q hq => by
    rw [(by kernel_rfl : obl (J30 fuel) ((Try.f30.body).getD .skip) = [])] at hq
    cases hq)
noncomputable def mt30 : List Ev.SV → List Ev.Ob → Bool := fun args objs => match args, objs with
  | [.agg [.int .i64 _, .int .i64 _, .int .i64 _, .bool _, .int .i64 _], .agg [.int .i64 _, .int .i64 _, .sl (.int .u8) _]], [] => true
  | _, _ => false
noncomputable def spg30 (F : YF30) : Ev.Spec := fun args objs k => match args, objs with
  | [.agg [.int .i64 x0, .int .i64 x1, .int .i64 x2, .bool x3, .int .i64 x4], .agg [.int .i64 x5, .int .i64 x6, .sl (.int .u8) x7]], [] => bif true then F x0 x1 x2 x3 x4 x5 x6 x7 (fun r => match r with | (r0, r1) => k (.tup [(false, [.own 0]), (false, [.int .i64 r0])], [.vec 5 (.int .u8) r1 true])) else none
  | _, _ => none
noncomputable def spec30 (fuel : Nat) : Ev.Spec := spg30 (F_generic_Encode fuel)
theorem ok30 (fuel : Nat) : FnOK Try.prog 30 (spec30 fuel) := by
  intro args objs kk r h
  unfold spec30 spg30 at h
  split at h
  · skip
    obtain ⟨hb, h⟩ := cond_some' h
    simp only [Bool.and_eq_true, Nat.beq_eq, decide_eq_true_eq] at hb
    clear hb
    exact fok30 fuel _ _ kk r ((F30_eq fuel _ _ _ _ _ _ _ _ kk).trans h)
  · cases h
end Go.Proofs.Ytihfgpfofmjbaaa

set_option linter.unusedVariables false
set_option linter.unusedSimpArgs false
set_option maxRecDepth 100000
set_option maxHeartbeats 2000000
namespace Go.Proofs.Ytihfgpfofmjbaaa
open Go Ev
def kp31 (i : Nat) : Option (List Nat) := Ev.look i []
noncomputable def Gg31 (f : Nat) : Option Ev.Spec := Ev.look f []
noncomputable def G31 (fuel : Nat) : Nat → Option Ev.Spec := Gg31
noncomputable def J31 (fuel : Nat) (i : Nat) : Option Ev.Blk := Ev.look i []
noncomputable def F_generic_Usual (fuel : Nat) (x0 : Int) (k0 : (Int × Int × Int × Bool × Int × Int) → Option Ans) : Option Ans :=
  bif Decidable.decide (x0 < (0 : Int)) then
   k0 ((0 : Int), (0 : Int), (0 : Int), Bool.false, (0 : Int), (2 : Int))
  else
   bif Decidable.decide (x0 > (3 : Int)) then
    k0 ((0 : Int), (0 : Int), (0 : Int), Bool.false, (0 : Int), (2 : Int))
   else
    k0 (x0, Go.IntKind.i64.wrap ((3 : Int) - x0.tmod (2 : Int)), (-1 : Int), Bool.true, (0 : Int), (0 : Int))
abbrev YF31 : Type := (Int) → ((Int × Int × Int × Bool × Int × Int) → Option Ans) → Option Ans
theorem F31_eq (fuel : Nat) (x0 : Int) (k : Ev.Cont) : evalFn tab (G31 fuel) (J31 fuel) kp31 fuel Try.f31 [.c (.int .i64 x0)] [] k = F_generic_Usual fuel x0 (fun r => match r with | (r0, r1, r2, r3, r4, r5) => k (.tup [(true, [.int .i64 r0, .int .i64 r1, .int .i64 r2, .bool r3, .int .i64 r4]), (false, [.int .i64 r5])], [])) := by
  kernel_rfl
theorem hG31 (fuel : Nat) : GOK Try.prog (G31 fuel) :=
  gok_nil
theorem fok31 (fuel : Nat) : FnOK Try.prog 31 (evalFn tab (G31 fuel) (J31 fuel) kp31 fuel Try.f31) :=
  fn_ok tab_ok (hG31 fuel) mixed Try.func31 (c := (Try.f31.body).getD .skip) rfl (fun q hq => by
    rw [(by kernel_rfl : obl (J31 fuel) ((Try.f31.body).getD .skip) = [])] at hq
    cases hq)
noncomputable def mt31 : List Ev.SV → List Ev.Ob → Bool := fun args objs => match args, objs with
  | [.c (.int .i64 _)], [] => true
  | _, _ => false
noncomputable def spg31 (F : YF31) : Ev.Spec := fun args objs k => match args, objs with
  | [.c (.int .i64 x0)], [] => bif true then F x0 (fun r => match r with | (r0, r1, r2, r3, r4, r5) => k (.tup [(true, [.int .i64 r0, .int .i64 r1, .int .i64 r2, .bool r3, .int .i64 r4]), (false, [.int .i64 r5])], [])) else none
  | _, _ => none
noncomputable def spec31 (fuel : Nat) : Ev.Spec := spg31 (F_generic_Usual fuel)
theorem ok31 (fuel : Nat) : FnOK Try.prog 31 (spec31 fuel) := by
  intro args objs kk r h
  unfold spec31 spg31 at h
  split at h
  · skip
    obtain ⟨hb, h⟩ := cond_some' h
    simp only [Bool.and_eq_true, Nat.beq_eq, decide_eq_true_eq] at hb
    clear hb
    exact fok31 fuel _ _ kk r ((F31_eq fuel _ kk).trans h)
  · cases h
end Go.Proofs.Ytihfgpfofmjbaaa

set_option linter.unusedVariables false
set_option linter.unusedSimpArgs false
set_option maxRecDepth 100000
set_option maxHeartbeats 2000000
namespace Go.Proofs.Ytihfgpfofmjbaaa
open Go Ev
def kp28 (i : Nat) : Option (List Nat) := Ev.look i [(4, [1, 2, 4, 5, 11]), (100000, [2, 4]), (400000, [2, 3])]
noncomputable def Gg28 (f30 : YF30) (f31 : YF31) (f : Nat) : Option Ev.Spec := Ev.look f [(30, spg30 f30), (31, spg31 f31)]
noncomputable def G28 (fuel : Nat) : Nat → Option Ev.Spec := Gg28 (F_generic_Encode fuel) (F_generic_Usual fuel)
noncomputable def S_generic_Best_0 (fuel : Nat) (v : Int × Int × Int × Int × (List Int) × Int × Int × Int × Bool × Int × Int × Int × Int × Bool × Int) (c : (Int × Int × Int × Int × (List Int) × Int × Int × Int × Bool × Int × Int × Int × Int × Bool × Int) → Option Ans) (B : (Int × Int × Int × Int × Bool × Int → Option Ans) × (Int × Int × Int × Bool × Int × Int × Int × Int × Bool × Int → Option Ans)) : Option Ans := match v, B with
  | (x0, x1, x2, x3, x4, x5, x6, x7, x8, x9, x10, x11, x12, x13, x14), (ret, b) =>
   bif Decidable.decide (x1 < (4 : Int)) then
      (F_generic_Usual fuel (x1)
        (fun (y3_0, y3_1, y3_2, y3_3, y3_4, y3_5) =>
          (F_generic_Encode fuel (y3_0) (y3_1) (y3_2) (y3_3) (y3_4) (x2) (x3) (x4)
            (fun (y7_0, y7_1) =>
              bif y7_0 != (0 : Int) then
               ret (y7_0, (0 : Int), (0 : Int), (0 : Int), Bool.false, (0 : Int))
              else
               bif Decidable.decide (x0 < (0 : Int)) then
                c ((↑y7_1.length : Int), Go.IntKind.i64.wrap (x1 + (1 : Int)), x2, x3, x4, x5, x6, x7, x8, x9, y3_0, y3_1, y3_2, y3_3, y3_4)
               else
                bif Decidable.decide ((↑y7_1.length : Int) < x0) then
                 c ((↑y7_1.length : Int), Go.IntKind.i64.wrap (x1 + (1 : Int)), x2, x3, x4, x5, x6, x7, x8, x9, y3_0, y3_1, y3_2, y3_3, y3_4)
                else
                 c (x0, Go.IntKind.i64.wrap (x1 + (1 : Int)), x2, x3, x4, x5, x6, x7, x8, x9, x10, x11, x12, x13, x14)))))
     else
      b (x5, x6, x7, x8, x9, x10, x11, x12, x13, x14)
noncomputable def L_generic_Best_0 (fuel : Nat) (v : Int × Int × Int × Int × (List Int) × Int × Int × Int × Bool × Int × Int × Int × Int × Bool × Int) (ret : (Int × Int × Int × Int × Bool × Int → Option Ans)) (b : (Int × Int × Int × Bool × Int × Int × Int × Int × Bool × Int → Option Ans)) : Option Ans := iter (S_generic_Best_0 fuel) fuel v (ret, b)
noncomputable def J28_0 (fuel : Nat) (i : Nat) : Option Ev.Blk := Ev.look i []
noncomputable def T28_0 (v : Int × Int × Int × Int × (List Int) × Int × Int × Int × Bool × Int × Int × Int × Int × Bool × Int) : Ev.St := match v with | (x0, x1, x2, x3, x4, x5, x6, x7, x8, x9, x10, x11, x12, x13, x14) => ⟨[(1, .c (.ptr 0 0)), (2, .c (.ptr 1 0)), (4, .c (.ptr 2 0)), (5, .c (.int .i64 x0)), (11, .c (.int .i64 x1))], [(0, .cells 39 [.int .i64 x2, .int .i64 x3, .sl (.int .u8) x4]), (1, .cells 46 [.int .i64 x5, .int .i64 x6, .int .i64 x7, .bool x8, .int .i64 x9]), (2, .cells 46 [.int .i64 x10, .int .i64 x11, .int .i64 x12, .bool x13, .int .i64 x14])], 3, 0⟩
noncomputable def E28_0 (K : Ev.Ex → Ev.St → Option Ans) : (Int × Int × Int × Int × Bool × Int → Option Ans) × (Int × Int × Int × Bool × Int × Int × Int × Int × Bool × Int → Option Ans) := ((fun v => match v with | (x0, x1, x2, x3, x4, x5) => K .ret ⟨[(2, .c (.ptr 0 0)), (3, .c (.int .i64 x0))], [(0, .cells 46 [.int .i64 x1, .int .i64 x2, .int .i64 x3, .bool x4, .int .i64 x5])], 1, 0⟩), (fun v => match v with | (x0, x1, x2, x3, x4, x5, x6, x7, x8, x9) => K .normal ⟨[(2, .c (.ptr 0 0)), (4, .c (.ptr 1 0))], [(0, .cells 46 [.int .i64 x0, .int .i64 x1, .int .i64 x2, .bool x3, .int .i64 x4]), (1, .cells 46 [.int .i64 x5, .int .i64 x6, .int .i64 x7, .bool x8, .int .i64 x9])], 2, 0⟩))
theorem S28_0_okg (fuel : Nat) (f30 : YF30) (f31 : YF31) (R : Ev.St → Option Ans) (K : Ev.Ex → Ev.St → Option Ans) (x0 : Int) (x1 : Int) (x2 : Int) (x3 : Int) (x4 : (List Int)) (x5 : Int) (x6 : Int) (x7 : Int) (x8 : Bool) (x9 : Int) (x10 : Int) (x11 : Int) (x12 : Int) (x13 : Bool) (x14 : Int) : evalCode tab (Gg28 f30 f31) (J28_0 fuel) kp28 fuel (bodyOf 0 Try.f28) (T28_0 (x0, x1, x2, x3, x4, x5, x6, x7, x8, x9, x10, x11, x12, x13, x14)) (lc kp28 4 0 R K) = (fun (c : (Int × Int × Int × Int × (List Int) × Int × Int × Int × Bool × Int × Int × Int × Int × Bool × Int) → Option Ans) (B : (Int × Int × Int × Int × Bool × Int → Option Ans) × (Int × Int × Int × Bool × Int × Int × Int × Int × Bool × Int → Option Ans)) => match B with
  | (ret, b) =>
   bif Decidable.decide (x1 < (4 : Int)) then
      (f31 (x1)
        (fun (y3_0, y3_1, y3_2, y3_3, y3_4, y3_5) =>
          (f30 (y3_0) (y3_1) (y3_2) (y3_3) (y3_4) (x2) (x3) (x4)
            (fun (y7_0, y7_1) =>
              bif y7_0 != (0 : Int) then
               ret (y7_0, (0 : Int), (0 : Int), (0 : Int), Bool.false, (0 : Int))
              else
               bif Decidable.decide (x0 < (0 : Int)) then
                c ((↑y7_1.length : Int), Go.IntKind.i64.wrap (x1 + (1 : Int)), x2, x3, x4, x5, x6, x7, x8, x9, y3_0, y3_1, y3_2, y3_3, y3_4)
               else
                bif Decidable.decide ((↑y7_1.length : Int) < x0) then
                 c ((↑y7_1.length : Int), Go.IntKind.i64.wrap (x1 + (1 : Int)), x2, x3, x4, x5, x6, x7, x8, x9, y3_0, y3_1, y3_2, y3_3, y3_4)
                else
                 c (x0, Go.IntKind.i64.wrap (x1 + (1 : Int)), x2, x3, x4, x5, x6, x7, x8, x9, x10, x11, x12, x13, x14)))))
     else
      b (x5, x6, x7, x8, x9, x10, x11, x12, x13, x14)) (fun v => R (T28_0 v)) (E28_0 K) := by
  kernel_rfl
theorem S28_0_ok (fuel : Nat) (R : Ev.St → Option Ans) (K : Ev.Ex → Ev.St → Option Ans) (x0 : Int) (x1 : Int) (x2 : Int) (x3 : Int) (x4 : (List Int)) (x5 : Int) (x6 : Int) (x7 : Int) (x8 : Bool) (x9 : Int) (x10 : Int) (x11 : Int) (x12 : Int) (x13 : Bool) (x14 : Int) : evalCode tab (G28 fuel) (J28_0 fuel) kp28 fuel (bodyOf 0 Try.f28) (T28_0 (x0, x1, x2, x3, x4, x5, x6, x7, x8, x9, x10, x11, x12, x13, x14)) (lc kp28 4 0 R K) = S_generic_Best_0 fuel (x0, x1, x2, x3, x4, x5, x6, x7, x8, x9, x10, x11, x12, x13, x14) (fun v => R (T28_0 v)) (E28_0 K) :=
  S28_0_okg fuel (F_generic_Encode fuel) (F_generic_Usual fuel) R K x0 x1 x2 x3 x4 x5 x6 x7 x8 x9 x10 x11 x12 x13 x14
noncomputable def B28_0 (fuel : Nat) : Ev.Blk := fun st K => match canonO (kp28 4) st with
  | some s => (match s with
    | ⟨[(q0, .c (.ptr q1 q2)), (q3, .c (.ptr q4 q5)), (q6, .c (.ptr q7 q8)), (q9, .c (.int .i64 x0)), (q10, .c (.int .i64 x1))], [(q11, .cells q12 [.int .i64 x2, .int .i64 x3, .sl (.int .u8) x4]), (q13, .cells q14 [.int .i64 x5, .int .i64 x6, .int .i64 x7, .bool x8, .int .i64 x9]), (q15, .cells q16 [.int .i64 x10, .int .i64 x11, .int .i64 x12, .bool x13, .int .i64 x14])], q17, q18⟩ => bif Nat.beq q0 1 && Nat.beq q1 0 && Nat.beq q2 0 && Nat.beq q3 2 && Nat.beq q4 1 && Nat.beq q5 0 && Nat.beq q6 4 && Nat.beq q7 2 && Nat.beq q8 0 && Nat.beq q9 5 && Nat.beq q10 11 && Nat.beq q11 0 && Nat.beq q12 39 && Nat.beq q13 1 && Nat.beq q14 46 && Nat.beq q15 2 && Nat.beq q16 46 && Nat.beq q17 3 && Nat.beq q18 0 then iter (S_generic_Best_0 fuel) fuel (x0, x1, x2, x3, x4, x5, x6, x7, x8, x9, x10, x11, x12, x13, x14) (E28_0 K) else none
    | _ => none)
  | none => none
theorem B28_0_ok (fuel : Nat) (st : Ev.St) (K : Ev.Ex → Ev.St → Option Ans) (r : Ans) (h : B28_0 fuel st K = some r) : evalCode tab (G28 fuel) (J28_0 fuel) kp28 fuel (.block 0 (.loop (bodyOf 0 Try.f28))) st K = some r := by
  unfold B28_0 at h
  split at h
  · rename_i s hs
    split at h
    · skip
      obtain ⟨hb, h⟩ := cond_some' h
      simp only [Bool.and_eq_true, Nat.beq_eq, decide_eq_true_eq] at hb
      obtain ⟨⟨⟨⟨⟨⟨⟨⟨⟨⟨⟨⟨⟨⟨⟨⟨⟨⟨rfl, rfl⟩, rfl⟩, rfl⟩, rfl⟩, rfl⟩, rfl⟩, rfl⟩, rfl⟩, rfl⟩, rfl⟩, rfl⟩, rfl⟩, rfl⟩, rfl⟩, rfl⟩, rfl⟩, rfl⟩, rfl⟩ := hb
      exact blk_loop (S := T28_0) (ks := E28_0) (step := S_generic_Best_0 fuel) (v := (_, _, _, _, _, _, _, _, _, _, _, _, _, _, _)) (by kernel_rfl) (by kernel_rfl) (fun R K v => by obtain ⟨x0, x1, x2, x3, x4, x5, x6, x7, x8, x9, x10, x11, x12, x13, x14⟩ := v; exact S28_0_ok fuel R K x0 x1 x2 x3 x4 x5 x6 x7 x8 x9 x10 x11 x12 x13 x14) hs h
    · cases h
  · cases h
noncomputable def J28 (fuel : Nat) (i : Nat) : Option Ev.Blk := Ev.look i [(100000, B28_0 fuel)]
noncomputable def F_generic_Best (fuel : Nat) (x0 : Int) (x1 : Int) (x2 : (List Int)) (k0 : (Int × Int × Int × Bool × Int × Int) → Option Ans) : Option Ans :=
  (L_generic_Best_0 fuel ((-1 : Int), (0 : Int), x0, x1, x2, (0 : Int), (0 : Int), (0 : Int), Bool.false, (0 : Int), (0 : Int), (0 : Int), (0 : Int), Bool.false, (0 : Int))
    (fun (ret0_0, ret0_1, ret0_2, ret0_3, ret0_4, ret0_5) =>
      k0 (ret0_1, ret0_2, ret0_3, ret0_4, ret0_5, ret0_0))
    (fun (b0_0, b0_1, b0_2, b0_3, b0_4, b0_5, b0_6, b0_7, b0_8, b0_9) =>
      k0 (b0_5, b0_6, b0_7, b0_8, b0_9, (0 : Int))))
abbrev YF28 : Type := (Int) → (Int) → ((List Int)) → ((Int × Int × Int × Bool × Int × Int) → Option Ans) → Option Ans
theorem F28_eqg (fuel : Nat) (f30 : YF30) (f31 : YF31) (x0 : Int) (x1 : Int) (x2 : (List Int)) (k : Ev.Cont) : evalFn tab (Gg28 f30 f31) (J28 fuel) kp28 fuel Try.f28 [.agg [.int .i64 x0, .int .i64 x1, .sl (.int .u8) x2]] [] k = (fun  (k0 : (Int × Int × Int × Bool × Int × Int) → Option Ans) =>
  (L_generic_Best_0 fuel ((-1 : Int), (0 : Int), x0, x1, x2, (0 : Int), (0 : Int), (0 : Int), Bool.false, (0 : Int), (0 : Int), (0 : Int), (0 : Int), Bool.false, (0 : Int))
    (fun (ret0_0, ret0_1, ret0_2, ret0_3, ret0_4, ret0_5) =>
      k0 (ret0_1, ret0_2, ret0_3, ret0_4, ret0_5, ret0_0))
    (fun (b0_0, b0_1, b0_2, b0_3, b0_4, b0_5, b0_6, b0_7, b0_8, b0_9) =>
      k0 (b0_5, b0_6, b0_7, b0_8, b0_9, (0 : Int))))) (fun r => match r with | (r0, r1, r2, r3, r4, r5) => k (.tup [(true, [.int .i64 r0, .int .i64 r1, .int .i64 r2, .bool r3, .int .i64 r4]), (false, [.int .i64 r5])], [])) := by
  kernel_rfl
theorem F28_eq (fuel : Nat) (x0 : Int) (x1 : Int) (x2 : (List Int)) (k : Ev.Cont) : evalFn tab (G28 fuel) (J28 fuel) kp28 fuel Try.f28 [.agg [.int .i64 x0, .int .i64 x1, .sl (.int .u8) x2]] [] k = F_generic_Best fuel x0 x1 x2 (fun r => match r with | (r0, r1, r2, r3, r4, r5) => k (.tup [(true, [.int .i64 r0, .int .i64 r1, .int .i64 r2, .bool r3, .int .i64 r4]), (false, [.int .i64 r5])], [])) :=
  F28_eqg fuel (F_generic_Encode fuel) (F_generic_Usual fuel) x0 x1 x2 k
theorem hG28 (fuel : Nat) : GOK Try.prog (G28 fuel) :=
  gok_cons ⟨ok30 fuel, enters_of Try.func30 (by kernel_rfl) rfl⟩ <|
  gok_cons ⟨ok31 fuel, enters_of Try.func31 (by kernel_rfl) rfl⟩ <|
  gok_nil
theorem B28_0_blk (fuel : Nat) : BlkOK Try.prog Try.f28.ntmps (.block 0 (.loop (bodyOf 0 Try.f28))) (B28_0 fuel) :=
  blk_of (blk_of_code tab_ok (hG28 fuel) mixed (J := J28_0 fuel) (kp := kp28) (fuel := fuel) (by kernel_rfl) (fun q hq => by
    rw [(by kernel_rfl : obl (J28_0 fuel) (.block 0 (.loop (bodyOf 0 Try.f28))) = [])] at hq
    cases hq)) (B28_0_ok fuel)
theorem fok28 (fuel : Nat) : FnOK Try.prog 28 (evalFn tab (G28 fuel) (J28 fuel) kp28 fuel Try.f28) :=
  fn_ok tab_ok (hG28 fuel) mixed Try.func28 (c := (Try.f28.body).getD .skip) rfl (fun q hq => by
    rw [(by kernel_rfl : obl (J28 fuel) ((Try.f28.body).getD .skip) = [(.block 0 (.loop (bodyOf 0 Try.f28)), B28_0 fuel)])] at hq
    simp only [List.mem_cons, List.not_mem_nil, or_false] at hq
    subst hq
    · exact B28_0_blk fuel)
noncomputable def mt28 : List Ev.SV → List Ev.Ob → Bool := fun args objs => match args, objs with
  | [.agg [.int .i64 _, .int .i64 _, .sl (.int .u8) _]], [] => true
  | _, _ => false
noncomputable def spg28 (F : YF28) : Ev.Spec := fun args objs k => match args, objs with
  | [.agg [.int .i64 x0, .int .i64 x1, .sl (.int .u8) x2]], [] => bif true then F x0 x1 x2 (fun r => match r with | (r0, r1, r2, r3, r4, r5) => k (.tup [(true, [.int .i64 r0, .int .i64 r1, .int .i64 r2, .bool r3, .int .i64 r4]), (false, [.int .i64 r5])], [])) else none
  | _, _ => none
noncomputable def spec28 (fuel : Nat) : Ev.Spec := spg28 (F_generic_Best fuel)
theorem ok28 (fuel : Nat) : FnOK Try.prog 28 (spec28 fuel) := by
  intro args objs kk r h
  unfold spec28 spg28 at h
  split at h
  · skip
    obtain ⟨hb, h⟩ := cond_some' h
    simp only [Bool.and_eq_true, Nat.beq_eq, decide_eq_true_eq] at hb
    clear hb
    exact fok28 fuel _ _ kk r ((F28_eq fuel _ _ _ kk).trans h)
  · cases h
end Go.Proofs.Ytihfgpfofmjbaaa

set_option linter.unusedVariables false
set_option linter.unusedSimpArgs false
set_option maxRecDepth 100000
set_option maxHeartbeats 2000000
namespace Go.Proofs.Ytihfgpfofmjbaaa
open Go Ev
def kp85 (i : Nat) : Option (List Nat) := Ev.look i []
noncomputable def Gg85 (f88 : YF88) (f89 : YF89) (f97 : YF97) (f158_a34 : YF158_a34) (f : Nat) : Option Ev.Spec := Ev.look f [(88, spg88 f88), (89, spg89 f89), (97, spg97 f97), (158, spg158_a34 f158_a34)]
noncomputable def G85 (fuel : Nat) : Nat → Option Ev.Spec := Gg85 (F_generic_Valid fuel) (F_bitmap_Valid fuel) (F_generic_newPlane fuel) (F_generic_plane_context_a34 fuel)
noncomputable def J85 (fuel : Nat) (i : Nat) : Option Ev.Blk := Ev.look i []
noncomputable def F_generic_Context (fuel : Nat) (x0 : Int) (x1 : Int) (x2 : Int) (x3 : Bool) (x4 : Int) (x5 : Int) (x6 : Int) (x7 : (List Int)) (x8 : Int) (x9 : Int) (k0 : (Int × Int) → Option Ans) : Option Ans :=
  (F_generic_Valid fuel (x0) (x1) (x2) (x3) (x4)
    (fun y2 =>
      bif !y2 then
       k0 ((0 : Int), (2 : Int))
      else
       (F_bitmap_Valid fuel (x5) (x6) (x7)
         (fun y7 =>
           bif !y7 then
            k0 ((0 : Int), (30 : Int))
           else
            bif Decidable.decide (x8 < (0 : Int)) then
             k0 ((0 : Int), (2 : Int))
            else
             bif Decidable.decide (x9 < (0 : Int)) then
              k0 ((0 : Int), (2 : Int))
             else
              bif Decidable.decide (x8 ≥ x5) then
               k0 ((0 : Int), (2 : Int))
              else
               bif Decidable.decide (x9 ≥ x6) then
                k0 ((0 : Int), (2 : Int))
               else
                (F_generic_newPlane fuel (x0) (x1) (x2) (x3) (x4) (x5) (x6)
                  (fun (y16_0, y16_1, y16_2, y16_3) =>
                    (F_generic_plane_context_a34 fuel (x8) (x9) (y16_0) (y16_1) (x7) (y16_3)
                      (fun (y20_0, y20_1, y20_2, y20_3, y20_4) =>
                        k0 (y20_0, (0 : Int))))))))))
abbrev YF85 : Type := (Int) → (Int) → (Int) → (Bool) → (Int) → (Int) → (Int) → ((List Int)) → (Int) → (Int) → ((Int × Int) → Option Ans) → Option Ans
theorem F85_eqg (fuel : Nat) (f88 : YF88) (f89 : YF89) (f97 : YF97) (f158_a34 : YF158_a34) (x0 : Int) (x1 : Int) (x2 : Int) (x3 : Bool) (x4 : Int) (x5 : Int) (x6 : Int) (x7 : (List Int)) (x8 : Int) (x9 : Int) (k : Ev.Cont) : evalFn tab (Gg85 f88 f89 f97 f158_a34) (J85 fuel) kp85 fuel Try.f85 [.agg [.int .i64 x0, .int .i64 x1, .int .i64 x2, .bool x3, .int .i64 x4], .agg [.int .i64 x5, .int .i64 x6, .sl (.int .u8) x7], .c (.int .i64 x8), .c (.int .i64 x9)] [] k = (fun  (k0 : (Int × Int) → Option Ans) =>
  (f88 (x0) (x1) (x2) (x3) (x4)
    (fun y2 =>
      bif !y2 then
       k0 ((0 : Int), (2 : Int))
      else
       (f89 (x5) (x6) (x7)
         (fun y7 =>
           bif !y7 then
            k0 ((0 : Int), (30 : Int))
           else
            bif Decidable.decide (x8 < (0 : Int)) then
             k0 ((0 : Int), (2 : Int))
            else
             bif Decidable.decide (x9 < (0 : Int)) then
              k0 ((0 : Int), (2 : Int))
             else
              bif Decidable.decide (x8 ≥ x5) then
               k0 ((0 : Int), (2 : Int))
              else
               bif Decidable.decide (x9 ≥ x6) then
                k0 ((0 : Int), (2 : Int))
               else
                (f97 (x0) (x1) (x2) (x3) (x4) (x5) (x6)
                  (fun (y16_0, y16_1, y16_2, y16_3) =>
                    (f158_a34 (x8) (x9) (y16_0) (y16_1) (x7) (y16_3)
                      (fun (y20_0, y20_1, y20_2, y20_3, y20_4) =>
                        k0 (y20_0, (0 : Int))))))))))) (fun r => match r with | (r0, r1) => k (.tup [(false, [.int .i64 r0]), (false, [.int .i64 r1])], [])) := by
  kernel_rfl
theorem F85_eq (fuel : Nat) (x0 : Int) (x1 : Int) (x2 : Int) (x3 : Bool) (x4 : Int) (x5 : Int) (x6 : Int) (x7 : (List Int)) (x8 : Int) (x9 : Int) (k : Ev.Cont) : evalFn tab (G85 fuel) (J85 fuel) kp85 fuel Try.f85 [.agg [.int .i64 x0, .int .i64 x1, .int .i64 x2, .bool x3, .int .i64 x4], .agg [.int .i64 x5, .int .i64 x6, .sl (.int .u8) x7], .c (.int .i64 x8), .c (.int .i64 x9)] [] k = F_generic_Context fuel x0 x1 x2 x3 x4 x5 x6 x7 x8 x9 (fun r => match r with | (r0, r1) => k (.tup [(false, [.int .i64 r0]), (false, [.int .i64 r1])], [])) :=
  F85_eqg fuel (F_generic_Valid fuel) (F_bitmap_Valid fuel) (F_generic_newPlane fuel) (F_generic_plane_context_a34 fuel) x0 x1 x2 x3 x4 x5 x6 x7 x8 x9 k
theorem hG85 (fuel : Nat) : GOK Try.prog (G85 fuel) :=
  gok_cons ⟨ok88 fuel, enters_of Try.func88 (by kernel_rfl) rfl⟩ <|
  gok_cons ⟨ok89 fuel, enters_of Try.func89 (by kernel_rfl) rfl⟩ <|
  gok_cons ⟨ok97 fuel, enters_of Try.func97 (by kernel_rfl) rfl⟩ <|
  gok_cons ⟨ok158_a34 fuel, enters_of Try.func158 (by kernel_rfl) rfl⟩ <|
  gok_nil
theorem fok85 (fuel : Nat) : FnOK Try.prog 85 (evalFn tab (G85 fuel) (J85 fuel) kp85 fuel Try.f85) :=
  fn_ok tab_ok (hG85 fuel) mixed Try.func85 (c := (Try.f85.body).getD .skip) rfl (fun q hq => by
    rw [(by kernel_rfl : obl (J85 fuel) ((Try.f85.body).getD .skip) = [])] at hq
    cases hq)
noncomputable def mt85 : List Ev.SV → List Ev.Ob → Bool := fun args objs => match args, objs with
  | [.agg [.int .i64 _, .int .i64 _, .int .i64 _, .bool _, .int .i64 _], .agg [.int .i64 _, .int .i64 _, .sl (.int .u8) _], .c (.int .i64 _), .c (.int .i64 _)], [] => true
  | _, _ => false
noncomputable def spg85 (F : YF85) : Ev.Spec := fun args objs k => match args, objs with
  | [.agg [.int .i64 x0, .int .i64 x1, .int .i64 x2, .bool x3, .int .i64 x4], .agg [.int .i64 x5, .int .i64 x6, .sl (.int .u8) x7], .c (.int .i64 x8), .c (.int .i64 x9)], [] => bif true then F x0 x1 x2 x3 x4 x5 x6 x7 x8 x9 (fun r => match r with | (r0, r1) => k (.tup [(false, [.int .i64 r0]), (false, [.int .i64 r1])], [])) else none
  | _, _ => none
noncomputable def spec85 (fuel : Nat) : Ev.Spec := spg85 (F_generic_Context fuel)
theorem ok85 (fuel : Nat) : FnOK Try.prog 85 (spec85 fuel) := by
  intro args objs kk r h
  unfold spec85 spg85 at h
  split at h
  · skip
    obtain ⟨hb, h⟩ := cond_some' h
    simp only [Bool.and_eq_true, Nat.beq_eq, decide_eq_true_eq] at hb
    clear hb
    exact fok85 fuel _ _ kk r ((F85_eq fuel _ _ _ _ _ _ _ _ _ _ kk).trans h)
  · cases h
end Go.Proofs.Ytihfgpfofmjbaaa

set_option linter.unusedVariables false
set_option linter.unusedSimpArgs false
set_option maxRecDepth 100000
set_option maxHeartbeats 2000000
namespace Go.Proofs.Ytihfgpfofmjbaaa
open Go Ev
def kp84 (i : Nat) : Option (List Nat) := Ev.look i []
noncomputable def Gg84 (f88 : YF88) (f90 : YF90) (f : Nat) : Option Ev.Spec := Ev.look f [(88, spg88 f88), (90, spg90 f90)]
noncomputable def G84 (fuel : Nat) : Nat → Option Ev.Spec := Gg84 (F_generic_Valid fuel) (F_generic_contexts fuel)
noncomputable def J84 (fuel : Nat) (i : Nat) : Option Ev.Blk := Ev.look i []
noncomputable def F_generic_Size (fuel : Nat) (x0 : Int) (x1 : Int) (x2 : Int) (x3 : Bool) (x4 : Int) (k0 : (Int × Int) → Option Ans) : Option Ans :=
  (F_generic_Valid fuel (x0) (x1) (x2) (x3) (x4)
    (fun y2 =>
      bif !y2 then
       k0 ((0 : Int), (2 : Int))
      else
       (F_generic_contexts fuel (x0) (x1) (x2) (x3) (x4)
         (fun y7 =>
           k0 (Go.IntKind.i64.wrap (y7 + (1 : Int)), (0 : Int))))))
abbrev YF84 : Type := (Int) → (Int) → (Int) → (Bool) → (Int) → ((Int × Int) → Option Ans) → Option Ans
theorem F84_eqg (fuel : Nat) (f88 : YF88) (f90 : YF90) (x0 : Int) (x1 : Int) (x2 : Int) (x3 : Bool) (x4 : Int) (k : Ev.Cont) : evalFn tab (Gg84 f88 f90) (J84 fuel) kp84 fuel Try.f84 [.agg [.int .i64 x0, .int .i64 x1, .int .i64 x2, .bool x3, .int .i64 x4]] [] k = (fun  (k0 : (Int × Int) → Option Ans) =>
  (f88 (x0) (x1) (x2) (x3) (x4)
    (fun y2 =>
      bif !y2 then
       k0 ((0 : Int), (2 : Int))
      else
       (f90 (x0) (x1) (x2) (x3) (x4)
         (fun y7 =>
           k0 (Go.IntKind.i64.wrap (y7 + (1 : Int)), (0 : Int))))))) (fun r => match r with | (r0, r1) => k (.tup [(false, [.int .i64 r0]), (false, [.int .i64 r1])], [])) := by
  kernel_rfl
theorem F84_eq (fuel : Nat) (x0 : Int) (x1 : Int) (x2 : Int) (x3 : Bool) (x4 : Int) (k : Ev.Cont) : evalFn tab (G84 fuel) (J84 fuel) kp84 fuel Try.f84 [.agg [.int .i64 x0, .int .i64 x1, .int .i64 x2, .bool x3, .int .i64 x4]] [] k = F_generic_Size fuel x0 x1 x2 x3 x4 (fun r => match r with | (r0, r1) => k (.tup [(false, [.int .i64 r0]), (false, [.int .i64 r1])], [])) :=
  F84_eqg fuel (F_generic_Valid fuel) (F_generic_contexts fuel) x0 x1 x2 x3 x4 k
theorem hG84 (fuel : Nat) : GOK Try.prog (G84 fuel) :=
  gok_cons ⟨ok88 fuel, enters_of Try.func88 (by kernel_rfl) rfl⟩ <|
  gok_cons ⟨ok90 fuel, enters_of Try.func90 (by kernel_rfl) rfl⟩ <|
  gok_nil
theorem fok84 (fuel : Nat) : FnOK Try.prog 84 (evalFn tab (G84 fuel) (J84 fuel) kp84 fuel Try.f84) :=
  fn_ok tab_ok (hG84 fuel) mixed Try.func84 (c := (Try.f84.body).getD .skip) rfl (fun q hq => by
    rw [(by kernel_rfl : obl (J84 fuel) ((Try.f84.body).getD .skip) = [])] at hq
    cases hq)
noncomputable def mt84 : List Ev.SV → List Ev.Ob → Bool := fun args objs => match args, objs with
  | [.agg [.int .i64 _, .int .i64 _, .int .i64 _, .bool _, .int .i64 _]], [] => true
  | _, _ => false
noncomputable def spg84 (F : YF84) : Ev.Spec := fun args objs k => match args, objs with
  | [.agg [.int .i64 x0, .int .i64 x1, .int .i64 x2, .bool x3, .int .i64 x4]], [] => bif true then F x0 x1 x2 x3 x4 (fun r => match r with | (r0, r1) => k (.tup [(false, [.int .i64 r0]), (false, [.int .i64 r1])], [])) else none
  | _, _ => none
noncomputable def spec84 (fuel : Nat) : Ev.Spec := spg84 (F_generic_Size fuel)
theorem ok84 (fuel : Nat) : FnOK Try.prog 84 (spec84 fuel) := by
  intro args objs kk r h
  unfold spec84 spg84 at h
  split at h
  · skip
    obtain ⟨hb, h⟩ := cond_some' h
    simp only [Bool.and_eq_true, Nat.beq_eq, decide_eq_true_eq] at hb
    clear hb
    exact fok84 fuel _ _ kk r ((F84_eq fuel _ _ _ _ _ kk).trans h)
  · cases h
end Go.Proofs.Ytihfgpfofmjbaaa

set_option linter.unusedVariables false
set_option linter.unusedSimpArgs false
set_option maxRecDepth 100000
set_option maxHeartbeats 2000000
namespace Go.Proofs.Ytihfgpfofmjbaaa
open Go Ev
def kp27 (i : Nat) : Option (List Nat) := Ev.look i []
noncomputable def Gg27 (f84 : YF84) (f85 : YF85) (f : Nat) : Option Ev.Spec := Ev.look f [(84, spg84 f84), (85, spg85 f85)]
noncomputable def G27 (fuel : Nat) : Nat → Option Ev.Spec := Gg27 (F_generic_Size fuel) (F_generic_Context fuel)
noncomputable def J27 (fuel : Nat) (i : Nat) : Option Ev.Blk := Ev.look i []
noncomputable def F_law07_Sane (fuel : Nat)  (k0 : (Bool) → Option Ans) : Option Ans :=
  (F_generic_Size fuel ((3 : Int)) ((2 : Int)) ((-1 : Int)) (Bool.false) ((0 : Int))
    (fun (y2_0, y2_1) =>
      (F_generic_Context fuel ((3 : Int)) ((-2 : Int)) ((0 : Int)) (Bool.false) ((0 : Int)) ((4 : Int)) ((1 : Int)) ([(1 : Int), (0 : Int), (1 : Int), (1 : Int)]) ((2 : Int)) ((0 : Int))
        (fun (y6_0, y6_1) =>
          bif y2_1 == (0 : Int) then
           bif y2_0 == (33 : Int) then
            bif y6_1 == (0 : Int) then
             k0 (y6_0 == (1 : Int))
            else
             k0 Bool.false
           else
            k0 Bool.false
          else
           k0 Bool.false))))
abbrev YF27 : Type := ((Bool) → Option Ans) → Option Ans
theorem F27_eqg (fuel : Nat) (f84 : YF84) (f85 : YF85)  (k : Ev.Cont) : evalFn tab (Gg27 f84 f85) (J27 fuel) kp27 fuel Try.f27 [] [] k = (fun  (k0 : (Bool) → Option Ans) =>
  (f84 ((3 : Int)) ((2 : Int)) ((-1 : Int)) (Bool.false) ((0 : Int))
    (fun (y2_0, y2_1) =>
      (f85 ((3 : Int)) ((-2 : Int)) ((0 : Int)) (Bool.false) ((0 : Int)) ((4 : Int)) ((1 : Int)) ([(1 : Int), (0 : Int), (1 : Int), (1 : Int)]) ((2 : Int)) ((0 : Int))
        (fun (y6_0, y6_1) =>
          bif y2_1 == (0 : Int) then
           bif y2_0 == (33 : Int) then
            bif y6_1 == (0 : Int) then
             k0 (y6_0 == (1 : Int))
            else
             k0 Bool.false
           else
            k0 Bool.false
          else
           k0 Bool.false))))) (fun r => match r with | r0 => k (.c (.bool r0), [])) := by
  kernel_rfl
theorem F27_eq (fuel : Nat)  (k : Ev.Cont) : evalFn tab (G27 fuel) (J27 fuel) kp27 fuel Try.f27 [] [] k = F_law07_Sane fuel  (fun r => match r with | r0 => k (.c (.bool r0), [])) :=
  F27_eqg fuel (F_generic_Size fuel) (F_generic_Context fuel)  k
theorem hG27 (fuel : Nat) : GOK Try.prog (G27 fuel) :=
  gok_cons ⟨ok84 fuel, enters_of Try.func84 (by kernel_rfl) rfl⟩ <|
  gok_cons ⟨ok85 fuel, enters_of Try.func85 (by kernel_rfl) rfl⟩ <|
  gok_nil
theorem fok27 (fuel : Nat) : FnOK Try.prog 27 (evalFn tab (G27 fuel) (J27 fuel) kp27 fuel Try.f27) :=
  fn_ok tab_ok (hG27 fuel) mixed Try.func27 (c := (Try.f27.body).getD .skip) rfl (fun q hq => by
    rw [(by kernel_rfl : obl (J27 fuel) ((Try.f27.body).getD .skip) = [])] at hq
    cases hq)
noncomputable def mt27 : List Ev.SV → List Ev.Ob → Bool := fun args objs => match args, objs with
  | [], [] => true
  | _, _ => false
noncomputable def spg27 (F : YF27) : Ev.Spec := fun args objs k => match args, objs with
  | [], [] => bif true then F  (fun r => match r with | r0 => k (.c (.bool r0), [])) else none
  | _, _ => none
noncomputable def spec27 (fuel : Nat) : Ev.Spec := spg27 (F_law07_Sane fuel)
theorem ok27 (fuel : Nat) : FnOK Try.prog 27 (spec27 fuel) := by
  intro args objs kk r h
  unfold spec27 spg27 at h
  split at h
  · skip
    obtain ⟨hb, h⟩ := cond_some' h
    simp only [Bool.and_eq_true, Nat.beq_eq, decide_eq_true_eq] at hb
    clear hb
    exact fok27 fuel _ _ kk r ((F27_eq fuel kk).trans h)
  · cases h
end Go.Proofs.Ytihfgpfofmjbaaa

set_option linter.unusedVariables false
set_option linter.unusedSimpArgs false
set_option maxRecDepth 100000
set_option maxHeartbeats 2000000
namespace Go.Proofs.Ytihfgpfofmjbaaa
open Go Ev
def kp112 (i : Nat) : Option (List Nat) := Ev.look i []
noncomputable def Gg112 (f : Nat) : Option Ev.Spec := Ev.look f []
noncomputable def G112 (fuel : Nat) : Nat → Option Ev.Spec := Gg112
noncomputable def J112 (fuel : Nat) (i : Nat) : Option Ev.Blk := Ev.look i []
noncomputable def F_ref05_Sides (fuel : Nat) (x0 : Int) (x1 : Int) (k0 : (Bool) → Option Ans) : Option Ans :=
  bif Decidable.decide (x0 ≥ (0 : Int)) then
   bif Decidable.decide (x1 ≥ (0 : Int)) then
    bif Decidable.decide (x0 ≤ (200 : Int)) then
     bif Decidable.decide (x1 ≤ (200 : Int)) then
      k0 (Decidable.decide (Go.IntKind.i64.wrap (x0 * x1) ≤ (8192 : Int)))
     else
      k0 Bool.false
    else
     k0 Bool.false
   else
    k0 Bool.false
  else
   k0 Bool.false
abbrev YF112 : Type := (Int) → (Int) → ((Bool) → Option Ans) → Option Ans
theorem F112_eq (fuel : Nat) (x0 : Int) (x1 : Int) (k : Ev.Cont) : evalFn tab (G112 fuel) (J112 fuel) kp112 fuel Try.f112 [.c (.int .i64 x0), .c (.int .i64 x1)] [] k = F_ref05_Sides fuel x0 x1 (fun r => match r with | r0 => k (.c (.bool r0), [])) := by
  kernel_rfl
theorem hG112 (fuel : Nat) : GOK Try.prog (G112 fuel) :=
  gok_nil
theorem fok112 (fuel : Nat) : FnOK Try.prog 112 (evalFn tab (G112 fuel) (J112 fuel) kp112 fuel Try.f112) :=
  fn_ok tab_ok (hG112 fuel) mixed Try.func112 (c := (Try.f112.body).getD .skip) rfl (fun q hq => by
    rw [(by kernel_rfl : obl (J112 fuel) ((Try.f112.body).getD .skip) = [])] at hq
    cases hq)
noncomputable def mt112 : List Ev.SV → List Ev.Ob → Bool := fun args objs => match args, objs with
  | [.c (.int .i64 _), .c (.int .i64 _)], [] => true
  | _, _ => false
noncomputable def spg112 (F : YF112) : Ev.Spec := fun args objs k => match args, objs with
  | [.c (.int .i64 x0), .c (.int .i64 x1)], [] => bif true then F x0 x1 (fun r => match r with | r0 => k (.c (.bool r0), [])) else none
  | _, _ => none
noncomputable def spec112 (fuel : Nat) : Ev.Spec := spg112 (F_ref05_Sides fuel)
theorem ok112 (fuel : Nat) : FnOK Try.prog 112 (spec112 fuel) := by
  intro args objs kk r h
  unfold spec112 spg112 at h
  split at h
  · skip
    obtain ⟨hb, h⟩ := cond_some' h
    simp only [Bool.and_eq_true, Nat.beq_eq, decide_eq_true_eq] at hb
    clear hb
    exact fok112 fuel _ _ kk r ((F112_eq fuel _ _ kk).trans h)
  · cases h
end Go.Proofs.Ytihfgpfofmjbaaa

set_option linter.unusedVariables false
set_option linter.unusedSimpArgs false
set_option maxRecDepth 100000
set_option maxHeartbeats 2000000
namespace Go.Proofs.Ytihfgpfofmjbaaa
open Go Ev
def kp86 (i : Nat) : Option (List Nat) := Ev.look i [(4, [1, 3]), (100000, []), (400000, [2])]
noncomputable def Gg86 (f112 : YF112) (f : Nat) : Option Ev.Spec := Ev.look f [(112, spg112 f112)]
noncomputable def G86 (fuel : Nat) : Nat → Option Ev.Spec := Gg86 (F_ref05_Sides fuel)
noncomputable def S_ref05_Valid_0 (fuel : Nat) (v : Int × Int × Int × (List Int)) (c : (Int × Int × Int × (List Int)) → Option Ans) (B : (Bool → Option Ans) × (Unit → Option Ans)) : Option Ans := match v, B with
  | (x0, x1, x2, x3), (ret, b) =>
   bif Decidable.decide (x0 < (↑x3.length : Int)) then
      bif Decidable.decide ((0 : Int) ≤ x0 ∧ x0 < (↑x3.length : Int)) then
      bif Decidable.decide (x3.getD x0.toNat (0 : Int) > (1 : Int)) then
        ret Bool.false
       else
        c (Go.IntKind.i64.wrap (x0 + (1 : Int)), x1, x2, x3)
      else none
     else
      b ()
noncomputable def L_ref05_Valid_0 (fuel : Nat) (v : Int × Int × Int × (List Int)) (ret : (Bool → Option Ans)) (b : (Unit → Option Ans)) : Option Ans := iter (S_ref05_Valid_0 fuel) fuel v (ret, b)
noncomputable def J86_0 (fuel : Nat) (i : Nat) : Option Ev.Blk := Ev.look i []
noncomputable def T86_0 (v : Int × Int × Int × (List Int)) : Ev.St := match v with | (x0, x1, x2, x3) => ⟨[(1, .c (.ptr 0 0)), (3, .c (.int .i64 x0))], [(0, .cells 39 [.int .i64 x1, .int .i64 x2, .sl (.int .u8) x3])], 1, 0⟩
noncomputable def E86_0 (K : Ev.Ex → Ev.St → Option Ans) : (Bool → Option Ans) × (Unit → Option Ans) := ((fun v => match v with | x0 => K .ret ⟨[(2, .c (.bool x0))], [], 0, 0⟩), (fun v => match v with | () => K .normal ⟨[], [], 0, 0⟩))
theorem S86_0_okg (fuel : Nat) (f112 : YF112) (R : Ev.St → Option Ans) (K : Ev.Ex → Ev.St → Option Ans) (x0 : Int) (x1 : Int) (x2 : Int) (x3 : (List Int)) : evalCode tab (Gg86 f112) (J86_0 fuel) kp86 fuel (bodyOf 0 Try.f86) (T86_0 (x0, x1, x2, x3)) (lc kp86 4 0 R K) = (fun (c : (Int × Int × Int × (List Int)) → Option Ans) (B : (Bool → Option Ans) × (Unit → Option Ans)) => match B with
  | (ret, b) =>
   bif Decidable.decide (x0 < (↑x3.length : Int)) then
      bif Decidable.decide ((0 : Int) ≤ x0 ∧ x0 < (↑x3.length : Int)) then
      bif Decidable.decide (x3.getD x0.toNat (0 : Int) > (1 : Int)) then
        ret Bool.false
       else
        c (Go.IntKind.i64.wrap (x0 + (1 : Int)), x1, x2, x3)
      else none
     else
      b ()) (fun v => R (T86_0 v)) (E86_0 K) := by
  kernel_rfl
theorem S86_0_ok (fuel : Nat) (R : Ev.St → Option Ans) (K : Ev.Ex → Ev.St → Option Ans) (x0 : Int) (x1 : Int) (x2 : Int) (x3 : (List Int)) : evalCode tab (G86 fuel) (J86_0 fuel) kp86 fuel (bodyOf 0 Try.f86) (T86_0 (x0, x1, x2, x3)) (lc kp86 4 0 R K) = S_ref05_Valid_0 fuel (x0, x1, x2, x3) (fun v => R (T86_0 v)) (E86_0 K) :=
  S86_0_okg fuel (F_ref05_Sides fuel) R K x0 x1 x2 x3
noncomputable def B86_0 (fuel : Nat) : Ev.Blk := fun st K => match canonO (kp86 4) st with
  | some s => (match s with
    | ⟨[(q0, .c (.ptr q1 q2)), (q3, .c (.int .i64 x0))], [(q4, .cells q5 [.int .i64 x1, .int .i64 x2, .sl (.int .u8) x3])], q6, q7⟩ => bif Nat.beq q0 1 && Nat.beq q1 0 && Nat.beq q2 0 && Nat.beq q3 3 && Nat.beq q4 0 && Nat.beq q5 39 && Nat.beq q6 1 && Nat.beq q7 0 then iter (S_ref05_Valid_0 fuel) fuel (x0, x1, x2, x3) (E86_0 K) else none
    | _ => none)
  | none => none
theorem B86_0_ok (fuel : Nat) (st : Ev.St) (K : Ev.Ex → Ev.St → Option Ans) (r : Ans) (h : B86_0 fuel st K = some r) : evalCode tab (G86 fuel) (J86_0 fuel) kp86 fuel (.block 0 (.loop (bodyOf 0 Try.f86))) st K = some r := by
  unfold B86_0 at h
  split at h
  · rename_i s hs
    split at h
    · skip
      obtain ⟨hb, h⟩ := cond_some' h
      simp only [Bool.and_eq_true, Nat.beq_eq, decide_eq_true_eq] at hb
      obtain ⟨⟨⟨⟨⟨⟨⟨rfl, rfl⟩, rfl⟩, rfl⟩, rfl⟩, rfl⟩, rfl⟩, rfl⟩ := hb
      exact blk_loop (S := T86_0) (ks := E86_0) (step := S_ref05_Valid_0 fuel) (v := (_, _, _, _)) (by kernel_rfl) (by kernel_rfl) (fun R K v => by obtain ⟨x0, x1, x2, x3⟩ := v; exact S86_0_ok fuel R K x0 x1 x2 x3) hs h
    · cases h
  · cases h
noncomputable def J86 (fuel : Nat) (i : Nat) : Option Ev.Blk := Ev.look i [(100000, B86_0 fuel)]
noncomputable def F_ref05_Valid (fuel : Nat) (x0 : Int) (x1 : Int) (x2 : (List Int)) (k0 : (Bool) → Option Ans) : Option Ans :=
  (F_ref05_Sides fuel (x0) (x1)
    (fun y2 =>
      bif !y2 then
       k0 Bool.false
      else
       bif (↑x2.length : Int) != Go.IntKind.i64.wrap (x0 * x1) then
        k0 Bool.false
       else
        (L_ref05_Valid_0 fuel ((0 : Int), x0, x1, x2)
          (fun ret0_0 =>
            k0 ret0_0)
          (fun () =>
            k0 Bool.true))))
abbrev YF86 : Type := (Int) → (Int) → ((List Int)) → ((Bool) → Option Ans) → Option Ans
theorem F86_eqg (fuel : Nat) (f112 : YF112) (x0 : Int) (x1 : Int) (x2 : (List Int)) (k : Ev.Cont) : evalFn tab (Gg86 f112) (J86 fuel) kp86 fuel Try.f86 [.agg [.int .i64 x0, .int .i64 x1, .sl (.int .u8) x2]] [] k = (fun  (k0 : (Bool) → Option Ans) =>
  (f112 (x0) (x1)
    (fun y2 =>
      bif !y2 then
       k0 Bool.false
      else
       bif (↑x2.length : Int) != Go.IntKind.i64.wrap (x0 * x1) then
        k0 Bool.false
       else
        (L_ref05_Valid_0 fuel ((0 : Int), x0, x1, x2)
          (fun ret0_0 =>
            k0 ret0_0)
          (fun () =>
            k0 Bool.true))))) (fun r => match r with | r0 => k (.c (.bool r0), [])) := by
  kernel_rfl
theorem F86_eq (fuel : Nat) (x0 : Int) (x1 : Int) (x2 : (List Int)) (k : Ev.Cont) : evalFn tab (G86 fuel) (J86 fuel) kp86 fuel Try.f86 [.agg [.int .i64 x0, .int .i64 x1, .sl (.int .u8) x2]] [] k = F_ref05_Valid fuel x0 x1 x2 (fun r => match r with | r0 => k (.c (.bool r0), [])) :=
  F86_eqg fuel (F_ref05_Sides fuel) x0 x1 x2 k
theorem hG86 (fuel : Nat) : GOK Try.prog (G86 fuel) :=
  gok_cons ⟨ok112 fuel, enters_of Try.func112 (by kernel_rfl) rfl⟩ <|
  gok_nil
theorem B86_0_blk (fuel : Nat) : BlkOK Try.prog Try.f86.ntmps (.block 0 (.loop (bodyOf 0 Try.f86))) (B86_0 fuel) :=
  blk_of (blk_of_code tab_ok (hG86 fuel) mixed (J := J86_0 fuel) (kp := kp86) (fuel := fuel) (by kernel_rfl) (fun q hq => by
    rw [(by kernel_rfl : obl (J86_0 fuel) (.block 0 (.loop (bodyOf 0 Try.f86))) = [])] at hq
    cases hq)) (B86_0_ok fuel)
theorem fok86 (fuel : Nat) : FnOK Try.prog 86 (evalFn tab (G86 fuel) (J86 fuel) kp86 fuel Try.f86) :=
  fn_ok tab_ok (hG86 fuel) mixed Try.func86 (c := (Try.f86.body).getD .skip) rfl (fun q hq => by
    rw [(by kernel_rfl : obl (J86 fuel) ((Try.f86.body).getD .skip) = [(.block 0 (.loop (bodyOf 0 Try.f86)), B86_0 fuel)])] at hq
    simp only [List.mem_cons, List.not_mem_nil, or_false] at hq
    subst hq
    · exact B86_0_blk fuel)
noncomputable def mt86 : List Ev.SV → List Ev.Ob → Bool := fun args objs => match args, objs with
  | [.agg [.int .i64 _, .int .i64 _, .sl (.int .u8) _]], [] => true
  | _, _ => false
noncomputable def spg86 (F : YF86) : Ev.Spec := fun args objs k => match args, objs with
  | [.agg [.int .i64 x0, .int .i64 x1, .sl (.int .u8) x2]], [] => bif true then F x0 x1 x2 (fun r => match r with | r0 => k (.c (.bool r0), [])) else none
  | _, _ => none
noncomputable def spec86 (fuel : Nat) : Ev.Spec := spg86 (F_ref05_Valid fuel)
theorem ok86 (fuel : Nat) : FnOK Try.prog 86 (spec86 fuel) := by
  intro args objs kk r h
  unfold spec86 spg86 at h
  split at h
  · skip
    obtain ⟨hb, h⟩ := cond_some' h
    simp only [Bool.and_eq_true, Nat.beq_eq, decide_eq_true_eq] at hb
    clear hb
    exact fok86 fuel _ _ kk r ((F86_eq fuel _ _ _ kk).trans h)
  · cases h
end Go.Proofs.Ytihfgpfofmjbaaa

set_option linter.unusedVariables false
set_option linter.unusedSimpArgs false
set_option maxRecDepth 100000
set_option maxHeartbeats 2000000
namespace Go.Proofs.Ytihfgpfofmjbaaa
open Go Ev
def kp189 (i : Nat) : Option (List Nat) := Ev.look i [(3, [1, 3, 4]), (100000, [3]), (400000, [2])]
noncomputable def Gg189 (f : Nat) : Option Ev.Spec := Ev.look f []
noncomputable def G189 (fuel : Nat) : Nat → Option Ev.Spec := Gg189
noncomputable def S_ref02_Interval_End_0 (fuel : Nat) (v : Int × Int × Int × (List Int)) (c : (Int × Int × Int × (List Int)) → Option Ans) (B : ((List Int) → Option Ans)) : Option Ans := match v, B with
  | (x0, x1, x2, x3), b =>
   bif Decidable.decide (x0 < x1) then
      bif Decidable.decide (Go.IntKind.i64.wrap ((24 : Int) - Go.IntKind.i64.wrap ((8 : Int) * (↑x3.length : Int))) < (0 : Int)) then
       none
      else
       bif Decidable.decide ((x3.length + [Go.IntKind.u8.wrap (Ev.ishr Go.IntKind.u64 x2 (Go.IntKind.i64.wrap ((24 : Int) - Go.IntKind.i64.wrap ((8 : Int) * (↑x3.length : Int)))))].length) * (1 : Nat) ≤ (140737488355328 : Nat) ∧ x3.length + [Go.IntKind.u8.wrap (Ev.ishr Go.IntKind.u64 x2 (Go.IntKind.i64.wrap ((24 : Int) - Go.IntKind.i64.wrap ((8 : Int) * (↑x3.length : Int)))))].length ≤ (140737488355328 : Nat)) then
       bif Decidable.decide (Go.IntKind.i64.wrap ((24 : Int) - Go.IntKind.i64.wrap ((8 : Int) * (↑x3.length : Int))) < (0 : Int)) then
         none
        else
         bif Decidable.decide (Go.IntKind.i64.wrap ((24 : Int) - Go.IntKind.i64.wrap ((8 : Int) * (↑x3.length : Int))) < (0 : Int)) then
          none
         else
          c (Go.IntKind.u64.wrap (x0 + Ev.ishl Go.IntKind.u64 ((Ev.ishr Go.IntKind.u64 x2 (Go.IntKind.i64.wrap ((24 : Int) - Go.IntKind.i64.wrap ((8 : Int) * (↑x3.length : Int))))).tmod (256 : Int)) (Go.IntKind.i64.wrap ((24 : Int) - Go.IntKind.i64.wrap ((8 : Int) * (↑x3.length : Int))))), x1, x2, x3 ++ [Go.IntKind.u8.wrap (Ev.ishr Go.IntKind.u64 x2 (Go.IntKind.i64.wrap ((24 : Int) - Go.IntKind.i64.wrap ((8 : Int) * (↑x3.length : Int)))))])
       else none
     else
      b x3
noncomputable def L_ref02_Interval_End_0 (fuel : Nat) (v : Int × Int × Int × (List Int)) (b : ((List Int) → Option Ans)) : Option Ans := iter (S_ref02_Interval_End_0 fuel) fuel v b
noncomputable def J189_0 (fuel : Nat) (i : Nat) : Option Ev.Blk := Ev.look i []
noncomputable def T189_0 (v : Int × Int × Int × (List Int)) : Ev.St := match v with | (x0, x1, x2, x3) => ⟨[(1, .c (.ptr 0 0)), (3, .c (.own 1)), (4, .c (.int .u64 x0))], [(0, .cells 161 [.int .u64 x1, .int .u64 x2]), (1, .vec 5 (.int .u8) x3 true)], 2, 0⟩
noncomputable def E189_0 (K : Ev.Ex → Ev.St → Option Ans) : ((List Int) → Option Ans) := (fun v => match v with | x0 => K .normal ⟨[(3, .c (.own 0))], [(0, .vec 5 (.int .u8) x0 true)], 1, 0⟩)
theorem S189_0_ok (fuel : Nat) (R : Ev.St → Option Ans) (K : Ev.Ex → Ev.St → Option Ans) (x0 : Int) (x1 : Int) (x2 : Int) (x3 : (List Int)) : evalCode tab (G189 fuel) (J189_0 fuel) kp189 fuel (bodyOf 0 Try.f189) (T189_0 (x0, x1, x2, x3)) (lc kp189 3 0 R K) = S_ref02_Interval_End_0 fuel (x0, x1, x2, x3) (fun v => R (T189_0 v)) (E189_0 K) := by
  kernel_rfl
noncomputable def B189_0 (fuel : Nat) : Ev.Blk := fun st K => match canonO (kp189 3) st with
  | some s => (match s with
    | ⟨[(q0, .c (.ptr q1 q2)), (q3, .c (.own q4)), (q5, .c (.int .u64 x0))], [(q6, .cells q7 [.int .u64 x1, .int .u64 x2]), (q8, .vec q9 (.int .u8) x3 true)], q10, q11⟩ => bif Nat.beq q0 1 && Nat.beq q1 0 && Nat.beq q2 0 && Nat.beq q3 3 && Nat.beq q4 1 && Nat.beq q5 4 && Nat.beq q6 0 && Nat.beq q7 161 && Nat.beq q8 1 && Nat.beq q9 5 && Nat.beq q10 2 && Nat.beq q11 0 then iter (S_ref02_Interval_End_0 fuel) fuel (x0, x1, x2, x3) (E189_0 K) else none
    | _ => none)
  | none => none
theorem B189_0_ok (fuel : Nat) (st : Ev.St) (K : Ev.Ex → Ev.St → Option Ans) (r : Ans) (h : B189_0 fuel st K = some r) : evalCode tab (G189 fuel) (J189_0 fuel) kp189 fuel (.block 0 (.loop (bodyOf 0 Try.f189))) st K = some r := by
  unfold B189_0 at h
  split at h
  · rename_i s hs
    split at h
    · skip
      obtain ⟨hb, h⟩ := cond_some' h
      simp only [Bool.and_eq_true, Nat.beq_eq, decide_eq_true_eq] at hb
      obtain ⟨⟨⟨⟨⟨⟨⟨⟨⟨⟨⟨rfl, rfl⟩, rfl⟩, rfl⟩, rfl⟩, rfl⟩, rfl⟩, rfl⟩, rfl⟩, rfl⟩, rfl⟩, rfl⟩ := hb
      exact blk_loop (S := T189_0) (ks := E189_0) (step := S_ref02_Interval_End_0 fuel) (v := (_, _, _, _)) (by kernel_rfl) (by kernel_rfl) (fun R K v => by obtain ⟨x0, x1, x2, x3⟩ := v; exact S189_0_ok fuel R K x0 x1 x2 x3) hs h
    · cases h
  · cases h
noncomputable def J189 (fuel : Nat) (i : Nat) : Option Ev.Blk := Ev.look i [(100000, B189_0 fuel)]
noncomputable def F_ref02_Interval_End (fuel : Nat) (x0 : Int) (x1 : Int) (k0 : ((List Int)) → Option Ans) : Option Ans :=
  (L_ref02_Interval_End_0 fuel ((0 : Int), x0, x1, [])
    (fun b0_0 =>
      k0 b0_0))
abbrev YF189 : Type := (Int) → (Int) → (((List Int)) → Option Ans) → Option Ans
theorem F189_eq (fuel : Nat) (x0 : Int) (x1 : Int) (k : Ev.Cont) : evalFn tab (G189 fuel) (J189 fuel) kp189 fuel Try.f189 [.agg [.int .u64 x0, .int .u64 x1]] [] k = F_ref02_Interval_End fuel x0 x1 (fun r => match r with | r0 => k (.c (.own 0), [.vec 5 (.int .u8) r0 true])) := by
  kernel_rfl
theorem hG189 (fuel : Nat) : GOK Try.prog (G189 fuel) :=
  gok_nil
theorem B189_0_blk (fuel : Nat) : BlkOK Try.prog Try.f189.ntmps (.block 0 (.loop (bodyOf 0 Try.f189))) (B189_0 fuel) :=
  blk_of (blk_of_code tab_ok (hG189 fuel) mixed (J := J189_0 fuel) (kp := kp189) (fuel := fuel) (by kernel_rfl) (fun q hq => by
    rw [(by kernel_rfl : obl (J189_0 fuel) (.block 0 (.loop (bodyOf 0 Try.f189))) = [])] at hq
    cases hq)) (B189_0_ok fuel)
theorem fok189 (fuel : Nat) : FnOK Try.prog 189 (evalFn tab (G189 fuel) (J189 fuel) kp189 fuel Try.f189) :=
  fn_ok tab_ok (hG189 fuel) mixed Try.func189 (c := (Try.f189.body).getD .skip) rfl (fun q hq => by
    rw [(by kernel_rfl : obl (J189 fuel) ((Try.f189.body).getD .skip) = [(.block 0 (.loop (bodyOf 0 Try.f189)), B189_0 fuel)])] at hq
    simp only [List.mem_cons, List.not_mem_nil, or_false] at hq
    subst hq
    · exact B189_0_blk fuel)
noncomputable def mt189 : List Ev.SV → List Ev.Ob → Bool := fun args objs => match args, objs with
  | [.agg [.int .u64 _, .int .u64 _]], [] => true
  | _, _ => false
noncomputable def spg189 (F : YF189) : Ev.Spec := fun args objs k => match args, objs with
  | [.agg [.int .u64 x0, .int .u64 x1]], [] => bif true then F x0 x1 (fun r => match r with | r0 => k (.c (.own 0), [.vec 5 (.int .u8) r0 true])) else none
  | _, _ => none
noncomputable def spec189 (fuel : Nat) : Ev.Spec := spg189 (F_ref02_Interval_End fuel)
theorem ok189 (fuel : Nat) : FnOK Try.prog 189 (spec189 fuel) := by
  intro args objs kk r h
  unfold spec189 spg189 at h
  split at h
  · skip
    obtain ⟨hb, h⟩ := cond_some' h
    simp only [Bool.and_eq_true, Nat.beq_eq, decide_eq_true_eq] at hb
    clear hb
    exact fok189 fuel _ _ kk r ((F189_eq fuel _ _ kk).trans h)
  · cases h
end Go.Proofs.Ytihfgpfofmjbaaa

set_option linter.unusedVariables false
set_option linter.unusedSimpArgs false
set_option maxRecDepth 100000
set_option maxHeartbeats 2000000
namespace Go.Proofs.Ytihfgpfofmjbaaa
open Go Ev
def kp130_2fe (i : Nat) : Option (List Nat) := Ev.look i [(200003, [0])]
noncomputable def Gg130_2fe (f189 : YF189) (f : Nat) : Option Ev.Spec := Ev.look f [(189, spg189 f189)]
noncomputable def G130_2fe (fuel : Nat) : Nat → Option Ev.Spec := Gg130_2fe (F_ref02_Interval_End fuel)
noncomputable def J130_2fe (fuel : Nat) (i : Nat) : Option Ev.Blk := Ev.look i []
noncomputable def F_ref02_Encoder_End_2fe (fuel : Nat) (x0 : Int) (x1 : Int) (x2 : Int) (x3 : (List Int)) (x4 : (List Int)) (k0 : (Int × Int × Int × (List Int) × (List Int) × (List Int)) → Option Ans) : Option Ans :=
  bif Decidable.decide (((0 : Nat) + x4.length) * (1 : Nat) ≤ (140737488355328 : Nat) ∧ (0 : Nat) + x4.length ≤ (140737488355328 : Nat)) then
  (F_ref02_Interval_End fuel (x1) (x2)
     (fun y3 =>
       bif Decidable.decide ((([] ++ x4).length + y3.length) * (1 : Nat) ≤ (140737488355328 : Nat) ∧ ([] ++ x4).length + y3.length ≤ (140737488355328 : Nat)) then
       k0 (x0, x1, x2, x3, x4, [] ++ x4 ++ y3)
       else none))
  else none
abbrev YF130_2fe : Type := (Int) → (Int) → (Int) → ((List Int)) → ((List Int)) → ((Int × Int × Int × (List Int) × (List Int) × (List Int)) → Option Ans) → Option Ans
theorem F130_2fe_eqg (fuel : Nat) (f189 : YF189) (x0 : Int) (x1 : Int) (x2 : Int) (x3 : (List Int)) (x4 : (List Int)) (k : Ev.Cont) : evalFn tab (Gg130_2fe f189) (J130_2fe fuel) kp130_2fe fuel Try.f130 [.c (.ptr 0 0)] [.cells 225 [.int .i64 x0, .own 1, .int .u64 x1, .int .u64 x2, .own 2], .vec 3 (.int .i64) x3 false, .vec 5 (.int .u8) x4 false] k = (fun  (k0 : (Int × Int × Int × (List Int) × (List Int) × (List Int)) → Option Ans) =>
  bif Decidable.decide (((0 : Nat) + x4.length) * (1 : Nat) ≤ (140737488355328 : Nat) ∧ (0 : Nat) + x4.length ≤ (140737488355328 : Nat)) then
  (f189 (x1) (x2)
     (fun y3 =>
       bif Decidable.decide ((([] ++ x4).length + y3.length) * (1 : Nat) ≤ (140737488355328 : Nat) ∧ ([] ++ x4).length + y3.length ≤ (140737488355328 : Nat)) then
       k0 (x0, x1, x2, x3, x4, [] ++ x4 ++ y3)
       else none))
  else none) (fun r => match r with | (r0, r1, r2, r3, r4, r5) => k (.c (.own 3), [.cells 225 [.int .i64 r0, .own 1, .int .u64 r1, .int .u64 r2, .own 2], .vec 3 (.int .i64) r3 false, .vec 5 (.int .u8) r4 false, .vec 5 (.int .u8) r5 true])) := by
  kernel_rfl
theorem F130_2fe_eq (fuel : Nat) (x0 : Int) (x1 : Int) (x2 : Int) (x3 : (List Int)) (x4 : (List Int)) (k : Ev.Cont) : evalFn tab (G130_2fe fuel) (J130_2fe fuel) kp130_2fe fuel Try.f130 [.c (.ptr 0 0)] [.cells 225 [.int .i64 x0, .own 1, .int .u64 x1, .int .u64 x2, .own 2], .vec 3 (.int .i64) x3 false, .vec 5 (.int .u8) x4 false] k = F_ref02_Encoder_End_2fe fuel x0 x1 x2 x3 x4 (fun r => match r with | (r0, r1, r2, r3, r4, r5) => k (.c (.own 3), [.cells 225 [.int .i64 r0, .own 1, .int .u64 r1, .int .u64 r2, .own 2], .vec 3 (.int .i64) r3 false, .vec 5 (.int .u8) r4 false, .vec 5 (.int .u8) r5 true])) :=
  F130_2fe_eqg fuel (F_ref02_Interval_End fuel) x0 x1 x2 x3 x4 k
theorem hG130_2fe (fuel : Nat) : GOK Try.prog (G130_2fe fuel) :=
  gok_cons ⟨ok189 fuel, enters_of Try.func189 (by kernel_rfl) rfl⟩ <|
  gok_nil
theorem fok130_2fe (fuel : Nat) : FnOK Try.prog 130 (evalFn tab (G130_2fe fuel) (J130_2fe fuel) kp130_2fe fuel Try.f130) :=
  fn_ok tab_ok (hG130_2fe fuel) mixed Try.func130 (c := (Try.f130.body).getD .skip) rfl (fun q hq => by
    rw [(by kernel_rfl : obl (J130_2fe fuel) ((Try.f130.body).getD .skip) = [])] at hq
    cases hq)
noncomputable def mt130_2fe : List Ev.SV → List Ev.Ob → Bool := fun args objs => match args, objs with
  | [.c (.ptr q0 q1)], [.cells q2 [.int .i64 _, .own q3, .int .u64 _, .int .u64 _, .own q4], .vec q5 (.int .i64) _ false, .vec q6 (.int .u8) _ false] => Nat.beq q0 0 && Nat.beq q1 0 && Nat.beq q2 225 && Nat.beq q3 1 && Nat.beq q4 2 && Nat.beq q5 3 && Nat.beq q6 5
  | _, _ => false
noncomputable def spg130_2fe (F : YF130_2fe) : Ev.Spec := fun args objs k => match args, objs with
  | [.c (.ptr q0 q1)], [.cells q2 [.int .i64 x0, .own q3, .int .u64 x1, .int .u64 x2, .own q4], .vec q5 (.int .i64) x3 false, .vec q6 (.int .u8) x4 false] => bif Nat.beq q0 0 && Nat.beq q1 0 && Nat.beq q2 225 && Nat.beq q3 1 && Nat.beq q4 2 && Nat.beq q5 3 && Nat.beq q6 5 then F x0 x1 x2 x3 x4 (fun r => match r with | (r0, r1, r2, r3, r4, r5) => k (.c (.own 3), [.cells 225 [.int .i64 r0, .own 1, .int .u64 r1, .int .u64 r2, .own 2], .vec 3 (.int .i64) r3 false, .vec 5 (.int .u8) r4 false, .vec 5 (.int .u8) r5 true])) else none
  | _, _ => none
noncomputable def spec130_2fe (fuel : Nat) : Ev.Spec := spg130_2fe (F_ref02_Encoder_End_2fe fuel)
theorem ok130_2fe (fuel : Nat) : FnOK Try.prog 130 (spec130_2fe fuel) := by
  intro args objs kk r h
  unfold spec130_2fe spg130_2fe at h
  split at h
  · skip
    obtain ⟨hb, h⟩ := cond_some' h
    simp only [Bool.and_eq_true, Nat.beq_eq, decide_eq_true_eq] at hb
    obtain ⟨⟨⟨⟨⟨⟨rfl, rfl⟩, rfl⟩, rfl⟩, rfl⟩, rfl⟩, rfl⟩ := hb
    exact fok130_2fe fuel _ _ kk r ((F130_2fe_eq fuel _ _ _ _ _ kk).trans h)
  · cases h
end Go.Proofs.Ytihfgpfofmjbaaa

set_option linter.unusedVariables false
set_option linter.unusedSimpArgs false
set_option maxRecDepth 100000
set_option maxHeartbeats 2000000
namespace Go.Proofs.Ytihfgpfofmjbaaa
open Go Ev
def kp130_975 (i : Nat) : Option (List Nat) := Ev.look i [(200003, [0])]
noncomputable def Gg130_975 (f : Nat) : Option Ev.Spec := Ev.look f []
noncomputable def G130_975 (fuel : Nat) : Nat → Option Ev.Spec := Gg130_975
noncomputable def J130_975 (fuel : Nat) (i : Nat) : Option Ev.Blk := Ev.look i []
noncomputable def F_ref02_Encoder_End_975 (fuel : Nat)  (k0 : ((List Int)) → Option Ans) : Option Ans :=
  k0 []
abbrev YF130_975 : Type := (((List Int)) → Option Ans) → Option Ans
theorem F130_975_eq (fuel : Nat)  (k : Ev.Cont) : evalFn tab (G130_975 fuel) (J130_975 fuel) kp130_975 fuel Try.f130 [.c (.nilptr)] [] k = F_ref02_Encoder_End_975 fuel  (fun r => match r with | r0 => k (.c (.own 0), [.vec 5 (.int .u8) r0 true])) := by
  kernel_rfl
theorem hG130_975 (fuel : Nat) : GOK Try.prog (G130_975 fuel) :=
  gok_nil
theorem fok130_975 (fuel : Nat) : FnOK Try.prog 130 (evalFn tab (G130_975 fuel) (J130_975 fuel) kp130_975 fuel Try.f130) :=
  fn_ok tab_ok (hG130_975 fuel) mixed Try.func130 (c := (Try.f130.body).getD .skip) rfl (fun q hq => by
    rw [(by kernel_rfl : obl (J130_975 fuel) ((Try.f130.body).getD .skip) = [])] at hq
    cases hq)
noncomputable def mt130_975 : List Ev.SV → List Ev.Ob → Bool := fun args objs => match args, objs with
  | [.c (.nilptr)], [] => true
  | _, _ => false
noncomputable def spg130_975 (F : YF130_975) : Ev.Spec := fun args objs k => match args, objs with
  | [.c (.nilptr)], [] => bif true then F  (fun r => match r with | r0 => k (.c (.own 0), [.vec 5 (.int .u8) r0 true])) else none
  | _, _ => none
noncomputable def spec130_975 (fuel : Nat) : Ev.Spec := spg130_975 (F_ref02_Encoder_End_975 fuel)
theorem ok130_975 (fuel : Nat) : FnOK Try.prog 130 (spec130_975 fuel) := by
  intro args objs kk r h
  unfold spec130_975 spg130_975 at h
  split at h
  · skip
    obtain ⟨hb, h⟩ := cond_some' h
    simp only [Bool.and_eq_true, Nat.beq_eq, decide_eq_true_eq] at hb
    clear hb
    exact fok130_975 fuel _ _ kk r ((F130_975_eq fuel kk).trans h)
  · cases h
end Go.Proofs.Ytihfgpfofmjbaaa

set_option linter.unusedVariables false
set_option linter.unusedSimpArgs false
set_option maxRecDepth 100000
set_option maxHeartbeats 2000000
namespace Go.Proofs.Ytihfgpfofmjbaaa
open Go Ev
def kp43 (i : Nat) : Option (List Nat) := Ev.look i []
noncomputable def Gg43 (f : Nat) : Option Ev.Spec := Ev.look f []
noncomputable def G43 (fuel : Nat) : Nat → Option Ev.Spec := Gg43
noncomputable def J43 (fuel : Nat) (i : Nat) : Option Ev.Blk := Ev.look i []
noncomputable def F_ref02_New (fuel : Nat) (x0 : Int) (x1 : Int) (k0 : (Int × Int × (List Int)) → Option Ans) : Option Ans :=
  bif x0 != (0 : Int) then
   bif x0 != (1 : Int) then
    k0 ((0 : Int), (2 : Int), [])
   else
    bif Decidable.decide (x1 < (0 : Int)) then
     k0 ((0 : Int), (2 : Int), [])
    else
     bif Decidable.decide (x1 > (8192 : Int)) then
      k0 ((0 : Int), (2 : Int), [])
     else
      bif Decidable.decide ((0 : Int) ≤ x1 ∧ x1 = x1 ∧ (↑(8 : Nat) : Int) * x1 ≤ (281474976710656 : Int) ∧ x1 ≤ (281474976710656 : Int)) then
      k0 (x0, (0 : Int), List.replicate x1.toNat (0 : Int))
      else none
  else
   bif Decidable.decide (x1 < (0 : Int)) then
    k0 ((0 : Int), (2 : Int), [])
   else
    bif Decidable.decide (x1 > (8192 : Int)) then
     k0 ((0 : Int), (2 : Int), [])
    else
     bif Decidable.decide ((0 : Int) ≤ x1 ∧ x1 = x1 ∧ (↑(8 : Nat) : Int) * x1 ≤ (281474976710656 : Int) ∧ x1 ≤ (281474976710656 : Int)) then
     k0 (x0, (0 : Int), List.replicate x1.toNat (0 : Int))
     else none
abbrev YF43 : Type := (Int) → (Int) → ((Int × Int × (List Int)) → Option Ans) → Option Ans
theorem F43_eq (fuel : Nat) (x0 : Int) (x1 : Int) (k : Ev.Cont) : evalFn tab (G43 fuel) (J43 fuel) kp43 fuel Try.f43 [.c (.int .i64 x0), .c (.int .i64 x1)] [] k = F_ref02_New fuel x0 x1 (fun r => match r with | (r0, r1, r2) => k (.tup [(true, [.int .i64 r0, .own 0]), (false, [.int .i64 r1])], [.vec 3 (.int .i64) r2 true])) := by
  kernel_rfl
theorem hG43 (fuel : Nat) : GOK Try.prog (G43 fuel) :=
  gok_nil
theorem fok43 (fuel : Nat) : FnOK Try.prog 43 (evalFn tab (G43 fuel) (J43 fuel) kp43 fuel Try.f43) :=
  fn_ok tab_ok (hG43 fuel) mixed Try.func43 (c := (Try.f43.body).getD .skip) rfl (fun q hq => by
    rw [(by kernel_rfl : obl (J43 fuel) ((Try.f43.body).getD .skip) = [])] at hq
    cases hq)
noncomputable def mt43 : List Ev.SV → List Ev.Ob → Bool := fun args objs => match args, objs with
  | [.c (.int .i64 _), .c (.int .i64 _)], [] => true
  | _, _ => false
noncomputable def spg43 (F : YF43) : Ev.Spec := fun args objs k => match args, objs with
  | [.c (.int .i64 x0), .c (.int .i64 x1)], [] => bif true then F x0 x1 (fun r => match r with | (r0, r1, r2) => k (.tup [(true, [.int .i64 r0, .own 0]), (false, [.int .i64 r1])], [.vec 3 (.int .i64) r2 true])) else none
  | _, _ => none
noncomputable def spec43 (fuel : Nat) : Ev.Spec := spg43 (F_ref02_New fuel)
theorem ok43 (fuel : Nat) : FnOK Try.prog 43 (spec43 fuel) := by
  intro args objs kk r h
  unfold spec43 spg43 at h
  split at h
  · skip
    obtain ⟨hb, h⟩ := cond_some' h
    simp only [Bool.and_eq_true, Nat.beq_eq, decide_eq_true_eq] at hb
    clear hb
    exact fok43 fuel _ _ kk r ((F43_eq fuel _ _ kk).trans h)
  · cases h
end Go.Proofs.Ytihfgpfofmjbaaa

set_option linter.unusedVariables false
set_option linter.unusedSimpArgs false
set_option maxRecDepth 100000
set_option maxHeartbeats 2000000
namespace Go.Proofs.Ytihfgpfofmjbaaa
open Go Ev
def kp117 (i : Nat) : Option (List Nat) := Ev.look i [(200001, [1])]
noncomputable def Gg117 (f : Nat) : Option Ev.Spec := Ev.look f []
noncomputable def G117 (fuel : Nat) : Nat → Option Ev.Spec := Gg117
noncomputable def J117 (fuel : Nat) (i : Nat) : Option Ev.Blk := Ev.look i []
noncomputable def F_ref02_Copy (fuel : Nat) (x0 : Int) (x1 : (List Int)) (k0 : (Int × (List Int)) → Option Ans) : Option Ans :=
  bif Decidable.decide (((0 : Nat) + x1.length) * (8 : Nat) ≤ (140737488355328 : Nat) ∧ (0 : Nat) + x1.length ≤ (140737488355328 : Nat)) then
  k0 (x0, [] ++ x1)
  else none
abbrev YF117 : Type := (Int) → ((List Int)) → ((Int × (List Int)) → Option Ans) → Option Ans
theorem F117_eq (fuel : Nat) (x0 : Int) (x1 : (List Int)) (k : Ev.Cont) : evalFn tab (G117 fuel) (J117 fuel) kp117 fuel Try.f117 [.agg [.int .i64 x0, .sl (.int .i64) x1]] [] k = F_ref02_Copy fuel x0 x1 (fun r => match r with | (r0, r1) => k (.agg [.int .i64 r0, .own 0], [.vec 3 (.int .i64) r1 true])) := by
  kernel_rfl
theorem hG117 (fuel : Nat) : GOK Try.prog (G117 fuel) :=
  gok_nil
theorem fok117 (fuel : Nat) : FnOK Try.prog 117 (evalFn tab (G117 fuel) (J117 fuel) kp117 fuel Try.f117) :=
  fn_ok tab_ok (hG117 fuel) mixed Try.func117 (c := (Try.f117.body).getD .skip) rfl (fun q hq => by
    rw [(by kernel_rfl : obl (J117 fuel) ((Try.f117.body).getD .skip) = [])] at hq
    cases hq)
noncomputable def mt117 : List Ev.SV → List Ev.Ob → Bool := fun args objs => match args, objs with
  | [.agg [.int .i64 _, .sl (.int .i64) _]], [] => true
  | _, _ => false
noncomputable def spg117 (F : YF117) : Ev.Spec := fun args objs k => match args, objs with
  | [.agg [.int .i64 x0, .sl (.int .i64) x1]], [] => bif true then F x0 x1 (fun r => match r with | (r0, r1) => k (.agg [.int .i64 r0, .own 0], [.vec 3 (.int .i64) r1 true])) else none
  | _, _ => none
noncomputable def spec117 (fuel : Nat) : Ev.Spec := spg117 (F_ref02_Copy fuel)
theorem ok117 (fuel : Nat) : FnOK Try.prog 117 (spec117 fuel) := by
  intro args objs kk r h
  unfold spec117 spg117 at h
  split at h
  · skip
    obtain ⟨hb, h⟩ := cond_some' h
    simp only [Bool.and_eq_true, Nat.beq_eq, decide_eq_true_eq] at hb
    clear hb
    exact fok117 fuel _ _ kk r ((F117_eq fuel _ _ kk).trans h)
  · cases h
end Go.Proofs.Ytihfgpfofmjbaaa

set_option linter.unusedVariables false
set_option linter.unusedSimpArgs false
set_option maxRecDepth 100000
set_option maxHeartbeats 2000000
namespace Go.Proofs.Ytihfgpfofmjbaaa
open Go Ev
def kp116 (i : Nat) : Option (List Nat) := Ev.look i [(7, [3, 24, 25, 26]), (100000, []), (400000, [2])]
noncomputable def Gg116 (f : Nat) : Option Ev.Spec := Ev.look f []
noncomputable def G116 (fuel : Nat) : Nat → Option Ev.Spec := Gg116
noncomputable def S_ref02_Valid_0 (fuel : Nat) (v : Int × (List Int) × Int × Int) (c : (Int × (List Int) × Int × Int) → Option Ans) (B : (Bool → Option Ans) × (Unit → Option Ans)) : Option Ans := match v, B with
  | (x0, x1, x2, x3), (ret, b) =>
   bif Decidable.decide (x3 < x2) then
      bif Decidable.decide ((0 : Int) ≤ x3 ∧ x3 < (↑x1.length : Int)) then
      bif Decidable.decide (x1.getD x3.toNat (0 : Int) < (0 : Int)) then
        ret Bool.false
       else
        bif Decidable.decide (x1.getD x3.toNat (0 : Int) > x0) then
         ret Bool.false
        else
         c (x0, x1, x2, Go.IntKind.i64.wrap (x3 + (1 : Int)))
      else none
     else
      b ()
noncomputable def L_ref02_Valid_0 (fuel : Nat) (v : Int × (List Int) × Int × Int) (ret : (Bool → Option Ans)) (b : (Unit → Option Ans)) : Option Ans := iter (S_ref02_Valid_0 fuel) fuel v (ret, b)
noncomputable def J116_0 (fuel : Nat) (i : Nat) : Option Ev.Blk := Ev.look i []
noncomputable def T116_0 (v : Int × (List Int) × Int × Int) : Ev.St := match v with | (x0, x1, x2, x3) => ⟨[(3, .c (.int .i64 x0)), (24, .c (.sl (.int .i64) x1)), (25, .c (.int .i64 x2)), (26, .c (.int .i64 x3))], [], 0, 0⟩
noncomputable def E116_0 (K : Ev.Ex → Ev.St → Option Ans) : (Bool → Option Ans) × (Unit → Option Ans) := ((fun v => match v with | x0 => K .ret ⟨[(2, .c (.bool x0))], [], 0, 0⟩), (fun v => match v with | () => K .normal ⟨[], [], 0, 0⟩))
theorem S116_0_ok (fuel : Nat) (R : Ev.St → Option Ans) (K : Ev.Ex → Ev.St → Option Ans) (x0 : Int) (x1 : (List Int)) (x2 : Int) (x3 : Int) : evalCode tab (G116 fuel) (J116_0 fuel) kp116 fuel (bodyOf 0 Try.f116) (T116_0 (x0, x1, x2, x3)) (lc kp116 7 0 R K) = S_ref02_Valid_0 fuel (x0, x1, x2, x3) (fun v => R (T116_0 v)) (E116_0 K) := by
  kernel_rfl
noncomputable def B116_0 (fuel : Nat) : Ev.Blk := fun st K => match canonO (kp116 7) st with
  | some s => (match s with
    | ⟨[(q0, .c (.int .i64 x0)), (q1, .c (.sl (.int .i64) x1)), (q2, .c (.int .i64 x2)), (q3, .c (.int .i64 x3))], [], q4, q5⟩ => bif Nat.beq q0 3 && Nat.beq q1 24 && Nat.beq q2 25 && Nat.beq q3 26 && Nat.beq q4 0 && Nat.beq q5 0 then iter (S_ref02_Valid_0 fuel) fuel (x0, x1, x2, x3) (E116_0 K) else none
    | _ => none)
  | none => none
theorem B116_0_ok (fuel : Nat) (st : Ev.St) (K : Ev.Ex → Ev.St → Option Ans) (r : Ans) (h : B116_0 fuel st K = some r) : evalCode tab (G116 fuel) (J116_0 fuel) kp116 fuel (.block 0 (.loop (bodyOf 0 Try.f116))) st K = some r := by
  unfold B116_0 at h
  split at h
  · rename_i s hs
    split at h
    · skip
      obtain ⟨hb, h⟩ := cond_some' h
      simp only [Bool.and_eq_true, Nat.beq_eq, decide_eq_true_eq] at hb
      obtain ⟨⟨⟨⟨⟨rfl, rfl⟩, rfl⟩, rfl⟩, rfl⟩, rfl⟩ := hb
      exact blk_loop (S := T116_0) (ks := E116_0) (step := S_ref02_Valid_0 fuel) (v := (_, _, _, _)) (by kernel_rfl) (by kernel_rfl) (fun R K v => by obtain ⟨x0, x1, x2, x3⟩ := v; exact S116_0_ok fuel R K x0 x1 x2 x3) hs h
    · cases h
  · cases h
noncomputable def J116 (fuel : Nat) (i : Nat) : Option Ev.Blk := Ev.look i [(100000, B116_0 fuel)]
noncomputable def F_ref02_Valid (fuel : Nat) (x0 : Int) (x1 : (List Int)) (k0 : (Bool) → Option Ans) : Option Ans :=
  bif x0 == (1 : Int) then
   bif x0 != (0 : Int) then
    bif x0 != (1 : Int) then
     k0 Bool.false
    else
     bif Decidable.decide ((↑x1.length : Int) > (8192 : Int)) then
      k0 Bool.false
     else
      (L_ref02_Valid_0 fuel ((65535 : Int), x1, (↑x1.length : Int), (0 : Int))
        (fun ret0_0 =>
          k0 ret0_0)
        (fun () =>
          k0 Bool.true))
   else
    bif Decidable.decide ((↑x1.length : Int) > (8192 : Int)) then
     k0 Bool.false
    else
     (L_ref02_Valid_0 fuel ((65535 : Int), x1, (↑x1.length : Int), (0 : Int))
       (fun ret0_0 =>
         k0 ret0_0)
       (fun () =>
         k0 Bool.true))
  else
   bif x0 != (0 : Int) then
    bif x0 != (1 : Int) then
     k0 Bool.false
    else
     bif Decidable.decide ((↑x1.length : Int) > (8192 : Int)) then
      k0 Bool.false
     else
      (L_ref02_Valid_0 fuel ((63 : Int), x1, (↑x1.length : Int), (0 : Int))
        (fun ret0_0 =>
          k0 ret0_0)
        (fun () =>
          k0 Bool.true))
   else
    bif Decidable.decide ((↑x1.length : Int) > (8192 : Int)) then
     k0 Bool.false
    else
     (L_ref02_Valid_0 fuel ((63 : Int), x1, (↑x1.length : Int), (0 : Int))
       (fun ret0_0 =>
         k0 ret0_0)
       (fun () =>
         k0 Bool.true))
abbrev YF116 : Type := (Int) → ((List Int)) → ((Bool) → Option Ans) → Option Ans
theorem F116_eq (fuel : Nat) (x0 : Int) (x1 : (List Int)) (k : Ev.Cont) : evalFn tab (G116 fuel) (J116 fuel) kp116 fuel Try.f116 [.agg [.int .i64 x0, .sl (.int .i64) x1]] [] k = F_ref02_Valid fuel x0 x1 (fun r => match r with | r0 => k (.c (.bool r0), [])) := by
  kernel_rfl
theorem hG116 (fuel : Nat) : GOK Try.prog (G116 fuel) :=
  gok_nil
theorem B116_0_blk (fuel : Nat) : BlkOK Try.prog Try.f116.ntmps (.block 0 (.loop (bodyOf 0 Try.f116))) (B116_0 fuel) :=
  blk_of (blk_of_code tab_ok (hG116 fuel) mixed (J := J116_0 fuel) (kp := kp116) (fuel := fuel) (by kernel_rfl) (fun q hq => by
    rw [(by kernel_rfl : obl (J116_0 fuel) (.block 0 (.loop (bodyOf 0 Try.f116))) = [])] at hq
    cases hq)) (B116_0_ok fuel)
theorem fok116 (fuel : Nat) : FnOK Try.prog 116 (evalFn tab (G116 fuel) (J116 fuel) kp116 fuel Try.f116) :=
  fn_ok tab_ok (hG116 fuel) mixed Try.func116 (c := (Try.f116.body).getD .skip) rfl (fun q hq => by
    rw [(by kernel_rfl : obl (J116 fuel) ((Try.f116.body).getD .skip) = [(.block 0 (.loop (bodyOf 0 Try.f116)), B116_0 fuel)])] at hq
    simp only [List.mem_cons, List.not_mem_nil, or_false] at hq
    subst hq
    · exact B116_0_blk fuel)
noncomputable def mt116 : List Ev.SV → List Ev.Ob → Bool := fun args objs => match args, objs with
  | [.agg [.int .i64 _, .sl (.int .i64) _]], [] => true
  | _, _ => false
noncomputable def spg116 (F : YF116) : Ev.Spec := fun args objs k => match args, objs with
  | [.agg [.int .i64 x0, .sl (.int .i64) x1]], [] => bif true then F x0 x1 (fun r => match r with | r0 => k (.c (.bool r0), [])) else none
  | _, _ => none
noncomputable def spec116 (fuel : Nat) : Ev.Spec := spg116 (F_ref02_Valid fuel)
theorem ok116 (fuel : Nat) : FnOK Try.prog 116 (spec116 fuel) := by
  intro args objs kk r h
  unfold spec116 spg116 at h
  split at h
  · skip
    obtain ⟨hb, h⟩ := cond_some' h
    simp only [Bool.and_eq_true, Nat.beq_eq, decide_eq_true_eq] at hb
    clear hb
    exact fok116 fuel _ _ kk r ((F116_eq fuel _ _ kk).trans h)
  · cases h
end Go.Proofs.Ytihfgpfofmjbaaa

set_option linter.unusedVariables false
set_option linter.unusedSimpArgs false
set_option maxRecDepth 100000
set_option maxHeartbeats 2000000
namespace Go.Proofs.Ytihfgpfofmjbaaa
open Go Ev
def kp118 (i : Nat) : Option (List Nat) := Ev.look i []
noncomputable def Gg118 (f : Nat) : Option Ev.Spec := Ev.look f []
noncomputable def G118 (fuel : Nat) : Nat → Option Ev.Spec := Gg118
noncomputable def J118 (fuel : Nat) (i : Nat) : Option Ev.Blk := Ev.look i []
noncomputable def F_ref02_Whole (fuel : Nat)  (k0 : (Int × Int) → Option Ans) : Option Ans :=
  k0 ((0 : Int), (4294967295 : Int))
abbrev YF118 : Type := ((Int × Int) → Option Ans) → Option Ans
theorem F118_eq (fuel : Nat)  (k : Ev.Cont) : evalFn tab (G118 fuel) (J118 fuel) kp118 fuel Try.f118 [] [] k = F_ref02_Whole fuel  (fun r => match r with | (r0, r1) => k (.agg [.int .u64 r0, .int .u64 r1], [])) := by
  kernel_rfl
theorem hG118 (fuel : Nat) : GOK Try.prog (G118 fuel) :=
  gok_nil
theorem fok118 (fuel : Nat) : FnOK Try.prog 118 (evalFn tab (G118 fuel) (J118 fuel) kp118 fuel Try.f118) :=
  fn_ok tab_ok (hG118 fuel) mixed Try.func118 (c := (Try.f118.body).getD .skip) rfl (fun q hq => by
    rw [(by kernel_rfl : obl (J118 fuel) ((Try.f118.body).getD .skip) = [])] at hq
    cases hq)
noncomputable def mt118 : List Ev.SV → List Ev.Ob → Bool := fun args objs => match args, objs with
  | [], [] => true
  | _, _ => false
noncomputable def spg118 (F : YF118) : Ev.Spec := fun args objs k => match args, objs with
  | [], [] => bif true then F  (fun r => match r with | (r0, r1) => k (.agg [.int .u64 r0, .int .u64 r1], [])) else none
  | _, _ => none
noncomputable def spec118 (fuel : Nat) : Ev.Spec := spg118 (F_ref02_Whole fuel)
theorem ok118 (fuel : Nat) : FnOK Try.prog 118 (spec118 fuel) := by
  intro args objs kk r h
  unfold spec118 spg118 at h
  split at h
  · skip
    obtain ⟨hb, h⟩ := cond_some' h
    simp only [Bool.and_eq_true, Nat.beq_eq, decide_eq_true_eq] at hb
    clear hb
    exact fok118 fuel _ _ kk r ((F118_eq fuel kk).trans h)
  · cases h
end Go.Proofs.Ytihfgpfofmjbaaa

set_option linter.unusedVariables false
set_option linter.unusedSimpArgs false
set_option maxRecDepth 100000
set_option maxHeartbeats 2000000
namespace Go.Proofs.Ytihfgpfofmjbaaa
open Go Ev
def kp128 (i : Nat) : Option (List Nat) := Ev.look i [(600000, [])]
noncomputable def Gg128 (f116 : YF116) (f117 : YF117) (f118 : YF118) (f : Nat) : Option Ev.Spec := Ev.look f [(116, spg116 f116), (117, spg117 f117), (118, spg118 f118)]
noncomputable def G128 (fuel : Nat) : Nat → Option Ev.Spec := Gg128 (F_ref02_Valid fuel) (F_ref02_Copy fuel) (F_ref02_Whole fuel)
noncomputable def J128 (fuel : Nat) (i : Nat) : Option Ev.Blk := Ev.look i []
noncomputable def F_ref02_NewEncoder (fuel : Nat) (x0 : Int) (x1 : (List Int)) (k0 : (Int) → Option Ans) (k1 : (Int × Int × Int × Int × (List Int) × (List Int)) → Option Ans) : Option Ans :=
  (F_ref02_Valid fuel (x0) (x1)
    (fun y2 =>
      bif !y2 then
       k0 ((10 : Int))
      else
       (F_ref02_Copy fuel (x0) (x1)
         (fun (y7_0, y7_1) =>
           (F_ref02_Whole fuel
             (fun (y11_0, y11_1) =>
               k1 ((0 : Int), y7_0, y11_0, y11_1, y7_1, [])))))))
abbrev YF128 : Type := (Int) → ((List Int)) → ((Int) → Option Ans) → ((Int × Int × Int × Int × (List Int) × (List Int)) → Option Ans) → Option Ans
theorem F128_eqg (fuel : Nat) (f116 : YF116) (f117 : YF117) (f118 : YF118) (x0 : Int) (x1 : (List Int)) (k : Ev.Cont) : evalFn tab (Gg128 f116 f117 f118) (J128 fuel) kp128 fuel Try.f128 [.agg [.int .i64 x0, .sl (.int .i64) x1]] [] k = (fun  (k0 : (Int) → Option Ans) (k1 : (Int × Int × Int × Int × (List Int) × (List Int)) → Option Ans) =>
  (f116 (x0) (x1)
    (fun y2 =>
      bif !y2 then
       k0 ((10 : Int))
      else
       (f117 (x0) (x1)
         (fun (y7_0, y7_1) =>
           (f118
             (fun (y11_0, y11_1) =>
               k1 ((0 : Int), y7_0, y11_0, y11_1, y7_1, [])))))))) (fun r => match r with | r0 => k (.tup [(false, [.nilptr]), (false, [.int .i64 r0])], [])) (fun r => match r with | (r0, r1, r2, r3, r4, r5) => k (.tup [(false, [.ptr 0 0]), (false, [.int .i64 r0])], [.cells 225 [.int .i64 r1, .own 1, .int .u64 r2, .int .u64 r3, .own 2], .vec 3 (.int .i64) r4 true, .vec 5 (.int .u8) r5 true])) := by
  kernel_rfl
theorem F128_eq (fuel : Nat) (x0 : Int) (x1 : (List Int)) (k : Ev.Cont) : evalFn tab (G128 fuel) (J128 fuel) kp128 fuel Try.f128 [.agg [.int .i64 x0, .sl (.int .i64) x1]] [] k = F_ref02_NewEncoder fuel x0 x1 (fun r => match r with | r0 => k (.tup [(false, [.nilptr]), (false, [.int .i64 r0])], [])) (fun r => match r with | (r0, r1, r2, r3, r4, r5) => k (.tup [(false, [.ptr 0 0]), (false, [.int .i64 r0])], [.cells 225 [.int .i64 r1, .own 1, .int .u64 r2, .int .u64 r3, .own 2], .vec 3 (.int .i64) r4 true, .vec 5 (.int .u8) r5 true])) :=
  F128_eqg fuel (F_ref02_Valid fuel) (F_ref02_Copy fuel) (F_ref02_Whole fuel) x0 x1 k
theorem hG128 (fuel : Nat) : GOK Try.prog (G128 fuel) :=
  gok_cons ⟨ok116 fuel, enters_of Try.func116 (by kernel_rfl) rfl⟩ <|
  gok_cons ⟨ok117 fuel, enters_of Try.func117 (by kernel_rfl) rfl⟩ <|
  gok_cons ⟨ok118 fuel, enters_of Try.func118 (by kernel_rfl) rfl⟩ <|
  gok_nil
theorem fok128 (fuel : Nat) : FnOK Try.prog 128 (evalFn tab (G128 fuel) (J128 fuel) kp128 fuel Try.f128) :=
  fn_ok tab_ok (hG128 fuel) mixed Try.func128 (c := (Try.f128.body).getD .skip) rfl (fun q hq => by
    rw [(by kernel_rfl : obl (J128 fuel) ((Try.f128.body).getD .skip) = [])] at hq
    cases hq)
noncomputable def mt128 : List Ev.SV → List Ev.Ob → Bool := fun args objs => match args, objs with
  | [.agg [.int .i64 _, .sl (.int .i64) _]], [] => true
  | _, _ => false
noncomputable def spg128 (F : YF128) : Ev.Spec := fun args objs k => match args, objs with
  | [.agg [.int .i64 x0, .sl (.int .i64) x1]], [] => bif true then F x0 x1 (fun r => match r with | r0 => k (.tup [(false, [.nilptr]), (false, [.int .i64 r0])], [])) (fun r => match r with | (r0, r1, r2, r3, r4, r5) => k (.tup [(false, [.ptr 0 0]), (false, [.int .i64 r0])], [.cells 225 [.int .i64 r1, .own 1, .int .u64 r2, .int .u64 r3, .own 2], .vec 3 (.int .i64) r4 true, .vec 5 (.int .u8) r5 true])) else none
  | _, _ => none
noncomputable def spec128 (fuel : Nat) : Ev.Spec := spg128 (F_ref02_NewEncoder fuel)
theorem ok128 (fuel : Nat) : FnOK Try.prog 128 (spec128 fuel) := by
  intro args objs kk r h
  unfold spec128 spg128 at h
  split at h
  · skip
    obtain ⟨hb, h⟩ := cond_some' h
    simp only [Bool.and_eq_true, Nat.beq_eq, decide_eq_true_eq] at hb
    clear hb
    exact fok128 fuel _ _ kk r ((F128_eq fuel _ _ kk).trans h)
  · cases h
end Go.Proofs.Ytihfgpfofmjbaaa

set_option linter.unusedVariables false
set_option linter.unusedSimpArgs false
set_option maxRecDepth 100000
set_option maxHeartbeats 2000000
namespace Go.Proofs.Ytihfgpfofmjbaaa
open Go Ev
def kp187_2fe (i : Nat) : Option (List Nat) := Ev.look i []
noncomputable def Gg187_2fe (f117 : YF117) (f : Nat) : Option Ev.Spec := Ev.look f [(117, spg117 f117)]
noncomputable def G187_2fe (fuel : Nat) : Nat → Option Ev.Spec := Gg187_2fe (F_ref02_Copy fuel)
noncomputable def J187_2fe (fuel : Nat) (i : Nat) : Option Ev.Blk := Ev.look i []
noncomputable def F_ref02_Encoder_Model_2fe (fuel : Nat) (x0 : Int) (x1 : Int) (x2 : Int) (x3 : (List Int)) (x4 : (List Int)) (k0 : (Int × Int × Int × Int × (List Int) × (List Int) × (List Int)) → Option Ans) : Option Ans :=
  (F_ref02_Copy fuel (x0) (x3)
    (fun (y2_0, y2_1) =>
      k0 (y2_0, x0, x1, x2, x3, x4, y2_1)))
abbrev YF187_2fe : Type := (Int) → (Int) → (Int) → ((List Int)) → ((List Int)) → ((Int × Int × Int × Int × (List Int) × (List Int) × (List Int)) → Option Ans) → Option Ans
theorem F187_2fe_eqg (fuel : Nat) (f117 : YF117) (x0 : Int) (x1 : Int) (x2 : Int) (x3 : (List Int)) (x4 : (List Int)) (k : Ev.Cont) : evalFn tab (Gg187_2fe f117) (J187_2fe fuel) kp187_2fe fuel Try.f187 [.c (.ptr 0 0)] [.cells 225 [.int .i64 x0, .own 1, .int .u64 x1, .int .u64 x2, .own 2], .vec 3 (.int .i64) x3 false, .vec 5 (.int .u8) x4 false] k = (fun  (k0 : (Int × Int × Int × Int × (List Int) × (List Int) × (List Int)) → Option Ans) =>
  (f117 (x0) (x3)
    (fun (y2_0, y2_1) =>
      k0 (y2_0, x0, x1, x2, x3, x4, y2_1)))) (fun r => match r with | (r0, r1, r2, r3, r4, r5, r6) => k (.agg [.int .i64 r0, .own 3], [.cells 225 [.int .i64 r1, .own 1, .int .u64 r2, .int .u64 r3, .own 2], .vec 3 (.int .i64) r4 false, .vec 5 (.int .u8) r5 false, .vec 3 (.int .i64) r6 true])) := by
  kernel_rfl
theorem F187_2fe_eq (fuel : Nat) (x0 : Int) (x1 : Int) (x2 : Int) (x3 : (List Int)) (x4 : (List Int)) (k : Ev.Cont) : evalFn tab (G187_2fe fuel) (J187_2fe fuel) kp187_2fe fuel Try.f187 [.c (.ptr 0 0)] [.cells 225 [.int .i64 x0, .own 1, .int .u64 x1, .int .u64 x2, .own 2], .vec 3 (.int .i64) x3 false, .vec 5 (.int .u8) x4 false] k = F_ref02_Encoder_Model_2fe fuel x0 x1 x2 x3 x4 (fun r => match r with | (r0, r1, r2, r3, r4, r5, r6) => k (.agg [.int .i64 r0, .own 3], [.cells 225 [.int .i64 r1, .own 1, .int .u64 r2, .int .u64 r3, .own 2], .vec 3 (.int .i64) r4 false, .vec 5 (.int .u8) r5 false, .vec 3 (.int .i64) r6 true])) :=
  F187_2fe_eqg fuel (F_ref02_Copy fuel) x0 x1 x2 x3 x4 k
theorem hG187_2fe (fuel : Nat) : GOK Try.prog (G187_2fe fuel) :=
  gok_cons ⟨ok117 fuel, enters_of Try.func117 (by kernel_rfl) rfl⟩ <|
  gok_nil
theorem fok187_2fe (fuel : Nat) : FnOK Try.prog 187 (evalFn tab (G187_2fe fuel) (J187_2fe fuel) kp187_2fe fuel Try.f187) :=
  fn_ok tab_ok (hG187_2fe fuel) mixed Try.func187 (c := (Try.f187.body).getD .skip) rfl (fun q hq => by
    rw [(by kernel_rfl : obl (J187_2fe fuel) ((Try.f187.body).getD .skip) = [])] at hq
    cases hq)
noncomputable def mt187_2fe : List Ev.SV → List Ev.Ob → Bool := fun args objs => match args, objs with
  | [.c (.ptr q0 q1)], [.cells q2 [.int .i64 _, .own q3, .int .u64 _, .int .u64 _, .own q4], .vec q5 (.int .i64) _ false, .vec q6 (.int .u8) _ false] => Nat.beq q0 0 && Nat.beq q1 0 && Nat.beq q2 225 && Nat.beq q3 1 && Nat.beq q4 2 && Nat.beq q5 3 && Nat.beq q6 5
  | _, _ => false
noncomputable def spg187_2fe (F : YF187_2fe) : Ev.Spec := fun args objs k => match args, objs with
  | [.c (.ptr q0 q1)], [.cells q2 [.int .i64 x0, .own q3, .int .u64 x1, .int .u64 x2, .own q4], .vec q5 (.int .i64) x3 false, .vec q6 (.int .u8) x4 false] => bif Nat.beq q0 0 && Nat.beq q1 0 && Nat.beq q2 225 && Nat.beq q3 1 && Nat.beq q4 2 && Nat.beq q5 3 && Nat.beq q6 5 then F x0 x1 x2 x3 x4 (fun r => match r with | (r0, r1, r2, r3, r4, r5, r6) => k (.agg [.int .i64 r0, .own 3], [.cells 225 [.int .i64 r1, .own 1, .int .u64 r2, .int .u64 r3, .own 2], .vec 3 (.int .i64) r4 false, .vec 5 (.int .u8) r5 false, .vec 3 (.int .i64) r6 true])) else none
  | _, _ => none
noncomputable def spec187_2fe (fuel : Nat) : Ev.Spec := spg187_2fe (F_ref02_Encoder_Model_2fe fuel)
theorem ok187_2fe (fuel : Nat) : FnOK Try.prog 187 (spec187_2fe fuel) := by
  intro args objs kk r h
  unfold spec187_2fe spg187_2fe at h
  split at h
  · skip
    obtain ⟨hb, h⟩ := cond_some' h
    simp only [Bool.and_eq_true, Nat.beq_eq, decide_eq_true_eq] at hb
    obtain ⟨⟨⟨⟨⟨⟨rfl, rfl⟩, rfl⟩, rfl⟩, rfl⟩, rfl⟩, rfl⟩ := hb
    exact fok187_2fe fuel _ _ kk r ((F187_2fe_eq fuel _ _ _ _ _ kk).trans h)
  · cases h
end Go.Proofs.Ytihfgpfofmjbaaa

set_option linter.unusedVariables false
set_option linter.unusedSimpArgs false
set_option maxRecDepth 100000
set_option maxHeartbeats 2000000
namespace Go.Proofs.Ytihfgpfofmjbaaa
open Go Ev
def kp186 (i : Nat) : Option (List Nat) := Ev.look i []
noncomputable def Gg186 (f : Nat) : Option Ev.Spec := Ev.look f []
noncomputable def G186 (fuel : Nat) : Nat → Option Ev.Spec := Gg186
noncomputable def J186 (fuel : Nat) (i : Nat) : Option Ev.Blk := Ev.look i []
noncomputable def F_ref02_After (fuel : Nat) (x0 : Int) (x1 : Int) (x2 : Int) (k0 : (Int) → Option Ans) : Option Ans :=
  bif x0 == (0 : Int) then
   bif x2 == Go.IntKind.i64.wrap (x1.tdiv (32 : Int)) then
    k0 (Go.IntKind.i64.wrap (Go.IntKind.i64.wrap ((32 : Int) * Go.IntKind.i64.wrap (x1.tdiv (32 : Int))) + bif Decidable.decide ((31 : Int) < Go.IntKind.i64.wrap (x1.tmod (32 : Int) + (1 : Int))) then (31 : Int) else Go.IntKind.i64.wrap (x1.tmod (32 : Int) + (1 : Int))))
   else
    bif x1.tmod (32 : Int) == (0 : Int) then
     k0 (Go.IntKind.i64.wrap ((32 : Int) * x2))
    else
     k0 (Go.IntKind.i64.wrap (Go.IntKind.i64.wrap (Go.IntKind.i64.wrap (Go.IntKind.i64.wrap ((32 : Int) * Go.IntKind.i64.wrap (x1.tdiv (32 : Int))) + x1.tmod (32 : Int)) - (1 : Int)) - Go.IntKind.i64.wrap ((x1.tmod (32 : Int)).tdiv (4 : Int))))
  else
   bif Decidable.decide ((0 : Int) ≤ x2 ∧ x2 < (↑(2 : Nat) : Int)) then
   bif Decidable.decide (x2 = (↑(0 : Nat) : Int)) then
     bif Go.IntKind.i64.wrap (x1.tdiv (256 : Int)) == (255 : Int) then
      bif Decidable.decide ((0 : Int) ≤ x2 ∧ x2 < (↑(2 : Nat) : Int)) then
      bif Decidable.decide (x2 = (↑(0 : Nat) : Int)) then
        bif Decidable.decide ((0 : Int) ≤ x2 ∧ x2 < (↑(2 : Nat) : Int)) then
        bif Decidable.decide (x2 = (↑(0 : Nat) : Int)) then
          k0 (Go.IntKind.i64.wrap (Go.IntKind.i64.wrap ((256 : Int) * Go.IntKind.i64.wrap (Go.IntKind.i64.wrap ((Go.IntKind.i64.wrap (x1.tdiv (256 : Int))).tdiv (2 : Int)) + (1 : Int))) + Go.IntKind.i64.wrap ((x1.tmod (256 : Int)).tdiv (2 : Int))))
         else
          bif Decidable.decide (x2 = (↑(1 : Nat) : Int)) then
          k0 (Go.IntKind.i64.wrap (Go.IntKind.i64.wrap ((256 : Int) * Go.IntKind.i64.wrap ((Go.IntKind.i64.wrap (x1.tdiv (256 : Int))).tdiv (2 : Int))) + Go.IntKind.i64.wrap (Go.IntKind.i64.wrap ((Go.IntKind.i64.wrap (x1.tdiv (256 : Int))).tdiv (2 : Int)) + (1 : Int))))
          else none
        else none
       else
        bif Decidable.decide (x2 = (↑(1 : Nat) : Int)) then
        bif Decidable.decide ((0 : Int) ≤ x2 ∧ x2 < (↑(2 : Nat) : Int)) then
         bif Decidable.decide (x2 = (↑(0 : Nat) : Int)) then
           k0 (Go.IntKind.i64.wrap (Go.IntKind.i64.wrap ((256 : Int) * Go.IntKind.i64.wrap (Go.IntKind.i64.wrap ((x1.tmod (256 : Int)).tdiv (2 : Int)) + (1 : Int))) + Go.IntKind.i64.wrap ((x1.tmod (256 : Int)).tdiv (2 : Int))))
          else
           bif Decidable.decide (x2 = (↑(1 : Nat) : Int)) then
           k0 (Go.IntKind.i64.wrap (Go.IntKind.i64.wrap ((256 : Int) * Go.IntKind.i64.wrap ((Go.IntKind.i64.wrap (x1.tdiv (256 : Int))).tdiv (2 : Int))) + Go.IntKind.i64.wrap (Go.IntKind.i64.wrap ((x1.tmod (256 : Int)).tdiv (2 : Int)) + (1 : Int))))
           else none
         else none
        else none
      else none
     else
      bif Decidable.decide ((0 : Int) ≤ x2 ∧ x2 < (↑(2 : Nat) : Int)) then
      bif Decidable.decide (x2 = (↑(0 : Nat) : Int)) then
        bif Decidable.decide ((0 : Int) ≤ x2 ∧ x2 < (↑(2 : Nat) : Int)) then
        bif Decidable.decide (x2 = (↑(0 : Nat) : Int)) then
          k0 (Go.IntKind.i64.wrap (Go.IntKind.i64.wrap ((256 : Int) * Go.IntKind.i64.wrap (Go.IntKind.i64.wrap (x1.tdiv (256 : Int)) + (1 : Int))) + x1.tmod (256 : Int)))
         else
          bif Decidable.decide (x2 = (↑(1 : Nat) : Int)) then
          k0 (Go.IntKind.i64.wrap (Go.IntKind.i64.wrap ((256 : Int) * Go.IntKind.i64.wrap (x1.tdiv (256 : Int))) + Go.IntKind.i64.wrap (Go.IntKind.i64.wrap (x1.tdiv (256 : Int)) + (1 : Int))))
          else none
        else none
       else
        bif Decidable.decide (x2 = (↑(1 : Nat) : Int)) then
        bif Decidable.decide ((0 : Int) ≤ x2 ∧ x2 < (↑(2 : Nat) : Int)) then
         bif Decidable.decide (x2 = (↑(0 : Nat) : Int)) then
           k0 (Go.IntKind.i64.wrap (Go.IntKind.i64.wrap ((256 : Int) * Go.IntKind.i64.wrap (x1.tmod (256 : Int) + (1 : Int))) + x1.tmod (256 : Int)))
          else
           bif Decidable.decide (x2 = (↑(1 : Nat) : Int)) then
           k0 (Go.IntKind.i64.wrap (Go.IntKind.i64.wrap ((256 : Int) * Go.IntKind.i64.wrap (x1.tdiv (256 : Int))) + Go.IntKind.i64.wrap (x1.tmod (256 : Int) + (1 : Int))))
           else none
         else none
        else none
      else none
    else
     bif Decidable.decide (x2 = (↑(1 : Nat) : Int)) then
     bif x1.tmod (256 : Int) == (255 : Int) then
       bif Decidable.decide ((0 : Int) ≤ x2 ∧ x2 < (↑(2 : Nat) : Int)) then
       bif Decidable.decide (x2 = (↑(0 : Nat) : Int)) then
         bif Decidable.decide ((0 : Int) ≤ x2 ∧ x2 < (↑(2 : Nat) : Int)) then
         bif Decidable.decide (x2 = (↑(0 : Nat) : Int)) then
           k0 (Go.IntKind.i64.wrap (Go.IntKind.i64.wrap ((256 : Int) * Go.IntKind.i64.wrap (Go.IntKind.i64.wrap ((Go.IntKind.i64.wrap (x1.tdiv (256 : Int))).tdiv (2 : Int)) + (1 : Int))) + Go.IntKind.i64.wrap ((x1.tmod (256 : Int)).tdiv (2 : Int))))
          else
           bif Decidable.decide (x2 = (↑(1 : Nat) : Int)) then
           k0 (Go.IntKind.i64.wrap (Go.IntKind.i64.wrap ((256 : Int) * Go.IntKind.i64.wrap ((Go.IntKind.i64.wrap (x1.tdiv (256 : Int))).tdiv (2 : Int))) + Go.IntKind.i64.wrap (Go.IntKind.i64.wrap ((Go.IntKind.i64.wrap (x1.tdiv (256 : Int))).tdiv (2 : Int)) + (1 : Int))))
           else none
         else none
        else
         bif Decidable.decide (x2 = (↑(1 : Nat) : Int)) then
         bif Decidable.decide ((0 : Int) ≤ x2 ∧ x2 < (↑(2 : Nat) : Int)) then
          bif Decidable.decide (x2 = (↑(0 : Nat) : Int)) then
            k0 (Go.IntKind.i64.wrap (Go.IntKind.i64.wrap ((256 : Int) * Go.IntKind.i64.wrap (Go.IntKind.i64.wrap ((x1.tmod (256 : Int)).tdiv (2 : Int)) + (1 : Int))) + Go.IntKind.i64.wrap ((x1.tmod (256 : Int)).tdiv (2 : Int))))
           else
            bif Decidable.decide (x2 = (↑(1 : Nat) : Int)) then
            k0 (Go.IntKind.i64.wrap (Go.IntKind.i64.wrap ((256 : Int) * Go.IntKind.i64.wrap ((Go.IntKind.i64.wrap (x1.tdiv (256 : Int))).tdiv (2 : Int))) + Go.IntKind.i64.wrap (Go.IntKind.i64.wrap ((x1.tmod (256 : Int)).tdiv (2 : Int)) + (1 : Int))))
            else none
          else none
         else none
       else none
      else
       bif Decidable.decide ((0 : Int) ≤ x2 ∧ x2 < (↑(2 : Nat) : Int)) then
       bif Decidable.decide (x2 = (↑(0 : Nat) : Int)) then
         bif Decidable.decide ((0 : Int) ≤ x2 ∧ x2 < (↑(2 : Nat) : Int)) then
         bif Decidable.decide (x2 = (↑(0 : Nat) : Int)) then
           k0 (Go.IntKind.i64.wrap (Go.IntKind.i64.wrap ((256 : Int) * Go.IntKind.i64.wrap (Go.IntKind.i64.wrap (x1.tdiv (256 : Int)) + (1 : Int))) + x1.tmod (256 : Int)))
          else
           bif Decidable.decide (x2 = (↑(1 : Nat) : Int)) then
           k0 (Go.IntKind.i64.wrap (Go.IntKind.i64.wrap ((256 : Int) * Go.IntKind.i64.wrap (x1.tdiv (256 : Int))) + Go.IntKind.i64.wrap (Go.IntKind.i64.wrap (x1.tdiv (256 : Int)) + (1 : Int))))
           else none
         else none
        else
         bif Decidable.decide (x2 = (↑(1 : Nat) : Int)) then
         bif Decidable.decide ((0 : Int) ≤ x2 ∧ x2 < (↑(2 : Nat) : Int)) then
          bif Decidable.decide (x2 = (↑(0 : Nat) : Int)) then
            k0 (Go.IntKind.i64.wrap (Go.IntKind.i64.wrap ((256 : Int) * Go.IntKind.i64.wrap (x1.tmod (256 : Int) + (1 : Int))) + x1.tmod (256 : Int)))
           else
            bif Decidable.decide (x2 = (↑(1 : Nat) : Int)) then
            k0 (Go.IntKind.i64.wrap (Go.IntKind.i64.wrap ((256 : Int) * Go.IntKind.i64.wrap (x1.tdiv (256 : Int))) + Go.IntKind.i64.wrap (x1.tmod (256 : Int) + (1 : Int))))
            else none
          else none
         else none
       else none
     else none
   else none
abbrev YF186 : Type := (Int) → (Int) → (Int) → ((Int) → Option Ans) → Option Ans
theorem F186_eq (fuel : Nat) (x0 : Int) (x1 : Int) (x2 : Int) (k : Ev.Cont) : evalFn tab (G186 fuel) (J186 fuel) kp186 fuel Try.f186 [.c (.int .i64 x0), .c (.int .i64 x1), .c (.int .i64 x2)] [] k = F_ref02_After fuel x0 x1 x2 (fun r => match r with | r0 => k (.c (.int .i64 r0), [])) := by
  kernel_rfl
theorem hG186 (fuel : Nat) : GOK Try.prog (G186 fuel) :=
  gok_nil
theorem fok186 (fuel : Nat) : FnOK Try.prog 186 (evalFn tab (G186 fuel) (J186 fuel) kp186 fuel Try.f186) :=
  fn_ok tab_ok (hG186 fuel) mixed Try.func186 (c := (Try.f186.body).getD .skip) rfl (fun q hq => by
    rw [(by kernel_rfl : obl (J186 fuel) ((Try.f186.body).getD .skip) = [])] at hq
    cases hq)
noncomputable def mt186 : List Ev.SV → List Ev.Ob → Bool := fun args objs => match args, objs with
  | [.c (.int .i64 _), .c (.int .i64 _), .c (.int .i64 _)], [] => true
  | _, _ => false
noncomputable def spg186 (F : YF186) : Ev.Spec := fun args objs k => match args, objs with
  | [.c (.int .i64 x0), .c (.int .i64 x1), .c (.int .i64 x2)], [] => bif true then F x0 x1 x2 (fun r => match r with | r0 => k (.c (.int .i64 r0), [])) else none
  | _, _ => none
noncomputable def spec186 (fuel : Nat) : Ev.Spec := spg186 (F_ref02_After fuel)
theorem ok186 (fuel : Nat) : FnOK Try.prog 186 (spec186 fuel) := by
  intro args objs kk r h
  unfold spec186 spg186 at h
  split at h
  · skip
    obtain ⟨hb, h⟩ := cond_some' h
    simp only [Bool.and_eq_true, Nat.beq_eq, decide_eq_true_eq] at hb
    clear hb
    exact fok186 fuel _ _ kk r ((F186_eq fuel _ _ _ kk).trans h)
  · cases h
end Go.Proofs.Ytihfgpfofmjbaaa

set_option linter.unusedVariables false
set_option linter.unusedSimpArgs false
set_option maxRecDepth 100000
set_option maxHeartbeats 2000000
namespace Go.Proofs.Ytihfgpfofmjbaaa
open Go Ev
def kp184 (i : Nat) : Option (List Nat) := Ev.look i []
noncomputable def Gg184 (f : Nat) : Option Ev.Spec := Ev.look f []
noncomputable def G184 (fuel : Nat) : Nat → Option Ev.Spec := Gg184
noncomputable def J184 (fuel : Nat) (i : Nat) : Option Ev.Blk := Ev.look i []
noncomputable def F_ref02_Interval_Fixed (fuel : Nat) (x0 : Int) (x1 : Int) (k0 : (Bool) → Option Ans) : Option Ans :=
  k0 (Ev.ishr Go.IntKind.u64 x0 (24 : Int) == Ev.ishr Go.IntKind.u64 x1 (24 : Int))
abbrev YF184 : Type := (Int) → (Int) → ((Bool) → Option Ans) → Option Ans
theorem F184_eq (fuel : Nat) (x0 : Int) (x1 : Int) (k : Ev.Cont) : evalFn tab (G184 fuel) (J184 fuel) kp184 fuel Try.f184 [.agg [.int .u64 x0, .int .u64 x1]] [] k = F_ref02_Interval_Fixed fuel x0 x1 (fun r => match r with | r0 => k (.c (.bool r0), [])) := by
  kernel_rfl
theorem hG184 (fuel : Nat) : GOK Try.prog (G184 fuel) :=
  gok_nil
theorem fok184 (fuel : Nat) : FnOK Try.prog 184 (evalFn tab (G184 fuel) (J184 fuel) kp184 fuel Try.f184) :=
  fn_ok tab_ok (hG184 fuel) mixed Try.func184 (c := (Try.f184.body).getD .skip) rfl (fun q hq => by
    rw [(by kernel_rfl : obl (J184 fuel) ((Try.f184.body).getD .skip) = [])] at hq
    cases hq)
noncomputable def mt184 : List Ev.SV → List Ev.Ob → Bool := fun args objs => match args, objs with
  | [.agg [.int .u64 _, .int .u64 _]], [] => true
  | _, _ => false
noncomputable def spg184 (F : YF184) : Ev.Spec := fun args objs k => match args, objs with
  | [.agg [.int .u64 x0, .int .u64 x1]], [] => bif true then F x0 x1 (fun r => match r with | r0 => k (.c (.bool r0), [])) else none
  | _, _ => none
noncomputable def spec184 (fuel : Nat) : Ev.Spec := spg184 (F_ref02_Interval_Fixed fuel)
theorem ok184 (fuel : Nat) : FnOK Try.prog 184 (spec184 fuel) := by
  intro args objs kk r h
  unfold spec184 spg184 at h
  split at h
  · skip
    obtain ⟨hb, h⟩ := cond_some' h
    simp only [Bool.and_eq_true, Nat.beq_eq, decide_eq_true_eq] at hb
    clear hb
    exact fok184 fuel _ _ kk r ((F184_eq fuel _ _ kk).trans h)
  · cases h
end Go.Proofs.Ytihfgpfofmjbaaa

set_option linter.unusedVariables false
set_option linter.unusedSimpArgs false
set_option maxRecDepth 100000
set_option maxHeartbeats 2000000
namespace Go.Proofs.Ytihfgpfofmjbaaa
open Go Ev
def kp182 (i : Nat) : Option (List Nat) := Ev.look i []
noncomputable def Gg182 (f : Nat) : Option Ev.Spec := Ev.look f []
noncomputable def G182 (fuel : Nat) : Nat → Option Ev.Spec := Gg182
noncomputable def J182 (fuel : Nat) (i : Nat) : Option Ev.Blk := Ev.look i []
noncomputable def F_ref02_Interval_Mid (fuel : Nat) (x0 : Int) (x1 : Int) (x2 : Int) (k0 : (Int) → Option Ans) : Option Ans :=
  k0 (Go.IntKind.u64.wrap (Go.IntKind.u64.wrap (x0 + Go.IntKind.u64.wrap (Go.IntKind.u64.wrap ((Go.IntKind.u64.wrap (x1 - x0)).tdiv (4096 : Int)) * Go.IntKind.u64.wrap x2)) + Go.IntKind.u64.wrap ((Go.IntKind.u64.wrap ((Go.IntKind.u64.wrap (x1 - x0)).tmod (4096 : Int) * Go.IntKind.u64.wrap x2)).tdiv (4096 : Int))))
abbrev YF182 : Type := (Int) → (Int) → (Int) → ((Int) → Option Ans) → Option Ans
theorem F182_eq (fuel : Nat) (x0 : Int) (x1 : Int) (x2 : Int) (k : Ev.Cont) : evalFn tab (G182 fuel) (J182 fuel) kp182 fuel Try.f182 [.agg [.int .u64 x0, .int .u64 x1], .c (.int .i64 x2)] [] k = F_ref02_Interval_Mid fuel x0 x1 x2 (fun r => match r with | r0 => k (.c (.int .u64 r0), [])) := by
  kernel_rfl
theorem hG182 (fuel : Nat) : GOK Try.prog (G182 fuel) :=
  gok_nil
theorem fok182 (fuel : Nat) : FnOK Try.prog 182 (evalFn tab (G182 fuel) (J182 fuel) kp182 fuel Try.f182) :=
  fn_ok tab_ok (hG182 fuel) mixed Try.func182 (c := (Try.f182.body).getD .skip) rfl (fun q hq => by
    rw [(by kernel_rfl : obl (J182 fuel) ((Try.f182.body).getD .skip) = [])] at hq
    cases hq)
noncomputable def mt182 : List Ev.SV → List Ev.Ob → Bool := fun args objs => match args, objs with
  | [.agg [.int .u64 _, .int .u64 _], .c (.int .i64 _)], [] => true
  | _, _ => false
noncomputable def spg182 (F : YF182) : Ev.Spec := fun args objs k => match args, objs with
  | [.agg [.int .u64 x0, .int .u64 x1], .c (.int .i64 x2)], [] => bif true then F x0 x1 x2 (fun r => match r with | r0 => k (.c (.int .u64 r0), [])) else none
  | _, _ => none
noncomputable def spec182 (fuel : Nat) : Ev.Spec := spg182 (F_ref02_Interval_Mid fuel)
theorem ok182 (fuel : Nat) : FnOK Try.prog 182 (spec182 fuel) := by
  intro args objs kk r h
  unfold spec182 spg182 at h
  split at h
  · skip
    obtain ⟨hb, h⟩ := cond_some' h
    simp only [Bool.and_eq_true, Nat.beq_eq, decide_eq_true_eq] at hb
    clear hb
    exact fok182 fuel _ _ kk r ((F182_eq fuel _ _ _ kk).trans h)
  · cases h
end Go.Proofs.Ytihfgpfofmjbaaa

set_option linter.unusedVariables false
set_option linter.unusedSimpArgs false
set_option maxRecDepth 100000
set_option maxHeartbeats 2000000
namespace Go.Proofs.Ytihfgpfofmjbaaa
open Go Ev
def kp183 (i : Nat) : Option (List Nat) := Ev.look i [(200002, [3]), (200003, [3])]
noncomputable def Gg183 (f182 : YF182) (f : Nat) : Option Ev.Spec := Ev.look f [(182, spg182 f182)]
noncomputable def G183 (fuel : Nat) : Nat → Option Ev.Spec := Gg183 (F_ref02_Interval_Mid fuel)
noncomputable def J183 (fuel : Nat) (i : Nat) : Option Ev.Blk := Ev.look i []
noncomputable def F_ref02_Interval_Part (fuel : Nat) (x0 : Int) (x1 : Int) (x2 : Int) (x3 : Int) (k0 : (Int × Int) → Option Ans) : Option Ans :=
  bif x3 == (1 : Int) then
   (F_ref02_Interval_Mid fuel (x0) (x1) (x2)
     (fun y3 =>
       k0 (x0, y3)))
  else
   (F_ref02_Interval_Mid fuel (x0) (x1) (x2)
     (fun y3 =>
       k0 (Go.IntKind.u64.wrap (y3 + (1 : Int)), x1)))
abbrev YF183 : Type := (Int) → (Int) → (Int) → (Int) → ((Int × Int) → Option Ans) → Option Ans
theorem F183_eqg (fuel : Nat) (f182 : YF182) (x0 : Int) (x1 : Int) (x2 : Int) (x3 : Int) (k : Ev.Cont) : evalFn tab (Gg183 f182) (J183 fuel) kp183 fuel Try.f183 [.agg [.int .u64 x0, .int .u64 x1], .c (.int .i64 x2), .c (.int .i64 x3)] [] k = (fun  (k0 : (Int × Int) → Option Ans) =>
  bif x3 == (1 : Int) then
   (f182 (x0) (x1) (x2)
     (fun y3 =>
       k0 (x0, y3)))
  else
   (f182 (x0) (x1) (x2)
     (fun y3 =>
       k0 (Go.IntKind.u64.wrap (y3 + (1 : Int)), x1)))) (fun r => match r with | (r0, r1) => k (.agg [.int .u64 r0, .int .u64 r1], [])) := by
  kernel_rfl
theorem F183_eq (fuel : Nat) (x0 : Int) (x1 : Int) (x2 : Int) (x3 : Int) (k : Ev.Cont) : evalFn tab (G183 fuel) (J183 fuel) kp183 fuel Try.f183 [.agg [.int .u64 x0, .int .u64 x1], .c (.int .i64 x2), .c (.int .i64 x3)] [] k = F_ref02_Interval_Part fuel x0 x1 x2 x3 (fun r => match r with | (r0, r1) => k (.agg [.int .u64 r0, .int .u64 r1], [])) :=
  F183_eqg fuel (F_ref02_Interval_Mid fuel) x0 x1 x2 x3 k
theorem hG183 (fuel : Nat) : GOK Try.prog (G183 fuel) :=
  gok_cons ⟨ok182 fuel, enters_of Try.func182 (by kernel_rfl) rfl⟩ <|
  gok_nil
theorem fok183 (fuel : Nat) : FnOK Try.prog 183 (evalFn tab (G183 fuel) (J183 fuel) kp183 fuel Try.f183) :=
  fn_ok tab_ok (hG183 fuel) mixed Try.func183 (c := (Try.f183.body).getD .skip) rfl (fun q hq => by
    rw [(by kernel_rfl : obl (J183 fuel) ((Try.f183.body).getD .skip) = [])] at hq
    cases hq)
noncomputable def mt183 : List Ev.SV → List Ev.Ob → Bool := fun args objs => match args, objs with
  | [.agg [.int .u64 _, .int .u64 _], .c (.int .i64 _), .c (.int .i64 _)], [] => true
  | _, _ => false
noncomputable def spg183 (F : YF183) : Ev.Spec := fun args objs k => match args, objs with
  | [.agg [.int .u64 x0, .int .u64 x1], .c (.int .i64 x2), .c (.int .i64 x3)], [] => bif true then F x0 x1 x2 x3 (fun r => match r with | (r0, r1) => k (.agg [.int .u64 r0, .int .u64 r1], [])) else none
  | _, _ => none
noncomputable def spec183 (fuel : Nat) : Ev.Spec := spg183 (F_ref02_Interval_Part fuel)
theorem ok183 (fuel : Nat) : FnOK Try.prog 183 (spec183 fuel) := by
  intro args objs kk r h
  unfold spec183 spg183 at h
  split at h
  · skip
    obtain ⟨hb, h⟩ := cond_some' h
    simp only [Bool.and_eq_true, Nat.beq_eq, decide_eq_true_eq] at hb
    clear hb
    exact fok183 fuel _ _ kk r ((F183_eq fuel _ _ _ _ kk).trans h)
  · cases h
end Go.Proofs.Ytihfgpfofmjbaaa

set_option linter.unusedVariables false
set_option linter.unusedSimpArgs false
set_option maxRecDepth 100000
set_option maxHeartbeats 2000000
namespace Go.Proofs.Ytihfgpfofmjbaaa
open Go Ev
def kp185 (i : Nat) : Option (List Nat) := Ev.look i []
noncomputable def Gg185 (f : Nat) : Option Ev.Spec := Ev.look f []
noncomputable def G185 (fuel : Nat) : Nat → Option Ev.Spec := Gg185
noncomputable def J185 (fuel : Nat) (i : Nat) : Option Ev.Blk := Ev.look i []
noncomputable def F_ref02_Interval_Shifted (fuel : Nat) (x0 : Int) (x1 : Int) (k0 : (Int × Int) → Option Ans) : Option Ans :=
  k0 (Go.IntKind.u64.wrap (x0.tmod (16777216 : Int) * (256 : Int)), Go.IntKind.u64.wrap (Go.IntKind.u64.wrap (x1.tmod (16777216 : Int) * (256 : Int)) + (255 : Int)))
abbrev YF185 : Type := (Int) → (Int) → ((Int × Int) → Option Ans) → Option Ans
theorem F185_eq (fuel : Nat) (x0 : Int) (x1 : Int) (k : Ev.Cont) : evalFn tab (G185 fuel) (J185 fuel) kp185 fuel Try.f185 [.agg [.int .u64 x0, .int .u64 x1]] [] k = F_ref02_Interval_Shifted fuel x0 x1 (fun r => match r with | (r0, r1) => k (.agg [.int .u64 r0, .int .u64 r1], [])) := by
  kernel_rfl
theorem hG185 (fuel : Nat) : GOK Try.prog (G185 fuel) :=
  gok_nil
theorem fok185 (fuel : Nat) : FnOK Try.prog 185 (evalFn tab (G185 fuel) (J185 fuel) kp185 fuel Try.f185) :=
  fn_ok tab_ok (hG185 fuel) mixed Try.func185 (c := (Try.f185.body).getD .skip) rfl (fun q hq => by
    rw [(by kernel_rfl : obl (J185 fuel) ((Try.f185.body).getD .skip) = [])] at hq
    cases hq)
noncomputable def mt185 : List Ev.SV → List Ev.Ob → Bool := fun args objs => match args, objs with
  | [.agg [.int .u64 _, .int .u64 _]], [] => true
  | _, _ => false
noncomputable def spg185 (F : YF185) : Ev.Spec := fun args objs k => match args, objs with
  | [.agg [.int .u64 x0, .int .u64 x1]], [] => bif true then F x0 x1 (fun r => match r with | (r0, r1) => k (.agg [.int .u64 r0, .int .u64 r1], [])) else none
  | _, _ => none
noncomputable def spec185 (fuel : Nat) : Ev.Spec := spg185 (F_ref02_Interval_Shifted fuel)
theorem ok185 (fuel : Nat) : FnOK Try.prog 185 (spec185 fuel) := by
  intro args objs kk r h
  unfold spec185 spg185 at h
  split at h
  · skip
    obtain ⟨hb, h⟩ := cond_some' h
    simp only [Bool.and_eq_true, Nat.beq_eq, decide_eq_true_eq] at hb
    clear hb
    exact fok185 fuel _ _ kk r ((F185_eq fuel _ _ kk).trans h)
  · cases h
end Go.Proofs.Ytihfgpfofmjbaaa

set_option linter.unusedVariables false
set_option linter.unusedSimpArgs false
set_option maxRecDepth 100000
set_option maxHeartbeats 2000000
namespace Go.Proofs.Ytihfgpfofmjbaaa
open Go Ev
def kp206 (i : Nat) : Option (List Nat) := Ev.look i [(3, [0, 3, 4]), (100000, [3]), (400000, [2])]
noncomputable def Gg206 (f : Nat) : Option Ev.Spec := Ev.look f []
noncomputable def G206 (fuel : Nat) : Nat → Option Ev.Spec := Gg206
noncomputable def S_ref02_unlikely_0 (fuel : Nat) (v : Int × Int × Int) (c : (Int × Int × Int) → Option Ans) (B : (Int → Option Ans)) : Option Ans := match v, B with
  | (x0, x1, x2), b =>
   bif Decidable.decide (x2 < x0) then
      c (x0, Go.IntKind.i64.wrap (x1 - Go.IntKind.i64.wrap (x1.tdiv (8 : Int))), Go.IntKind.i64.wrap (x2 + (1 : Int)))
     else
      b x1
noncomputable def L_ref02_unlikely_0 (fuel : Nat) (v : Int × Int × Int) (b : (Int → Option Ans)) : Option Ans := iter (S_ref02_unlikely_0 fuel) fuel v b
noncomputable def J206_0 (fuel : Nat) (i : Nat) : Option Ev.Blk := Ev.look i []
noncomputable def T206_0 (v : Int × Int × Int) : Ev.St := match v with | (x0, x1, x2) => ⟨[(0, .c (.int .i64 x0)), (3, .c (.int .i64 x1)), (4, .c (.int .i64 x2))], [], 0, 0⟩
noncomputable def E206_0 (K : Ev.Ex → Ev.St → Option Ans) : (Int → Option Ans) := (fun v => match v with | x0 => K .normal ⟨[(3, .c (.int .i64 x0))], [], 0, 0⟩)
theorem S206_0_ok (fuel : Nat) (R : Ev.St → Option Ans) (K : Ev.Ex → Ev.St → Option Ans) (x0 : Int) (x1 : Int) (x2 : Int) : evalCode tab (G206 fuel) (J206_0 fuel) kp206 fuel (bodyOf 0 Try.f206) (T206_0 (x0, x1, x2)) (lc kp206 3 0 R K) = S_ref02_unlikely_0 fuel (x0, x1, x2) (fun v => R (T206_0 v)) (E206_0 K) := by
  kernel_rfl
noncomputable def B206_0 (fuel : Nat) : Ev.Blk := fun st K => match canonO (kp206 3) st with
  | some s => (match s with
    | ⟨[(q0, .c (.int .i64 x0)), (q1, .c (.int .i64 x1)), (q2, .c (.int .i64 x2))], [], q3, q4⟩ => bif Nat.beq q0 0 && Nat.beq q1 3 && Nat.beq q2 4 && Nat.beq q3 0 && Nat.beq q4 0 then iter (S_ref02_unlikely_0 fuel) fuel (x0, x1, x2) (E206_0 K) else none
    | _ => none)
  | none => none
theorem B206_0_ok (fuel : Nat) (st : Ev.St) (K : Ev.Ex → Ev.St → Option Ans) (r : Ans) (h : B206_0 fuel st K = some r) : evalCode tab (G206 fuel) (J206_0 fuel) kp206 fuel (.block 0 (.loop (bodyOf 0 Try.f206))) st K = some r := by
  unfold B206_0 at h
  split at h
  · rename_i s hs
    split at h
    · skip
      obtain ⟨hb, h⟩ := cond_some' h
      simp only [Bool.and_eq_true, Nat.beq_eq, decide_eq_true_eq] at hb
      obtain ⟨⟨⟨⟨rfl, rfl⟩, rfl⟩, rfl⟩, rfl⟩ := hb
      exact blk_loop (S := T206_0) (ks := E206_0) (step := S_ref02_unlikely_0 fuel) (v := (_, _, _)) (by kernel_rfl) (by kernel_rfl) (fun R K v => by obtain ⟨x0, x1, x2⟩ := v; exact S206_0_ok fuel R K x0 x1 x2) hs h
    · cases h
  · cases h
noncomputable def J206 (fuel : Nat) (i : Nat) : Option Ev.Blk := Ev.look i [(100000, B206_0 fuel)]
noncomputable def F_ref02_unlikely (fuel : Nat) (x0 : Int) (k0 : (Int) → Option Ans) : Option Ans :=
  (L_ref02_unlikely_0 fuel (x0, (2048 : Int), (0 : Int))
    (fun b0_0 =>
      k0 b0_0))
abbrev YF206 : Type := (Int) → ((Int) → Option Ans) → Option Ans
theorem F206_eq (fuel : Nat) (x0 : Int) (k : Ev.Cont) : evalFn tab (G206 fuel) (J206 fuel) kp206 fuel Try.f206 [.c (.int .i64 x0)] [] k = F_ref02_unlikely fuel x0 (fun r => match r with | r0 => k (.c (.int .i64 r0), [])) := by
  kernel_rfl
theorem hG206 (fuel : Nat) : GOK Try.prog (G206 fuel) :=
  gok_nil
theorem B206_0_blk (fuel : Nat) : BlkOK Try.prog Try.f206.ntmps (.block 0 (.loop (bodyOf 0 Try.f206))) (B206_0 fuel) :=
  blk_of (blk_of_code tab_ok (hG206 fuel) mixed (J := J206_0 fuel) (kp := kp206) (fuel := fuel) (by kernel_rfl) (fun q hq => by
    rw [(by kernel_rfl : obl (J206_0 fuel) (.block 0 (.loop (bodyOf 0 Try.f206))) = [])] at hq
    cases hq)) (B206_0_ok fuel)
theorem fok206 (fuel : Nat) : FnOK Try.prog 206 (evalFn tab (G206 fuel) (J206 fuel) kp206 fuel Try.f206) :=
  fn_ok tab_ok (hG206 fuel) mixed Try.func206 (c := (Try.f206.body).getD .skip) rfl (fun q hq => by
    rw [(by kernel_rfl : obl (J206 fuel) ((Try.f206.body).getD .skip) = [(.block 0 (.loop (bodyOf 0 Try.f206)), B206_0 fuel)])] at hq
    simp only [List.mem_cons, List.not_mem_nil, or_false] at hq
    subst hq
    · exact B206_0_blk fuel)
noncomputable def mt206 : List Ev.SV → List Ev.Ob → Bool := fun args objs => match args, objs with
  | [.c (.int .i64 _)], [] => true
  | _, _ => false
noncomputable def spg206 (F : YF206) : Ev.Spec := fun args objs k => match args, objs with
  | [.c (.int .i64 x0)], [] => bif true then F x0 (fun r => match r with | r0 => k (.c (.int .i64 r0), [])) else none
  | _, _ => none
noncomputable def spec206 (fuel : Nat) : Ev.Spec := spg206 (F_ref02_unlikely fuel)
theorem ok206 (fuel : Nat) : FnOK Try.prog 206 (spec206 fuel) := by
  intro args objs kk r h
  unfold spec206 spg206 at h
  split at h
  · skip
    obtain ⟨hb, h⟩ := cond_some' h
    simp only [Bool.and_eq_true, Nat.beq_eq, decide_eq_true_eq] at hb
    clear hb
    exact fok206 fuel _ _ kk r ((F206_eq fuel _ kk).trans h)
  · cases h
end Go.Proofs.Ytihfgpfofmjbaaa

set_option linter.unusedVariables false
set_option linter.unusedSimpArgs false
set_option maxRecDepth 100000
set_option maxHeartbeats 2000000
namespace Go.Proofs.Ytihfgpfofmjbaaa
open Go Ev
def kp181 (i : Nat) : Option (List Nat) := Ev.look i []
noncomputable def Gg181 (f206 : YF206) (f : Nat) : Option Ev.Spec := Ev.look f [(206, spg206 f206)]
noncomputable def G181 (fuel : Nat) : Nat → Option Ev.Spec := Gg181 (F_ref02_unlikely fuel)
noncomputable def J181 (fuel : Nat) (i : Nat) : Option Ev.Blk := Ev.look i []
noncomputable def F_ref02_Likely (fuel : Nat) (x0 : Int) (x1 : Int) (k0 : (Int) → Option Ans) : Option Ans :=
  bif x0 == (0 : Int) then
   (F_ref02_unlikely fuel (x1.tmod (32 : Int))
     (fun y3 =>
       bif Decidable.decide (x1 < (32 : Int)) then
        k0 y3
       else
        (F_ref02_unlikely fuel (x1.tmod (32 : Int))
          (fun y8 =>
            k0 (Go.IntKind.i64.wrap ((4096 : Int) - y8))))))
  else
   bif Decidable.decide (Go.IntKind.i64.wrap (Go.IntKind.i64.wrap (Go.IntKind.i64.wrap ((2 : Int) * Go.IntKind.i64.wrap (x1.tdiv (256 : Int))) + Go.IntKind.i64.wrap ((2 : Int) * x1.tmod (256 : Int))) + (2 : Int)) = (0 : Int)) then
    none
   else
    k0 (bif Decidable.decide ((4095 : Int) < bif Decidable.decide ((1 : Int) > Go.IntKind.i64.wrap ((Go.IntKind.i64.wrap (Go.IntKind.i64.wrap (Go.IntKind.i64.wrap ((2 : Int) * x1.tmod (256 : Int)) + (1 : Int)) * (4096 : Int))).tdiv (Go.IntKind.i64.wrap (Go.IntKind.i64.wrap (Go.IntKind.i64.wrap ((2 : Int) * Go.IntKind.i64.wrap (x1.tdiv (256 : Int))) + Go.IntKind.i64.wrap ((2 : Int) * x1.tmod (256 : Int))) + (2 : Int))))) then (1 : Int) else Go.IntKind.i64.wrap ((Go.IntKind.i64.wrap (Go.IntKind.i64.wrap (Go.IntKind.i64.wrap ((2 : Int) * x1.tmod (256 : Int)) + (1 : Int)) * (4096 : Int))).tdiv (Go.IntKind.i64.wrap (Go.IntKind.i64.wrap (Go.IntKind.i64.wrap ((2 : Int) * Go.IntKind.i64.wrap (x1.tdiv (256 : Int))) + Go.IntKind.i64.wrap ((2 : Int) * x1.tmod (256 : Int))) + (2 : Int))))) then (4095 : Int) else bif Decidable.decide ((1 : Int) > Go.IntKind.i64.wrap ((Go.IntKind.i64.wrap (Go.IntKind.i64.wrap (Go.IntKind.i64.wrap ((2 : Int) * x1.tmod (256 : Int)) + (1 : Int)) * (4096 : Int))).tdiv (Go.IntKind.i64.wrap (Go.IntKind.i64.wrap (Go.IntKind.i64.wrap ((2 : Int) * Go.IntKind.i64.wrap (x1.tdiv (256 : Int))) + Go.IntKind.i64.wrap ((2 : Int) * x1.tmod (256 : Int))) + (2 : Int))))) then (1 : Int) else Go.IntKind.i64.wrap ((Go.IntKind.i64.wrap (Go.IntKind.i64.wrap (Go.IntKind.i64.wrap ((2 : Int) * x1.tmod (256 : Int)) + (1 : Int)) * (4096 : Int))).tdiv (Go.IntKind.i64.wrap (Go.IntKind.i64.wrap (Go.IntKind.i64.wrap ((2 : Int) * Go.IntKind.i64.wrap (x1.tdiv (256 : Int))) + Go.IntKind.i64.wrap ((2 : Int) * x1.tmod (256 : Int))) + (2 : Int)))))
abbrev YF181 : Type := (Int) → (Int) → ((Int) → Option Ans) → Option Ans
theorem F181_eqg (fuel : Nat) (f206 : YF206) (x0 : Int) (x1 : Int) (k : Ev.Cont) : evalFn tab (Gg181 f206) (J181 fuel) kp181 fuel Try.f181 [.c (.int .i64 x0), .c (.int .i64 x1)] [] k = (fun  (k0 : (Int) → Option Ans) =>
  bif x0 == (0 : Int) then
   (f206 (x1.tmod (32 : Int))
     (fun y3 =>
       bif Decidable.decide (x1 < (32 : Int)) then
        k0 y3
       else
        (f206 (x1.tmod (32 : Int))
          (fun y8 =>
            k0 (Go.IntKind.i64.wrap ((4096 : Int) - y8))))))
  else
   bif Decidable.decide (Go.IntKind.i64.wrap (Go.IntKind.i64.wrap (Go.IntKind.i64.wrap ((2 : Int) * Go.IntKind.i64.wrap (x1.tdiv (256 : Int))) + Go.IntKind.i64.wrap ((2 : Int) * x1.tmod (256 : Int))) + (2 : Int)) = (0 : Int)) then
    none
   else
    k0 (bif Decidable.decide ((4095 : Int) < bif Decidable.decide ((1 : Int) > Go.IntKind.i64.wrap ((Go.IntKind.i64.wrap (Go.IntKind.i64.wrap (Go.IntKind.i64.wrap ((2 : Int) * x1.tmod (256 : Int)) + (1 : Int)) * (4096 : Int))).tdiv (Go.IntKind.i64.wrap (Go.IntKind.i64.wrap (Go.IntKind.i64.wrap ((2 : Int) * Go.IntKind.i64.wrap (x1.tdiv (256 : Int))) + Go.IntKind.i64.wrap ((2 : Int) * x1.tmod (256 : Int))) + (2 : Int))))) then (1 : Int) else Go.IntKind.i64.wrap ((Go.IntKind.i64.wrap (Go.IntKind.i64.wrap (Go.IntKind.i64.wrap ((2 : Int) * x1.tmod (256 : Int)) + (1 : Int)) * (4096 : Int))).tdiv (Go.IntKind.i64.wrap (Go.IntKind.i64.wrap (Go.IntKind.i64.wrap ((2 : Int) * Go.IntKind.i64.wrap (x1.tdiv (256 : Int))) + Go.IntKind.i64.wrap ((2 : Int) * x1.tmod (256 : Int))) + (2 : Int))))) then (4095 : Int) else bif Decidable.decide ((1 : Int) > Go.IntKind.i64.wrap ((Go.IntKind.i64.wrap (Go.IntKind.i64.wrap (Go.IntKind.i64.wrap ((2 : Int) * x1.tmod (256 : Int)) + (1 : Int)) * (4096 : Int))).tdiv (Go.IntKind.i64.wrap (Go.IntKind.i64.wrap (Go.IntKind.i64.wrap ((2 : Int) * Go.IntKind.i64.wrap (x1.tdiv (256 : Int))) + Go.IntKind.i64.wrap ((2 : Int) * x1.tmod (256 : Int))) + (2 : Int))))) then (1 : Int) else Go.IntKind.i64.wrap ((Go.IntKind.i64.wrap (Go.IntKind.i64.wrap (Go.IntKind.i64.wrap ((2 : Int) * x1.tmod (256 : Int)) + (1 : Int)) * (4096 : Int))).tdiv (Go.IntKind.i64.wrap (Go.IntKind.i64.wrap (Go.IntKind.i64.wrap ((2 : Int) * Go.IntKind.i64.wrap (x1.tdiv (256 : Int))) + Go.IntKind.i64.wrap ((2 : Int) * x1.tmod (256 : Int))) + (2 : Int)))))) (fun r => match r with | r0 => k (.c (.int .i64 r0), [])) := by
  kernel_rfl
theorem F181_eq (fuel : Nat) (x0 : Int) (x1 : Int) (k : Ev.Cont) : evalFn tab (G181 fuel) (J181 fuel) kp181 fuel Try.f181 [.c (.int .i64 x0), .c (.int .i64 x1)] [] k = F_ref02_Likely fuel x0 x1 (fun r => match r with | r0 => k (.c (.int .i64 r0), [])) :=
  F181_eqg fuel (F_ref02_unlikely fuel) x0 x1 k
theorem hG181 (fuel : Nat) : GOK Try.prog (G181 fuel) :=
  gok_cons ⟨ok206 fuel, enters_of Try.func206 (by kernel_rfl) rfl⟩ <|
  gok_nil
theorem fok181 (fuel : Nat) : FnOK Try.prog 181 (evalFn tab (G181 fuel) (J181 fuel) kp181 fuel Try.f181) :=
  fn_ok tab_ok (hG181 fuel) mixed Try.func181 (c := (Try.f181.body).getD .skip) rfl (fun q hq => by
    rw [(by kernel_rfl : obl (J181 fuel) ((Try.f181.body).getD .skip) = [])] at hq
    cases hq)
noncomputable def mt181 : List Ev.SV → List Ev.Ob → Bool := fun args objs => match args, objs with
  | [.c (.int .i64 _), .c (.int .i64 _)], [] => true
  | _, _ => false
noncomputable def spg181 (F : YF181) : Ev.Spec := fun args objs k => match args, objs with
  | [.c (.int .i64 x0), .c (.int .i64 x1)], [] => bif true then F x0 x1 (fun r => match r with | r0 => k (.c (.int .i64 r0), [])) else none
  | _, _ => none
noncomputable def spec181 (fuel : Nat) : Ev.Spec := spg181 (F_ref02_Likely fuel)
theorem ok181 (fuel : Nat) : FnOK Try.prog 181 (spec181 fuel) := by
  intro args objs kk r h
  unfold spec181 spg181 at h
  split at h
  · skip
    obtain ⟨hb, h⟩ := cond_some' h
    simp only [Bool.and_eq_true, Nat.beq_eq, decide_eq_true_eq] at hb
    clear hb
    exact fok181 fuel _ _ kk r ((F181_eq fuel _ _ kk).trans h)
  · cases h
end Go.Proofs.Ytihfgpfofmjbaaa

set_option linter.unusedVariables false
set_option linter.unusedSimpArgs false
set_option maxRecDepth 100000
set_option maxHeartbeats 2000000
namespace Go.Proofs.Ytihfgpfofmjbaaa
open Go Ev
def kp188_e89 (i : Nat) : Option (List Nat) := Ev.look i [(8, [0, 1000002]), (100000, []), (200005, [0]), (200007, [0]), (400000, [6]), (600000, [])]
noncomputable def Gg188_e89 (f181 : YF181) (f183 : YF183) (f184 : YF184) (f185 : YF185) (f186 : YF186) (f : Nat) : Option Ev.Spec := Ev.look f [(181, spg181 f181), (183, spg183 f183), (184, spg184 f184), (185, spg185 f185), (186, spg186 f186)]
noncomputable def G188_e89 (fuel : Nat) : Nat → Option Ev.Spec := Gg188_e89 (F_ref02_Likely fuel) (F_ref02_Interval_Part fuel) (F_ref02_Interval_Fixed fuel) (F_ref02_Interval_Shifted fuel) (F_ref02_After fuel)
noncomputable def S_ref02_Encoder_Put_e89_0 (fuel : Nat) (v : Int × Int × Int × (List Int) × (List Int)) (c : (Int × Int × Int × (List Int) × (List Int)) → Option Ans) (B : (Int × Int × Int × (List Int) × (List Int) → Option Ans)) : Option Ans := match v, B with
  | (x0, x1, x2, x3, x4), b =>
   (F_ref02_Interval_Fixed fuel (x1) (x2)
       (fun y2 =>
         bif y2 then
          both (bif Decidable.decide ((x4.length + [Go.IntKind.u8.wrap (Ev.ishr Go.IntKind.u64 x2 (24 : Int))].length) * (1 : Nat) ≤ (140737488355328 : Nat) ∧ x4.length + [Go.IntKind.u8.wrap (Ev.ishr Go.IntKind.u64 x2 (24 : Int))].length ≤ (140737488355328 : Nat)) then
            (F_ref02_Interval_Shifted fuel (x1) (x2)
               (fun (y10_0, y10_1) =>
                 c (x0, y10_0, y10_1, x3, x4 ++ [Go.IntKind.u8.wrap (Ev.ishr Go.IntKind.u64 x2 (24 : Int))])))
            else none)
           (both (bif Decidable.decide ((x4.length + [Go.IntKind.u8.wrap (Ev.ishr Go.IntKind.u64 x2 (24 : Int))].length) * (1 : Nat) ≤ (140737488355328 : Nat) ∧ x4.length + [Go.IntKind.u8.wrap (Ev.ishr Go.IntKind.u64 x2 (24 : Int))].length ≤ (140737488355328 : Nat)) then
              (F_ref02_Interval_Shifted fuel (x1) (x2)
                 (fun (y12_0, y12_1) =>
                   c (x0, y12_0, y12_1, x3, x4 ++ [Go.IntKind.u8.wrap (Ev.ishr Go.IntKind.u64 x2 (24 : Int))])))
              else none)
             (bif Decidable.decide ((x4.length + [Go.IntKind.u8.wrap (Ev.ishr Go.IntKind.u64 x2 (24 : Int))].length) * (1 : Nat) ≤ (140737488355328 : Nat) ∧ x4.length + [Go.IntKind.u8.wrap (Ev.ishr Go.IntKind.u64 x2 (24 : Int))].length ≤ (140737488355328 : Nat)) then
              (F_ref02_Interval_Shifted fuel (x1) (x2)
                 (fun (y12_0, y12_1) =>
                   c (x0, y12_0, y12_1, x3, x4 ++ [Go.IntKind.u8.wrap (Ev.ishr Go.IntKind.u64 x2 (24 : Int))])))
              else none))
         else
          b (x0, x1, x2, x3, x4)))
noncomputable def L_ref02_Encoder_Put_e89_0 (fuel : Nat) (v : Int × Int × Int × (List Int) × (List Int)) (b : (Int × Int × Int × (List Int) × (List Int) → Option Ans)) : Option Ans := iter (S_ref02_Encoder_Put_e89_0 fuel) fuel v b
noncomputable def J188_e89_0 (fuel : Nat) (i : Nat) : Option Ev.Blk := Ev.look i []
noncomputable def T188_e89_0 (v : Int × Int × Int × (List Int) × (List Int)) : Ev.St := match v with | (x0, x1, x2, x3, x4) => ⟨[(0, .c (.ptr 0 0))], [(0, .cells 225 [.int .i64 x0, .own 1, .int .u64 x1, .int .u64 x2, .own 2]), (1, .vec 3 (.int .i64) x3 false), (2, .vec 5 (.int .u8) x4 true)], 3, 3⟩
noncomputable def E188_e89_0 (K : Ev.Ex → Ev.St → Option Ans) : (Int × Int × Int × (List Int) × (List Int) → Option Ans) := (fun v => match v with | (x0, x1, x2, x3, x4) => K .normal ⟨[], [(0, .cells 225 [.int .i64 x0, .own 1, .int .u64 x1, .int .u64 x2, .own 2]), (1, .vec 3 (.int .i64) x3 false), (2, .vec 5 (.int .u8) x4 true)], 3, 3⟩)
theorem S188_e89_0_okg (fuel : Nat) (f181 : YF181) (f183 : YF183) (f184 : YF184) (f185 : YF185) (f186 : YF186) (R : Ev.St → Option Ans) (K : Ev.Ex → Ev.St → Option Ans) (x0 : Int) (x1 : Int) (x2 : Int) (x3 : (List Int)) (x4 : (List Int)) : evalCode tab (Gg188_e89 f181 f183 f184 f185 f186) (J188_e89_0 fuel) kp188_e89 fuel (bodyOf 0 Try.f188) (T188_e89_0 (x0, x1, x2, x3, x4)) (lc kp188_e89 8 0 R K) = (fun (c : (Int × Int × Int × (List Int) × (List Int)) → Option Ans) (B : (Int × Int × Int × (List Int) × (List Int) → Option Ans)) => match B with
  | b =>
   (f184 (x1) (x2)
       (fun y2 =>
         bif y2 then
          both (bif Decidable.decide ((x4.length + [Go.IntKind.u8.wrap (Ev.ishr Go.IntKind.u64 x2 (24 : Int))].length) * (1 : Nat) ≤ (140737488355328 : Nat) ∧ x4.length + [Go.IntKind.u8.wrap (Ev.ishr Go.IntKind.u64 x2 (24 : Int))].length ≤ (140737488355328 : Nat)) then
            (f185 (x1) (x2)
               (fun (y10_0, y10_1) =>
                 c (x0, y10_0, y10_1, x3, x4 ++ [Go.IntKind.u8.wrap (Ev.ishr Go.IntKind.u64 x2 (24 : Int))])))
            else none)
           (both (bif Decidable.decide ((x4.length + [Go.IntKind.u8.wrap (Ev.ishr Go.IntKind.u64 x2 (24 : Int))].length) * (1 : Nat) ≤ (140737488355328 : Nat) ∧ x4.length + [Go.IntKind.u8.wrap (Ev.ishr Go.IntKind.u64 x2 (24 : Int))].length ≤ (140737488355328 : Nat)) then
              (f185 (x1) (x2)
                 (fun (y12_0, y12_1) =>
                   c (x0, y12_0, y12_1, x3, x4 ++ [Go.IntKind.u8.wrap (Ev.ishr Go.IntKind.u64 x2 (24 : Int))])))
              else none)
             (bif Decidable.decide ((x4.length + [Go.IntKind.u8.wrap (Ev.ishr Go.IntKind.u64 x2 (24 : Int))].length) * (1 : Nat) ≤ (140737488355328 : Nat) ∧ x4.length + [Go.IntKind.u8.wrap (Ev.ishr Go.IntKind.u64 x2 (24 : Int))].length ≤ (140737488355328 : Nat)) then
              (f185 (x1) (x2)
                 (fun (y12_0, y12_1) =>
                   c (x0, y12_0, y12_1, x3, x4 ++ [Go.IntKind.u8.wrap (Ev.ishr Go.IntKind.u64 x2 (24 : Int))])))
              else none))
         else
          b (x0, x1, x2, x3, x4)))) (fun v => R (T188_e89_0 v)) (E188_e89_0 K) := by
  kernel_rfl
theorem S188_e89_0_ok (fuel : Nat) (R : Ev.St → Option Ans) (K : Ev.Ex → Ev.St → Option Ans) (x0 : Int) (x1 : Int) (x2 : Int) (x3 : (List Int)) (x4 : (List Int)) : evalCode tab (G188_e89 fuel) (J188_e89_0 fuel) kp188_e89 fuel (bodyOf 0 Try.f188) (T188_e89_0 (x0, x1, x2, x3, x4)) (lc kp188_e89 8 0 R K) = S_ref02_Encoder_Put_e89_0 fuel (x0, x1, x2, x3, x4) (fun v => R (T188_e89_0 v)) (E188_e89_0 K) :=
  S188_e89_0_okg fuel (F_ref02_Likely fuel) (F_ref02_Interval_Part fuel) (F_ref02_Interval_Fixed fuel) (F_ref02_Interval_Shifted fuel) (F_ref02_After fuel) R K x0 x1 x2 x3 x4
noncomputable def B188_e89_0 (fuel : Nat) : Ev.Blk := fun st K => match canonO (kp188_e89 8) st with
  | some s => (match s with
    | ⟨[(q0, .c (.ptr q1 q2))], [(q3, .cells q4 [.int .i64 x0, .own q5, .int .u64 x1, .int .u64 x2, .own q6]), (q7, .vec q8 (.int .i64) x3 false), (q9, .vec q10 (.int .u8) x4 true)], q11, q12⟩ => bif Nat.beq q0 0 && Nat.beq q1 0 && Nat.beq q2 0 && Nat.beq q3 0 && Nat.beq q4 225 && Nat.beq q5 1 && Nat.beq q6 2 && Nat.beq q7 1 && Nat.beq q8 3 && Nat.beq q9 2 && Nat.beq q10 5 && Nat.beq q11 3 && Nat.beq q12 3 then iter (S_ref02_Encoder_Put_e89_0 fuel) fuel (x0, x1, x2, x3, x4) (E188_e89_0 K) else none
    | _ => none)
  | none => none
theorem B188_e89_0_ok (fuel : Nat) (st : Ev.St) (K : Ev.Ex → Ev.St → Option Ans) (r : Ans) (h : B188_e89_0 fuel st K = some r) : evalCode tab (G188_e89 fuel) (J188_e89_0 fuel) kp188_e89 fuel (.block 0 (.loop (bodyOf 0 Try.f188))) st K = some r := by
  unfold B188_e89_0 at h
  split at h
  · rename_i s hs
    split at h
    · skip
      obtain ⟨hb, h⟩ := cond_some' h
      simp only [Bool.and_eq_true, Nat.beq_eq, decide_eq_true_eq] at hb
      obtain ⟨⟨⟨⟨⟨⟨⟨⟨⟨⟨⟨⟨rfl, rfl⟩, rfl⟩, rfl⟩, rfl⟩, rfl⟩, rfl⟩, rfl⟩, rfl⟩, rfl⟩, rfl⟩, rfl⟩, rfl⟩ := hb
      exact blk_loop (S := T188_e89_0) (ks := E188_e89_0) (step := S_ref02_Encoder_Put_e89_0 fuel) (v := (_, _, _, _, _)) (by kernel_rfl) (by kernel_rfl) (fun R K v => by obtain ⟨x0, x1, x2, x3, x4⟩ := v; exact S188_e89_0_ok fuel R K x0 x1 x2 x3 x4) hs h
    · cases h
  · cases h
noncomputable def J188_e89 (fuel : Nat) (i : Nat) : Option Ev.Blk := Ev.look i [(100000, B188_e89_0 fuel)]
noncomputable def F_ref02_Encoder_Put_e89 (fuel : Nat) (x0 : Int) (x1 : Int) (x2 : Int) (x3 : Int) (x4 : Int) (x5 : (List Int)) (x6 : (List Int)) (k0 : (Int × Int × Int × Int × (List Int) × (List Int)) → Option Ans) (k1 : (Int × Int × Int × Int × (List Int) × (List Int)) → Option Ans) : Option Ans :=
  bif Decidable.decide (x0 < (0 : Int)) then
   k0 ((2 : Int), x2, x3, x4, x5, x6)
  else
   bif Decidable.decide (x0 ≥ (↑x5.length : Int)) then
    k0 ((2 : Int), x2, x3, x4, x5, x6)
   else
    bif x1 != (0 : Int) then
     bif x1 != (1 : Int) then
      k0 ((2 : Int), x2, x3, x4, x5, x6)
     else
      bif Decidable.decide ((0 : Int) ≤ x0 ∧ x0 < (↑x5.length : Int)) then
      (F_ref02_Likely fuel (x2) (x5.getD x0.toNat (0 : Int))
         (fun y7 =>
           (F_ref02_Interval_Part fuel (x3) (x4) (y7) (x1)
             (fun (y11_0, y11_1) =>
               bif Decidable.decide ((0 : Int) ≤ x0 ∧ x0 < (↑x5.length : Int)) then
               (F_ref02_After fuel (x2) (x5.getD x0.toNat (0 : Int)) (x1)
                  (fun y16 =>
                    bif Decidable.decide ((0 : Int) ≤ x0 ∧ x0 < (↑x5.length : Int)) then
                    (L_ref02_Encoder_Put_e89_0 fuel (x2, y11_0, y11_1, x5.set x0.toNat y16, x6)
                       (fun (b0_0, b0_1, b0_2, b0_3, b0_4) =>
                         k1 ((0 : Int), b0_0, b0_1, b0_2, b0_3, b0_4)))
                    else none))
               else none))))
      else none
    else
     bif Decidable.decide ((0 : Int) ≤ x0 ∧ x0 < (↑x5.length : Int)) then
     (F_ref02_Likely fuel (x2) (x5.getD x0.toNat (0 : Int))
        (fun y6 =>
          (F_ref02_Interval_Part fuel (x3) (x4) (y6) (x1)
            (fun (y10_0, y10_1) =>
              bif Decidable.decide ((0 : Int) ≤ x0 ∧ x0 < (↑x5.length : Int)) then
              (F_ref02_After fuel (x2) (x5.getD x0.toNat (0 : Int)) (x1)
                 (fun y15 =>
                   bif Decidable.decide ((0 : Int) ≤ x0 ∧ x0 < (↑x5.length : Int)) then
                   (L_ref02_Encoder_Put_e89_0 fuel (x2, y10_0, y10_1, x5.set x0.toNat y15, x6)
                      (fun (b0_0, b0_1, b0_2, b0_3, b0_4) =>
                        k1 ((0 : Int), b0_0, b0_1, b0_2, b0_3, b0_4)))
                   else none))
              else none))))
     else none
abbrev YF188_e89 : Type := (Int) → (Int) → (Int) → (Int) → (Int) → ((List Int)) → ((List Int)) → ((Int × Int × Int × Int × (List Int) × (List Int)) → Option Ans) → ((Int × Int × Int × Int × (List Int) × (List Int)) → Option Ans) → Option Ans
theorem F188_e89_eqg (fuel : Nat) (f181 : YF181) (f183 : YF183) (f184 : YF184) (f185 : YF185) (f186 : YF186) (x0 : Int) (x1 : Int) (x2 : Int) (x3 : Int) (x4 : Int) (x5 : (List Int)) (x6 : (List Int)) (k : Ev.Cont) : evalFn tab (Gg188_e89 f181 f183 f184 f185 f186) (J188_e89 fuel) kp188_e89 fuel Try.f188 [.c (.ptr 0 0), .c (.int .i64 x0), .c (.int .i64 x1)] [.cells 225 [.int .i64 x2, .own 1, .int .u64 x3, .int .u64 x4, .own 2], .vec 3 (.int .i64) x5 false, .vec 5 (.int .u8) x6 false] k = (fun  (k0 : (Int × Int × Int × Int × (List Int) × (List Int)) → Option Ans) (k1 : (Int × Int × Int × Int × (List Int) × (List Int)) → Option Ans) =>
  bif Decidable.decide (x0 < (0 : Int)) then
   k0 ((2 : Int), x2, x3, x4, x5, x6)
  else
   bif Decidable.decide (x0 ≥ (↑x5.length : Int)) then
    k0 ((2 : Int), x2, x3, x4, x5, x6)
   else
    bif x1 != (0 : Int) then
     bif x1 != (1 : Int) then
      k0 ((2 : Int), x2, x3, x4, x5, x6)
     else
      bif Decidable.decide ((0 : Int) ≤ x0 ∧ x0 < (↑x5.length : Int)) then
      (f181 (x2) (x5.getD x0.toNat (0 : Int))
         (fun y7 =>
           (f183 (x3) (x4) (y7) (x1)
             (fun (y11_0, y11_1) =>
               bif Decidable.decide ((0 : Int) ≤ x0 ∧ x0 < (↑x5.length : Int)) then
               (f186 (x2) (x5.getD x0.toNat (0 : Int)) (x1)
                  (fun y16 =>
                    bif Decidable.decide ((0 : Int) ≤ x0 ∧ x0 < (↑x5.length : Int)) then
                    (L_ref02_Encoder_Put_e89_0 fuel (x2, y11_0, y11_1, x5.set x0.toNat y16, x6)
                       (fun (b0_0, b0_1, b0_2, b0_3, b0_4) =>
                         k1 ((0 : Int), b0_0, b0_1, b0_2, b0_3, b0_4)))
                    else none))
               else none))))
      else none
    else
     bif Decidable.decide ((0 : Int) ≤ x0 ∧ x0 < (↑x5.length : Int)) then
     (f181 (x2) (x5.getD x0.toNat (0 : Int))
        (fun y6 =>
          (f183 (x3) (x4) (y6) (x1)
            (fun (y10_0, y10_1) =>
              bif Decidable.decide ((0 : Int) ≤ x0 ∧ x0 < (↑x5.length : Int)) then
              (f186 (x2) (x5.getD x0.toNat (0 : Int)) (x1)
                 (fun y15 =>
                   bif Decidable.decide ((0 : Int) ≤ x0 ∧ x0 < (↑x5.length : Int)) then
                   (L_ref02_Encoder_Put_e89_0 fuel (x2, y10_0, y10_1, x5.set x0.toNat y15, x6)
                      (fun (b0_0, b0_1, b0_2, b0_3, b0_4) =>
                        k1 ((0 : Int), b0_0, b0_1, b0_2, b0_3, b0_4)))
                   else none))
              else none))))
     else none) (fun r => match r with | (r0, r1, r2, r3, r4, r5) => k (.c (.int .i64 r0), [.cells 225 [.int .i64 r1, .own 1, .int .u64 r2, .int .u64 r3, .own 2], .vec 3 (.int .i64) r4 false, .vec 5 (.int .u8) r5 false])) (fun r => match r with | (r0, r1, r2, r3, r4, r5) => k (.c (.int .i64 r0), [.cells 225 [.int .i64 r1, .own 1, .int .u64 r2, .int .u64 r3, .own 2], .vec 3 (.int .i64) r4 false, .vec 5 (.int .u8) r5 true])) := by
  kernel_rfl
theorem F188_e89_eq (fuel : Nat) (x0 : Int) (x1 : Int) (x2 : Int) (x3 : Int) (x4 : Int) (x5 : (List Int)) (x6 : (List Int)) (k : Ev.Cont) : evalFn tab (G188_e89 fuel) (J188_e89 fuel) kp188_e89 fuel Try.f188 [.c (.ptr 0 0), .c (.int .i64 x0), .c (.int .i64 x1)] [.cells 225 [.int .i64 x2, .own 1, .int .u64 x3, .int .u64 x4, .own 2], .vec 3 (.int .i64) x5 false, .vec 5 (.int .u8) x6 false] k = F_ref02_Encoder_Put_e89 fuel x0 x1 x2 x3 x4 x5 x6 (fun r => match r with | (r0, r1, r2, r3, r4, r5) => k (.c (.int .i64 r0), [.cells 225 [.int .i64 r1, .own 1, .int .u64 r2, .int .u64 r3, .own 2], .vec 3 (.int .i64) r4 false, .vec 5 (.int .u8) r5 false])) (fun r => match r with | (r0, r1, r2, r3, r4, r5) => k (.c (.int .i64 r0), [.cells 225 [.int .i64 r1, .own 1, .int .u64 r2, .int .u64 r3, .own 2], .vec 3 (.int .i64) r4 false, .vec 5 (.int .u8) r5 true])) :=
  F188_e89_eqg fuel (F_ref02_Likely fuel) (F_ref02_Interval_Part fuel) (F_ref02_Interval_Fixed fuel) (F_ref02_Interval_Shifted fuel) (F_ref02_After fuel) x0 x1 x2 x3 x4 x5 x6 k
theorem hG188_e89 (fuel : Nat) : GOK Try.prog (G188_e89 fuel) :=
  gok_cons ⟨ok181 fuel, enters_of Try.func181 (by kernel_rfl) rfl⟩ <|
  gok_cons ⟨ok183 fuel, enters_of Try.func183 (by kernel_rfl) rfl⟩ <|
  gok_cons ⟨ok184 fuel, enters_of Try.func184 (by kernel_rfl) rfl⟩ <|
  gok_cons ⟨ok185 fuel, enters_of Try.func185 (by kernel_rfl) rfl⟩ <|
  gok_cons ⟨ok186 fuel, enters_of Try.func186 (by kernel_rfl) rfl⟩ <|
  gok_nil
theorem B188_e89_0_blk (fuel : Nat) : BlkOK Try.prog Try.f188.ntmps (.block 0 (.loop (bodyOf 0 Try.f188))) (B188_e89_0 fuel) :=
  blk_of (blk_of_code tab_ok (hG188_e89 fuel) mixed (J := J188_e89_0 fuel) (kp := kp188_e89) (fuel := fuel) (by kernel_rfl) (fun q hq => by
    rw [(by kernel_rfl : obl (J188_e89_0 fuel) (.block 0 (.loop (bodyOf 0 Try.f188))) = [])] at hq
    cases hq)) (B188_e89_0_ok fuel)
theorem fok188_e89 (fuel : Nat) : FnOK Try.prog 188 (evalFn tab (G188_e89 fuel) (J188_e89 fuel) kp188_e89 fuel Try.f188) :=
  fn_ok tab_ok (hG188_e89 fuel) mixed Try.func188 (c := (Try.f188.body).getD .skip) rfl (fun q hq => by
    rw [(by kernel_rfl : obl (J188_e89 fuel) ((Try.f188.body).getD .skip) = [(.block 0 (.loop (bodyOf 0 Try.f188)), B188_e89_0 fuel)])] at hq
    simp only [List.mem_cons, List.not_mem_nil, or_false] at hq
    subst hq
    · exact B188_e89_0_blk fuel)
noncomputable def mt188_e89 : List Ev.SV → List Ev.Ob → Bool := fun args objs => match args, objs with
  | [.c (.ptr q0 q1), .c (.int .i64 _), .c (.int .i64 _)], [.cells q2 [.int .i64 _, .own q3, .int .u64 _, .int .u64 _, .own q4], .vec q5 (.int .i64) _ false, .vec q6 (.int .u8) _ false] => Nat.beq q0 0 && Nat.beq q1 0 && Nat.beq q2 225 && Nat.beq q3 1 && Nat.beq q4 2 && Nat.beq q5 3 && Nat.beq q6 5
  | _, _ => false
noncomputable def spg188_e89 (F : YF188_e89) : Ev.Spec := fun args objs k => match args, objs with
  | [.c (.ptr q0 q1), .c (.int .i64 x0), .c (.int .i64 x1)], [.cells q2 [.int .i64 x2, .own q3, .int .u64 x3, .int .u64 x4, .own q4], .vec q5 (.int .i64) x5 false, .vec q6 (.int .u8) x6 false] => bif Nat.beq q0 0 && Nat.beq q1 0 && Nat.beq q2 225 && Nat.beq q3 1 && Nat.beq q4 2 && Nat.beq q5 3 && Nat.beq q6 5 then F x0 x1 x2 x3 x4 x5 x6 (fun r => match r with | (r0, r1, r2, r3, r4, r5) => k (.c (.int .i64 r0), [.cells 225 [.int .i64 r1, .own 1, .int .u64 r2, .int .u64 r3, .own 2], .vec 3 (.int .i64) r4 false, .vec 5 (.int .u8) r5 false])) (fun r => match r with | (r0, r1, r2, r3, r4, r5) => k (.c (.int .i64 r0), [.cells 225 [.int .i64 r1, .own 1, .int .u64 r2, .int .u64 r3, .own 2], .vec 3 (.int .i64) r4 false, .vec 5 (.int .u8) r5 true])) else none
  | _, _ => none
noncomputable def spec188_e89 (fuel : Nat) : Ev.Spec := spg188_e89 (F_ref02_Encoder_Put_e89 fuel)
theorem ok188_e89 (fuel : Nat) : FnOK Try.prog 188 (spec188_e89 fuel) := by
  intro args objs kk r h
  unfold spec188_e89 spg188_e89 at h
  split at h
  · skip
    obtain ⟨hb, h⟩ := cond_some' h
    simp only [Bool.and_eq_true, Nat.beq_eq, decide_eq_true_eq] at hb
    obtain ⟨⟨⟨⟨⟨⟨rfl, rfl⟩, rfl⟩, rfl⟩, rfl⟩, rfl⟩, rfl⟩ := hb
    exact fok188_e89 fuel _ _ kk r ((F188_e89_eq fuel _ _ _ _ _ _ _ kk).trans h)
  · cases h
end Go.Proofs.Ytihfgpfofmjbaaa

set_option linter.unusedVariables false
set_option linter.unusedSimpArgs false
set_option maxRecDepth 100000
set_option maxHeartbeats 2000000
namespace Go.Proofs.Ytihfgpfofmjbaaa
open Go Ev
def kp156 (i : Nat) : Option (List Nat) := Ev.look i []
noncomputable def Gg156 (f : Nat) : Option Ev.Spec := Ev.look f []
noncomputable def G156 (fuel : Nat) : Nat → Option Ev.Spec := Gg156
noncomputable def J156 (fuel : Nat) (i : Nat) : Option Ev.Blk := Ev.look i []
noncomputable def F_ref05_inside (fuel : Nat) (x0 : Int) (x1 : Int) (x2 : (List Int)) (x3 : Int) (x4 : Int) (k0 : (Bool) → Option Ans) : Option Ans :=
  bif Decidable.decide (x3 ≥ (0 : Int)) then
   bif Decidable.decide (x4 ≥ (0 : Int)) then
    bif Decidable.decide (x3 < x0) then
     k0 (Decidable.decide (x4 < x1))
    else
     k0 Bool.false
   else
    k0 Bool.false
  else
   k0 Bool.false
abbrev YF156 : Type := (Int) → (Int) → ((List Int)) → (Int) → (Int) → ((Bool) → Option Ans) → Option Ans
theorem F156_eq (fuel : Nat) (x0 : Int) (x1 : Int) (x2 : (List Int)) (x3 : Int) (x4 : Int) (k : Ev.Cont) : evalFn tab (G156 fuel) (J156 fuel) kp156 fuel Try.f156 [.agg [.int .i64 x0, .int .i64 x1, .sl (.int .u8) x2], .c (.int .i64 x3), .c (.int .i64 x4)] [] k = F_ref05_inside fuel x0 x1 x2 x3 x4 (fun r => match r with | r0 => k (.c (.bool r0), [])) := by
  kernel_rfl
theorem hG156 (fuel : Nat) : GOK Try.prog (G156 fuel) :=
  gok_nil
theorem fok156 (fuel : Nat) : FnOK Try.prog 156 (evalFn tab (G156 fuel) (J156 fuel) kp156 fuel Try.f156) :=
  fn_ok tab_ok (hG156 fuel) mixed Try.func156 (c := (Try.f156.body).getD .skip) rfl (fun q hq => by
    rw [(by kernel_rfl : obl (J156 fuel) ((Try.f156.body).getD .skip) = [])] at hq
    cases hq)
noncomputable def mt156 : List Ev.SV → List Ev.Ob → Bool := fun args objs => match args, objs with
  | [.agg [.int .i64 _, .int .i64 _, .sl (.int .u8) _], .c (.int .i64 _), .c (.int .i64 _)], [] => true
  | _, _ => false
noncomputable def spg156 (F : YF156) : Ev.Spec := fun args objs k => match args, objs with
  | [.agg [.int .i64 x0, .int .i64 x1, .sl (.int .u8) x2], .c (.int .i64 x3), .c (.int .i64 x4)], [] => bif true then F x0 x1 x2 x3 x4 (fun r => match r with | r0 => k (.c (.bool r0), [])) else none
  | _, _ => none
noncomputable def spec156 (fuel : Nat) : Ev.Spec := spg156 (F_ref05_inside fuel)
theorem ok156 (fuel : Nat) : FnOK Try.prog 156 (spec156 fuel) := by
  intro args objs kk r h
  unfold spec156 spg156 at h
  split at h
  · skip
    obtain ⟨hb, h⟩ := cond_some' h
    simp only [Bool.and_eq_true, Nat.beq_eq, decide_eq_true_eq] at hb
    clear hb
    exact fok156 fuel _ _ kk r ((F156_eq fuel _ _ _ _ _ kk).trans h)
  · cases h
end Go.Proofs.Ytihfgpfofmjbaaa

set_option linter.unusedVariables false
set_option linter.unusedSimpArgs false
set_option maxRecDepth 100000
set_option maxHeartbeats 2000000
namespace Go.Proofs.Ytihfgpfofmjbaaa
open Go Ev
def kp125 (i : Nat) : Option (List Nat) := Ev.look i []
noncomputable def Gg125 (f156 : YF156) (f : Nat) : Option Ev.Spec := Ev.look f [(156, spg156 f156)]
noncomputable def G125 (fuel : Nat) : Nat → Option Ev.Spec := Gg125 (F_ref05_inside fuel)
noncomputable def J125 (fuel : Nat) (i : Nat) : Option Ev.Blk := Ev.look i []
noncomputable def F_ref05_At (fuel : Nat) (x0 : Int) (x1 : Int) (x2 : (List Int)) (x3 : Int) (x4 : Int) (k0 : (Int) → Option Ans) : Option Ans :=
  (F_ref05_inside fuel (x0) (x1) (x2) (x3) (x4)
    (fun y2 =>
      bif !y2 then
       k0 ((0 : Int))
      else
       bif Decidable.decide ((0 : Int) ≤ Go.IntKind.i64.wrap (Go.IntKind.i64.wrap (x4 * x0) + x3) ∧ Go.IntKind.i64.wrap (Go.IntKind.i64.wrap (x4 * x0) + x3) < (↑x2.length : Int)) then
       k0 (Go.IntKind.i64.wrap (x2.getD (Go.IntKind.i64.wrap (Go.IntKind.i64.wrap (x4 * x0) + x3)).toNat (0 : Int)))
       else none))
abbrev YF125 : Type := (Int) → (Int) → ((List Int)) → (Int) → (Int) → ((Int) → Option Ans) → Option Ans
theorem F125_eqg (fuel : Nat) (f156 : YF156) (x0 : Int) (x1 : Int) (x2 : (List Int)) (x3 : Int) (x4 : Int) (k : Ev.Cont) : evalFn tab (Gg125 f156) (J125 fuel) kp125 fuel Try.f125 [.agg [.int .i64 x0, .int .i64 x1, .sl (.int .u8) x2], .c (.int .i64 x3), .c (.int .i64 x4)] [] k = (fun  (k0 : (Int) → Option Ans) =>
  (f156 (x0) (x1) (x2) (x3) (x4)
    (fun y2 =>
      bif !y2 then
       k0 ((0 : Int))
      else
       bif Decidable.decide ((0 : Int) ≤ Go.IntKind.i64.wrap (Go.IntKind.i64.wrap (x4 * x0) + x3) ∧ Go.IntKind.i64.wrap (Go.IntKind.i64.wrap (x4 * x0) + x3) < (↑x2.length : Int)) then
       k0 (Go.IntKind.i64.wrap (x2.getD (Go.IntKind.i64.wrap (Go.IntKind.i64.wrap (x4 * x0) + x3)).toNat (0 : Int)))
       else none))) (fun r => match r with | r0 => k (.c (.int .i64 r0), [])) := by
  kernel_rfl
theorem F125_eq (fuel : Nat) (x0 : Int) (x1 : Int) (x2 : (List Int)) (x3 : Int) (x4 : Int) (k : Ev.Cont) : evalFn tab (G125 fuel) (J125 fuel) kp125 fuel Try.f125 [.agg [.int .i64 x0, .int .i64 x1, .sl (.int .u8) x2], .c (.int .i64 x3), .c (.int .i64 x4)] [] k = F_ref05_At fuel x0 x1 x2 x3 x4 (fun r => match r with | r0 => k (.c (.int .i64 r0), [])) :=
  F125_eqg fuel (F_ref05_inside fuel) x0 x1 x2 x3 x4 k
theorem hG125 (fuel : Nat) : GOK Try.prog (G125 fuel) :=
  gok_cons ⟨ok156 fuel, enters_of Try.func156 (by kernel_rfl) rfl⟩ <|
  gok_nil
theorem fok125 (fuel : Nat) : FnOK Try.prog 125 (evalFn tab (G125 fuel) (J125 fuel) kp125 fuel Try.f125) :=
  fn_ok tab_ok (hG125 fuel) mixed Try.func125 (c := (Try.f125.body).getD .skip) rfl (fun q hq => by
    rw [(by kernel_rfl : obl (J125 fuel) ((Try.f125.body).getD .skip) = [])] at hq
    cases hq)
noncomputable def mt125 : List Ev.SV → List Ev.Ob → Bool := fun args objs => match args, objs with
  | [.agg [.int .i64 _, .int .i64 _, .sl (.int .u8) _], .c (.int .i64 _), .c (.int .i64 _)], [] => true
  | _, _ => false
noncomputable def spg125 (F : YF125) : Ev.Spec := fun args objs k => match args, objs with
  | [.agg [.int .i64 x0, .int .i64 x1, .sl (.int .u8) x2], .c (.int .i64 x3), .c (.int .i64 x4)], [] => bif true then F x0 x1 x2 x3 x4 (fun r => match r with | r0 => k (.c (.int .i64 r0), [])) else none
  | _, _ => none
noncomputable def spec125 (fuel : Nat) : Ev.Spec := spg125 (F_ref05_At fuel)
theorem ok125 (fuel : Nat) : FnOK Try.prog 125 (spec125 fuel) := by
  intro args objs kk r h
  unfold spec125 spg125 at h
  split at h
  · skip
    obtain ⟨hb, h⟩ := cond_some' h
    simp only [Bool.and_eq_true, Nat.beq_eq, decide_eq_true_eq] at hb
    clear hb
    exact fok125 fuel _ _ kk r ((F125_eq fuel _ _ _ _ _ kk).trans h)
  · cases h
end Go.Proofs.Ytihfgpfofmjbaaa

set_option linter.unusedVariables false
set_option linter.unusedSimpArgs false
set_option maxRecDepth 100000
set_option maxHeartbeats 2000000
namespace Go.Proofs.Ytihfgpfofmjbaaa
open Go Ev
def kp109 (i : Nat) : Option (List Nat) := Ev.look i []
noncomputable def Gg109 (f : Nat) : Option Ev.Spec := Ev.look f []
noncomputable def G109 (fuel : Nat) : Nat → Option Ev.Spec := Gg109
noncomputable def J109 (fuel : Nat) (i : Nat) : Option Ev.Blk := Ev.look i []
noncomputable def F_ref07_Valid (fuel : Nat) (x0 : Int) (x1 : Int) (x2 : Int) (x3 : Bool) (x4 : Int) (k0 : (Bool) → Option Ans) : Option Ans :=
  bif Decidable.decide (x0 < (0 : Int)) then
   k0 Bool.false
  else
   bif Decidable.decide (x0 > (3 : Int)) then
    k0 Bool.false
   else
    bif Decidable.decide (x4 < (0 : Int)) then
     k0 Bool.false
    else
     bif Decidable.decide (x4 > (1 : Int)) then
      k0 Bool.false
     else
      bif Decidable.decide (x1 < (-8 : Int)) then
       k0 Bool.false
      else
       bif Decidable.decide (x1 > (8 : Int)) then
        k0 Bool.false
       else
        bif Decidable.decide (x2 < (-8 : Int)) then
         k0 Bool.false
        else
         bif Decidable.decide (x2 > (0 : Int)) then
          k0 Bool.false
         else
          bif Decidable.decide (x2 < (0 : Int)) then
           k0 Bool.true
          else
           k0 (Decidable.decide (x1 < (0 : Int)))
abbrev YF109 : Type := (Int) → (Int) → (Int) → (Bool) → (Int) → ((Bool) → Option Ans) → Option Ans
theorem F109_eq (fuel : Nat) (x0 : Int) (x1 : Int) (x2 : Int) (x3 : Bool) (x4 : Int) (k : Ev.Cont) : evalFn tab (G109 fuel) (J109 fuel) kp109 fuel Try.f109 [.agg [.int .i64 x0, .int .i64 x1, .int .i64 x2, .bool x3, .int .i64 x4]] [] k = F_ref07_Valid fuel x0 x1 x2 x3 x4 (fun r => match r with | r0 => k (.c (.bool r0), [])) := by
  kernel_rfl
theorem hG109 (fuel : Nat) : GOK Try.prog (G109 fuel) :=
  gok_nil
theorem fok109 (fuel : Nat) : FnOK Try.prog 109 (evalFn tab (G109 fuel) (J109 fuel) kp109 fuel Try.f109) :=
  fn_ok tab_ok (hG109 fuel) mixed Try.func109 (c := (Try.f109.body).getD .skip) rfl (fun q hq => by
    rw [(by kernel_rfl : obl (J109 fuel) ((Try.f109.body).getD .skip) = [])] at hq
    cases hq)
noncomputable def mt109 : List Ev.SV → List Ev.Ob → Bool := fun args objs => match args, objs with
  | [.agg [.int .i64 _, .int .i64 _, .int .i64 _, .bool _, .int .i64 _]], [] => true
  | _, _ => false
noncomputable def spg109 (F : YF109) : Ev.Spec := fun args objs k => match args, objs with
  | [.agg [.int .i64 x0, .int .i64 x1, .int .i64 x2, .bool x3, .int .i64 x4]], [] => bif true then F x0 x1 x2 x3 x4 (fun r => match r with | r0 => k (.c (.bool r0), [])) else none
  | _, _ => none
noncomputable def spec109 (fuel : Nat) : Ev.Spec := spg109 (F_ref07_Valid fuel)
theorem ok109 (fuel : Nat) : FnOK Try.prog 109 (spec109 fuel) := by
  intro args objs kk r h
  unfold spec109 spg109 at h
  split at h
  · skip
    obtain ⟨hb, h⟩ := cond_some' h
    simp only [Bool.and_eq_true, Nat.beq_eq, decide_eq_true_eq] at hb
    clear hb
    exact fok109 fuel _ _ kk r ((F109_eq fuel _ _ _ _ _ kk).trans h)
  · cases h
end Go.Proofs.Ytihfgpfofmjbaaa

set_option linter.unusedVariables false
set_option linter.unusedSimpArgs false
set_option maxRecDepth 100000
set_option maxHeartbeats 2000000
namespace Go.Proofs.Ytihfgpfofmjbaaa
open Go Ev
def kp205 (i : Nat) : Option (List Nat) := Ev.look i []
noncomputable def Gg205 (f : Nat) : Option Ev.Spec := Ev.look f []
noncomputable def G205 (fuel : Nat) : Nat → Option Ev.Spec := Gg205
noncomputable def J205 (fuel : Nat) (i : Nat) : Option Ev.Blk := Ev.look i []
noncomputable def F_ref07_template (fuel : Nat) (x0 : Int) (k0 : ((List (Int × Int))) → Option Ans) : Option Ans :=
  bif x0 == (0 : Int) then
   k0 ([((-1 : Int), (-2 : Int)), ((0 : Int), (-2 : Int)), ((1 : Int), (-2 : Int)), ((-2 : Int), (-1 : Int)), ((-1 : Int), (-1 : Int)), ((0 : Int), (-1 : Int)), ((1 : Int), (-1 : Int)), ((2 : Int), (-1 : Int)), ((-2 : Int), (0 : Int)), ((-1 : Int), (0 : Int))])
  else
   bif x0 == (1 : Int) then
    k0 ([((-1 : Int), (-2 : Int)), ((0 : Int), (-2 : Int)), ((-1 : Int), (-1 : Int)), ((0 : Int), (-1 : Int)), ((1 : Int), (-1 : Int)), ((-2 : Int), (0 : Int)), ((-1 : Int), (0 : Int))])
   else
    bif x0 == (2 : Int) then
     k0 ([((-2 : Int), (-1 : Int)), ((-1 : Int), (-1 : Int)), ((0 : Int), (-1 : Int)), ((1 : Int), (-1 : Int)), ((2 : Int), (-1 : Int)), ((-2 : Int), (0 : Int)), ((-1 : Int), (0 : Int))])
    else
     k0 ([((-1 : Int), (-1 : Int)), ((0 : Int), (-1 : Int)), ((1 : Int), (-1 : Int)), ((-1 : Int), (0 : Int))])
abbrev YF205 : Type := (Int) → (((List (Int × Int))) → Option Ans) → Option Ans
theorem F205_eq (fuel : Nat) (x0 : Int) (k : Ev.Cont) : evalFn tab (G205 fuel) (J205 fuel) kp205 fuel Try.f205 [.c (.int .i64 x0)] [] k = F_ref07_template fuel x0 (fun r => match r with | r0 => k (.c (.own 0), [.vec 223 (.pair (.int .i64) (.int .i64)) r0 true])) := by
  kernel_rfl
theorem hG205 (fuel : Nat) : GOK Try.prog (G205 fuel) :=
  gok_nil
theorem fok205 (fuel : Nat) : FnOK Try.prog 205 (evalFn tab (G205 fuel) (J205 fuel) kp205 fuel Try.f205) :=
  fn_ok tab_ok (hG205 fuel) mixed Try.func205 (c := (Try.f205.body).getD .skip) rfl (fun q hq => by
    rw [(by kernel_rfl : obl (J205 fuel) ((Try.f205.body).getD .skip) = [])] at hq
    cases hq)
noncomputable def mt205 : List Ev.SV → List Ev.Ob → Bool := fun args objs => match args, objs with
  | [.c (.int .i64 _)], [] => true
  | _, _ => false
noncomputable def spg205 (F : YF205) : Ev.Spec := fun args objs k => match args, objs with
  | [.c (.int .i64 x0)], [] => bif true then F x0 (fun r => match r with | r0 => k (.c (.own 0), [.vec 223 (.pair (.int .i64) (.int .i64)) r0 true])) else none
  | _, _ => none
noncomputable def spec205 (fuel : Nat) : Ev.Spec := spg205 (F_ref07_template fuel)
theorem ok205 (fuel : Nat) : FnOK Try.prog 205 (spec205 fuel) := by
  intro args objs kk r h
  unfold spec205 spg205 at h
  split at h
  · skip
    obtain ⟨hb, h⟩ := cond_some' h
    simp only [Bool.and_eq_true, Nat.beq_eq, decide_eq_true_eq] at hb
    clear hb
    exact fok205 fuel _ _ kk r ((F205_eq fuel _ kk).trans h)
  · cases h
end Go.Proofs.Ytihfgpfofmjbaaa

