/- What the functions that ToneGets reaches do: their typed texts, each with the proof that the machine does it. No condition. -/
import Derived.Test.YtihfgpfofmjbaaaEvX
import Derived.Test.YtihfgpfofmjbaaaFsToneGets4
import Derived.Test.YtihfgpfofmjbaaaFsToneGets3
import Derived.Test.YtihfgpfofmjbaaaFsToneGets1
set_option linter.unusedVariables false
set_option linter.unusedSimpArgs false
set_option linter.unusedVariables false
set_option linter.unusedSimpArgs false
set_option maxRecDepth 100000
set_option maxHeartbeats 2000000
namespace Go.Proofs.Ytihfgpfofmjbaaa
open Go Ev
def kp91_d0e (i : Nat) : Option (List Nat) := Ev.look i [(4, [0, 1, 7, 8, 9, 10, 27, 28, 1000002]), (13, [0, 1, 7, 8, 9, 10, 11, 27, 28, 60, 61]), (100000, []), (100002, [0, 1, 7, 8, 9, 10, 27, 28]), (200008, [8, 9]), (200017, [8]), (400000, []), (400002, [])]
noncomputable def Gg91_d0e (f90 : YF90) (f97 : YF97) (f99_cf0 : YF99_cf0) (f158_a34 : YF158_a34) (f161 : YF161) (f162_b9e : YF162_b9e) (f163 : YF163) (f : Nat) : Option Ev.Spec := Ev.look f [(90, spg90 f90), (97, spg97 f97), (99, spg99_cf0 f99_cf0), (158, spg158_a34 f158_a34), (161, spg161 f161), (162, spg162_b9e f162_b9e), (163, spg163 f163)]
noncomputable def G91_d0e (fuel : Nat) : Nat → Option Ev.Spec := Gg91_d0e (F_generic_contexts fuel) (F_generic_newPlane fuel) (F_coder_Encoder_Put_cf0 fuel) (F_generic_plane_context_a34 fuel) (F_bytes_Equal fuel) (F_generic_plane_above_b9e fuel) (F_generic_skips fuel)
noncomputable def Sg_generic_put_d0e_2 (fuel : Nat) (f90 : YF90) (f97 : YF97) (f99_cf0 : YF99_cf0) (f158_a34 : YF158_a34) (f161 : YF161) (f162_b9e : YF162_b9e) (f163 : YF163) (x0 x1 : Int) (x2 x3 : Int) (x4 x5 : Int) (x6 x7 x8 : Int) (x9 : Bool) (x10 x11 : (List Int)) (x12 x13 x14 : Int) (x15 : Bool) (x16 x17 x18 : Int) (x19 : (List Int)) (x20 x21 : Int) (x22 : (List Int)) (x23 x24 : Int) (x25 : (List Int)) (x26 : (List (Int × Int))) (c : (Int × Int × Int × Int × Int × Int × Int × Int × Int × Bool × (List Int) × (List Int) × Int × Int × Int × Bool × Int × Int × Int × (List Int) × Int × Int × (List Int) × Int × Int × (List Int) × (List (Int × Int))) → Option Ans) (B : (Int × Int × Int × Int × Int × Int × Bool × (List Int) × (List Int) × Int × Int × Int × Bool × Int × Int × Int × (List Int) × Int × Int × (List Int) × Int × Int × (List Int) × (List (Int × Int)) → Option Ans)) : Option Ans := match B with
 | b =>
  bif decide (x5 < x4) then
  (f163 (x20) (x21) (x22) (IntKind.i64.wrap (IntKind.i64.wrap (x1 * x17) + x5))
  (fun y3 =>
  bif !y3 then
  bif decide ((0 : Int) ≤ IntKind.i64.wrap (IntKind.i64.wrap (x1 * x17) + x5) ∧ IntKind.i64.wrap (IntKind.i64.wrap (x1 * x17) + x5) < (↑x19.length : Int)) then
  (f158_a34 (x5) (x1) (x23) (x24) (x25) (x26)
  (fun (y9_0, y9_1, y9_2, y9_3, y9_4) =>
  (f99_cf0 (IntKind.i64.wrap (x0 + y9_0)) (IntKind.i64.wrap (x19.getD (IntKind.i64.wrap (IntKind.i64.wrap (x1 * x17) + x5)).toNat (0 : Int))) (x6) (x7) (x8) (x9) (x10) (x11)
  (fun (y13_0, y13_1, y13_2, y13_3, y13_4, y13_5, y13_6) =>
  c (x0, x1, x2, x3, x4, IntKind.i64.wrap (x5 + (1 : Int)), y13_1, y13_2, y13_3, y13_4, y13_5, y13_6, x12, x13, x14, x15, x16, x17, x18, x19, x20, x21, x22, y9_1, y9_2, y9_3, y9_4))
  (fun (y13_0, y13_1, y13_2, y13_3, y13_4, y13_5, y13_6) =>
  c (x0, x1, x2, x3, x4, IntKind.i64.wrap (x5 + (1 : Int)), y13_1, y13_2, y13_3, y13_4, y13_5, y13_6, x12, x13, x14, x15, x16, x17, x18, x19, x20, x21, x22, y9_1, y9_2, y9_3, y9_4)))))
  else none
  else
  c (x0, x1, x2, x3, x4, IntKind.i64.wrap (x5 + (1 : Int)), x6, x7, x8, x9, x10, x11, x12, x13, x14, x15, x16, x17, x18, x19, x20, x21, x22, x23, x24, x25, x26)))
  else
  b (x0, x2, x3, x6, x7, x8, x9, x10, x11, x12, x13, x14, x15, x16, x17, x18, x19, x20, x21, x22, x23, x24, x25, x26)
noncomputable def S_generic_put_d0e_2 (fuel : Nat) (v : Int × Int × Int × Int × Int × Int × Int × Int × Int × Bool × (List Int) × (List Int) × Int × Int × Int × Bool × Int × Int × Int × (List Int) × Int × Int × (List Int) × Int × Int × (List Int) × (List (Int × Int))) (c : (Int × Int × Int × Int × Int × Int × Int × Int × Int × Bool × (List Int) × (List Int) × Int × Int × Int × Bool × Int × Int × Int × (List Int) × Int × Int × (List Int) × Int × Int × (List Int) × (List (Int × Int))) → Option Ans) (B : (Int × Int × Int × Int × Int × Int × Bool × (List Int) × (List Int) × Int × Int × Int × Bool × Int × Int × Int × (List Int) × Int × Int × (List Int) × Int × Int × (List Int) × (List (Int × Int)) → Option Ans)) : Option Ans := match v with
 | (x0, x1, x2, x3, x4, x5, x6, x7, x8, x9, x10, x11, x12, x13, x14, x15, x16, x17, x18, x19, x20, x21, x22, x23, x24, x25, x26) => Sg_generic_put_d0e_2 fuel (F_generic_contexts fuel) (F_generic_newPlane fuel) (F_coder_Encoder_Put_cf0 fuel) (F_generic_plane_context_a34 fuel) (F_bytes_Equal fuel) (F_generic_plane_above_b9e fuel) (F_generic_skips fuel) x0 x1 x2 x3 x4 x5 x6 x7 x8 x9 x10 x11 x12 x13 x14 x15 x16 x17 x18 x19 x20 x21 x22 x23 x24 x25 x26 c B
noncomputable def L_generic_put_d0e_2 (fuel : Nat) (v : Int × Int × Int × Int × Int × Int × Int × Int × Int × Bool × (List Int) × (List Int) × Int × Int × Int × Bool × Int × Int × Int × (List Int) × Int × Int × (List Int) × Int × Int × (List Int) × (List (Int × Int))) (b : (Int × Int × Int × Int × Int × Int × Bool × (List Int) × (List Int) × Int × Int × Int × Bool × Int × Int × Int × (List Int) × Int × Int × (List Int) × Int × Int × (List Int) × (List (Int × Int)) → Option Ans)) : Option Ans := iter (S_generic_put_d0e_2 fuel) fuel v b
noncomputable def J91_d0e_2 (fuel : Nat) (i : Nat) : Option Ev.Blk := Ev.look i []
noncomputable def T91_d0e_2 (v : Int × Int × Int × Int × Int × Int × Int × Int × Int × Bool × (List Int) × (List Int) × Int × Int × Int × Bool × Int × Int × Int × (List Int) × Int × Int × (List Int) × Int × Int × (List Int) × (List (Int × Int))) : Ev.St := match v with | (x0, x1, x2, x3, x4, x5, x6, x7, x8, x9, x10, x11, x12, x13, x14, x15, x16, x17, x18, x19, x20, x21, x22, x23, x24, x25, x26) => ⟨[(0, .c (.ptr 0 0)), (1, .c (.int .i64 x0)), (7, .c (.ptr 3 0)), (8, .c (.ptr 4 0)), (9, .c (.ptr 5 0)), (10, .c (.ptr 6 0)), (11, .c (.int .i64 x1)), (27, .c (.int .i64 x2)), (28, .c (.int .i64 x3)), (60, .c (.int .i64 x4)), (61, .c (.int .i64 x5))], [(0, .cells 172 (.int .i64 x6 :: .own 1 :: ctb (.int .u64 x7 :: .int .u64 x8 :: .own 2 :: .bool x9 :: []))), (1, .vec 3 (.int .i64) x10 false), (2, .vec 5 (.int .u8) x11 true), (3, .cells 46 [.int .i64 x12, .int .i64 x13, .int .i64 x14, .bool x15, .int .i64 x16]), (4, .cells 39 [.int .i64 x17, .int .i64 x18, .sl (.int .u8) x19]), (5, .cells 39 [.int .i64 x20, .int .i64 x21, .sl (.int .u8) x22]), (6, .cells 137 [.int .i64 x23, .int .i64 x24, .sl (.int .u8) x25, .own 7]), (7, .vec 44 (.pair (.int .i64) (.int .i64)) x26 true)], 8, 3⟩
noncomputable def E91_d0e_2 (K : Ev.Ex → Ev.St → Option Ans) : (Int × Int × Int × Int × Int × Int × Bool × (List Int) × (List Int) × Int × Int × Int × Bool × Int × Int × Int × (List Int) × Int × Int × (List Int) × Int × Int × (List Int) × (List (Int × Int)) → Option Ans) := (fun v => match v with | (x0, x1, x2, x3, x4, x5, x6, x7, x8, x9, x10, x11, x12, x13, x14, x15, x16, x17, x18, x19, x20, x21, x22, x23) => K .normal ⟨[(0, .c (.ptr 0 0)), (1, .c (.int .i64 x0)), (7, .c (.ptr 3 0)), (8, .c (.ptr 4 0)), (9, .c (.ptr 5 0)), (10, .c (.ptr 6 0)), (27, .c (.int .i64 x1)), (28, .c (.int .i64 x2))], [(0, .cells 172 (.int .i64 x3 :: .own 1 :: ctb (.int .u64 x4 :: .int .u64 x5 :: .own 2 :: .bool x6 :: []))), (1, .vec 3 (.int .i64) x7 false), (2, .vec 5 (.int .u8) x8 true), (3, .cells 46 [.int .i64 x9, .int .i64 x10, .int .i64 x11, .bool x12, .int .i64 x13]), (4, .cells 39 [.int .i64 x14, .int .i64 x15, .sl (.int .u8) x16]), (5, .cells 39 [.int .i64 x17, .int .i64 x18, .sl (.int .u8) x19]), (6, .cells 137 [.int .i64 x20, .int .i64 x21, .sl (.int .u8) x22, .own 7]), (7, .vec 44 (.pair (.int .i64) (.int .i64)) x23 true)], 8, 3⟩)
theorem S91_d0e_2_okg (fuel : Nat) (f90 : YF90) (f97 : YF97) (f99_cf0 : YF99_cf0) (f158_a34 : YF158_a34) (f161 : YF161) (f162_b9e : YF162_b9e) (f163 : YF163) (R : Ev.St → Option Ans) (K : Ev.Ex → Ev.St → Option Ans) (x0 x1 : Int) (x2 x3 : Int) (x4 x5 : Int) (x6 x7 x8 : Int) (x9 : Bool) (x10 x11 : (List Int)) (x12 x13 x14 : Int) (x15 : Bool) (x16 x17 x18 : Int) (x19 : (List Int)) (x20 x21 : Int) (x22 : (List Int)) (x23 x24 : Int) (x25 : (List Int)) (x26 : (List (Int × Int))) : evalCode tab (Gg91_d0e f90 f97 f99_cf0 f158_a34 f161 f162_b9e f163) (J91_d0e_2 fuel) kp91_d0e fuel (bodyOf 2 Try.f91) (T91_d0e_2 (x0, x1, x2, x3, x4, x5, x6, x7, x8, x9, x10, x11, x12, x13, x14, x15, x16, x17, x18, x19, x20, x21, x22, x23, x24, x25, x26)) (lc kp91_d0e 13 2 R K) = Sg_generic_put_d0e_2 fuel f90 f97 f99_cf0 f158_a34 f161 f162_b9e f163 x0 x1 x2 x3 x4 x5 x6 x7 x8 x9 x10 x11 x12 x13 x14 x15 x16 x17 x18 x19 x20 x21 x22 x23 x24 x25 x26 (fun v => R (T91_d0e_2 v)) (E91_d0e_2 K) := by
  kernel_rfl
theorem S91_d0e_2_ok (fuel : Nat) (R : Ev.St → Option Ans) (K : Ev.Ex → Ev.St → Option Ans) (x0 x1 : Int) (x2 x3 : Int) (x4 x5 : Int) (x6 x7 x8 : Int) (x9 : Bool) (x10 x11 : (List Int)) (x12 x13 x14 : Int) (x15 : Bool) (x16 x17 x18 : Int) (x19 : (List Int)) (x20 x21 : Int) (x22 : (List Int)) (x23 x24 : Int) (x25 : (List Int)) (x26 : (List (Int × Int))) : evalCode tab (G91_d0e fuel) (J91_d0e_2 fuel) kp91_d0e fuel (bodyOf 2 Try.f91) (T91_d0e_2 (x0, x1, x2, x3, x4, x5, x6, x7, x8, x9, x10, x11, x12, x13, x14, x15, x16, x17, x18, x19, x20, x21, x22, x23, x24, x25, x26)) (lc kp91_d0e 13 2 R K) = S_generic_put_d0e_2 fuel (x0, x1, x2, x3, x4, x5, x6, x7, x8, x9, x10, x11, x12, x13, x14, x15, x16, x17, x18, x19, x20, x21, x22, x23, x24, x25, x26) (fun v => R (T91_d0e_2 v)) (E91_d0e_2 K) :=
  S91_d0e_2_okg fuel (F_generic_contexts fuel) (F_generic_newPlane fuel) (F_coder_Encoder_Put_cf0 fuel) (F_generic_plane_context_a34 fuel) (F_bytes_Equal fuel) (F_generic_plane_above_b9e fuel) (F_generic_skips fuel) R K x0 x1 x2 x3 x4 x5 x6 x7 x8 x9 x10 x11 x12 x13 x14 x15 x16 x17 x18 x19 x20 x21 x22 x23 x24 x25 x26
noncomputable def B91_d0e_2 (fuel : Nat) : Ev.Blk := fun st K => match canonO (kp91_d0e 13) st with
 | some s => (match s with
 | ⟨[(q0, .c (.ptr q1 q2)), (q3, .c (.int .i64 x0)), (q4, .c (.ptr q5 q6)), (q7, .c (.ptr q8 q9)), (q10, .c (.ptr q11 q12)), (q13, .c (.ptr q14 q15)), (q16, .c (.int .i64 x1)), (q17, .c (.int .i64 x2)), (q18, .c (.int .i64 x3)), (q19, .c (.int .i64 x4)), (q20, .c (.int .i64 x5))], [(q21, .cells q22 cs0), (q23, .vec q24 (.int .i64) x10 false), (q25, .vec q26 (.int .u8) x11 true), (q27, .cells q28 [.int .i64 x12, .int .i64 x13, .int .i64 x14, .bool x15, .int .i64 x16]), (q29, .cells q30 [.int .i64 x17, .int .i64 x18, .sl (.int .u8) x19]), (q31, .cells q32 [.int .i64 x20, .int .i64 x21, .sl (.int .u8) x22]), (q33, .cells q34 [.int .i64 x23, .int .i64 x24, .sl (.int .u8) x25, .own q35]), (q36, .vec q37 (.pair (.int .i64) (.int .i64)) x26 true)], q38, q39⟩ => (match splitRun 2 ctn cs0 with | some ([.int .i64 x6, .own q40], [.int .u64 x7, .int .u64 x8, .own q41, .bool x9]) => bif Nat.beq q0 0 && Nat.beq q1 0 && Nat.beq q2 0 && Nat.beq q3 1 && Nat.beq q4 7 && Nat.beq q5 3 && Nat.beq q6 0 && Nat.beq q7 8 && Nat.beq q8 4 && Nat.beq q9 0 && Nat.beq q10 9 && Nat.beq q11 5 && Nat.beq q12 0 && Nat.beq q13 10 && Nat.beq q14 6 && Nat.beq q15 0 && Nat.beq q16 11 && Nat.beq q17 27 && Nat.beq q18 28 && Nat.beq q19 60 && Nat.beq q20 61 && Nat.beq q21 0 && Nat.beq q22 172 && Nat.beq q23 1 && Nat.beq q24 3 && Nat.beq q25 2 && Nat.beq q26 5 && Nat.beq q27 3 && Nat.beq q28 46 && Nat.beq q29 4 && Nat.beq q30 39 && Nat.beq q31 5 && Nat.beq q32 39 && Nat.beq q33 6 && Nat.beq q34 137 && Nat.beq q35 7 && Nat.beq q36 7 && Nat.beq q37 44 && Nat.beq q38 8 && Nat.beq q39 3 && Nat.beq q40 1 && Nat.beq q41 2 then iter (S_generic_put_d0e_2 fuel) fuel (x0, x1, x2, x3, x4, x5, x6, x7, x8, x9, x10, x11, x12, x13, x14, x15, x16, x17, x18, x19, x20, x21, x22, x23, x24, x25, x26) (E91_d0e_2 K) else none | _ => none)
 | _ => none)
 | none => none
theorem B91_d0e_2_ok (fuel : Nat) (st : Ev.St) (K : Ev.Ex → Ev.St → Option Ans) (r : Ans) (h : B91_d0e_2 fuel st K = some r) : evalCode tab (G91_d0e fuel) (J91_d0e_2 fuel) kp91_d0e fuel (.block 2 (.loop (bodyOf 2 Try.f91))) st K = some r := by
  unfold B91_d0e_2 at h
  split at h
  · rename_i s hs
    split at h
    · skip
      split at h
      rotate_left 1
      · cases h
      rename_i hsp
      have esp := splitRun_eq hsp
      subst esp
      obtain ⟨hb, h⟩ := cond_some' h
      simp only [Bool.and_eq_true, Nat.beq_eq, decide_eq_true_eq] at hb
      obtain ⟨⟨⟨⟨⟨⟨⟨⟨⟨⟨⟨⟨⟨⟨⟨⟨⟨⟨⟨⟨⟨⟨⟨⟨⟨⟨⟨⟨⟨⟨⟨⟨⟨⟨⟨⟨⟨⟨⟨⟨⟨rfl, rfl⟩, rfl⟩, rfl⟩, rfl⟩, rfl⟩, rfl⟩, rfl⟩, rfl⟩, rfl⟩, rfl⟩, rfl⟩, rfl⟩, rfl⟩, rfl⟩, rfl⟩, rfl⟩, rfl⟩, rfl⟩, rfl⟩, rfl⟩, rfl⟩, rfl⟩, rfl⟩, rfl⟩, rfl⟩, rfl⟩, rfl⟩, rfl⟩, rfl⟩, rfl⟩, rfl⟩, rfl⟩, rfl⟩, rfl⟩, rfl⟩, rfl⟩, rfl⟩, rfl⟩, rfl⟩, rfl⟩, rfl⟩ := hb
      exact blk_loop (S := T91_d0e_2) (ks := E91_d0e_2) (step := S_generic_put_d0e_2 fuel) (v := (_, _, _, _, _, _, _, _, _, _, _, _, _, _, _, _, _, _, _, _, _, _, _, _, _, _, _)) (by kernel_rfl) (by kernel_rfl) (fun R K v => by obtain ⟨x0, x1, x2, x3, x4, x5, x6, x7, x8, x9, x10, x11, x12, x13, x14, x15, x16, x17, x18, x19, x20, x21, x22, x23, x24, x25, x26⟩ := v; exact S91_d0e_2_ok fuel R K x0 x1 x2 x3 x4 x5 x6 x7 x8 x9 x10 x11 x12 x13 x14 x15 x16 x17 x18 x19 x20 x21 x22 x23 x24 x25 x26) hs h
    · cases h
  · cases h
noncomputable def Sg_generic_put_d0e_0 (fuel : Nat) (f90 : YF90) (f97 : YF97) (f99_cf0 : YF99_cf0) (f158_a34 : YF158_a34) (f161 : YF161) (f162_b9e : YF162_b9e) (f163 : YF163) (x0 x1 : Int) (x2 x3 : Int) (x4 x5 : Int) (x6 : Bool) (x7 x8 : (List Int)) (x9 x10 x11 : Int) (x12 : Bool) (x13 x14 x15 : Int) (x16 : (List Int)) (x17 x18 : Int) (x19 : (List Int)) (x20 x21 : Int) (x22 : (List Int)) (x23 : (List (Int × Int))) (c : (Int × Int × Int × Int × Int × Int × Bool × (List Int) × (List Int) × Int × Int × Int × Bool × Int × Int × Int × (List Int) × Int × Int × (List Int) × Int × Int × (List Int) × (List (Int × Int))) → Option Ans) (B : (Int × Int × Int × Bool × (List Int) × (List Int) → Option Ans)) : Option Ans := match B with
 | b =>
  bif decide (x2 < x1) then
  bif x12 then
  bif decide ((0 : Int) ≤ Ev.loOf (some (IntKind.i64.wrap (x2 * x14))) ∧ Ev.loOf (some (IntKind.i64.wrap (x2 * x14))) ≤ Ev.hiOf (some (IntKind.i64.wrap (IntKind.i64.wrap (x2 + (1 : Int)) * x14))) (↑x16.length : Int) ∧ Ev.hiOf (some (IntKind.i64.wrap (IntKind.i64.wrap (x2 + (1 : Int)) * x14))) (↑x16.length : Int) ≤ (↑x16.length : Int)) then
  (f162_b9e (x2) (x17) (x18) (x19) (x20) (x21) (x22) (x23)
  (fun (y5_0, y5_1, y5_2, y5_3, y5_4) =>
  (f161 (y5_4) (List.take (Ev.hiOf (some (IntKind.i64.wrap (IntKind.i64.wrap (x2 + (1 : Int)) * x14))) (↑x16.length : Int) - Ev.loOf (some (IntKind.i64.wrap (x2 * x14)))).toNat (List.drop (Ev.loOf (some (IntKind.i64.wrap (x2 * x14)))).toNat x16))
  (fun y9 =>
  bif y9 then
  (f90 (x9) (x10) (x11) (x12) (x13)
  (fun y14 =>
  (f99_cf0 (IntKind.i64.wrap (x0 + y14)) ((1 : Int)) (x3) (x4) (x5) (x6) (x7) (x8)
  (fun (y18_0, y18_1, y18_2, y18_3, y18_4, y18_5, y18_6) =>
  c (x0, x1, IntKind.i64.wrap (x2 + (1 : Int)), y18_1, y18_2, y18_3, y18_4, y18_5, y18_6, x9, x10, x11, x12, x13, x14, x15, x16, x17, x18, x19, y5_0, y5_1, y5_2, y5_3))
  (fun (y18_0, y18_1, y18_2, y18_3, y18_4, y18_5, y18_6) =>
  c (x0, x1, IntKind.i64.wrap (x2 + (1 : Int)), y18_1, y18_2, y18_3, y18_4, y18_5, y18_6, x9, x10, x11, x12, x13, x14, x15, x16, x17, x18, x19, y5_0, y5_1, y5_2, y5_3)))))
  else
  (f90 (x9) (x10) (x11) (x12) (x13)
  (fun y14 =>
  (f99_cf0 (IntKind.i64.wrap (x0 + y14)) ((0 : Int)) (x3) (x4) (x5) (x6) (x7) (x8)
  (fun (y18_0, y18_1, y18_2, y18_3, y18_4, y18_5, y18_6) =>
  (L_generic_put_d0e_2 fuel (x0, x2, x1, x2, x14, (0 : Int), y18_1, y18_2, y18_3, y18_4, y18_5, y18_6, x9, x10, x11, x12, x13, x14, x15, x16, x17, x18, x19, y5_0, y5_1, y5_2, y5_3)
  (fun (b2_0, b2_1, b2_2, b2_3, b2_4, b2_5, b2_6, b2_7, b2_8, b2_9, b2_10, b2_11, b2_12, b2_13, b2_14, b2_15, b2_16, b2_17, b2_18, b2_19, b2_20, b2_21, b2_22, b2_23) =>
  c (b2_0, b2_1, IntKind.i64.wrap (b2_2 + (1 : Int)), b2_3, b2_4, b2_5, b2_6, b2_7, b2_8, b2_9, b2_10, b2_11, b2_12, b2_13, b2_14, b2_15, b2_16, b2_17, b2_18, b2_19, b2_20, b2_21, b2_22, b2_23))))
  (fun (y18_0, y18_1, y18_2, y18_3, y18_4, y18_5, y18_6) =>
  (L_generic_put_d0e_2 fuel (x0, x2, x1, x2, x14, (0 : Int), y18_1, y18_2, y18_3, y18_4, y18_5, y18_6, x9, x10, x11, x12, x13, x14, x15, x16, x17, x18, x19, y5_0, y5_1, y5_2, y5_3)
  (fun (b2_0, b2_1, b2_2, b2_3, b2_4, b2_5, b2_6, b2_7, b2_8, b2_9, b2_10, b2_11, b2_12, b2_13, b2_14, b2_15, b2_16, b2_17, b2_18, b2_19, b2_20, b2_21, b2_22, b2_23) =>
  c (b2_0, b2_1, IntKind.i64.wrap (b2_2 + (1 : Int)), b2_3, b2_4, b2_5, b2_6, b2_7, b2_8, b2_9, b2_10, b2_11, b2_12, b2_13, b2_14, b2_15, b2_16, b2_17, b2_18, b2_19, b2_20, b2_21, b2_22, b2_23)))))))))))
  else none
  else
  (L_generic_put_d0e_2 fuel (x0, x2, x1, x2, x14, (0 : Int), x3, x4, x5, x6, x7, x8, x9, x10, x11, x12, x13, x14, x15, x16, x17, x18, x19, x20, x21, x22, x23)
  (fun (b2_0, b2_1, b2_2, b2_3, b2_4, b2_5, b2_6, b2_7, b2_8, b2_9, b2_10, b2_11, b2_12, b2_13, b2_14, b2_15, b2_16, b2_17, b2_18, b2_19, b2_20, b2_21, b2_22, b2_23) =>
  c (b2_0, b2_1, IntKind.i64.wrap (b2_2 + (1 : Int)), b2_3, b2_4, b2_5, b2_6, b2_7, b2_8, b2_9, b2_10, b2_11, b2_12, b2_13, b2_14, b2_15, b2_16, b2_17, b2_18, b2_19, b2_20, b2_21, b2_22, b2_23)))
  else
  b (x3, x4, x5, x6, x7, x8)
noncomputable def S_generic_put_d0e_0 (fuel : Nat) (v : Int × Int × Int × Int × Int × Int × Bool × (List Int) × (List Int) × Int × Int × Int × Bool × Int × Int × Int × (List Int) × Int × Int × (List Int) × Int × Int × (List Int) × (List (Int × Int))) (c : (Int × Int × Int × Int × Int × Int × Bool × (List Int) × (List Int) × Int × Int × Int × Bool × Int × Int × Int × (List Int) × Int × Int × (List Int) × Int × Int × (List Int) × (List (Int × Int))) → Option Ans) (B : (Int × Int × Int × Bool × (List Int) × (List Int) → Option Ans)) : Option Ans := match v with
 | (x0, x1, x2, x3, x4, x5, x6, x7, x8, x9, x10, x11, x12, x13, x14, x15, x16, x17, x18, x19, x20, x21, x22, x23) => Sg_generic_put_d0e_0 fuel (F_generic_contexts fuel) (F_generic_newPlane fuel) (F_coder_Encoder_Put_cf0 fuel) (F_generic_plane_context_a34 fuel) (F_bytes_Equal fuel) (F_generic_plane_above_b9e fuel) (F_generic_skips fuel) x0 x1 x2 x3 x4 x5 x6 x7 x8 x9 x10 x11 x12 x13 x14 x15 x16 x17 x18 x19 x20 x21 x22 x23 c B
noncomputable def L_generic_put_d0e_0 (fuel : Nat) (v : Int × Int × Int × Int × Int × Int × Bool × (List Int) × (List Int) × Int × Int × Int × Bool × Int × Int × Int × (List Int) × Int × Int × (List Int) × Int × Int × (List Int) × (List (Int × Int))) (b : (Int × Int × Int × Bool × (List Int) × (List Int) → Option Ans)) : Option Ans := iter (S_generic_put_d0e_0 fuel) fuel v b
noncomputable def J91_d0e_0 (fuel : Nat) (i : Nat) : Option Ev.Blk := Ev.look i [(100002, B91_d0e_2 fuel)]
noncomputable def T91_d0e_0 (v : Int × Int × Int × Int × Int × Int × Bool × (List Int) × (List Int) × Int × Int × Int × Bool × Int × Int × Int × (List Int) × Int × Int × (List Int) × Int × Int × (List Int) × (List (Int × Int))) : Ev.St := match v with | (x0, x1, x2, x3, x4, x5, x6, x7, x8, x9, x10, x11, x12, x13, x14, x15, x16, x17, x18, x19, x20, x21, x22, x23) => ⟨[(0, .c (.ptr 0 0)), (1, .c (.int .i64 x0)), (7, .c (.ptr 3 0)), (8, .c (.ptr 4 0)), (9, .c (.ptr 5 0)), (10, .c (.ptr 6 0)), (27, .c (.int .i64 x1)), (28, .c (.int .i64 x2))], [(0, .cells 172 (.int .i64 x3 :: .own 1 :: ctb (.int .u64 x4 :: .int .u64 x5 :: .own 2 :: .bool x6 :: []))), (1, .vec 3 (.int .i64) x7 false), (2, .vec 5 (.int .u8) x8 true), (3, .cells 46 [.int .i64 x9, .int .i64 x10, .int .i64 x11, .bool x12, .int .i64 x13]), (4, .cells 39 [.int .i64 x14, .int .i64 x15, .sl (.int .u8) x16]), (5, .cells 39 [.int .i64 x17, .int .i64 x18, .sl (.int .u8) x19]), (6, .cells 137 [.int .i64 x20, .int .i64 x21, .sl (.int .u8) x22, .own 7]), (7, .vec 44 (.pair (.int .i64) (.int .i64)) x23 true)], 8, 3⟩
noncomputable def E91_d0e_0 (K : Ev.Ex → Ev.St → Option Ans) : (Int × Int × Int × Bool × (List Int) × (List Int) → Option Ans) := (fun v => match v with | (x0, x1, x2, x3, x4, x5) => K .normal ⟨[], [(0, .cells 172 (.int .i64 x0 :: .own 1 :: ctb (.int .u64 x1 :: .int .u64 x2 :: .own 2 :: .bool x3 :: []))), (1, .vec 3 (.int .i64) x4 false), (2, .vec 5 (.int .u8) x5 true)], 3, 3⟩)
theorem S91_d0e_0_okg (fuel : Nat) (f90 : YF90) (f97 : YF97) (f99_cf0 : YF99_cf0) (f158_a34 : YF158_a34) (f161 : YF161) (f162_b9e : YF162_b9e) (f163 : YF163) (R : Ev.St → Option Ans) (K : Ev.Ex → Ev.St → Option Ans) (x0 x1 : Int) (x2 x3 : Int) (x4 x5 : Int) (x6 : Bool) (x7 x8 : (List Int)) (x9 x10 x11 : Int) (x12 : Bool) (x13 x14 x15 : Int) (x16 : (List Int)) (x17 x18 : Int) (x19 : (List Int)) (x20 x21 : Int) (x22 : (List Int)) (x23 : (List (Int × Int))) : evalCode tab (Gg91_d0e f90 f97 f99_cf0 f158_a34 f161 f162_b9e f163) (J91_d0e_0 fuel) kp91_d0e fuel (bodyOf 0 Try.f91) (T91_d0e_0 (x0, x1, x2, x3, x4, x5, x6, x7, x8, x9, x10, x11, x12, x13, x14, x15, x16, x17, x18, x19, x20, x21, x22, x23)) (lc kp91_d0e 4 0 R K) = Sg_generic_put_d0e_0 fuel f90 f97 f99_cf0 f158_a34 f161 f162_b9e f163 x0 x1 x2 x3 x4 x5 x6 x7 x8 x9 x10 x11 x12 x13 x14 x15 x16 x17 x18 x19 x20 x21 x22 x23 (fun v => R (T91_d0e_0 v)) (E91_d0e_0 K) := by
  kernel_rfl
theorem S91_d0e_0_ok (fuel : Nat) (R : Ev.St → Option Ans) (K : Ev.Ex → Ev.St → Option Ans) (x0 x1 : Int) (x2 x3 : Int) (x4 x5 : Int) (x6 : Bool) (x7 x8 : (List Int)) (x9 x10 x11 : Int) (x12 : Bool) (x13 x14 x15 : Int) (x16 : (List Int)) (x17 x18 : Int) (x19 : (List Int)) (x20 x21 : Int) (x22 : (List Int)) (x23 : (List (Int × Int))) : evalCode tab (G91_d0e fuel) (J91_d0e_0 fuel) kp91_d0e fuel (bodyOf 0 Try.f91) (T91_d0e_0 (x0, x1, x2, x3, x4, x5, x6, x7, x8, x9, x10, x11, x12, x13, x14, x15, x16, x17, x18, x19, x20, x21, x22, x23)) (lc kp91_d0e 4 0 R K) = S_generic_put_d0e_0 fuel (x0, x1, x2, x3, x4, x5, x6, x7, x8, x9, x10, x11, x12, x13, x14, x15, x16, x17, x18, x19, x20, x21, x22, x23) (fun v => R (T91_d0e_0 v)) (E91_d0e_0 K) :=
  S91_d0e_0_okg fuel (F_generic_contexts fuel) (F_generic_newPlane fuel) (F_coder_Encoder_Put_cf0 fuel) (F_generic_plane_context_a34 fuel) (F_bytes_Equal fuel) (F_generic_plane_above_b9e fuel) (F_generic_skips fuel) R K x0 x1 x2 x3 x4 x5 x6 x7 x8 x9 x10 x11 x12 x13 x14 x15 x16 x17 x18 x19 x20 x21 x22 x23
noncomputable def B91_d0e_0 (fuel : Nat) : Ev.Blk := fun st K => match canonO (kp91_d0e 4) st with
 | some s => (match s with
 | ⟨[(q0, .c (.ptr q1 q2)), (q3, .c (.int .i64 x0)), (q4, .c (.ptr q5 q6)), (q7, .c (.ptr q8 q9)), (q10, .c (.ptr q11 q12)), (q13, .c (.ptr q14 q15)), (q16, .c (.int .i64 x1)), (q17, .c (.int .i64 x2))], [(q18, .cells q19 cs0), (q20, .vec q21 (.int .i64) x7 false), (q22, .vec q23 (.int .u8) x8 true), (q24, .cells q25 [.int .i64 x9, .int .i64 x10, .int .i64 x11, .bool x12, .int .i64 x13]), (q26, .cells q27 [.int .i64 x14, .int .i64 x15, .sl (.int .u8) x16]), (q28, .cells q29 [.int .i64 x17, .int .i64 x18, .sl (.int .u8) x19]), (q30, .cells q31 [.int .i64 x20, .int .i64 x21, .sl (.int .u8) x22, .own q32]), (q33, .vec q34 (.pair (.int .i64) (.int .i64)) x23 true)], q35, q36⟩ => (match splitRun 2 ctn cs0 with | some ([.int .i64 x3, .own q37], [.int .u64 x4, .int .u64 x5, .own q38, .bool x6]) => bif Nat.beq q0 0 && Nat.beq q1 0 && Nat.beq q2 0 && Nat.beq q3 1 && Nat.beq q4 7 && Nat.beq q5 3 && Nat.beq q6 0 && Nat.beq q7 8 && Nat.beq q8 4 && Nat.beq q9 0 && Nat.beq q10 9 && Nat.beq q11 5 && Nat.beq q12 0 && Nat.beq q13 10 && Nat.beq q14 6 && Nat.beq q15 0 && Nat.beq q16 27 && Nat.beq q17 28 && Nat.beq q18 0 && Nat.beq q19 172 && Nat.beq q20 1 && Nat.beq q21 3 && Nat.beq q22 2 && Nat.beq q23 5 && Nat.beq q24 3 && Nat.beq q25 46 && Nat.beq q26 4 && Nat.beq q27 39 && Nat.beq q28 5 && Nat.beq q29 39 && Nat.beq q30 6 && Nat.beq q31 137 && Nat.beq q32 7 && Nat.beq q33 7 && Nat.beq q34 44 && Nat.beq q35 8 && Nat.beq q36 3 && Nat.beq q37 1 && Nat.beq q38 2 then iter (S_generic_put_d0e_0 fuel) fuel (x0, x1, x2, x3, x4, x5, x6, x7, x8, x9, x10, x11, x12, x13, x14, x15, x16, x17, x18, x19, x20, x21, x22, x23) (E91_d0e_0 K) else none | _ => none)
 | _ => none)
 | none => none
theorem B91_d0e_0_ok (fuel : Nat) (st : Ev.St) (K : Ev.Ex → Ev.St → Option Ans) (r : Ans) (h : B91_d0e_0 fuel st K = some r) : evalCode tab (G91_d0e fuel) (J91_d0e_0 fuel) kp91_d0e fuel (.block 0 (.loop (bodyOf 0 Try.f91))) st K = some r := by
  unfold B91_d0e_0 at h
  split at h
  · rename_i s hs
    split at h
    · skip
      split at h
      rotate_left 1
      · cases h
      rename_i hsp
      have esp := splitRun_eq hsp
      subst esp
      obtain ⟨hb, h⟩ := cond_some' h
      simp only [Bool.and_eq_true, Nat.beq_eq, decide_eq_true_eq] at hb
      obtain ⟨⟨⟨⟨⟨⟨⟨⟨⟨⟨⟨⟨⟨⟨⟨⟨⟨⟨⟨⟨⟨⟨⟨⟨⟨⟨⟨⟨⟨⟨⟨⟨⟨⟨⟨⟨⟨⟨rfl, rfl⟩, rfl⟩, rfl⟩, rfl⟩, rfl⟩, rfl⟩, rfl⟩, rfl⟩, rfl⟩, rfl⟩, rfl⟩, rfl⟩, rfl⟩, rfl⟩, rfl⟩, rfl⟩, rfl⟩, rfl⟩, rfl⟩, rfl⟩, rfl⟩, rfl⟩, rfl⟩, rfl⟩, rfl⟩, rfl⟩, rfl⟩, rfl⟩, rfl⟩, rfl⟩, rfl⟩, rfl⟩, rfl⟩, rfl⟩, rfl⟩, rfl⟩, rfl⟩, rfl⟩ := hb
      exact blk_loop (S := T91_d0e_0) (ks := E91_d0e_0) (step := S_generic_put_d0e_0 fuel) (v := (_, _, _, _, _, _, _, _, _, _, _, _, _, _, _, _, _, _, _, _, _, _, _, _)) (by kernel_rfl) (by kernel_rfl) (fun R K v => by obtain ⟨x0, x1, x2, x3, x4, x5, x6, x7, x8, x9, x10, x11, x12, x13, x14, x15, x16, x17, x18, x19, x20, x21, x22, x23⟩ := v; exact S91_d0e_0_ok fuel R K x0 x1 x2 x3 x4 x5 x6 x7 x8 x9 x10 x11 x12 x13 x14 x15 x16 x17 x18 x19 x20 x21 x22 x23) hs h
    · cases h
  · cases h
noncomputable def J91_d0e (fuel : Nat) (i : Nat) : Option Ev.Blk := Ev.look i [(100002, B91_d0e_2 fuel), (100000, B91_d0e_0 fuel)]
noncomputable def Fg_generic_put_d0e (fuel : Nat) (f90 : YF90) (f97 : YF97) (f99_cf0 : YF99_cf0) (f158_a34 : YF158_a34) (f161 : YF161) (f162_b9e : YF162_b9e) (f163 : YF163) (x0 x1 : Int) (x2 x3 : Int) (x4 : Bool) (x5 x6 x7 : Int) (x8 : (List Int)) (x9 x10 : Int) (x11 : (List Int)) (x12 x13 x14 : Int) (x15 : Bool) (x16 x17 : (List Int)) (k0 : (Int × Int × Int × Bool × (List Int) × (List Int)) → Option Ans) : Option Ans :=
  (f97 (x1) (x2) (x3) (x4) (x5) (x6) (x7)
  (fun (y2_0, y2_1, y2_2, y2_3) =>
  (L_generic_put_d0e_0 fuel (x0, x7, (0 : Int), x12, x13, x14, x15, x16, x17, x1, x2, x3, x4, x5, x6, x7, x8, x9, x10, x11, y2_0, y2_1, x8, y2_3)
  (fun (b0_0, b0_1, b0_2, b0_3, b0_4, b0_5) =>
  k0 (b0_0, b0_1, b0_2, b0_3, b0_4, b0_5)))))
noncomputable def F_generic_put_d0e (fuel : Nat) (x0 x1 : Int) (x2 x3 : Int) (x4 : Bool) (x5 x6 x7 : Int) (x8 : (List Int)) (x9 x10 : Int) (x11 : (List Int)) (x12 x13 x14 : Int) (x15 : Bool) (x16 x17 : (List Int)) (k0 : (Int × Int × Int × Bool × (List Int) × (List Int)) → Option Ans) : Option Ans := Fg_generic_put_d0e fuel (F_generic_contexts fuel) (F_generic_newPlane fuel) (F_coder_Encoder_Put_cf0 fuel) (F_generic_plane_context_a34 fuel) (F_bytes_Equal fuel) (F_generic_plane_above_b9e fuel) (F_generic_skips fuel) x0 x1 x2 x3 x4 x5 x6 x7 x8 x9 x10 x11 x12 x13 x14 x15 x16 x17 k0
abbrev YF91_d0e : Type := (Int) → (Int) → (Int) → (Int) → (Bool) → (Int) → (Int) → (Int) → ((List Int)) → (Int) → (Int) → ((List Int)) → (Int) → (Int) → (Int) → (Bool) → ((List Int)) → ((List Int)) → ((Int × Int × Int × Bool × (List Int) × (List Int)) → Option Ans) → Option Ans
theorem F91_d0e_eqg (fuel : Nat) (f90 : YF90) (f97 : YF97) (f99_cf0 : YF99_cf0) (f158_a34 : YF158_a34) (f161 : YF161) (f162_b9e : YF162_b9e) (f163 : YF163) (x0 x1 : Int) (x2 x3 : Int) (x4 : Bool) (x5 x6 x7 : Int) (x8 : (List Int)) (x9 x10 : Int) (x11 : (List Int)) (x12 x13 x14 : Int) (x15 : Bool) (x16 x17 : (List Int)) (k : Ev.Cont) : evalFn tab (Gg91_d0e f90 f97 f99_cf0 f158_a34 f161 f162_b9e f163) (J91_d0e fuel) kp91_d0e fuel Try.f91 [.c (.ptr 0 0), .c (.int .i64 x0), .agg [.int .i64 x1, .int .i64 x2, .int .i64 x3, .bool x4, .int .i64 x5], .agg [.int .i64 x6, .int .i64 x7, .sl (.int .u8) x8], .agg [.int .i64 x9, .int .i64 x10, .sl (.int .u8) x11]] [.cells 172 (.int .i64 x12 :: .own 1 :: ctb (.int .u64 x13 :: .int .u64 x14 :: .own 2 :: .bool x15 :: [])), .vec 3 (.int .i64) x16 false, .vec 5 (.int .u8) x17 false] k = Fg_generic_put_d0e fuel f90 f97 f99_cf0 f158_a34 f161 f162_b9e f163 x0 x1 x2 x3 x4 x5 x6 x7 x8 x9 x10 x11 x12 x13 x14 x15 x16 x17 (fun r => match r with | (r0, r1, r2, r3, r4, r5) => k (.tup [], [.cells 172 (.int .i64 r0 :: .own 1 :: ctb (.int .u64 r1 :: .int .u64 r2 :: .own 2 :: .bool r3 :: [])), .vec 3 (.int .i64) r4 false, .vec 5 (.int .u8) r5 true])) := by
  kernel_rfl
theorem F91_d0e_eq (fuel : Nat) (x0 x1 : Int) (x2 x3 : Int) (x4 : Bool) (x5 x6 x7 : Int) (x8 : (List Int)) (x9 x10 : Int) (x11 : (List Int)) (x12 x13 x14 : Int) (x15 : Bool) (x16 x17 : (List Int)) (k : Ev.Cont) : evalFn tab (G91_d0e fuel) (J91_d0e fuel) kp91_d0e fuel Try.f91 [.c (.ptr 0 0), .c (.int .i64 x0), .agg [.int .i64 x1, .int .i64 x2, .int .i64 x3, .bool x4, .int .i64 x5], .agg [.int .i64 x6, .int .i64 x7, .sl (.int .u8) x8], .agg [.int .i64 x9, .int .i64 x10, .sl (.int .u8) x11]] [.cells 172 (.int .i64 x12 :: .own 1 :: ctb (.int .u64 x13 :: .int .u64 x14 :: .own 2 :: .bool x15 :: [])), .vec 3 (.int .i64) x16 false, .vec 5 (.int .u8) x17 false] k = F_generic_put_d0e fuel x0 x1 x2 x3 x4 x5 x6 x7 x8 x9 x10 x11 x12 x13 x14 x15 x16 x17 (fun r => match r with | (r0, r1, r2, r3, r4, r5) => k (.tup [], [.cells 172 (.int .i64 r0 :: .own 1 :: ctb (.int .u64 r1 :: .int .u64 r2 :: .own 2 :: .bool r3 :: [])), .vec 3 (.int .i64) r4 false, .vec 5 (.int .u8) r5 true])) :=
  F91_d0e_eqg fuel (F_generic_contexts fuel) (F_generic_newPlane fuel) (F_coder_Encoder_Put_cf0 fuel) (F_generic_plane_context_a34 fuel) (F_bytes_Equal fuel) (F_generic_plane_above_b9e fuel) (F_generic_skips fuel) x0 x1 x2 x3 x4 x5 x6 x7 x8 x9 x10 x11 x12 x13 x14 x15 x16 x17 k
theorem hG91_d0e (fuel : Nat) : GOK Try.prog (G91_d0e fuel) :=
  gok_cons ⟨ok90 fuel, enters_of Try.func90 (by kernel_rfl) rfl⟩ <|
  gok_cons ⟨ok97 fuel, enters_of Try.func97 (by kernel_rfl) rfl⟩ <|
  gok_cons ⟨ok99_cf0 fuel, enters_of Try.func99 (by kernel_rfl) rfl⟩ <|
  gok_cons ⟨ok158_a34 fuel, enters_of Try.func158 (by kernel_rfl) rfl⟩ <|
  gok_cons ⟨ok161 fuel, enters_of Try.func161 (by kernel_rfl) rfl⟩ <|
  gok_cons ⟨ok162_b9e fuel, enters_of Try.func162 (by kernel_rfl) rfl⟩ <|
  gok_cons ⟨ok163 fuel, enters_of Try.func163 (by kernel_rfl) rfl⟩ <|
  gok_nil
theorem B91_d0e_2_blk (fuel : Nat) : BlkOK Try.prog Try.f91.ntmps (.block 2 (.loop (bodyOf 2 Try.f91))) (B91_d0e_2 fuel) :=
  blk_of (blk_of_code tab_ok (hG91_d0e fuel) mixed (J := J91_d0e_2 fuel) (kp := kp91_d0e) (fuel := fuel) (by kernel_rfl) (fun q hq => by
    rw [(by kernel_rfl : obl (J91_d0e_2 fuel) (.block 2 (.loop (bodyOf 2 Try.f91))) = [])] at hq
    cases hq)) (B91_d0e_2_ok fuel)
theorem B91_d0e_0_blk (fuel : Nat) : BlkOK Try.prog Try.f91.ntmps (.block 0 (.loop (bodyOf 0 Try.f91))) (B91_d0e_0 fuel) :=
  blk_of (blk_of_code tab_ok (hG91_d0e fuel) mixed (J := J91_d0e_0 fuel) (kp := kp91_d0e) (fuel := fuel) (by kernel_rfl) (fun q hq => by
    rw [(by kernel_rfl : obl (J91_d0e_0 fuel) (.block 0 (.loop (bodyOf 0 Try.f91))) = [(.block 2 (.loop (bodyOf 2 Try.f91)), B91_d0e_2 fuel)])] at hq
    simp only [List.mem_cons, List.not_mem_nil, or_false] at hq
    subst hq
    · exact B91_d0e_2_blk fuel)) (B91_d0e_0_ok fuel)
theorem fok91_d0e (fuel : Nat) : FnOK Try.prog 91 (evalFn tab (G91_d0e fuel) (J91_d0e fuel) kp91_d0e fuel Try.f91) :=
  fn_ok tab_ok (hG91_d0e fuel) mixed Try.func91 (c := (Try.f91.body).getD .skip) rfl (fun q hq => by
    rw [(by kernel_rfl : obl (J91_d0e fuel) ((Try.f91.body).getD .skip) = [(.block 0 (.loop (bodyOf 0 Try.f91)), B91_d0e_0 fuel)])] at hq
    simp only [List.mem_cons, List.not_mem_nil, or_false] at hq
    subst hq
    · exact B91_d0e_0_blk fuel)
noncomputable def mt91_d0e : List Ev.SV → List Ev.Ob → Bool := fun args objs => match args, objs with
 | [.c (.ptr q0 q1), .c (.int .i64 _), .agg [.int .i64 _, .int .i64 _, .int .i64 _, .bool _, .int .i64 _], .agg [.int .i64 _, .int .i64 _, .sl (.int .u8) _], .agg [.int .i64 _, .int .i64 _, .sl (.int .u8) _]], [.cells q2 cs0, .vec q3 (.int .i64) _ false, .vec q4 (.int .u8) _ false] => (match splitRun 2 ctn cs0 with | some ([.int .i64 _, .own q5], [.int .u64 _, .int .u64 _, .own q6, .bool _]) => Nat.beq q0 0 && Nat.beq q1 0 && Nat.beq q2 172 && Nat.beq q3 3 && Nat.beq q4 5 && Nat.beq q5 1 && Nat.beq q6 2 | _ => false)
 | _, _ => false
noncomputable def spg91_d0e (F : YF91_d0e) : Ev.Spec := fun args objs k => match args, objs with
 | [.c (.ptr q0 q1), .c (.int .i64 x0), .agg [.int .i64 x1, .int .i64 x2, .int .i64 x3, .bool x4, .int .i64 x5], .agg [.int .i64 x6, .int .i64 x7, .sl (.int .u8) x8], .agg [.int .i64 x9, .int .i64 x10, .sl (.int .u8) x11]], [.cells q2 cs0, .vec q3 (.int .i64) x16 false, .vec q4 (.int .u8) x17 false] => (match splitRun 2 ctn cs0 with | some ([.int .i64 x12, .own q5], [.int .u64 x13, .int .u64 x14, .own q6, .bool x15]) => bif Nat.beq q0 0 && Nat.beq q1 0 && Nat.beq q2 172 && Nat.beq q3 3 && Nat.beq q4 5 && Nat.beq q5 1 && Nat.beq q6 2 then F x0 x1 x2 x3 x4 x5 x6 x7 x8 x9 x10 x11 x12 x13 x14 x15 x16 x17 (fun r => match r with | (r0, r1, r2, r3, r4, r5) => k (.tup [], [.cells 172 (.int .i64 r0 :: .own 1 :: ctb (.int .u64 r1 :: .int .u64 r2 :: .own 2 :: .bool r3 :: [])), .vec 3 (.int .i64) r4 false, .vec 5 (.int .u8) r5 true])) else none | _ => none)
 | _, _ => none
noncomputable def spec91_d0e (fuel : Nat) : Ev.Spec := spg91_d0e (F_generic_put_d0e fuel)
theorem ok91_d0e (fuel : Nat) : FnOK Try.prog 91 (spec91_d0e fuel) := by
  intro args objs kk r h
  unfold spec91_d0e spg91_d0e at h
  split at h
  · skip
    split at h
    rotate_left 1
    · cases h
    rename_i hsp
    have esp := splitRun_eq hsp
    subst esp
    obtain ⟨hb, h⟩ := cond_some' h
    simp only [Bool.and_eq_true, Nat.beq_eq, decide_eq_true_eq] at hb
    obtain ⟨⟨⟨⟨⟨⟨rfl, rfl⟩, rfl⟩, rfl⟩, rfl⟩, rfl⟩, rfl⟩ := hb
    exact fok91_d0e fuel _ _ kk r ((F91_d0e_eq fuel _ _ _ _ _ _ _ _ _ _ _ _ _ _ _ _ _ _ kk).trans h)
  · cases h
end Go.Proofs.Ytihfgpfofmjbaaa

