/- What the functions that TonePatterns reaches do: their typed texts, each with the proof that the machine does it. No condition. -/
import Derived.Test.YtipdidpalcmlhaaEvX
import Derived.Test.YtipdidpalcmlhaaFsTonePatterns4
import Derived.Test.YtipdidpalcmlhaaFsTonePatterns3
import Derived.Test.YtipdidpalcmlhaaFsTonePatterns2
import Derived.Test.YtipdidpalcmlhaaFsTonePatterns1
set_option linter.unusedVariables false
set_option linter.unusedSimpArgs false
set_option linter.unusedVariables false
set_option linter.unusedSimpArgs false
set_option maxRecDepth 100000
set_option maxHeartbeats 2000000
namespace Go.Proofs.Ytipdidpalcmlhaa
open Go Ev
def kp72_d0e (i : Nat) : Option (List Nat) := Ev.look i [(4, [0, 1, 7, 8, 9, 10, 27, 28, 1000002]), (13, [0, 1, 7, 8, 9, 10, 11, 27, 28, 60, 61]), (100000, []), (100002, [0, 1, 7, 8, 9, 10, 27, 28]), (200008, [8, 9]), (200017, [8]), (400000, []), (400002, [])]
noncomputable def Gg72_d0e (f71 : YF71) (f103_cf0 : YF103_cf0) (f121 : YF121) (f122 : YF122) (f123_b9e : YF123_b9e) (f124 : YF124) (f125_a34 : YF125_a34) (f : Nat) : Option Ev.Spec := Ev.look f [(71, spg71 f71), (103, spg103_cf0 f103_cf0), (121, spg121 f121), (122, spg122 f122), (123, spg123_b9e f123_b9e), (124, spg124 f124), (125, spg125_a34 f125_a34)]
noncomputable def G72_d0e (fuel : Nat) : Nat → Option Ev.Spec := Gg72_d0e (F_generic_contexts fuel) (F_coder_Encoder_Put_cf0 fuel) (F_generic_newPlane fuel) (F_bytes_Equal fuel) (F_generic_plane_above_b9e fuel) (F_generic_skips fuel) (F_generic_plane_context_a34 fuel)
noncomputable def Sg_generic_put_d0e_2 (fuel : Nat) (f71 : YF71) (f103_cf0 : YF103_cf0) (f121 : YF121) (f122 : YF122) (f123_b9e : YF123_b9e) (f124 : YF124) (f125_a34 : YF125_a34) (x0 x1 : Int) (x2 x3 : Int) (x4 x5 : Int) (x6 x7 x8 : Int) (x9 : Bool) (x10 x11 : (List Int)) (x12 x13 x14 : Int) (x15 : Bool) (x16 x17 x18 : Int) (x19 : (List Int)) (x20 x21 : Int) (x22 : (List Int)) (x23 x24 : Int) (x25 : (List Int)) (x26 : (List (Int × Int))) (c : (Int × Int × Int × Int × Int × Int × Int × Int × Int × Bool × (List Int) × (List Int) × Int × Int × Int × Bool × Int × Int × Int × (List Int) × Int × Int × (List Int) × Int × Int × (List Int) × (List (Int × Int))) → Option Ans) (B : (Int × Int × Int × Int × Int × Int × Bool × (List Int) × (List Int) × Int × Int × Int × Bool × Int × Int × Int × (List Int) × Int × Int × (List Int) × Int × Int × (List Int) × (List (Int × Int)) → Option Ans)) : Option Ans := match B with
 | b =>
  bif decide (x5 < x4) then
  (f124 (x20) (x21) (x22) (IntKind.i64.wrap (IntKind.i64.wrap (x1 * x17) + x5))
  (fun y3 =>
  bif !y3 then
  bif decide ((0 : Int) ≤ IntKind.i64.wrap (IntKind.i64.wrap (x1 * x17) + x5) ∧ IntKind.i64.wrap (IntKind.i64.wrap (x1 * x17) + x5) < (↑x19.length : Int)) then
  (f125_a34 (x5) (x1) (x23) (x24) (x25) (x26)
  (fun (y9_0, y9_1, y9_2, y9_3, y9_4) =>
  (f103_cf0 (IntKind.i64.wrap (x0 + y9_0)) (IntKind.i64.wrap (x19.getD (IntKind.i64.wrap (IntKind.i64.wrap (x1 * x17) + x5)).toNat (0 : Int))) (x6) (x7) (x8) (x9) (x10) (x11)
  (fun (y13_0, y13_1, y13_2, y13_3, y13_4, y13_5, y13_6) =>
  c (x0, x1, x2, x3, x4, IntKind.i64.wrap (x5 + (1 : Int)), y13_1, y13_2, y13_3, y13_4, y13_5, y13_6, x12, x13, x14, x15, x16, x17, x18, x19, x20, x21, x22, y9_1, y9_2, y9_3, y9_4))
  (fun (y13_0, y13_1, y13_2, y13_3, y13_4, y13_5, y13_6) =>
  c (x0, x1, x2, x3, x4, IntKind.i64.wrap (x5 + (1 : Int)), y13_1, y13_2, y13_3, y13_4, y13_5, y13_6, x12, x13, x14, x15, x16, x17, x18, x19, x20, x21, x22, y9_1, y9_2, y9_3, y9_4)))))
  else none
  else
  c (x0, x1, x2, x3, x4, IntKind.i64.wrap (x5 + (1 : Int)), x6, x7, x8, x9, x10, x11, x12, x13, x14, x15, x16, x17, x18, x19, x20, x21, x22, x23, x24, x25, x26)))
  else
  b (x0, x2, x3, x6, x7, x8, x9, x10, x11, x12, x13, x14, x15, x16, x17, x18, x19, x20, x21, x22, x23, x24, x25, x26)
noncomputable def S_generic_put_d0e_2 (fuel : Nat) (v : Int × Int × Int × Int × Int × Int × Int × Int × Int × Bool × (List Int) × (List Int) × Int × Int × Int × Bool × Int × Int × Int × (List Int) × Int × Int × (List Int) × Int × Int × (List Int) × (List (Int × Int))) (c : (Int × Int × Int × Int × Int × Int × Int × Int × Int × Bool × (List Int) × (List Int) × Int × Int × Int × Bool × Int × Int × Int × (List Int) × Int × Int × (List Int) × Int × Int × (List Int) × (List (Int × Int))) → Option Ans) (B : (Int × Int × Int × Int × Int × Int × Bool × (List Int) × (List Int) × Int × Int × Int × Bool × Int × Int × Int × (List Int) × Int × Int × (List Int) × Int × Int × (List Int) × (List (Int × Int)) → Option Ans)) : Option Ans := match v with
 | (x0, x1, x2, x3, x4, x5, x6, x7, x8, x9, x10, x11, x12, x13, x14, x15, x16, x17, x18, x19, x20, x21, x22, x23, x24, x25, x26) => Sg_generic_put_d0e_2 fuel (F_generic_contexts fuel) (F_coder_Encoder_Put_cf0 fuel) (F_generic_newPlane fuel) (F_bytes_Equal fuel) (F_generic_plane_above_b9e fuel) (F_generic_skips fuel) (F_generic_plane_context_a34 fuel) x0 x1 x2 x3 x4 x5 x6 x7 x8 x9 x10 x11 x12 x13 x14 x15 x16 x17 x18 x19 x20 x21 x22 x23 x24 x25 x26 c B
noncomputable def L_generic_put_d0e_2 (fuel : Nat) (v : Int × Int × Int × Int × Int × Int × Int × Int × Int × Bool × (List Int) × (List Int) × Int × Int × Int × Bool × Int × Int × Int × (List Int) × Int × Int × (List Int) × Int × Int × (List Int) × (List (Int × Int))) (b : (Int × Int × Int × Int × Int × Int × Bool × (List Int) × (List Int) × Int × Int × Int × Bool × Int × Int × Int × (List Int) × Int × Int × (List Int) × Int × Int × (List Int) × (List (Int × Int)) → Option Ans)) : Option Ans := iter (S_generic_put_d0e_2 fuel) fuel v b
noncomputable def J72_d0e_2 (fuel : Nat) (i : Nat) : Option Ev.Blk := Ev.look i []
noncomputable def T72_d0e_2 (v : Int × Int × Int × Int × Int × Int × Int × Int × Int × Bool × (List Int) × (List Int) × Int × Int × Int × Bool × Int × Int × Int × (List Int) × Int × Int × (List Int) × Int × Int × (List Int) × (List (Int × Int))) : Ev.St := match v with | (x0, x1, x2, x3, x4, x5, x6, x7, x8, x9, x10, x11, x12, x13, x14, x15, x16, x17, x18, x19, x20, x21, x22, x23, x24, x25, x26) => ⟨[(0, .c (.ptr 0 0)), (1, .c (.int .i64 x0)), (7, .c (.ptr 3 0)), (8, .c (.ptr 4 0)), (9, .c (.ptr 5 0)), (10, .c (.ptr 6 0)), (11, .c (.int .i64 x1)), (27, .c (.int .i64 x2)), (28, .c (.int .i64 x3)), (60, .c (.int .i64 x4)), (61, .c (.int .i64 x5))], [(0, .cells 148 (.int .i64 x6 :: .own 1 :: ctb (.int .u64 x7 :: .int .u64 x8 :: .own 2 :: .bool x9 :: []))), (1, .vec 3 (.int .i64) x10 false), (2, .vec 5 (.int .u8) x11 true), (3, .cells 24 [.int .i64 x12, .int .i64 x13, .int .i64 x14, .bool x15, .int .i64 x16]), (4, .cells 35 [.int .i64 x17, .int .i64 x18, .sl (.int .u8) x19]), (5, .cells 35 [.int .i64 x20, .int .i64 x21, .sl (.int .u8) x22]), (6, .cells 174 [.int .i64 x23, .int .i64 x24, .sl (.int .u8) x25, .own 7]), (7, .vec 22 (.pair (.int .i64) (.int .i64)) x26 true)], 8, 3⟩
noncomputable def E72_d0e_2 (K : Ev.Ex → Ev.St → Option Ans) : (Int × Int × Int × Int × Int × Int × Bool × (List Int) × (List Int) × Int × Int × Int × Bool × Int × Int × Int × (List Int) × Int × Int × (List Int) × Int × Int × (List Int) × (List (Int × Int)) → Option Ans) := (fun v => match v with | (x0, x1, x2, x3, x4, x5, x6, x7, x8, x9, x10, x11, x12, x13, x14, x15, x16, x17, x18, x19, x20, x21, x22, x23) => K .normal ⟨[(0, .c (.ptr 0 0)), (1, .c (.int .i64 x0)), (7, .c (.ptr 3 0)), (8, .c (.ptr 4 0)), (9, .c (.ptr 5 0)), (10, .c (.ptr 6 0)), (27, .c (.int .i64 x1)), (28, .c (.int .i64 x2))], [(0, .cells 148 (.int .i64 x3 :: .own 1 :: ctb (.int .u64 x4 :: .int .u64 x5 :: .own 2 :: .bool x6 :: []))), (1, .vec 3 (.int .i64) x7 false), (2, .vec 5 (.int .u8) x8 true), (3, .cells 24 [.int .i64 x9, .int .i64 x10, .int .i64 x11, .bool x12, .int .i64 x13]), (4, .cells 35 [.int .i64 x14, .int .i64 x15, .sl (.int .u8) x16]), (5, .cells 35 [.int .i64 x17, .int .i64 x18, .sl (.int .u8) x19]), (6, .cells 174 [.int .i64 x20, .int .i64 x21, .sl (.int .u8) x22, .own 7]), (7, .vec 22 (.pair (.int .i64) (.int .i64)) x23 true)], 8, 3⟩)
theorem S72_d0e_2_okg (fuel : Nat) (f71 : YF71) (f103_cf0 : YF103_cf0) (f121 : YF121) (f122 : YF122) (f123_b9e : YF123_b9e) (f124 : YF124) (f125_a34 : YF125_a34) (R : Ev.St → Option Ans) (K : Ev.Ex → Ev.St → Option Ans) (x0 x1 : Int) (x2 x3 : Int) (x4 x5 : Int) (x6 x7 x8 : Int) (x9 : Bool) (x10 x11 : (List Int)) (x12 x13 x14 : Int) (x15 : Bool) (x16 x17 x18 : Int) (x19 : (List Int)) (x20 x21 : Int) (x22 : (List Int)) (x23 x24 : Int) (x25 : (List Int)) (x26 : (List (Int × Int))) : evalCode tab (Gg72_d0e f71 f103_cf0 f121 f122 f123_b9e f124 f125_a34) (J72_d0e_2 fuel) kp72_d0e fuel (bodyOf 2 Try.f72) (T72_d0e_2 (x0, x1, x2, x3, x4, x5, x6, x7, x8, x9, x10, x11, x12, x13, x14, x15, x16, x17, x18, x19, x20, x21, x22, x23, x24, x25, x26)) (lc kp72_d0e 13 2 R K) = Sg_generic_put_d0e_2 fuel f71 f103_cf0 f121 f122 f123_b9e f124 f125_a34 x0 x1 x2 x3 x4 x5 x6 x7 x8 x9 x10 x11 x12 x13 x14 x15 x16 x17 x18 x19 x20 x21 x22 x23 x24 x25 x26 (fun v => R (T72_d0e_2 v)) (E72_d0e_2 K) := by
  kernel_rfl
noncomputable def B72_d0e_2 (fuel : Nat) : Ev.Blk := fun st K => match canonO (kp72_d0e 13) st with
 | some s => (match s with
 | ⟨[(q0, .c (.ptr q1 q2)), (q3, .c (.int .i64 x0)), (q4, .c (.ptr q5 q6)), (q7, .c (.ptr q8 q9)), (q10, .c (.ptr q11 q12)), (q13, .c (.ptr q14 q15)), (q16, .c (.int .i64 x1)), (q17, .c (.int .i64 x2)), (q18, .c (.int .i64 x3)), (q19, .c (.int .i64 x4)), (q20, .c (.int .i64 x5))], [(q21, .cells q22 cs0), (q23, .vec q24 (.int .i64) x10 false), (q25, .vec q26 (.int .u8) x11 true), (q27, .cells q28 [.int .i64 x12, .int .i64 x13, .int .i64 x14, .bool x15, .int .i64 x16]), (q29, .cells q30 [.int .i64 x17, .int .i64 x18, .sl (.int .u8) x19]), (q31, .cells q32 [.int .i64 x20, .int .i64 x21, .sl (.int .u8) x22]), (q33, .cells q34 [.int .i64 x23, .int .i64 x24, .sl (.int .u8) x25, .own q35]), (q36, .vec q37 (.pair (.int .i64) (.int .i64)) x26 true)], q38, q39⟩ => (match splitRun 2 ctn cs0 with | some ([.int .i64 x6, .own q40], [.int .u64 x7, .int .u64 x8, .own q41, .bool x9]) => bif Nat.beq q0 0 && Nat.beq q1 0 && Nat.beq q2 0 && Nat.beq q3 1 && Nat.beq q4 7 && Nat.beq q5 3 && Nat.beq q6 0 && Nat.beq q7 8 && Nat.beq q8 4 && Nat.beq q9 0 && Nat.beq q10 9 && Nat.beq q11 5 && Nat.beq q12 0 && Nat.beq q13 10 && Nat.beq q14 6 && Nat.beq q15 0 && Nat.beq q16 11 && Nat.beq q17 27 && Nat.beq q18 28 && Nat.beq q19 60 && Nat.beq q20 61 && Nat.beq q21 0 && Nat.beq q22 148 && Nat.beq q23 1 && Nat.beq q24 3 && Nat.beq q25 2 && Nat.beq q26 5 && Nat.beq q27 3 && Nat.beq q28 24 && Nat.beq q29 4 && Nat.beq q30 35 && Nat.beq q31 5 && Nat.beq q32 35 && Nat.beq q33 6 && Nat.beq q34 174 && Nat.beq q35 7 && Nat.beq q36 7 && Nat.beq q37 22 && Nat.beq q38 8 && Nat.beq q39 3 && Nat.beq q40 1 && Nat.beq q41 2 then iter (S_generic_put_d0e_2 fuel) fuel (x0, x1, x2, x3, x4, x5, x6, x7, x8, x9, x10, x11, x12, x13, x14, x15, x16, x17, x18, x19, x20, x21, x22, x23, x24, x25, x26) (E72_d0e_2 K) else none | _ => none)
 | _ => none)
 | none => none
theorem B72_d0e_2_ok (fuel : Nat) (st : Ev.St) (K : Ev.Ex → Ev.St → Option Ans) (r : Ans) (h : B72_d0e_2 fuel st K = some r) : evalCode tab (G72_d0e fuel) (J72_d0e_2 fuel) kp72_d0e fuel (.block 2 (.loop (bodyOf 2 Try.f72))) st K = some r := by
  unfold B72_d0e_2 at h
  split at h
  · rename_i s hs
    split at h
    · skip
      split at h
      rotate_left 1
      · cases h
      rename_i hsp
      have esp := splitRun_eq hsp
      subst esp
      obtain ⟨hb, h⟩ := cond_some' h
      simp only [Bool.and_eq_true, Nat.beq_eq, decide_eq_true_eq] at hb
      obtain ⟨⟨⟨⟨⟨⟨⟨⟨⟨⟨⟨⟨⟨⟨⟨⟨⟨⟨⟨⟨⟨⟨⟨⟨⟨⟨⟨⟨⟨⟨⟨⟨⟨⟨⟨⟨⟨⟨⟨⟨⟨rfl, rfl⟩, rfl⟩, rfl⟩, rfl⟩, rfl⟩, rfl⟩, rfl⟩, rfl⟩, rfl⟩, rfl⟩, rfl⟩, rfl⟩, rfl⟩, rfl⟩, rfl⟩, rfl⟩, rfl⟩, rfl⟩, rfl⟩, rfl⟩, rfl⟩, rfl⟩, rfl⟩, rfl⟩, rfl⟩, rfl⟩, rfl⟩, rfl⟩, rfl⟩, rfl⟩, rfl⟩, rfl⟩, rfl⟩, rfl⟩, rfl⟩, rfl⟩, rfl⟩, rfl⟩, rfl⟩, rfl⟩, rfl⟩ := hb
      exact blk_loop (S := T72_d0e_2) (ks := E72_d0e_2) (step := S_generic_put_d0e_2 fuel) (v := (_, _, _, _, _, _, _, _, _, _, _, _, _, _, _, _, _, _, _, _, _, _, _, _, _, _, _)) (by kernel_rfl) (by kernel_rfl) (fun R K v => by obtain ⟨x0, x1, x2, x3, x4, x5, x6, x7, x8, x9, x10, x11, x12, x13, x14, x15, x16, x17, x18, x19, x20, x21, x22, x23, x24, x25, x26⟩ := v; exact S72_d0e_2_okg fuel (F_generic_contexts fuel) (F_coder_Encoder_Put_cf0 fuel) (F_generic_newPlane fuel) (F_bytes_Equal fuel) (F_generic_plane_above_b9e fuel) (F_generic_skips fuel) (F_generic_plane_context_a34 fuel) R K x0 x1 x2 x3 x4 x5 x6 x7 x8 x9 x10 x11 x12 x13 x14 x15 x16 x17 x18 x19 x20 x21 x22 x23 x24 x25 x26) hs h
    · cases h
  · cases h
noncomputable def Sg_generic_put_d0e_0 (fuel : Nat) (f71 : YF71) (f103_cf0 : YF103_cf0) (f121 : YF121) (f122 : YF122) (f123_b9e : YF123_b9e) (f124 : YF124) (f125_a34 : YF125_a34) (x0 x1 : Int) (x2 x3 : Int) (x4 x5 : Int) (x6 : Bool) (x7 x8 : (List Int)) (x9 x10 x11 : Int) (x12 : Bool) (x13 x14 x15 : Int) (x16 : (List Int)) (x17 x18 : Int) (x19 : (List Int)) (x20 x21 : Int) (x22 : (List Int)) (x23 : (List (Int × Int))) (c : (Int × Int × Int × Int × Int × Int × Bool × (List Int) × (List Int) × Int × Int × Int × Bool × Int × Int × Int × (List Int) × Int × Int × (List Int) × Int × Int × (List Int) × (List (Int × Int))) → Option Ans) (B : (Int × Int × Int × Bool × (List Int) × (List Int) → Option Ans)) : Option Ans := match B with
 | b =>
  bif decide (x2 < x1) then
  bif x12 then
  bif decide ((0 : Int) ≤ Ev.loOf (some (IntKind.i64.wrap (x2 * x14))) ∧ Ev.loOf (some (IntKind.i64.wrap (x2 * x14))) ≤ Ev.hiOf (some (IntKind.i64.wrap (IntKind.i64.wrap (x2 + (1 : Int)) * x14))) (↑x16.length : Int) ∧ Ev.hiOf (some (IntKind.i64.wrap (IntKind.i64.wrap (x2 + (1 : Int)) * x14))) (↑x16.length : Int) ≤ (↑x16.length : Int)) then
  (f123_b9e (x2) (x17) (x18) (x19) (x20) (x21) (x22) (x23)
  (fun (y5_0, y5_1, y5_2, y5_3, y5_4) =>
  (f122 (y5_4) (List.take (Ev.hiOf (some (IntKind.i64.wrap (IntKind.i64.wrap (x2 + (1 : Int)) * x14))) (↑x16.length : Int) - Ev.loOf (some (IntKind.i64.wrap (x2 * x14)))).toNat (List.drop (Ev.loOf (some (IntKind.i64.wrap (x2 * x14)))).toNat x16))
  (fun y9 =>
  bif y9 then
  (f71 (x9) (x10) (x11) (x12) (x13)
  (fun y14 =>
  (f103_cf0 (IntKind.i64.wrap (x0 + y14)) ((1 : Int)) (x3) (x4) (x5) (x6) (x7) (x8)
  (fun (y18_0, y18_1, y18_2, y18_3, y18_4, y18_5, y18_6) =>
  c (x0, x1, IntKind.i64.wrap (x2 + (1 : Int)), y18_1, y18_2, y18_3, y18_4, y18_5, y18_6, x9, x10, x11, x12, x13, x14, x15, x16, x17, x18, x19, y5_0, y5_1, y5_2, y5_3))
  (fun (y18_0, y18_1, y18_2, y18_3, y18_4, y18_5, y18_6) =>
  c (x0, x1, IntKind.i64.wrap (x2 + (1 : Int)), y18_1, y18_2, y18_3, y18_4, y18_5, y18_6, x9, x10, x11, x12, x13, x14, x15, x16, x17, x18, x19, y5_0, y5_1, y5_2, y5_3)))))
  else
  (f71 (x9) (x10) (x11) (x12) (x13)
  (fun y14 =>
  (f103_cf0 (IntKind.i64.wrap (x0 + y14)) ((0 : Int)) (x3) (x4) (x5) (x6) (x7) (x8)
  (fun (y18_0, y18_1, y18_2, y18_3, y18_4, y18_5, y18_6) =>
  (L_generic_put_d0e_2 fuel (x0, x2, x1, x2, x14, (0 : Int), y18_1, y18_2, y18_3, y18_4, y18_5, y18_6, x9, x10, x11, x12, x13, x14, x15, x16, x17, x18, x19, y5_0, y5_1, y5_2, y5_3)
  (fun (b2_0, b2_1, b2_2, b2_3, b2_4, b2_5, b2_6, b2_7, b2_8, b2_9, b2_10, b2_11, b2_12, b2_13, b2_14, b2_15, b2_16, b2_17, b2_18, b2_19, b2_20, b2_21, b2_22, b2_23) =>
  c (b2_0, b2_1, IntKind.i64.wrap (b2_2 + (1 : Int)), b2_3, b2_4, b2_5, b2_6, b2_7, b2_8, b2_9, b2_10, b2_11, b2_12, b2_13, b2_14, b2_15, b2_16, b2_17, b2_18, b2_19, b2_20, b2_21, b2_22, b2_23))))
  (fun (y18_0, y18_1, y18_2, y18_3, y18_4, y18_5, y18_6) =>
  (L_generic_put_d0e_2 fuel (x0, x2, x1, x2, x14, (0 : Int), y18_1, y18_2, y18_3, y18_4, y18_5, y18_6, x9, x10, x11, x12, x13, x14, x15, x16, x17, x18, x19, y5_0, y5_1, y5_2, y5_3)
  (fun (b2_0, b2_1, b2_2, b2_3, b2_4, b2_5, b2_6, b2_7, b2_8, b2_9, b2_10, b2_11, b2_12, b2_13, b2_14, b2_15, b2_16, b2_17, b2_18, b2_19, b2_20, b2_21, b2_22, b2_23) =>
  c (b2_0, b2_1, IntKind.i64.wrap (b2_2 + (1 : Int)), b2_3, b2_4, b2_5, b2_6, b2_7, b2_8, b2_9, b2_10, b2_11, b2_12, b2_13, b2_14, b2_15, b2_16, b2_17, b2_18, b2_19, b2_20, b2_21, b2_22, b2_23)))))))))))
  else none
  else
  (L_generic_put_d0e_2 fuel (x0, x2, x1, x2, x14, (0 : Int), x3, x4, x5, x6, x7, x8, x9, x10, x11, x12, x13, x14, x15, x16, x17, x18, x19, x20, x21, x22, x23)
  (fun (b2_0, b2_1, b2_2, b2_3, b2_4, b2_5, b2_6, b2_7, b2_8, b2_9, b2_10, b2_11, b2_12, b2_13, b2_14, b2_15, b2_16, b2_17, b2_18, b2_19, b2_20, b2_21, b2_22, b2_23) =>
  c (b2_0, b2_1, IntKind.i64.wrap (b2_2 + (1 : Int)), b2_3, b2_4, b2_5, b2_6, b2_7, b2_8, b2_9, b2_10, b2_11, b2_12, b2_13, b2_14, b2_15, b2_16, b2_17, b2_18, b2_19, b2_20, b2_21, b2_22, b2_23)))
  else
  b (x3, x4, x5, x6, x7, x8)
noncomputable def S_generic_put_d0e_0 (fuel : Nat) (v : Int × Int × Int × Int × Int × Int × Bool × (List Int) × (List Int) × Int × Int × Int × Bool × Int × Int × Int × (List Int) × Int × Int × (List Int) × Int × Int × (List Int) × (List (Int × Int))) (c : (Int × Int × Int × Int × Int × Int × Bool × (List Int) × (List Int) × Int × Int × Int × Bool × Int × Int × Int × (List Int) × Int × Int × (List Int) × Int × Int × (List Int) × (List (Int × Int))) → Option Ans) (B : (Int × Int × Int × Bool × (List Int) × (List Int) → Option Ans)) : Option Ans := match v with
 | (x0, x1, x2, x3, x4, x5, x6, x7, x8, x9, x10, x11, x12, x13, x14, x15, x16, x17, x18, x19, x20, x21, x22, x23) => Sg_generic_put_d0e_0 fuel (F_generic_contexts fuel) (F_coder_Encoder_Put_cf0 fuel) (F_generic_newPlane fuel) (F_bytes_Equal fuel) (F_generic_plane_above_b9e fuel) (F_generic_skips fuel) (F_generic_plane_context_a34 fuel) x0 x1 x2 x3 x4 x5 x6 x7 x8 x9 x10 x11 x12 x13 x14 x15 x16 x17 x18 x19 x20 x21 x22 x23 c B
noncomputable def L_generic_put_d0e_0 (fuel : Nat) (v : Int × Int × Int × Int × Int × Int × Bool × (List Int) × (List Int) × Int × Int × Int × Bool × Int × Int × Int × (List Int) × Int × Int × (List Int) × Int × Int × (List Int) × (List (Int × Int))) (b : (Int × Int × Int × Bool × (List Int) × (List Int) → Option Ans)) : Option Ans := iter (S_generic_put_d0e_0 fuel) fuel v b
noncomputable def J72_d0e_0 (fuel : Nat) (i : Nat) : Option Ev.Blk := Ev.look i [(100002, B72_d0e_2 fuel)]
noncomputable def T72_d0e_0 (v : Int × Int × Int × Int × Int × Int × Bool × (List Int) × (List Int) × Int × Int × Int × Bool × Int × Int × Int × (List Int) × Int × Int × (List Int) × Int × Int × (List Int) × (List (Int × Int))) : Ev.St := match v with | (x0, x1, x2, x3, x4, x5, x6, x7, x8, x9, x10, x11, x12, x13, x14, x15, x16, x17, x18, x19, x20, x21, x22, x23) => ⟨[(0, .c (.ptr 0 0)), (1, .c (.int .i64 x0)), (7, .c (.ptr 3 0)), (8, .c (.ptr 4 0)), (9, .c (.ptr 5 0)), (10, .c (.ptr 6 0)), (27, .c (.int .i64 x1)), (28, .c (.int .i64 x2))], [(0, .cells 148 (.int .i64 x3 :: .own 1 :: ctb (.int .u64 x4 :: .int .u64 x5 :: .own 2 :: .bool x6 :: []))), (1, .vec 3 (.int .i64) x7 false), (2, .vec 5 (.int .u8) x8 true), (3, .cells 24 [.int .i64 x9, .int .i64 x10, .int .i64 x11, .bool x12, .int .i64 x13]), (4, .cells 35 [.int .i64 x14, .int .i64 x15, .sl (.int .u8) x16]), (5, .cells 35 [.int .i64 x17, .int .i64 x18, .sl (.int .u8) x19]), (6, .cells 174 [.int .i64 x20, .int .i64 x21, .sl (.int .u8) x22, .own 7]), (7, .vec 22 (.pair (.int .i64) (.int .i64)) x23 true)], 8, 3⟩
noncomputable def E72_d0e_0 (K : Ev.Ex → Ev.St → Option Ans) : (Int × Int × Int × Bool × (List Int) × (List Int) → Option Ans) := (fun v => match v with | (x0, x1, x2, x3, x4, x5) => K .normal ⟨[], [(0, .cells 148 (.int .i64 x0 :: .own 1 :: ctb (.int .u64 x1 :: .int .u64 x2 :: .own 2 :: .bool x3 :: []))), (1, .vec 3 (.int .i64) x4 false), (2, .vec 5 (.int .u8) x5 true)], 3, 3⟩)
theorem S72_d0e_0_okg (fuel : Nat) (f71 : YF71) (f103_cf0 : YF103_cf0) (f121 : YF121) (f122 : YF122) (f123_b9e : YF123_b9e) (f124 : YF124) (f125_a34 : YF125_a34) (R : Ev.St → Option Ans) (K : Ev.Ex → Ev.St → Option Ans) (x0 x1 : Int) (x2 x3 : Int) (x4 x5 : Int) (x6 : Bool) (x7 x8 : (List Int)) (x9 x10 x11 : Int) (x12 : Bool) (x13 x14 x15 : Int) (x16 : (List Int)) (x17 x18 : Int) (x19 : (List Int)) (x20 x21 : Int) (x22 : (List Int)) (x23 : (List (Int × Int))) : evalCode tab (Gg72_d0e f71 f103_cf0 f121 f122 f123_b9e f124 f125_a34) (J72_d0e_0 fuel) kp72_d0e fuel (bodyOf 0 Try.f72) (T72_d0e_0 (x0, x1, x2, x3, x4, x5, x6, x7, x8, x9, x10, x11, x12, x13, x14, x15, x16, x17, x18, x19, x20, x21, x22, x23)) (lc kp72_d0e 4 0 R K) = Sg_generic_put_d0e_0 fuel f71 f103_cf0 f121 f122 f123_b9e f124 f125_a34 x0 x1 x2 x3 x4 x5 x6 x7 x8 x9 x10 x11 x12 x13 x14 x15 x16 x17 x18 x19 x20 x21 x22 x23 (fun v => R (T72_d0e_0 v)) (E72_d0e_0 K) := by
  kernel_rfl
noncomputable def B72_d0e_0 (fuel : Nat) : Ev.Blk := fun st K => match canonO (kp72_d0e 4) st with
 | some s => (match s with
 | ⟨[(q0, .c (.ptr q1 q2)), (q3, .c (.int .i64 x0)), (q4, .c (.ptr q5 q6)), (q7, .c (.ptr q8 q9)), (q10, .c (.ptr q11 q12)), (q13, .c (.ptr q14 q15)), (q16, .c (.int .i64 x1)), (q17, .c (.int .i64 x2))], [(q18, .cells q19 cs0), (q20, .vec q21 (.int .i64) x7 false), (q22, .vec q23 (.int .u8) x8 true), (q24, .cells q25 [.int .i64 x9, .int .i64 x10, .int .i64 x11, .bool x12, .int .i64 x13]), (q26, .cells q27 [.int .i64 x14, .int .i64 x15, .sl (.int .u8) x16]), (q28, .cells q29 [.int .i64 x17, .int .i64 x18, .sl (.int .u8) x19]), (q30, .cells q31 [.int .i64 x20, .int .i64 x21, .sl (.int .u8) x22, .own q32]), (q33, .vec q34 (.pair (.int .i64) (.int .i64)) x23 true)], q35, q36⟩ => (match splitRun 2 ctn cs0 with | some ([.int .i64 x3, .own q37], [.int .u64 x4, .int .u64 x5, .own q38, .bool x6]) => bif Nat.beq q0 0 && Nat.beq q1 0 && Nat.beq q2 0 && Nat.beq q3 1 && Nat.beq q4 7 && Nat.beq q5 3 && Nat.beq q6 0 && Nat.beq q7 8 && Nat.beq q8 4 && Nat.beq q9 0 && Nat.beq q10 9 && Nat.beq q11 5 && Nat.beq q12 0 && Nat.beq q13 10 && Nat.beq q14 6 && Nat.beq q15 0 && Nat.beq q16 27 && Nat.beq q17 28 && Nat.beq q18 0 && Nat.beq q19 148 && Nat.beq q20 1 && Nat.beq q21 3 && Nat.beq q22 2 && Nat.beq q23 5 && Nat.beq q24 3 && Nat.beq q25 24 && Nat.beq q26 4 && Nat.beq q27 35 && Nat.beq q28 5 && Nat.beq q29 35 && Nat.beq q30 6 && Nat.beq q31 174 && Nat.beq q32 7 && Nat.beq q33 7 && Nat.beq q34 22 && Nat.beq q35 8 && Nat.beq q36 3 && Nat.beq q37 1 && Nat.beq q38 2 then iter (S_generic_put_d0e_0 fuel) fuel (x0, x1, x2, x3, x4, x5, x6, x7, x8, x9, x10, x11, x12, x13, x14, x15, x16, x17, x18, x19, x20, x21, x22, x23) (E72_d0e_0 K) else none | _ => none)
 | _ => none)
 | none => none
theorem B72_d0e_0_ok (fuel : Nat) (st : Ev.St) (K : Ev.Ex → Ev.St → Option Ans) (r : Ans) (h : B72_d0e_0 fuel st K = some r) : evalCode tab (G72_d0e fuel) (J72_d0e_0 fuel) kp72_d0e fuel (.block 0 (.loop (bodyOf 0 Try.f72))) st K = some r := by
  unfold B72_d0e_0 at h
  split at h
  · rename_i s hs
    split at h
    · skip
      split at h
      rotate_left 1
      · cases h
      rename_i hsp
      have esp := splitRun_eq hsp
      subst esp
      obtain ⟨hb, h⟩ := cond_some' h
      simp only [Bool.and_eq_true, Nat.beq_eq, decide_eq_true_eq] at hb
      obtain ⟨⟨⟨⟨⟨⟨⟨⟨⟨⟨⟨⟨⟨⟨⟨⟨⟨⟨⟨⟨⟨⟨⟨⟨⟨⟨⟨⟨⟨⟨⟨⟨⟨⟨⟨⟨⟨⟨rfl, rfl⟩, rfl⟩, rfl⟩, rfl⟩, rfl⟩, rfl⟩, rfl⟩, rfl⟩, rfl⟩, rfl⟩, rfl⟩, rfl⟩, rfl⟩, rfl⟩, rfl⟩, rfl⟩, rfl⟩, rfl⟩, rfl⟩, rfl⟩, rfl⟩, rfl⟩, rfl⟩, rfl⟩, rfl⟩, rfl⟩, rfl⟩, rfl⟩, rfl⟩, rfl⟩, rfl⟩, rfl⟩, rfl⟩, rfl⟩, rfl⟩, rfl⟩, rfl⟩, rfl⟩ := hb
      exact blk_loop (S := T72_d0e_0) (ks := E72_d0e_0) (step := S_generic_put_d0e_0 fuel) (v := (_, _, _, _, _, _, _, _, _, _, _, _, _, _, _, _, _, _, _, _, _, _, _, _)) (by kernel_rfl) (by kernel_rfl) (fun R K v => by obtain ⟨x0, x1, x2, x3, x4, x5, x6, x7, x8, x9, x10, x11, x12, x13, x14, x15, x16, x17, x18, x19, x20, x21, x22, x23⟩ := v; exact S72_d0e_0_okg fuel (F_generic_contexts fuel) (F_coder_Encoder_Put_cf0 fuel) (F_generic_newPlane fuel) (F_bytes_Equal fuel) (F_generic_plane_above_b9e fuel) (F_generic_skips fuel) (F_generic_plane_context_a34 fuel) R K x0 x1 x2 x3 x4 x5 x6 x7 x8 x9 x10 x11 x12 x13 x14 x15 x16 x17 x18 x19 x20 x21 x22 x23) hs h
    · cases h
  · cases h
noncomputable def J72_d0e (fuel : Nat) (i : Nat) : Option Ev.Blk := Ev.look i [(100002, B72_d0e_2 fuel), (100000, B72_d0e_0 fuel)]
noncomputable def Fg_generic_put_d0e (fuel : Nat) (f71 : YF71) (f103_cf0 : YF103_cf0) (f121 : YF121) (f122 : YF122) (f123_b9e : YF123_b9e) (f124 : YF124) (f125_a34 : YF125_a34) (x0 x1 : Int) (x2 x3 : Int) (x4 : Bool) (x5 x6 x7 : Int) (x8 : (List Int)) (x9 x10 : Int) (x11 : (List Int)) (x12 x13 x14 : Int) (x15 : Bool) (x16 x17 : (List Int)) (k0 : (Int × Int × Int × Bool × (List Int) × (List Int)) → Option Ans) : Option Ans :=
  (f121 (x1) (x2) (x3) (x4) (x5) (x6) (x7)
  (fun (y2_0, y2_1, y2_2, y2_3) =>
  (L_generic_put_d0e_0 fuel (x0, x7, (0 : Int), x12, x13, x14, x15, x16, x17, x1, x2, x3, x4, x5, x6, x7, x8, x9, x10, x11, y2_0, y2_1, x8, y2_3)
  (fun (b0_0, b0_1, b0_2, b0_3, b0_4, b0_5) =>
  k0 (b0_0, b0_1, b0_2, b0_3, b0_4, b0_5)))))
noncomputable def F_generic_put_d0e (fuel : Nat) (x0 x1 : Int) (x2 x3 : Int) (x4 : Bool) (x5 x6 x7 : Int) (x8 : (List Int)) (x9 x10 : Int) (x11 : (List Int)) (x12 x13 x14 : Int) (x15 : Bool) (x16 x17 : (List Int)) (k0 : (Int × Int × Int × Bool × (List Int) × (List Int)) → Option Ans) : Option Ans := Fg_generic_put_d0e fuel (F_generic_contexts fuel) (F_coder_Encoder_Put_cf0 fuel) (F_generic_newPlane fuel) (F_bytes_Equal fuel) (F_generic_plane_above_b9e fuel) (F_generic_skips fuel) (F_generic_plane_context_a34 fuel) x0 x1 x2 x3 x4 x5 x6 x7 x8 x9 x10 x11 x12 x13 x14 x15 x16 x17 k0
abbrev YF72_d0e : Type := (Int) → (Int) → (Int) → (Int) → (Bool) → (Int) → (Int) → (Int) → ((List Int)) → (Int) → (Int) → ((List Int)) → (Int) → (Int) → (Int) → (Bool) → ((List Int)) → ((List Int)) → ((Int × Int × Int × Bool × (List Int) × (List Int)) → Option Ans) → Option Ans
theorem F72_d0e_eqg (fuel : Nat) (f71 : YF71) (f103_cf0 : YF103_cf0) (f121 : YF121) (f122 : YF122) (f123_b9e : YF123_b9e) (f124 : YF124) (f125_a34 : YF125_a34) (x0 x1 : Int) (x2 x3 : Int) (x4 : Bool) (x5 x6 x7 : Int) (x8 : (List Int)) (x9 x10 : Int) (x11 : (List Int)) (x12 x13 x14 : Int) (x15 : Bool) (x16 x17 : (List Int)) (k : Ev.Cont) : evalFn tab (Gg72_d0e f71 f103_cf0 f121 f122 f123_b9e f124 f125_a34) (J72_d0e fuel) kp72_d0e fuel Try.f72 [.c (.ptr 0 0), .c (.int .i64 x0), .agg [.int .i64 x1, .int .i64 x2, .int .i64 x3, .bool x4, .int .i64 x5], .agg [.int .i64 x6, .int .i64 x7, .sl (.int .u8) x8], .agg [.int .i64 x9, .int .i64 x10, .sl (.int .u8) x11]] [.cells 148 (.int .i64 x12 :: .own 1 :: ctb (.int .u64 x13 :: .int .u64 x14 :: .own 2 :: .bool x15 :: [])), .vec 3 (.int .i64) x16 false, .vec 5 (.int .u8) x17 false] k = Fg_generic_put_d0e fuel f71 f103_cf0 f121 f122 f123_b9e f124 f125_a34 x0 x1 x2 x3 x4 x5 x6 x7 x8 x9 x10 x11 x12 x13 x14 x15 x16 x17 (fun r => match r with | (r0, r1, r2, r3, r4, r5) => k (.tup [], [.cells 148 (.int .i64 r0 :: .own 1 :: ctb (.int .u64 r1 :: .int .u64 r2 :: .own 2 :: .bool r3 :: [])), .vec 3 (.int .i64) r4 false, .vec 5 (.int .u8) r5 true])) := by
  kernel_rfl
theorem hG72_d0e (fuel : Nat) : GOK Try.prog (G72_d0e fuel) :=
  gok_cons ⟨ok71 fuel, enters_of Try.func71 (by kernel_rfl) rfl⟩ <|
  gok_cons ⟨ok103_cf0 fuel, enters_of Try.func103 (by kernel_rfl) rfl⟩ <|
  gok_cons ⟨ok121 fuel, enters_of Try.func121 (by kernel_rfl) rfl⟩ <|
  gok_cons ⟨ok122 fuel, enters_of Try.func122 (by kernel_rfl) rfl⟩ <|
  gok_cons ⟨ok123_b9e fuel, enters_of Try.func123 (by kernel_rfl) rfl⟩ <|
  gok_cons ⟨ok124 fuel, enters_of Try.func124 (by kernel_rfl) rfl⟩ <|
  gok_cons ⟨ok125_a34 fuel, enters_of Try.func125 (by kernel_rfl) rfl⟩ <|
  gok_nil
theorem B72_d0e_2_blk (fuel : Nat) : BlkOK Try.prog Try.f72.ntmps (.block 2 (.loop (bodyOf 2 Try.f72))) (B72_d0e_2 fuel) :=
  blk_of (blk_of_code tab_ok (hG72_d0e fuel) mixed (J := J72_d0e_2 fuel) (kp := kp72_d0e) (fuel := fuel) (by kernel_rfl) (fun q hq => by
    rw [(by kernel_rfl : obl (J72_d0e_2 fuel) (.block 2 (.loop (bodyOf 2 Try.f72))) = [])] at hq
    cases hq)) (B72_d0e_2_ok fuel)
theorem B72_d0e_0_blk (fuel : Nat) : BlkOK Try.prog Try.f72.ntmps (.block 0 (.loop (bodyOf 0 Try.f72))) (B72_d0e_0 fuel) :=
  blk_of (blk_of_code tab_ok (hG72_d0e fuel) mixed (J := J72_d0e_0 fuel) (kp := kp72_d0e) (fuel := fuel) (by kernel_rfl) (fun q hq => by
    rw [(by kernel_rfl : obl (J72_d0e_0 fuel) (.block 0 (.loop (bodyOf 0 Try.f72))) = [(.block 2 (.loop (bodyOf 2 Try.f72)), B72_d0e_2 fuel)])] at hq
    simp only [List.mem_cons, List.not_mem_nil, or_false] at hq
    subst hq
    · exact B72_d0e_2_blk fuel)) (B72_d0e_0_ok fuel)
theorem fok72_d0e (fuel : Nat) : FnOK Try.prog 72 (evalFn tab (G72_d0e fuel) (J72_d0e fuel) kp72_d0e fuel Try.f72) :=
  fn_ok tab_ok (hG72_d0e fuel) mixed Try.func72 (c := (Try.f72.body).getD .skip) rfl (fun q hq => by
    rw [(by kernel_rfl : obl (J72_d0e fuel) ((Try.f72.body).getD .skip) = [(.block 0 (.loop (bodyOf 0 Try.f72)), B72_d0e_0 fuel)])] at hq
    simp only [List.mem_cons, List.not_mem_nil, or_false] at hq
    subst hq
    · exact B72_d0e_0_blk fuel)
noncomputable def spg72_d0e (F : YF72_d0e) : Ev.Spec := fun args objs k => match args, objs with
 | [.c (.ptr q0 q1), .c (.int .i64 x0), .agg [.int .i64 x1, .int .i64 x2, .int .i64 x3, .bool x4, .int .i64 x5], .agg [.int .i64 x6, .int .i64 x7, .sl (.int .u8) x8], .agg [.int .i64 x9, .int .i64 x10, .sl (.int .u8) x11]], [.cells q2 cs0, .vec q3 (.int .i64) x16 false, .vec q4 (.int .u8) x17 false] => (match splitRun 2 ctn cs0 with | some ([.int .i64 x12, .own q5], [.int .u64 x13, .int .u64 x14, .own q6, .bool x15]) => bif Nat.beq q0 0 && Nat.beq q1 0 && Nat.beq q2 148 && Nat.beq q3 3 && Nat.beq q4 5 && Nat.beq q5 1 && Nat.beq q6 2 then F x0 x1 x2 x3 x4 x5 x6 x7 x8 x9 x10 x11 x12 x13 x14 x15 x16 x17 (fun r => match r with | (r0, r1, r2, r3, r4, r5) => k (.tup [], [.cells 148 (.int .i64 r0 :: .own 1 :: ctb (.int .u64 r1 :: .int .u64 r2 :: .own 2 :: .bool r3 :: [])), .vec 3 (.int .i64) r4 false, .vec 5 (.int .u8) r5 true])) else none | _ => none)
 | _, _ => none
noncomputable def spec72_d0e (fuel : Nat) : Ev.Spec := spg72_d0e (F_generic_put_d0e fuel)
theorem ok72_d0e (fuel : Nat) : FnOK Try.prog 72 (spec72_d0e fuel) := by
  intro args objs kk r h
  unfold spec72_d0e spg72_d0e at h
  split at h
  · skip
    split at h
    rotate_left 1
    · cases h
    rename_i hsp
    have esp := splitRun_eq hsp
    subst esp
    obtain ⟨hb, h⟩ := cond_some' h
    simp only [Bool.and_eq_true, Nat.beq_eq, decide_eq_true_eq] at hb
    obtain ⟨⟨⟨⟨⟨⟨rfl, rfl⟩, rfl⟩, rfl⟩, rfl⟩, rfl⟩, rfl⟩ := hb
    exact fok72_d0e fuel _ _ kk r ((F72_d0e_eqg fuel (F_generic_contexts fuel) (F_coder_Encoder_Put_cf0 fuel) (F_generic_newPlane fuel) (F_bytes_Equal fuel) (F_generic_plane_above_b9e fuel) (F_generic_skips fuel) (F_generic_plane_context_a34 fuel) _ _ _ _ _ _ _ _ _ _ _ _ _ _ _ _ _ _ kk).trans h)
  · cases h
end Go.Proofs.Ytipdidpalcmlhaa

set_option linter.unusedVariables false
set_option linter.unusedSimpArgs false
set_option maxRecDepth 100000
set_option maxHeartbeats 2000000
namespace Go.Proofs.Ytipdidpalcmlhaa
open Go Ev
def kp27 (i : Nat) : Option (List Nat) := Ev.look i [(200005, [2])]
noncomputable def Gg27 (f49 : YF49) (f50 : YF50) (f54_a20 : YF54_a20) (f64 : YF64) (f65 : YF65) (f71 : YF71) (f72_d0e : YF72_d0e) (f : Nat) : Option Ev.Spec := Ev.look f [(49, spg49 f49), (50, spg50 f50), (54, spg54_a20 f54_a20), (64, spg64 f64), (65, spg65 f65), (71, spg71 f71), (72, spg72_d0e f72_d0e)]
noncomputable def G27 (fuel : Nat) : Nat → Option Ev.Spec := Gg27 (F_coder_New fuel) (F_coder_NewEncoder fuel) (F_coder_Encoder_End_a20 fuel) (F_generic_Valid fuel) (F_bitmap_Valid fuel) (F_generic_contexts fuel) (F_generic_put_d0e fuel)
noncomputable def J27 (fuel : Nat) (i : Nat) : Option Ev.Blk := Ev.look i []
noncomputable def Fg_generic_Encode (fuel : Nat) (f49 : YF49) (f50 : YF50) (f54_a20 : YF54_a20) (f64 : YF64) (f65 : YF65) (f71 : YF71) (f72_d0e : YF72_d0e) (x0 x1 x2 : Int) (x3 : Bool) (x4 x5 x6 : Int) (x7 : (List Int)) (k0 : (Int × (List Int)) → Option Ans) : Option Ans :=
  (f64 (x0) (x1) (x2) (x3) (x4)
  (fun y2 =>
  bif !y2 then
  k0 ((2 : Int), [])
  else
  (f65 (x5) (x6) (x7)
  (fun y7 =>
  bif !y7 then
  k0 ((30 : Int), [])
  else
  both ((f71 (x0) (x1) (x2) (x3) (x4)
  (fun y14 =>
  both ((f49 (x4) (IntKind.i64.wrap (y14 + (1 : Int)))
  (fun (y20_0, y20_1, y20_2) =>
  (f50 (y20_0) (y20_2)
  (fun y24 =>
  none)
  (fun (y24_0, y24_1, y24_2, y24_3, y24_4, y24_5, y24_6) =>
  (f72_d0e ((0 : Int)) (x0) (x1) (x2) (x3) (x4) (x5) (x6) (x7) ((0 : Int)) ((0 : Int)) ([]) (y24_1) (y24_2) (y24_3) (y24_4) (y24_5) (y24_6)
  (fun (y28_0, y28_1, y28_2, y28_3, y28_4, y28_5) =>
  (f54_a20 (y28_0) (y28_1) (y28_2) (y28_3) (y28_4) (y28_5)
  (fun (y32_0, y32_1, y32_2, y32_3, y32_4, y32_5, y32_6) =>
  k0 ((0 : Int), y32_6))))))))))
  ((f49 (x4) (IntKind.i64.wrap (y14 + (1 : Int)))
  (fun (y20_0, y20_1, y20_2) =>
  (f50 (y20_0) (y20_2)
  (fun y24 =>
  none)
  (fun (y24_0, y24_1, y24_2, y24_3, y24_4, y24_5, y24_6) =>
  (f72_d0e ((0 : Int)) (x0) (x1) (x2) (x3) (x4) (x5) (x6) (x7) ((0 : Int)) ((0 : Int)) ([]) (y24_1) (y24_2) (y24_3) (y24_4) (y24_5) (y24_6)
  (fun (y28_0, y28_1, y28_2, y28_3, y28_4, y28_5) =>
  (f54_a20 (y28_0) (y28_1) (y28_2) (y28_3) (y28_4) (y28_5)
  (fun (y32_0, y32_1, y32_2, y32_3, y32_4, y32_5, y32_6) =>
  k0 ((0 : Int), y32_6)))))))))))))
  ((f71 (x0) (x1) (x2) (x3) (x4)
  (fun y14 =>
  (f49 (x4) (IntKind.i64.wrap (y14 + (1 : Int)))
  (fun (y18_0, y18_1, y18_2) =>
  (f50 (y18_0) (y18_2)
  (fun y22 =>
  none)
  (fun (y22_0, y22_1, y22_2, y22_3, y22_4, y22_5, y22_6) =>
  (f72_d0e ((0 : Int)) (x0) (x1) (x2) (x3) (x4) (x5) (x6) (x7) ((0 : Int)) ((0 : Int)) ([]) (y22_1) (y22_2) (y22_3) (y22_4) (y22_5) (y22_6)
  (fun (y26_0, y26_1, y26_2, y26_3, y26_4, y26_5) =>
  (f54_a20 (y26_0) (y26_1) (y26_2) (y26_3) (y26_4) (y26_5)
  (fun (y30_0, y30_1, y30_2, y30_3, y30_4, y30_5, y30_6) =>
  k0 ((0 : Int), y30_6))))))))))))))))
noncomputable def F_generic_Encode (fuel : Nat) (x0 x1 x2 : Int) (x3 : Bool) (x4 x5 x6 : Int) (x7 : (List Int)) (k0 : (Int × (List Int)) → Option Ans) : Option Ans := Fg_generic_Encode fuel (F_coder_New fuel) (F_coder_NewEncoder fuel) (F_coder_Encoder_End_a20 fuel) (F_generic_Valid fuel) (F_bitmap_Valid fuel) (F_generic_contexts fuel) (F_generic_put_d0e fuel) x0 x1 x2 x3 x4 x5 x6 x7 k0
abbrev YF27 : Type := (Int) → (Int) → (Int) → (Bool) → (Int) → (Int) → (Int) → ((List Int)) → ((Int × (List Int)) → Option Ans) → Option Ans
theorem F27_eqg (fuel : Nat) (f49 : YF49) (f50 : YF50) (f54_a20 : YF54_a20) (f64 : YF64) (f65 : YF65) (f71 : YF71) (f72_d0e : YF72_d0e) (x0 x1 x2 : Int) (x3 : Bool) (x4 x5 x6 : Int) (x7 : (List Int)) (k : Ev.Cont) : evalFn tab (Gg27 f49 f50 f54_a20 f64 f65 f71 f72_d0e) (J27 fuel) kp27 fuel Try.f27 [.agg [.int .i64 x0, .int .i64 x1, .int .i64 x2, .bool x3, .int .i64 x4], .agg [.int .i64 x5, .int .i64 x6, .sl (.int .u8) x7]] [] k = Fg_generic_Encode fuel f49 f50 f54_a20 f64 f65 f71 f72_d0e x0 x1 x2 x3 x4 x5 x6 x7 (fun r => match r with | (r0, r1) => k (.tup [(false, [.own 0]), (false, [.int .i64 r0])], [.vec 5 (.int .u8) r1 true])) := by
  kernel_rfl
theorem hG27 (fuel : Nat) : GOK Try.prog (G27 fuel) :=
  gok_cons ⟨ok49 fuel, enters_of Try.func49 (by kernel_rfl) rfl⟩ <|
  gok_cons ⟨ok50 fuel, enters_of Try.func50 (by kernel_rfl) rfl⟩ <|
  gok_cons ⟨ok54_a20 fuel, enters_of Try.func54 (by kernel_rfl) rfl⟩ <|
  gok_cons ⟨ok64 fuel, enters_of Try.func64 (by kernel_rfl) rfl⟩ <|
  gok_cons ⟨ok65 fuel, enters_of Try.func65 (by kernel_rfl) rfl⟩ <|
  gok_cons ⟨ok71 fuel, enters_of Try.func71 (by kernel_rfl) rfl⟩ <|
  gok_cons ⟨ok72_d0e fuel, enters_of Try.func72 (by kernel_rfl) rfl⟩ <|
  gok_nil
theorem fok27 (fuel : Nat) : FnOK Try.prog 27 (evalFn tab (G27 fuel) (J27 fuel) kp27 fuel Try.f27) :=
  fn_ok tab_ok (hG27 fuel) mixed Try.func27 (c := (Try.f27.body).getD .skip) rfl (fun q hq => by
    rw [(by kernel_rfl : obl (J27 fuel) ((Try.f27.body).getD .skip) = [])] at hq
    cases hq)
noncomputable def spg27 (F : YF27) : Ev.Spec := fun args objs k => match args, objs with
 | [.agg [.int .i64 x0, .int .i64 x1, .int .i64 x2, .bool x3, .int .i64 x4], .agg [.int .i64 x5, .int .i64 x6, .sl (.int .u8) x7]], [] => bif true then F x0 x1 x2 x3 x4 x5 x6 x7 (fun r => match r with | (r0, r1) => k (.tup [(false, [.own 0]), (false, [.int .i64 r0])], [.vec 5 (.int .u8) r1 true])) else none
 | _, _ => none
noncomputable def spec27 (fuel : Nat) : Ev.Spec := spg27 (F_generic_Encode fuel)
theorem ok27 (fuel : Nat) : FnOK Try.prog 27 (spec27 fuel) := by
  intro args objs kk r h
  unfold spec27 spg27 at h
  split at h
  · skip
    obtain ⟨hb, h⟩ := cond_some' h
    simp only [Bool.and_eq_true, Nat.beq_eq, decide_eq_true_eq] at hb
    clear hb
    exact fok27 fuel _ _ kk r ((F27_eqg fuel (F_coder_New fuel) (F_coder_NewEncoder fuel) (F_coder_Encoder_End_a20 fuel) (F_generic_Valid fuel) (F_bitmap_Valid fuel) (F_generic_contexts fuel) (F_generic_put_d0e fuel) _ _ _ _ _ _ _ _ kk).trans h)
  · cases h
end Go.Proofs.Ytipdidpalcmlhaa

set_option linter.unusedVariables false
set_option linter.unusedSimpArgs false
set_option maxRecDepth 100000
set_option maxHeartbeats 2000000
namespace Go.Proofs.Ytipdidpalcmlhaa
open Go Ev
def kp24 (i : Nat) : Option (List Nat) := Ev.look i [(2, [0, 7, 8, 9]), (100000, [0]), (200004, [0, 4]), (400000, [2])]
noncomputable def Gg24 (f25 : YF25) (f34 : YF34) (f65 : YF65) (f : Nat) : Option Ev.Spec := Ev.look f [(25, spg25 f25), (34, spg34 f34), (65, spg65 f65)]
noncomputable def G24 (fuel : Nat) : Nat → Option Ev.Spec := Gg24 (F_bitmap_New fuel) (F_tone_rightSides fuel) (F_bitmap_Valid fuel)
noncomputable def Sg_tone_rightPatterns_0 (fuel : Nat) (f25 : YF25) (f34 : YF34) (f65 : YF65) (x0 : (List (Int × (Int × (List Int))))) (x1 : (List (Int × (Int × (List Int))))) (x2 x3 : Int) (c : ((List (Int × (Int × (List Int)))) × (List (Int × (Int × (List Int)))) × Int × Int) → Option Ans) (B : (Int → Option Ans) × ((List (Int × (Int × (List Int)))) → Option Ans)) : Option Ans := match B with
 | (ret, b) =>
  bif decide (x3 < x2) then
  bif decide ((0 : Int) ≤ x3 ∧ x3 < (↑x1.length : Int)) then
  (f65 ((x1.getD x3.toNat ((0 : Int), (0 : Int), [])).fst) ((x1.getD x3.toNat ((0 : Int), (0 : Int), [])).snd.fst) ((x1.getD x3.toNat ((0 : Int), (0 : Int), [])).snd.snd)
  (fun y4 =>
  bif !y4 then
  ret ((30 : Int))
  else
  bif decide ((0 : Int) ≤ (0 : Int) ∧ (0 : Int) < (↑x0.length : Int)) then
  bif (x1.getD x3.toNat ((0 : Int), (0 : Int), [])).fst != (x0.getD (Int.toNat (0 : Int)) ((0 : Int), (0 : Int), [])).fst then
  ret ((30 : Int))
  else
  bif decide ((0 : Int) ≤ (0 : Int) ∧ (0 : Int) < (↑x0.length : Int)) then
  bif (x1.getD x3.toNat ((0 : Int), (0 : Int), [])).snd.fst != (x0.getD (Int.toNat (0 : Int)) ((0 : Int), (0 : Int), [])).snd.fst then
  ret ((30 : Int))
  else
  c (x0, x1, x2, IntKind.i64.wrap (x3 + (1 : Int)))
  else none
  else none))
  else none
  else
  b x0
noncomputable def S_tone_rightPatterns_0 (fuel : Nat) (v : (List (Int × (Int × (List Int)))) × (List (Int × (Int × (List Int)))) × Int × Int) (c : ((List (Int × (Int × (List Int)))) × (List (Int × (Int × (List Int)))) × Int × Int) → Option Ans) (B : (Int → Option Ans) × ((List (Int × (Int × (List Int)))) → Option Ans)) : Option Ans := match v with
 | (x0, x1, x2, x3) => Sg_tone_rightPatterns_0 fuel (F_bitmap_New fuel) (F_tone_rightSides fuel) (F_bitmap_Valid fuel) x0 x1 x2 x3 c B
noncomputable def L_tone_rightPatterns_0 (fuel : Nat) (v : (List (Int × (Int × (List Int)))) × (List (Int × (Int × (List Int)))) × Int × Int) (ret : (Int → Option Ans)) (b : ((List (Int × (Int × (List Int)))) → Option Ans)) : Option Ans := iter (S_tone_rightPatterns_0 fuel) fuel v (ret, b)
noncomputable def J24_0 (fuel : Nat) (i : Nat) : Option Ev.Blk := Ev.look i []
noncomputable def T24_0 (v : (List (Int × (Int × (List Int)))) × (List (Int × (Int × (List Int)))) × Int × Int) : Ev.St := match v with | (x0, x1, x2, x3) => ⟨[(0, .c (.sl (.pair (.int .i64) (.pair (.int .i64) (.sl (.int .u8)))) x0)), (7, .c (.sl (.pair (.int .i64) (.pair (.int .i64) (.sl (.int .u8)))) x1)), (8, .c (.int .i64 x2)), (9, .c (.int .i64 x3))], [], 0, 0⟩
noncomputable def E24_0 (K : Ev.Ex → Ev.St → Option Ans) : (Int → Option Ans) × ((List (Int × (Int × (List Int)))) → Option Ans) := ((fun v => match v with | x0 => K .ret ⟨[(2, .c (.int .i64 x0))], [], 0, 0⟩), (fun v => match v with | x0 => K .normal ⟨[(0, .c (.sl (.pair (.int .i64) (.pair (.int .i64) (.sl (.int .u8)))) x0))], [], 0, 0⟩))
theorem S24_0_okg (fuel : Nat) (f25 : YF25) (f34 : YF34) (f65 : YF65) (R : Ev.St → Option Ans) (K : Ev.Ex → Ev.St → Option Ans) (x0 : (List (Int × (Int × (List Int))))) (x1 : (List (Int × (Int × (List Int))))) (x2 x3 : Int) : evalCode tab (Gg24 f25 f34 f65) (J24_0 fuel) kp24 fuel (bodyOf 0 Try.f24) (T24_0 (x0, x1, x2, x3)) (lc kp24 2 0 R K) = Sg_tone_rightPatterns_0 fuel f25 f34 f65 x0 x1 x2 x3 (fun v => R (T24_0 v)) (E24_0 K) := by
  kernel_rfl
noncomputable def B24_0 (fuel : Nat) : Ev.Blk := fun st K => match canonO (kp24 2) st with
 | some s => (match s with
 | ⟨[(q0, .c (.sl (.pair (.int .i64) (.pair (.int .i64) (.sl (.int .u8)))) x0)), (q1, .c (.sl (.pair (.int .i64) (.pair (.int .i64) (.sl (.int .u8)))) x1)), (q2, .c (.int .i64 x2)), (q3, .c (.int .i64 x3))], [], q4, q5⟩ => bif Nat.beq q0 0 && Nat.beq q1 7 && Nat.beq q2 8 && Nat.beq q3 9 && Nat.beq q4 0 && Nat.beq q5 0 then iter (S_tone_rightPatterns_0 fuel) fuel (x0, x1, x2, x3) (E24_0 K) else none
 | _ => none)
 | none => none
theorem B24_0_ok (fuel : Nat) (st : Ev.St) (K : Ev.Ex → Ev.St → Option Ans) (r : Ans) (h : B24_0 fuel st K = some r) : evalCode tab (G24 fuel) (J24_0 fuel) kp24 fuel (.block 0 (.loop (bodyOf 0 Try.f24))) st K = some r := by
  unfold B24_0 at h
  split at h
  · rename_i s hs
    split at h
    · skip
      obtain ⟨hb, h⟩ := cond_some' h
      simp only [Bool.and_eq_true, Nat.beq_eq, decide_eq_true_eq] at hb
      obtain ⟨⟨⟨⟨⟨rfl, rfl⟩, rfl⟩, rfl⟩, rfl⟩, rfl⟩ := hb
      exact blk_loop (S := T24_0) (ks := E24_0) (step := S_tone_rightPatterns_0 fuel) (v := (_, _, _, _)) (by kernel_rfl) (by kernel_rfl) (fun R K v => by obtain ⟨x0, x1, x2, x3⟩ := v; exact S24_0_okg fuel (F_bitmap_New fuel) (F_tone_rightSides fuel) (F_bitmap_Valid fuel) R K x0 x1 x2 x3) hs h
    · cases h
  · cases h
noncomputable def J24 (fuel : Nat) (i : Nat) : Option Ev.Blk := Ev.look i [(100000, B24_0 fuel)]
noncomputable def Fg_tone_rightPatterns (fuel : Nat) (f25 : YF25) (f34 : YF34) (f65 : YF65) (x0 : (List (Int × Int × (List Int)))) (k0 : (Int) → Option Ans) : Option Ans :=
  (L_tone_rightPatterns_0 fuel (x0, x0, (↑x0.length : Int), (0 : Int))
  (fun ret0_0 =>
  k0 ret0_0)
  (fun b0_0 =>
  bif (↑b0_0.length : Int) == (0 : Int) then
  k0 ((2 : Int))
  else
  bif decide ((↑b0_0.length : Int) > (64 : Int)) then
  k0 ((2 : Int))
  else
  bif decide ((0 : Int) ≤ (0 : Int) ∧ (0 : Int) < (↑b0_0.length : Int)) then
  bif decide ((0 : Int) ≤ (0 : Int) ∧ (0 : Int) < (↑b0_0.length : Int)) then
  (f34 ((b0_0.getD (Int.toNat (0 : Int)) ((0 : Int), (0 : Int), [])).fst) ((b0_0.getD (Int.toNat (0 : Int)) ((0 : Int), (0 : Int), [])).snd.fst)
  (fun y10 =>
  bif !y10 then
  k0 ((2 : Int))
  else
  bif decide ((0 : Int) ≤ (0 : Int) ∧ (0 : Int) < (↑b0_0.length : Int)) then
  bif decide ((0 : Int) ≤ (0 : Int) ∧ (0 : Int) < (↑b0_0.length : Int)) then
  both ((f25 (IntKind.i64.wrap ((b0_0.getD (Int.toNat (0 : Int)) ((0 : Int), (0 : Int), [])).fst * (↑b0_0.length : Int))) ((b0_0.getD (Int.toNat (0 : Int)) ((0 : Int), (0 : Int), [])).snd.fst) ((0 : Int))
  (fun (y19_0, y19_1, y19_2, y19_3) =>
  bif y19_2 != (0 : Int) then
  k0 ((2 : Int))
  else
  k0 ((0 : Int)))))
  ((f25 (IntKind.i64.wrap ((b0_0.getD (Int.toNat (0 : Int)) ((0 : Int), (0 : Int), [])).fst * (↑b0_0.length : Int))) ((b0_0.getD (Int.toNat (0 : Int)) ((0 : Int), (0 : Int), [])).snd.fst) ((0 : Int))
  (fun (y19_0, y19_1, y19_2, y19_3) =>
  bif y19_2 != (0 : Int) then
  k0 ((2 : Int))
  else
  k0 ((0 : Int)))))
  else none
  else none))
  else none
  else none))
noncomputable def F_tone_rightPatterns (fuel : Nat) (x0 : (List (Int × Int × (List Int)))) (k0 : (Int) → Option Ans) : Option Ans := Fg_tone_rightPatterns fuel (F_bitmap_New fuel) (F_tone_rightSides fuel) (F_bitmap_Valid fuel) x0 k0
abbrev YF24 : Type := ((List (Int × Int × (List Int)))) → ((Int) → Option Ans) → Option Ans
theorem F24_eqg (fuel : Nat) (f25 : YF25) (f34 : YF34) (f65 : YF65) (x0 : (List (Int × Int × (List Int)))) (k : Ev.Cont) : evalFn tab (Gg24 f25 f34 f65) (J24 fuel) kp24 fuel Try.f24 [.c (.sl (.pair (.int .i64) (.pair (.int .i64) (.sl (.int .u8)))) x0)] [] k = Fg_tone_rightPatterns fuel f25 f34 f65 x0 (fun r => match r with | r0 => k (.c (.int .i64 r0), [])) := by
  kernel_rfl
theorem hG24 (fuel : Nat) : GOK Try.prog (G24 fuel) :=
  gok_cons ⟨ok25 fuel, enters_of Try.func25 (by kernel_rfl) rfl⟩ <|
  gok_cons ⟨ok34 fuel, enters_of Try.func34 (by kernel_rfl) rfl⟩ <|
  gok_cons ⟨ok65 fuel, enters_of Try.func65 (by kernel_rfl) rfl⟩ <|
  gok_nil
theorem B24_0_blk (fuel : Nat) : BlkOK Try.prog Try.f24.ntmps (.block 0 (.loop (bodyOf 0 Try.f24))) (B24_0 fuel) :=
  blk_of (blk_of_code tab_ok (hG24 fuel) mixed (J := J24_0 fuel) (kp := kp24) (fuel := fuel) (by kernel_rfl) (fun q hq => by
    rw [(by kernel_rfl : obl (J24_0 fuel) (.block 0 (.loop (bodyOf 0 Try.f24))) = [])] at hq
    cases hq)) (B24_0_ok fuel)
theorem fok24 (fuel : Nat) : FnOK Try.prog 24 (evalFn tab (G24 fuel) (J24 fuel) kp24 fuel Try.f24) :=
  fn_ok tab_ok (hG24 fuel) mixed Try.func24 (c := (Try.f24.body).getD .skip) rfl (fun q hq => by
    rw [(by kernel_rfl : obl (J24 fuel) ((Try.f24.body).getD .skip) = [(.block 0 (.loop (bodyOf 0 Try.f24)), B24_0 fuel)])] at hq
    simp only [List.mem_cons, List.not_mem_nil, or_false] at hq
    subst hq
    · exact B24_0_blk fuel)
noncomputable def spg24 (F : YF24) : Ev.Spec := fun args objs k => match args, objs with
 | [.c (.sl (.pair (.int .i64) (.pair (.int .i64) (.sl (.int .u8)))) x0)], [] => bif true then F x0 (fun r => match r with | r0 => k (.c (.int .i64 r0), [])) else none
 | _, _ => none
noncomputable def spec24 (fuel : Nat) : Ev.Spec := spg24 (F_tone_rightPatterns fuel)
theorem ok24 (fuel : Nat) : FnOK Try.prog 24 (spec24 fuel) := by
  intro args objs kk r h
  unfold spec24 spg24 at h
  split at h
  · skip
    obtain ⟨hb, h⟩ := cond_some' h
    simp only [Bool.and_eq_true, Nat.beq_eq, decide_eq_true_eq] at hb
    clear hb
    exact fok24 fuel _ _ kk r ((F24_eqg fuel (F_bitmap_New fuel) (F_tone_rightSides fuel) (F_bitmap_Valid fuel) _ kk).trans h)
  · cases h
end Go.Proofs.Ytipdidpalcmlhaa

set_option linter.unusedVariables false
set_option linter.unusedSimpArgs false
set_option maxRecDepth 100000
set_option maxHeartbeats 2000000
namespace Go.Proofs.Ytipdidpalcmlhaa
open Go Ev
def kp8 (i : Nat) : Option (List Nat) := Ev.look i [(9, [2, 7, 8, 36, 37, 38]), (100000, [2, 8]), (400000, [4, 5])]
noncomputable def Gg8 (f23 : YF23) (f24 : YF24) (f25 : YF25) (f26 : YF26) (f27 : YF27) (f : Nat) : Option Ev.Spec := Ev.look f [(23, spg23 f23), (24, spg24 f24), (25, spg25 f25), (26, spg26 f26), (27, spg27 f27)]
noncomputable def G8 (fuel : Nat) : Nat → Option Ev.Spec := Gg8 (F_tone_isPlain fuel) (F_tone_rightPatterns fuel) (F_bitmap_New fuel) (F_bitmap_Draw fuel) (F_generic_Encode fuel)
noncomputable def Sg_tone_Patterns_0 (fuel : Nat) (f23 : YF23) (f24 : YF24) (f25 : YF25) (f26 : YF26) (f27 : YF27) (x0 : Int) (x1 : (List (Int × (Int × (List Int))))) (x2 x3 : Int) (x4 x5 x6 : Int) (x7 : Bool) (x8 x9 x10 : Int) (x11 : (List Int)) (c : (Int × (List (Int × (Int × (List Int)))) × Int × Int × Int × Int × Int × Bool × Int × Int × Int × (List Int)) → Option Ans) (B : (Int × Int × Int × Bool × Int × Int × Int × (List Int) → Option Ans)) : Option Ans := match B with
 | b =>
  bif decide (x3 < x2) then
  bif decide ((0 : Int) ≤ x3 ∧ x3 < (↑x1.length : Int)) then
  (f26 (x9) (x10) (x11) ((x1.getD x3.toNat ((0 : Int), (0 : Int), [])).fst) ((x1.getD x3.toNat ((0 : Int), (0 : Int), [])).snd.fst) ((x1.getD x3.toNat ((0 : Int), (0 : Int), [])).snd.snd) (IntKind.i64.wrap (x3 * x0)) ((0 : Int)) ((0 : Int))
  (fun (y4_0, y4_1, y4_2, y4_3) =>
  c (x0, x1, x2, IntKind.i64.wrap (x3 + (1 : Int)), x4, x5, x6, x7, x8, y4_0, y4_1, y4_3)))
  else none
  else
  b (x4, x5, x6, x7, x8, x9, x10, x11)
noncomputable def S_tone_Patterns_0 (fuel : Nat) (v : Int × (List (Int × (Int × (List Int)))) × Int × Int × Int × Int × Int × Bool × Int × Int × Int × (List Int)) (c : (Int × (List (Int × (Int × (List Int)))) × Int × Int × Int × Int × Int × Bool × Int × Int × Int × (List Int)) → Option Ans) (B : (Int × Int × Int × Bool × Int × Int × Int × (List Int) → Option Ans)) : Option Ans := match v with
 | (x0, x1, x2, x3, x4, x5, x6, x7, x8, x9, x10, x11) => Sg_tone_Patterns_0 fuel (F_tone_isPlain fuel) (F_tone_rightPatterns fuel) (F_bitmap_New fuel) (F_bitmap_Draw fuel) (F_generic_Encode fuel) x0 x1 x2 x3 x4 x5 x6 x7 x8 x9 x10 x11 c B
noncomputable def L_tone_Patterns_0 (fuel : Nat) (v : Int × (List (Int × (Int × (List Int)))) × Int × Int × Int × Int × Int × Bool × Int × Int × Int × (List Int)) (b : (Int × Int × Int × Bool × Int × Int × Int × (List Int) → Option Ans)) : Option Ans := iter (S_tone_Patterns_0 fuel) fuel v b
noncomputable def J8_0 (fuel : Nat) (i : Nat) : Option Ev.Blk := Ev.look i []
noncomputable def T8_0 (v : Int × (List (Int × (Int × (List Int)))) × Int × Int × Int × Int × Int × Bool × Int × Int × Int × (List Int)) : Ev.St := match v with | (x0, x1, x2, x3, x4, x5, x6, x7, x8, x9, x10, x11) => ⟨[(2, .c (.ptr 0 0)), (7, .c (.int .i64 x0)), (8, .c (.ptr 1 0)), (36, .c (.sl (.pair (.int .i64) (.pair (.int .i64) (.sl (.int .u8)))) x1)), (37, .c (.int .i64 x2)), (38, .c (.int .i64 x3))], [(0, .cells 24 [.int .i64 x4, .int .i64 x5, .int .i64 x6, .bool x7, .int .i64 x8]), (1, .cells 35 [.int .i64 x9, .int .i64 x10, .own 2]), (2, .vec 5 (.int .u8) x11 true)], 3, 0⟩
noncomputable def E8_0 (K : Ev.Ex → Ev.St → Option Ans) : (Int × Int × Int × Bool × Int × Int × Int × (List Int) → Option Ans) := (fun v => match v with | (x0, x1, x2, x3, x4, x5, x6, x7) => K .normal ⟨[(2, .c (.ptr 0 0)), (8, .c (.ptr 1 0))], [(0, .cells 24 [.int .i64 x0, .int .i64 x1, .int .i64 x2, .bool x3, .int .i64 x4]), (1, .cells 35 [.int .i64 x5, .int .i64 x6, .own 2]), (2, .vec 5 (.int .u8) x7 true)], 3, 0⟩)
theorem S8_0_okg (fuel : Nat) (f23 : YF23) (f24 : YF24) (f25 : YF25) (f26 : YF26) (f27 : YF27) (R : Ev.St → Option Ans) (K : Ev.Ex → Ev.St → Option Ans) (x0 : Int) (x1 : (List (Int × (Int × (List Int))))) (x2 x3 : Int) (x4 x5 x6 : Int) (x7 : Bool) (x8 x9 x10 : Int) (x11 : (List Int)) : evalCode tab (Gg8 f23 f24 f25 f26 f27) (J8_0 fuel) kp8 fuel (bodyOf 0 Try.f8) (T8_0 (x0, x1, x2, x3, x4, x5, x6, x7, x8, x9, x10, x11)) (lc kp8 9 0 R K) = Sg_tone_Patterns_0 fuel f23 f24 f25 f26 f27 x0 x1 x2 x3 x4 x5 x6 x7 x8 x9 x10 x11 (fun v => R (T8_0 v)) (E8_0 K) := by
  kernel_rfl
noncomputable def B8_0 (fuel : Nat) : Ev.Blk := fun st K => match canonO (kp8 9) st with
 | some s => (match s with
 | ⟨[(q0, .c (.ptr q1 q2)), (q3, .c (.int .i64 x0)), (q4, .c (.ptr q5 q6)), (q7, .c (.sl (.pair (.int .i64) (.pair (.int .i64) (.sl (.int .u8)))) x1)), (q8, .c (.int .i64 x2)), (q9, .c (.int .i64 x3))], [(q10, .cells q11 [.int .i64 x4, .int .i64 x5, .int .i64 x6, .bool x7, .int .i64 x8]), (q12, .cells q13 [.int .i64 x9, .int .i64 x10, .own q14]), (q15, .vec q16 (.int .u8) x11 true)], q17, q18⟩ => bif Nat.beq q0 2 && Nat.beq q1 0 && Nat.beq q2 0 && Nat.beq q3 7 && Nat.beq q4 8 && Nat.beq q5 1 && Nat.beq q6 0 && Nat.beq q7 36 && Nat.beq q8 37 && Nat.beq q9 38 && Nat.beq q10 0 && Nat.beq q11 24 && Nat.beq q12 1 && Nat.beq q13 35 && Nat.beq q14 2 && Nat.beq q15 2 && Nat.beq q16 5 && Nat.beq q17 3 && Nat.beq q18 0 then iter (S_tone_Patterns_0 fuel) fuel (x0, x1, x2, x3, x4, x5, x6, x7, x8, x9, x10, x11) (E8_0 K) else none
 | _ => none)
 | none => none
theorem B8_0_ok (fuel : Nat) (st : Ev.St) (K : Ev.Ex → Ev.St → Option Ans) (r : Ans) (h : B8_0 fuel st K = some r) : evalCode tab (G8 fuel) (J8_0 fuel) kp8 fuel (.block 0 (.loop (bodyOf 0 Try.f8))) st K = some r := by
  unfold B8_0 at h
  split at h
  · rename_i s hs
    split at h
    · skip
      obtain ⟨hb, h⟩ := cond_some' h
      simp only [Bool.and_eq_true, Nat.beq_eq, decide_eq_true_eq] at hb
      obtain ⟨⟨⟨⟨⟨⟨⟨⟨⟨⟨⟨⟨⟨⟨⟨⟨⟨⟨rfl, rfl⟩, rfl⟩, rfl⟩, rfl⟩, rfl⟩, rfl⟩, rfl⟩, rfl⟩, rfl⟩, rfl⟩, rfl⟩, rfl⟩, rfl⟩, rfl⟩, rfl⟩, rfl⟩, rfl⟩, rfl⟩ := hb
      exact blk_loop (S := T8_0) (ks := E8_0) (step := S_tone_Patterns_0 fuel) (v := (_, _, _, _, _, _, _, _, _, _, _, _)) (by kernel_rfl) (by kernel_rfl) (fun R K v => by obtain ⟨x0, x1, x2, x3, x4, x5, x6, x7, x8, x9, x10, x11⟩ := v; exact S8_0_okg fuel (F_tone_isPlain fuel) (F_tone_rightPatterns fuel) (F_bitmap_New fuel) (F_bitmap_Draw fuel) (F_generic_Encode fuel) R K x0 x1 x2 x3 x4 x5 x6 x7 x8 x9 x10 x11) hs h
    · cases h
  · cases h
noncomputable def J8 (fuel : Nat) (i : Nat) : Option Ev.Blk := Ev.look i [(100000, B8_0 fuel)]
noncomputable def Fg_tone_Patterns (fuel : Nat) (f23 : YF23) (f24 : YF24) (f25 : YF25) (f26 : YF26) (f27 : YF27) (x0 x1 x2 : Int) (x3 : Bool) (x4 : Int) (x5 : (List (Int × Int × (List Int)))) (k0 : (Int × (List Int)) → Option Ans) : Option Ans :=
  (f23 (x0) (x1) (x2) (x3) (x4)
  (fun y2 =>
  bif !y2 then
  k0 ((2 : Int), [])
  else
  (f24 (x5)
  (fun y7 =>
  bif y7 != (0 : Int) then
  k0 (y7, [])
  else
  bif decide ((0 : Int) ≤ (0 : Int) ∧ (0 : Int) < (↑x5.length : Int)) then
  bif decide ((0 : Int) ≤ (0 : Int) ∧ (0 : Int) < (↑x5.length : Int)) then
  (f25 (IntKind.i64.wrap ((x5.getD (Int.toNat (0 : Int)) ((0 : Int), (0 : Int), [])).fst * (↑x5.length : Int))) ((x5.getD (Int.toNat (0 : Int)) ((0 : Int), (0 : Int), [])).snd.fst) ((0 : Int))
  (fun (y14_0, y14_1, y14_2, y14_3) =>
  (L_tone_Patterns_0 fuel ((x5.getD (Int.toNat (0 : Int)) ((0 : Int), (0 : Int), [])).fst, x5, (↑x5.length : Int), (0 : Int), x0, x1, x2, x3, x4, y14_0, y14_1, y14_3)
  (fun (b0_0, b0_1, b0_2, b0_3, b0_4, b0_5, b0_6, b0_7) =>
  (f27 (b0_0) (b0_1) (b0_2) (b0_3) (b0_4) (b0_5) (b0_6) (b0_7)
  (fun (y22_0, y22_1) =>
  k0 (y22_0, y22_1)))))))
  else none
  else none))))
noncomputable def F_tone_Patterns (fuel : Nat) (x0 x1 x2 : Int) (x3 : Bool) (x4 : Int) (x5 : (List (Int × Int × (List Int)))) (k0 : (Int × (List Int)) → Option Ans) : Option Ans := Fg_tone_Patterns fuel (F_tone_isPlain fuel) (F_tone_rightPatterns fuel) (F_bitmap_New fuel) (F_bitmap_Draw fuel) (F_generic_Encode fuel) x0 x1 x2 x3 x4 x5 k0
abbrev YF8 : Type := (Int) → (Int) → (Int) → (Bool) → (Int) → ((List (Int × Int × (List Int)))) → ((Int × (List Int)) → Option Ans) → Option Ans
theorem F8_eqg (fuel : Nat) (f23 : YF23) (f24 : YF24) (f25 : YF25) (f26 : YF26) (f27 : YF27) (x0 x1 x2 : Int) (x3 : Bool) (x4 : Int) (x5 : (List (Int × Int × (List Int)))) (k : Ev.Cont) : evalFn tab (Gg8 f23 f24 f25 f26 f27) (J8 fuel) kp8 fuel Try.f8 [.agg [.int .i64 x0, .int .i64 x1, .int .i64 x2, .bool x3, .int .i64 x4], .c (.sl (.pair (.int .i64) (.pair (.int .i64) (.sl (.int .u8)))) x5)] [] k = Fg_tone_Patterns fuel f23 f24 f25 f26 f27 x0 x1 x2 x3 x4 x5 (fun r => match r with | (r0, r1) => k (.tup [(false, [.own 0]), (false, [.int .i64 r0])], [.vec 5 (.int .u8) r1 true])) := by
  kernel_rfl
theorem hG8 (fuel : Nat) : GOK Try.prog (G8 fuel) :=
  gok_cons ⟨ok23 fuel, enters_of Try.func23 (by kernel_rfl) rfl⟩ <|
  gok_cons ⟨ok24 fuel, enters_of Try.func24 (by kernel_rfl) rfl⟩ <|
  gok_cons ⟨ok25 fuel, enters_of Try.func25 (by kernel_rfl) rfl⟩ <|
  gok_cons ⟨ok26 fuel, enters_of Try.func26 (by kernel_rfl) rfl⟩ <|
  gok_cons ⟨ok27 fuel, enters_of Try.func27 (by kernel_rfl) rfl⟩ <|
  gok_nil
theorem B8_0_blk (fuel : Nat) : BlkOK Try.prog Try.f8.ntmps (.block 0 (.loop (bodyOf 0 Try.f8))) (B8_0 fuel) :=
  blk_of (blk_of_code tab_ok (hG8 fuel) mixed (J := J8_0 fuel) (kp := kp8) (fuel := fuel) (by kernel_rfl) (fun q hq => by
    rw [(by kernel_rfl : obl (J8_0 fuel) (.block 0 (.loop (bodyOf 0 Try.f8))) = [])] at hq
    cases hq)) (B8_0_ok fuel)
theorem fok8 (fuel : Nat) : FnOK Try.prog 8 (evalFn tab (G8 fuel) (J8 fuel) kp8 fuel Try.f8) :=
  fn_ok tab_ok (hG8 fuel) mixed Try.func8 (c := (Try.f8.body).getD .skip) rfl (fun q hq => by
    rw [(by kernel_rfl : obl (J8 fuel) ((Try.f8.body).getD .skip) = [(.block 0 (.loop (bodyOf 0 Try.f8)), B8_0 fuel)])] at hq
    simp only [List.mem_cons, List.not_mem_nil, or_false] at hq
    subst hq
    · exact B8_0_blk fuel)
noncomputable def spg8 (F : YF8) : Ev.Spec := fun args objs k => match args, objs with
 | [.agg [.int .i64 x0, .int .i64 x1, .int .i64 x2, .bool x3, .int .i64 x4], .c (.sl (.pair (.int .i64) (.pair (.int .i64) (.sl (.int .u8)))) x5)], [] => bif true then F x0 x1 x2 x3 x4 x5 (fun r => match r with | (r0, r1) => k (.tup [(false, [.own 0]), (false, [.int .i64 r0])], [.vec 5 (.int .u8) r1 true])) else none
 | _, _ => none
noncomputable def spec8 (fuel : Nat) : Ev.Spec := spg8 (F_tone_Patterns fuel)
theorem ok8 (fuel : Nat) : FnOK Try.prog 8 (spec8 fuel) := by
  intro args objs kk r h
  unfold spec8 spg8 at h
  split at h
  · skip
    obtain ⟨hb, h⟩ := cond_some' h
    simp only [Bool.and_eq_true, Nat.beq_eq, decide_eq_true_eq] at hb
    clear hb
    exact fok8 fuel _ _ kk r ((F8_eqg fuel (F_tone_isPlain fuel) (F_tone_rightPatterns fuel) (F_bitmap_New fuel) (F_bitmap_Draw fuel) (F_generic_Encode fuel) _ _ _ _ _ _ kk).trans h)
  · cases h
end Go.Proofs.Ytipdidpalcmlhaa

set_option linter.unusedVariables false
set_option linter.unusedSimpArgs false
set_option maxRecDepth 100000
set_option maxHeartbeats 2000000
namespace Go.Proofs.Ytipdidpalcmlhaa
open Go Ev
def kp3 (i : Nat) : Option (List Nat) := Ev.look i [(200009, [2])]
noncomputable def Gg3 (f6 : YF6) (f7 : YF7) (f8 : YF8) (f9 : YF9) (f10 : YF10) (f11 : YF11) (f : Nat) : Option Ev.Spec := Ev.look f [(6, spg6 f6), (7, spg7 f7), (8, spg8 f8), (9, spg9 f9), (10, spg10 f10), (11, spg11 f11)]
noncomputable def G3 (fuel : Nat) : Nat → Option Ev.Spec := Gg3 (F_law11_many fuel) (F_law11_Sane fuel) (F_tone_Patterns fuel) (F_ref11_Patterns fuel) (F_tone_GetPatterns fuel) (F_ref09_SameBitmaps fuel)
noncomputable def J3 (fuel : Nat) (i : Nat) : Option Ev.Blk := Ev.look i []
noncomputable def Fg_law11_TonePatterns (fuel : Nat) (f6 : YF6) (f7 : YF7) (f8 : YF8) (f9 : YF9) (f10 : YF10) (f11 : YF11) (x0 x1 x2 : Int) (x3 : Bool) (x4 : Int) (x5 : (List (Int × Int × (List Int)))) (k0 : (Bool) → Option Ans) : Option Ans :=
  (f6 (x5)
  (fun y2 =>
  bif decide (y2 > (1500 : Int)) then
  (f7
  (fun y7 =>
  k0 y7))
  else
  (f8 (x0) (x1) (x2) (x3) (x4) (x5)
  (fun (y7_0, y7_1) =>
  (f9 (x0) (x1) (x2) (x3) (x4) (x5)
  (fun (y11_0, y11_1) =>
  bif y7_0 != y11_0 then
  k0 false
  else
  bif !(Go.strOfNums y7_1).toList == (Go.strOfNums y11_1).toList then
  k0 false
  else
  bif y7_0 != (0 : Int) then
  (f7
  (fun y18 =>
  k0 y18))
  else
  bif decide ((0 : Int) ≤ (0 : Int) ∧ (0 : Int) < (↑x5.length : Int)) then
  bif decide ((0 : Int) ≤ (0 : Int) ∧ (0 : Int) < (↑x5.length : Int)) then
  (f10 (x0) (x1) (x2) (x3) (x4) (y7_1) ((↑x5.length : Int)) ((x5.getD (Int.toNat (0 : Int)) ((0 : Int), (0 : Int), [])).fst) ((x5.getD (Int.toNat (0 : Int)) ((0 : Int), (0 : Int), [])).snd.fst)
  (fun (y20_0, y20_1) =>
  bif y20_0 == (0 : Int) then
  (f11 (y20_1) (x5)
  (fun y25 =>
  bif y25 then
  (f7
  (fun y30 =>
  k0 y30))
  else
  k0 false))
  else
  k0 false))
  else none
  else none))))))
noncomputable def F_law11_TonePatterns (fuel : Nat) (x0 x1 x2 : Int) (x3 : Bool) (x4 : Int) (x5 : (List (Int × Int × (List Int)))) (k0 : (Bool) → Option Ans) : Option Ans := Fg_law11_TonePatterns fuel (F_law11_many fuel) (F_law11_Sane fuel) (F_tone_Patterns fuel) (F_ref11_Patterns fuel) (F_tone_GetPatterns fuel) (F_ref09_SameBitmaps fuel) x0 x1 x2 x3 x4 x5 k0
abbrev YF3 : Type := (Int) → (Int) → (Int) → (Bool) → (Int) → ((List (Int × Int × (List Int)))) → ((Bool) → Option Ans) → Option Ans
theorem F3_eqg (fuel : Nat) (f6 : YF6) (f7 : YF7) (f8 : YF8) (f9 : YF9) (f10 : YF10) (f11 : YF11) (x0 x1 x2 : Int) (x3 : Bool) (x4 : Int) (x5 : (List (Int × Int × (List Int)))) (k : Ev.Cont) : evalFn tab (Gg3 f6 f7 f8 f9 f10 f11) (J3 fuel) kp3 fuel Try.f3 [.agg [.int .i64 x0, .int .i64 x1, .int .i64 x2, .bool x3, .int .i64 x4], .c (.sl (.pair (.int .i64) (.pair (.int .i64) (.sl (.int .u8)))) x5)] [] k = Fg_law11_TonePatterns fuel f6 f7 f8 f9 f10 f11 x0 x1 x2 x3 x4 x5 (fun r => match r with | r0 => k (.c (.bool r0), [])) := by
  kernel_rfl
theorem hG3 (fuel : Nat) : GOK Try.prog (G3 fuel) :=
  gok_cons ⟨ok6 fuel, enters_of Try.func6 (by kernel_rfl) rfl⟩ <|
  gok_cons ⟨ok7 fuel, enters_of Try.func7 (by kernel_rfl) rfl⟩ <|
  gok_cons ⟨ok8 fuel, enters_of Try.func8 (by kernel_rfl) rfl⟩ <|
  gok_cons ⟨ok9 fuel, enters_of Try.func9 (by kernel_rfl) rfl⟩ <|
  gok_cons ⟨ok10 fuel, enters_of Try.func10 (by kernel_rfl) rfl⟩ <|
  gok_cons ⟨ok11 fuel, enters_of Try.func11 (by kernel_rfl) rfl⟩ <|
  gok_nil
theorem fok3 (fuel : Nat) : FnOK Try.prog 3 (evalFn tab (G3 fuel) (J3 fuel) kp3 fuel Try.f3) :=
  fn_ok tab_ok (hG3 fuel) mixed Try.func3 (c := (Try.f3.body).getD .skip) rfl (fun q hq => by
    rw [(by kernel_rfl : obl (J3 fuel) ((Try.f3.body).getD .skip) = [])] at hq
    cases hq)
noncomputable def spg3 (F : YF3) : Ev.Spec := fun args objs k => match args, objs with
 | [.agg [.int .i64 x0, .int .i64 x1, .int .i64 x2, .bool x3, .int .i64 x4], .c (.sl (.pair (.int .i64) (.pair (.int .i64) (.sl (.int .u8)))) x5)], [] => bif true then F x0 x1 x2 x3 x4 x5 (fun r => match r with | r0 => k (.c (.bool r0), [])) else none
 | _, _ => none
noncomputable def spec3 (fuel : Nat) : Ev.Spec := spg3 (F_law11_TonePatterns fuel)
theorem ok3 (fuel : Nat) : FnOK Try.prog 3 (spec3 fuel) := by
  intro args objs kk r h
  unfold spec3 spg3 at h
  split at h
  · skip
    obtain ⟨hb, h⟩ := cond_some' h
    simp only [Bool.and_eq_true, Nat.beq_eq, decide_eq_true_eq] at hb
    clear hb
    exact fok3 fuel _ _ kk r ((F3_eqg fuel (F_law11_many fuel) (F_law11_Sane fuel) (F_tone_Patterns fuel) (F_ref11_Patterns fuel) (F_tone_GetPatterns fuel) (F_ref09_SameBitmaps fuel) _ _ _ _ _ _ kk).trans h)
  · cases h
end Go.Proofs.Ytipdidpalcmlhaa

