/- What the functions that ToneEncodes reaches do: their typed texts, each with the proof that the machine does it. No condition. -/
import Derived.Test.YtipdidpalcmlhaaGreatEvX
import Derived.Test.YtipdidpalcmlhaaGreatFsToneEncodes5
import Derived.Test.YtipdidpalcmlhaaGreatFsToneEncodes3
import Derived.Test.YtipdidpalcmlhaaGreatFsToneEncodes4
import Derived.Test.YtipdidpalcmlhaaGreatFsToneEncodes2
import Derived.Test.YtipdidpalcmlhaaGreatFsToneEncodes1
set_option linter.unusedVariables false
set_option linter.unusedSimpArgs false
set_option linter.unusedVariables false
set_option linter.unusedSimpArgs false
set_option maxRecDepth 100000
set_option maxHeartbeats 2000000
namespace Go.Proofs.YtipdidpalcmlhaaGreat
open Go Ev
open Go.IntKind (i64 u64 u8 i32 u32 u16)
noncomputable section
def kp127_d0e (i : Nat) : Option (List Nat) := Ev.look i [(4, [0, 1, 7, 8, 9, 10, 27, 28, 1000002]), (13, [0, 1, 7, 8, 9, 10, 11, 27, 28, 60, 61]), (100000, []), (100002, [0, 1, 7, 8, 9, 10, 27, 28]), (200008, [8, 9]), (200017, [8]), (400000, []), (400002, [])]
def Gg127_d0e (f117 : YF117) (f121_cf0 : YF121_cf0) (f148 : YF148) (f213 : YF213) (f214 : YF214) (f215_b9e : YF215_b9e) (f216_a34 : YF216_a34) (f : Nat) : Option Ev.Spec := Ev.look f [(117, spg117 f117), (121, spg121_cf0 f121_cf0), (148, spg148 f148), (213, spg213 f213), (214, spg214 f214), (215, spg215_b9e f215_b9e), (216, spg216_a34 f216_a34)]
def G127_d0e (fuel : Nat) : Nat → Option Ev.Spec := Gg127_d0e (F_generic_contexts fuel) (F_coder_Encoder_Put_cf0 fuel) (F_generic_newPlane fuel) (F_generic_skips fuel) (F_bytes_Equal fuel) (F_generic_plane_above_b9e fuel) (F_generic_plane_context_a34 fuel)
abbrev V_generic_put_d0e_2 : Type := Int × Int × Int × Int × Int × Int × Int × Int × Int × Bool × LI × LI × Int × Int × Int × Bool × Int × Int × Int × LI × Int × Int × LI × Int × Int × LI × (List (Int × Int))
abbrev W_generic_put_d0e_2 : Type := (Int × Int × Int × Int × Int × Int × Bool × LI × LI × Int × Int × Int × Bool × Int × Int × Int × LI × Int × Int × LI × Int × Int × LI × (List (Int × Int)) → OA)
def Sg_generic_put_d0e_2 (fuel : Nat) (f117 : YF117) (f121_cf0 : YF121_cf0) (f148 : YF148) (f213 : YF213) (f214 : YF214) (f215_b9e : YF215_b9e) (f216_a34 : YF216_a34) (x0 x1 : Int) (x2 x3 : Int) (x4 x5 : Int) (x6 x7 x8 : Int) (x9 : Bool) (x10 x11 : LI) (x12 x13 x14 : Int) (x15 : Bool) (x16 x17 x18 : Int) (x19 : LI) (x20 x21 : Int) (x22 : LI) (x23 x24 : Int) (x25 : LI) (x26 : (List (Int × Int))) (c : V_generic_put_d0e_2 → OA) (B : W_generic_put_d0e_2) : OA := match B with | b => bif decide (x5 < x4) then (f213 x20 x21 x22 (i64.wrap (i64.wrap (x1 * x17) + x5)) (fun y3 => bif !y3 then bif decide (0 ≤ i64.wrap (i64.wrap (x1 * x17) + x5) ∧ i64.wrap (i64.wrap (x1 * x17) + x5) < (↑x19.length : Int)) then (f216_a34 x5 x1 x23 x24 x25 x26 (fun (y9_0, y9_1, y9_2, y9_3, y9_4) => (f121_cf0 (i64.wrap (x0 + y9_0)) (i64.wrap (x19.getD (i64.wrap (i64.wrap (x1 * x17) + x5)).toNat 0)) x6 x7 x8 x9 x10 x11 (fun (y13_0, y13_1, y13_2, y13_3, y13_4, y13_5, y13_6) => c (x0, x1, x2, x3, x4, i64.wrap (x5 + 1), y13_1, y13_2, y13_3, y13_4, y13_5, y13_6, x12, x13, x14, x15, x16, x17, x18, x19, x20, x21, x22, y9_1, y9_2, y9_3, y9_4)) (fun (y13_0, y13_1, y13_2, y13_3, y13_4, y13_5, y13_6) => c (x0, x1, x2, x3, x4, i64.wrap (x5 + 1), y13_1, y13_2, y13_3, y13_4, y13_5, y13_6, x12, x13, x14, x15, x16, x17, x18, x19, x20, x21, x22, y9_1, y9_2, y9_3, y9_4))))) else none else c (x0, x1, x2, x3, x4, i64.wrap (x5 + 1), x6, x7, x8, x9, x10, x11, x12, x13, x14, x15, x16, x17, x18, x19, x20, x21, x22, x23, x24, x25, x26))) else b (x0, x2, x3, x6, x7, x8, x9, x10, x11, x12, x13, x14, x15, x16, x17, x18, x19, x20, x21, x22, x23, x24, x25, x26)
def S_generic_put_d0e_2 (fuel : Nat) (v : Int × Int × Int × Int × Int × Int × Int × Int × Int × Bool × (List Int) × (List Int) × Int × Int × Int × Bool × Int × Int × Int × (List Int) × Int × Int × (List Int) × Int × Int × (List Int) × (List (Int × Int))) (c : (Int × Int × Int × Int × Int × Int × Int × Int × Int × Bool × (List Int) × (List Int) × Int × Int × Int × Bool × Int × Int × Int × (List Int) × Int × Int × (List Int) × Int × Int × (List Int) × (List (Int × Int))) → Option Ans) (B : (Int × Int × Int × Int × Int × Int × Bool × (List Int) × (List Int) × Int × Int × Int × Bool × Int × Int × Int × (List Int) × Int × Int × (List Int) × Int × Int × (List Int) × (List (Int × Int)) → Option Ans)) : Option Ans := match v with | (x0, x1, x2, x3, x4, x5, x6, x7, x8, x9, x10, x11, x12, x13, x14, x15, x16, x17, x18, x19, x20, x21, x22, x23, x24, x25, x26) => Sg_generic_put_d0e_2 fuel (F_generic_contexts fuel) (F_coder_Encoder_Put_cf0 fuel) (F_generic_newPlane fuel) (F_generic_skips fuel) (F_bytes_Equal fuel) (F_generic_plane_above_b9e fuel) (F_generic_plane_context_a34 fuel) x0 x1 x2 x3 x4 x5 x6 x7 x8 x9 x10 x11 x12 x13 x14 x15 x16 x17 x18 x19 x20 x21 x22 x23 x24 x25 x26 c B
def L_generic_put_d0e_2 (fuel : Nat) (v : V_generic_put_d0e_2) (b : W_generic_put_d0e_2) : Option Ans := iter (S_generic_put_d0e_2 fuel) fuel v b
def T127_d0e_2 (v : V_generic_put_d0e_2) : Ev.St := match v with | (x0, x1, x2, x3, x4, x5, x6, x7, x8, x9, x10, x11, x12, x13, x14, x15, x16, x17, x18, x19, x20, x21, x22, x23, x24, x25, x26) => ⟨[(0, .c (.ptr 0 0)), (1, .c (i6 x0)), (7, .c (.ptr 3 0)), (8, .c (.ptr 4 0)), (9, .c (.ptr 5 0)), (10, .c (.ptr 6 0)), (11, .c (i6 x1)), (27, .c (i6 x2)), (28, .c (i6 x3)), (60, .c (i6 x4)), (61, .c (i6 x5))], [(0, .cells 173 (i6 x6 :: .own 1 :: ctb (.int .u64 x7 :: .int .u64 x8 :: .own 2 :: .bool x9 :: []))), (1, .vec 3 (.int .i64) x10 false), (2, .vec 5 (.int .u8) x11 true), (3, .cells 78 [i6 x12, i6 x13, i6 x14, .bool x15, i6 x16]), (4, .cells 51 [i6 x17, i6 x18, .sl (.int .u8) x19]), (5, .cells 51 [i6 x20, i6 x21, .sl (.int .u8) x22]), (6, .cells 200 [i6 x23, i6 x24, .sl (.int .u8) x25, .own 7]), (7, .vec 76 (.pair (.int .i64) (.int .i64)) x26 true)], 8, 3⟩
def E127_d0e_2 (K : KT) : W_generic_put_d0e_2 := (fun v => match v with | (x0, x1, x2, x3, x4, x5, x6, x7, x8, x9, x10, x11, x12, x13, x14, x15, x16, x17, x18, x19, x20, x21, x22, x23) => K .normal ⟨[(0, .c (.ptr 0 0)), (1, .c (i6 x0)), (7, .c (.ptr 3 0)), (8, .c (.ptr 4 0)), (9, .c (.ptr 5 0)), (10, .c (.ptr 6 0)), (27, .c (i6 x1)), (28, .c (i6 x2))], [(0, .cells 173 (i6 x3 :: .own 1 :: ctb (.int .u64 x4 :: .int .u64 x5 :: .own 2 :: .bool x6 :: []))), (1, .vec 3 (.int .i64) x7 false), (2, .vec 5 (.int .u8) x8 true), (3, .cells 78 [i6 x9, i6 x10, i6 x11, .bool x12, i6 x13]), (4, .cells 51 [i6 x14, i6 x15, .sl (.int .u8) x16]), (5, .cells 51 [i6 x17, i6 x18, .sl (.int .u8) x19]), (6, .cells 200 [i6 x20, i6 x21, .sl (.int .u8) x22, .own 7]), (7, .vec 76 (.pair (.int .i64) (.int .i64)) x23 true)], 8, 3⟩)
theorem S127_d0e_2_okg (fuel : Nat) (f117 : YF117) (f121_cf0 : YF121_cf0) (f148 : YF148) (f213 : YF213) (f214 : YF214) (f215_b9e : YF215_b9e) (f216_a34 : YF216_a34) (R : Ev.St → OA) (K : KT) (x0 x1 : Int) (x2 x3 : Int) (x4 x5 : Int) (x6 x7 x8 : Int) (x9 : Bool) (x10 x11 : LI) (x12 x13 x14 : Int) (x15 : Bool) (x16 x17 x18 : Int) (x19 : LI) (x20 x21 : Int) (x22 : LI) (x23 x24 : Int) (x25 : LI) (x26 : (List (Int × Int))) : evalCode tab (Gg127_d0e f117 f121_cf0 f148 f213 f214 f215_b9e f216_a34) J0 kp127_d0e fuel (bodyOf 2 Tryz.f127) (T127_d0e_2 (x0, x1, x2, x3, x4, x5, x6, x7, x8, x9, x10, x11, x12, x13, x14, x15, x16, x17, x18, x19, x20, x21, x22, x23, x24, x25, x26)) (lc kp127_d0e 13 2 R K) = Sg_generic_put_d0e_2 fuel f117 f121_cf0 f148 f213 f214 f215_b9e f216_a34 x0 x1 x2 x3 x4 x5 x6 x7 x8 x9 x10 x11 x12 x13 x14 x15 x16 x17 x18 x19 x20 x21 x22 x23 x24 x25 x26 (fun v => R (T127_d0e_2 v)) (E127_d0e_2 K) := by
  kernel_rfl
def B127_d0e_2 (fuel : Nat) : Ev.Blk := fun st K => match canonO (kp127_d0e 13) st with | some s => (match s with | ⟨[(q0, .c (.ptr q1 q2)), (q3, .c (i6 x0)), (q4, .c (.ptr q5 q6)), (q7, .c (.ptr q8 q9)), (q10, .c (.ptr q11 q12)), (q13, .c (.ptr q14 q15)), (q16, .c (i6 x1)), (q17, .c (i6 x2)), (q18, .c (i6 x3)), (q19, .c (i6 x4)), (q20, .c (i6 x5))], [(q21, .cells q22 cs0), (q23, .vec q24 (.int .i64) x10 false), (q25, .vec q26 (.int .u8) x11 true), (q27, .cells q28 [i6 x12, i6 x13, i6 x14, .bool x15, i6 x16]), (q29, .cells q30 [i6 x17, i6 x18, .sl (.int .u8) x19]), (q31, .cells q32 [i6 x20, i6 x21, .sl (.int .u8) x22]), (q33, .cells q34 [i6 x23, i6 x24, .sl (.int .u8) x25, .own q35]), (q36, .vec q37 (.pair (.int .i64) (.int .i64)) x26 true)], q38, q39⟩ => (match splitRun 2 ctn cs0 with | some ([i6 x6, .own q40], [.int .u64 x7, .int .u64 x8, .own q41, .bool x9]) => bif qb [q0, q1, q2, q3, q4, q5, q6, q7, q8, q9, q10, q11, q12, q13, q14, q15, q16, q17, q18, q19, q20, q21, q22, q23, q24, q25, q26, q27, q28, q29, q30, q31, q32, q33, q34, q35, q36, q37, q38, q39, q40, q41] [0, 0, 0, 1, 7, 3, 0, 8, 4, 0, 9, 5, 0, 10, 6, 0, 11, 27, 28, 60, 61, 0, 173, 1, 3, 2, 5, 3, 78, 4, 51, 5, 51, 6, 200, 7, 7, 76, 8, 3, 1, 2] then iter (S_generic_put_d0e_2 fuel) fuel (x0, x1, x2, x3, x4, x5, x6, x7, x8, x9, x10, x11, x12, x13, x14, x15, x16, x17, x18, x19, x20, x21, x22, x23, x24, x25, x26) (E127_d0e_2 K) else none | _ => none) | _ => none) | none => none
theorem B127_d0e_2_ok (fuel : Nat) (st : Ev.St) (K : KT) (r : Ans) (h : B127_d0e_2 fuel st K = some r) : evalCode tab (G127_d0e fuel) J0 kp127_d0e fuel (.block 2 (.loop (bodyOf 2 Tryz.f127))) st K = some r := by
  unfold B127_d0e_2 at h
  split at h
  · rename_i s hs
    split at h
    · skip
      split at h
      rotate_left 1
      · cases h
      rename_i hsp
      have esp := splitRun_eq hsp
      subst esp
      obtain ⟨hb, h⟩ := cond_some' h
      cases qb_eq hb
      exact blk_loop (S := T127_d0e_2) (ks := E127_d0e_2) (step := S_generic_put_d0e_2 fuel) (v := (_, _, _, _, _, _, _, _, _, _, _, _, _, _, _, _, _, _, _, _, _, _, _, _, _, _, _)) (by kernel_rfl) (by kernel_rfl) (fun R K v => by obtain ⟨x0, x1, x2, x3, x4, x5, x6, x7, x8, x9, x10, x11, x12, x13, x14, x15, x16, x17, x18, x19, x20, x21, x22, x23, x24, x25, x26⟩ := v; exact S127_d0e_2_okg fuel (F_generic_contexts fuel) (F_coder_Encoder_Put_cf0 fuel) (F_generic_newPlane fuel) (F_generic_skips fuel) (F_bytes_Equal fuel) (F_generic_plane_above_b9e fuel) (F_generic_plane_context_a34 fuel) R K x0 x1 x2 x3 x4 x5 x6 x7 x8 x9 x10 x11 x12 x13 x14 x15 x16 x17 x18 x19 x20 x21 x22 x23 x24 x25 x26) hs h
    · cases h
  · cases h
abbrev V_generic_put_d0e_0 : Type := Int × Int × Int × Int × Int × Int × Bool × LI × LI × Int × Int × Int × Bool × Int × Int × Int × LI × Int × Int × LI × Int × Int × LI × (List (Int × Int))
abbrev W_generic_put_d0e_0 : Type := (Int × Int × Int × Bool × LI × LI → OA)
def Sg_generic_put_d0e_0 (fuel : Nat) (f117 : YF117) (f121_cf0 : YF121_cf0) (f148 : YF148) (f213 : YF213) (f214 : YF214) (f215_b9e : YF215_b9e) (f216_a34 : YF216_a34) (x0 x1 : Int) (x2 x3 : Int) (x4 x5 : Int) (x6 : Bool) (x7 x8 : LI) (x9 x10 x11 : Int) (x12 : Bool) (x13 x14 x15 : Int) (x16 : LI) (x17 x18 : Int) (x19 : LI) (x20 x21 : Int) (x22 : LI) (x23 : (List (Int × Int))) (c : V_generic_put_d0e_0 → OA) (B : W_generic_put_d0e_0) : OA := match B with | b => bif decide (x2 < x1) then bif x12 then bif decide (0 ≤ Ev.loOf (some (i64.wrap (x2 * x14))) ∧ Ev.loOf (some (i64.wrap (x2 * x14))) ≤ Ev.hiOf (some (i64.wrap (i64.wrap (x2 + 1) * x14))) (↑x16.length : Int) ∧ Ev.hiOf (some (i64.wrap (i64.wrap (x2 + 1) * x14))) (↑x16.length : Int) ≤ (↑x16.length : Int)) then (f215_b9e x2 x17 x18 x19 x20 x21 x22 x23 (fun (y5_0, y5_1, y5_2, y5_3, y5_4) => (f214 y5_4 (List.take (Ev.hiOf (some (i64.wrap (i64.wrap (x2 + 1) * x14))) (↑x16.length : Int) - Ev.loOf (some (i64.wrap (x2 * x14)))).toNat (List.drop (Ev.loOf (some (i64.wrap (x2 * x14)))).toNat x16)) (fun y9 => bif y9 then (f117 x9 x10 x11 x12 x13 (fun y14 => (f121_cf0 (i64.wrap (x0 + y14)) (1) x3 x4 x5 x6 x7 x8 (fun (y18_0, y18_1, y18_2, y18_3, y18_4, y18_5, y18_6) => c (x0, x1, i64.wrap (x2 + 1), y18_1, y18_2, y18_3, y18_4, y18_5, y18_6, x9, x10, x11, x12, x13, x14, x15, x16, x17, x18, x19, y5_0, y5_1, y5_2, y5_3)) (fun (y18_0, y18_1, y18_2, y18_3, y18_4, y18_5, y18_6) => c (x0, x1, i64.wrap (x2 + 1), y18_1, y18_2, y18_3, y18_4, y18_5, y18_6, x9, x10, x11, x12, x13, x14, x15, x16, x17, x18, x19, y5_0, y5_1, y5_2, y5_3))))) else (f117 x9 x10 x11 x12 x13 (fun y14 => (f121_cf0 (i64.wrap (x0 + y14)) (0) x3 x4 x5 x6 x7 x8 (fun (y18_0, y18_1, y18_2, y18_3, y18_4, y18_5, y18_6) => (L_generic_put_d0e_2 fuel (x0, x2, x1, x2, x14, 0, y18_1, y18_2, y18_3, y18_4, y18_5, y18_6, x9, x10, x11, x12, x13, x14, x15, x16, x17, x18, x19, y5_0, y5_1, y5_2, y5_3) (fun (b2_0, b2_1, b2_2, b2_3, b2_4, b2_5, b2_6, b2_7, b2_8, b2_9, b2_10, b2_11, b2_12, b2_13, b2_14, b2_15, b2_16, b2_17, b2_18, b2_19, b2_20, b2_21, b2_22, b2_23) => c (b2_0, b2_1, i64.wrap (b2_2 + 1), b2_3, b2_4, b2_5, b2_6, b2_7, b2_8, b2_9, b2_10, b2_11, b2_12, b2_13, b2_14, b2_15, b2_16, b2_17, b2_18, b2_19, b2_20, b2_21, b2_22, b2_23)))) (fun (y18_0, y18_1, y18_2, y18_3, y18_4, y18_5, y18_6) => (L_generic_put_d0e_2 fuel (x0, x2, x1, x2, x14, 0, y18_1, y18_2, y18_3, y18_4, y18_5, y18_6, x9, x10, x11, x12, x13, x14, x15, x16, x17, x18, x19, y5_0, y5_1, y5_2, y5_3) (fun (b2_0, b2_1, b2_2, b2_3, b2_4, b2_5, b2_6, b2_7, b2_8, b2_9, b2_10, b2_11, b2_12, b2_13, b2_14, b2_15, b2_16, b2_17, b2_18, b2_19, b2_20, b2_21, b2_22, b2_23) => c (b2_0, b2_1, i64.wrap (b2_2 + 1), b2_3, b2_4, b2_5, b2_6, b2_7, b2_8, b2_9, b2_10, b2_11, b2_12, b2_13, b2_14, b2_15, b2_16, b2_17, b2_18, b2_19, b2_20, b2_21, b2_22, b2_23))))))))))) else none else (L_generic_put_d0e_2 fuel (x0, x2, x1, x2, x14, 0, x3, x4, x5, x6, x7, x8, x9, x10, x11, x12, x13, x14, x15, x16, x17, x18, x19, x20, x21, x22, x23) (fun (b2_0, b2_1, b2_2, b2_3, b2_4, b2_5, b2_6, b2_7, b2_8, b2_9, b2_10, b2_11, b2_12, b2_13, b2_14, b2_15, b2_16, b2_17, b2_18, b2_19, b2_20, b2_21, b2_22, b2_23) => c (b2_0, b2_1, i64.wrap (b2_2 + 1), b2_3, b2_4, b2_5, b2_6, b2_7, b2_8, b2_9, b2_10, b2_11, b2_12, b2_13, b2_14, b2_15, b2_16, b2_17, b2_18, b2_19, b2_20, b2_21, b2_22, b2_23))) else b (x3, x4, x5, x6, x7, x8)
def S_generic_put_d0e_0 (fuel : Nat) (v : Int × Int × Int × Int × Int × Int × Bool × (List Int) × (List Int) × Int × Int × Int × Bool × Int × Int × Int × (List Int) × Int × Int × (List Int) × Int × Int × (List Int) × (List (Int × Int))) (c : (Int × Int × Int × Int × Int × Int × Bool × (List Int) × (List Int) × Int × Int × Int × Bool × Int × Int × Int × (List Int) × Int × Int × (List Int) × Int × Int × (List Int) × (List (Int × Int))) → Option Ans) (B : (Int × Int × Int × Bool × (List Int) × (List Int) → Option Ans)) : Option Ans := match v with | (x0, x1, x2, x3, x4, x5, x6, x7, x8, x9, x10, x11, x12, x13, x14, x15, x16, x17, x18, x19, x20, x21, x22, x23) => Sg_generic_put_d0e_0 fuel (F_generic_contexts fuel) (F_coder_Encoder_Put_cf0 fuel) (F_generic_newPlane fuel) (F_generic_skips fuel) (F_bytes_Equal fuel) (F_generic_plane_above_b9e fuel) (F_generic_plane_context_a34 fuel) x0 x1 x2 x3 x4 x5 x6 x7 x8 x9 x10 x11 x12 x13 x14 x15 x16 x17 x18 x19 x20 x21 x22 x23 c B
def L_generic_put_d0e_0 (fuel : Nat) (v : V_generic_put_d0e_0) (b : W_generic_put_d0e_0) : Option Ans := iter (S_generic_put_d0e_0 fuel) fuel v b
def J127_d0e_0 (fuel : Nat) (i : Nat) : Option Ev.Blk := Ev.look i [(100002, B127_d0e_2 fuel)]
def T127_d0e_0 (v : V_generic_put_d0e_0) : Ev.St := match v with | (x0, x1, x2, x3, x4, x5, x6, x7, x8, x9, x10, x11, x12, x13, x14, x15, x16, x17, x18, x19, x20, x21, x22, x23) => ⟨[(0, .c (.ptr 0 0)), (1, .c (i6 x0)), (7, .c (.ptr 3 0)), (8, .c (.ptr 4 0)), (9, .c (.ptr 5 0)), (10, .c (.ptr 6 0)), (27, .c (i6 x1)), (28, .c (i6 x2))], [(0, .cells 173 (i6 x3 :: .own 1 :: ctb (.int .u64 x4 :: .int .u64 x5 :: .own 2 :: .bool x6 :: []))), (1, .vec 3 (.int .i64) x7 false), (2, .vec 5 (.int .u8) x8 true), (3, .cells 78 [i6 x9, i6 x10, i6 x11, .bool x12, i6 x13]), (4, .cells 51 [i6 x14, i6 x15, .sl (.int .u8) x16]), (5, .cells 51 [i6 x17, i6 x18, .sl (.int .u8) x19]), (6, .cells 200 [i6 x20, i6 x21, .sl (.int .u8) x22, .own 7]), (7, .vec 76 (.pair (.int .i64) (.int .i64)) x23 true)], 8, 3⟩
def E127_d0e_0 (K : KT) : W_generic_put_d0e_0 := (fun v => match v with | (x0, x1, x2, x3, x4, x5) => K .normal ⟨[], [(0, .cells 173 (i6 x0 :: .own 1 :: ctb (.int .u64 x1 :: .int .u64 x2 :: .own 2 :: .bool x3 :: []))), (1, .vec 3 (.int .i64) x4 false), (2, .vec 5 (.int .u8) x5 true)], 3, 3⟩)
theorem S127_d0e_0_okg (fuel : Nat) (f117 : YF117) (f121_cf0 : YF121_cf0) (f148 : YF148) (f213 : YF213) (f214 : YF214) (f215_b9e : YF215_b9e) (f216_a34 : YF216_a34) (R : Ev.St → OA) (K : KT) (x0 x1 : Int) (x2 x3 : Int) (x4 x5 : Int) (x6 : Bool) (x7 x8 : LI) (x9 x10 x11 : Int) (x12 : Bool) (x13 x14 x15 : Int) (x16 : LI) (x17 x18 : Int) (x19 : LI) (x20 x21 : Int) (x22 : LI) (x23 : (List (Int × Int))) : evalCode tab (Gg127_d0e f117 f121_cf0 f148 f213 f214 f215_b9e f216_a34) (J127_d0e_0 fuel) kp127_d0e fuel (bodyOf 0 Tryz.f127) (T127_d0e_0 (x0, x1, x2, x3, x4, x5, x6, x7, x8, x9, x10, x11, x12, x13, x14, x15, x16, x17, x18, x19, x20, x21, x22, x23)) (lc kp127_d0e 4 0 R K) = Sg_generic_put_d0e_0 fuel f117 f121_cf0 f148 f213 f214 f215_b9e f216_a34 x0 x1 x2 x3 x4 x5 x6 x7 x8 x9 x10 x11 x12 x13 x14 x15 x16 x17 x18 x19 x20 x21 x22 x23 (fun v => R (T127_d0e_0 v)) (E127_d0e_0 K) := by
  kernel_rfl
def B127_d0e_0 (fuel : Nat) : Ev.Blk := fun st K => match canonO (kp127_d0e 4) st with | some s => (match s with | ⟨[(q0, .c (.ptr q1 q2)), (q3, .c (i6 x0)), (q4, .c (.ptr q5 q6)), (q7, .c (.ptr q8 q9)), (q10, .c (.ptr q11 q12)), (q13, .c (.ptr q14 q15)), (q16, .c (i6 x1)), (q17, .c (i6 x2))], [(q18, .cells q19 cs0), (q20, .vec q21 (.int .i64) x7 false), (q22, .vec q23 (.int .u8) x8 true), (q24, .cells q25 [i6 x9, i6 x10, i6 x11, .bool x12, i6 x13]), (q26, .cells q27 [i6 x14, i6 x15, .sl (.int .u8) x16]), (q28, .cells q29 [i6 x17, i6 x18, .sl (.int .u8) x19]), (q30, .cells q31 [i6 x20, i6 x21, .sl (.int .u8) x22, .own q32]), (q33, .vec q34 (.pair (.int .i64) (.int .i64)) x23 true)], q35, q36⟩ => (match splitRun 2 ctn cs0 with | some ([i6 x3, .own q37], [.int .u64 x4, .int .u64 x5, .own q38, .bool x6]) => bif qb [q0, q1, q2, q3, q4, q5, q6, q7, q8, q9, q10, q11, q12, q13, q14, q15, q16, q17, q18, q19, q20, q21, q22, q23, q24, q25, q26, q27, q28, q29, q30, q31, q32, q33, q34, q35, q36, q37, q38] [0, 0, 0, 1, 7, 3, 0, 8, 4, 0, 9, 5, 0, 10, 6, 0, 27, 28, 0, 173, 1, 3, 2, 5, 3, 78, 4, 51, 5, 51, 6, 200, 7, 7, 76, 8, 3, 1, 2] then iter (S_generic_put_d0e_0 fuel) fuel (x0, x1, x2, x3, x4, x5, x6, x7, x8, x9, x10, x11, x12, x13, x14, x15, x16, x17, x18, x19, x20, x21, x22, x23) (E127_d0e_0 K) else none | _ => none) | _ => none) | none => none
theorem B127_d0e_0_ok (fuel : Nat) (st : Ev.St) (K : KT) (r : Ans) (h : B127_d0e_0 fuel st K = some r) : evalCode tab (G127_d0e fuel) (J127_d0e_0 fuel) kp127_d0e fuel (.block 0 (.loop (bodyOf 0 Tryz.f127))) st K = some r := by
  unfold B127_d0e_0 at h
  split at h
  · rename_i s hs
    split at h
    · skip
      split at h
      rotate_left 1
      · cases h
      rename_i hsp
      have esp := splitRun_eq hsp
      subst esp
      obtain ⟨hb, h⟩ := cond_some' h
      cases qb_eq hb
      exact blk_loop (S := T127_d0e_0) (ks := E127_d0e_0) (step := S_generic_put_d0e_0 fuel) (v := (_, _, _, _, _, _, _, _, _, _, _, _, _, _, _, _, _, _, _, _, _, _, _, _)) (by kernel_rfl) (by kernel_rfl) (fun R K v => by obtain ⟨x0, x1, x2, x3, x4, x5, x6, x7, x8, x9, x10, x11, x12, x13, x14, x15, x16, x17, x18, x19, x20, x21, x22, x23⟩ := v; exact S127_d0e_0_okg fuel (F_generic_contexts fuel) (F_coder_Encoder_Put_cf0 fuel) (F_generic_newPlane fuel) (F_generic_skips fuel) (F_bytes_Equal fuel) (F_generic_plane_above_b9e fuel) (F_generic_plane_context_a34 fuel) R K x0 x1 x2 x3 x4 x5 x6 x7 x8 x9 x10 x11 x12 x13 x14 x15 x16 x17 x18 x19 x20 x21 x22 x23) hs h
    · cases h
  · cases h
def J127_d0e (fuel : Nat) (i : Nat) : Option Ev.Blk := Ev.look i [(100002, B127_d0e_2 fuel), (100000, B127_d0e_0 fuel)]
def Fg_generic_put_d0e (fuel : Nat) (f117 : YF117) (f121_cf0 : YF121_cf0) (f148 : YF148) (f213 : YF213) (f214 : YF214) (f215_b9e : YF215_b9e) (f216_a34 : YF216_a34) (x0 x1 : Int) (x2 x3 : Int) (x4 : Bool) (x5 x6 x7 : Int) (x8 : LI) (x9 x10 : Int) (x11 : LI) (x12 x13 x14 : Int) (x15 : Bool) (x16 x17 : LI) (k0 : (Int × Int × Int × Bool × LI × LI) → OA) : OA := (f148 x1 x2 x3 x4 x5 x6 x7 (fun (y2_0, y2_1, y2_2, y2_3) => (L_generic_put_d0e_0 fuel (x0, x7, 0, x12, x13, x14, x15, x16, x17, x1, x2, x3, x4, x5, x6, x7, x8, x9, x10, x11, y2_0, y2_1, x8, y2_3) (fun (b0_0, b0_1, b0_2, b0_3, b0_4, b0_5) => k0 (b0_0, b0_1, b0_2, b0_3, b0_4, b0_5)))))
abbrev YF127_d0e : Type := Int → Int → Int → Int → Bool → Int → Int → Int → LI → Int → Int → LI → Int → Int → Int → Bool → LI → LI → ((Int × Int × Int × Bool × LI × LI) → Option Ans) → Option Ans
def F_generic_put_d0e (fuel : Nat) : YF127_d0e := Fg_generic_put_d0e fuel (F_generic_contexts fuel) (F_coder_Encoder_Put_cf0 fuel) (F_generic_newPlane fuel) (F_generic_skips fuel) (F_bytes_Equal fuel) (F_generic_plane_above_b9e fuel) (F_generic_plane_context_a34 fuel)
theorem F127_d0e_eqg (fuel : Nat) (f117 : YF117) (f121_cf0 : YF121_cf0) (f148 : YF148) (f213 : YF213) (f214 : YF214) (f215_b9e : YF215_b9e) (f216_a34 : YF216_a34) (x0 x1 : Int) (x2 x3 : Int) (x4 : Bool) (x5 x6 x7 : Int) (x8 : LI) (x9 x10 : Int) (x11 : LI) (x12 x13 x14 : Int) (x15 : Bool) (x16 x17 : LI) (k : Ev.Cont) : evalFn tab (Gg127_d0e f117 f121_cf0 f148 f213 f214 f215_b9e f216_a34) (J127_d0e fuel) kp127_d0e fuel Tryz.f127 [.c (.ptr 0 0), .c (i6 x0), .agg [i6 x1, i6 x2, i6 x3, .bool x4, i6 x5], .agg [i6 x6, i6 x7, .sl (.int .u8) x8], .agg [i6 x9, i6 x10, .sl (.int .u8) x11]] [.cells 173 (i6 x12 :: .own 1 :: ctb (.int .u64 x13 :: .int .u64 x14 :: .own 2 :: .bool x15 :: [])), .vec 3 (.int .i64) x16 false, .vec 5 (.int .u8) x17 false] k = Fg_generic_put_d0e fuel f117 f121_cf0 f148 f213 f214 f215_b9e f216_a34 x0 x1 x2 x3 x4 x5 x6 x7 x8 x9 x10 x11 x12 x13 x14 x15 x16 x17 (fun r => match r with | (r0, r1, r2, r3, r4, r5) => k (.tup [], [.cells 173 (i6 r0 :: .own 1 :: ctb (.int .u64 r1 :: .int .u64 r2 :: .own 2 :: .bool r3 :: [])), .vec 3 (.int .i64) r4 false, .vec 5 (.int .u8) r5 true])) := by
  kernel_rfl
theorem hG127_d0e (fuel : Nat) : GOK Tryz.prog (G127_d0e fuel) :=
  gc (ok117 fuel) Tryz.func117 (by kernel_rfl) rfl <|
  gc (ok121_cf0 fuel) Tryz.func121 (by kernel_rfl) rfl <|
  gc (ok148 fuel) Tryz.func148 (by kernel_rfl) rfl <|
  gc (ok213 fuel) Tryz.func213 (by kernel_rfl) rfl <|
  gc (ok214 fuel) Tryz.func214 (by kernel_rfl) rfl <|
  gc (ok215_b9e fuel) Tryz.func215 (by kernel_rfl) rfl <|
  gc (ok216_a34 fuel) Tryz.func216 (by kernel_rfl) rfl <|
  gok_nil
theorem B127_d0e_2_blk (fuel : Nat) : BlkOK Tryz.prog Tryz.f127.ntmps (.block 2 (.loop (bodyOf 2 Tryz.f127))) (B127_d0e_2 fuel) := bo0 (hG127_d0e fuel) (by kernel_rfl) (by kernel_rfl) (B127_d0e_2_ok fuel)
theorem B127_d0e_0_blk (fuel : Nat) : BlkOK Tryz.prog Tryz.f127.ntmps (.block 0 (.loop (bodyOf 0 Tryz.f127))) (B127_d0e_0 fuel) :=
  blk_of (blk_of_code tab_ok (hG127_d0e fuel) mixed (J := J127_d0e_0 fuel) (kp := kp127_d0e) (fuel := fuel) (by kernel_rfl) (fun q hq => by
    rw [(by kernel_rfl : obl (J127_d0e_0 fuel) (.block 0 (.loop (bodyOf 0 Tryz.f127))) = [(.block 2 (.loop (bodyOf 2 Tryz.f127)), B127_d0e_2 fuel)])] at hq
    simp only [List.mem_cons, List.not_mem_nil, or_false] at hq
    subst hq
    · exact B127_d0e_2_blk fuel)) (B127_d0e_0_ok fuel)
def spg127_d0e (F : YF127_d0e) : Ev.Spec := fun args objs k => match args, objs with | [.c (.ptr q0 q1), .c (i6 x0), .agg [i6 x1, i6 x2, i6 x3, .bool x4, i6 x5], .agg [i6 x6, i6 x7, .sl (.int .u8) x8], .agg [i6 x9, i6 x10, .sl (.int .u8) x11]], [.cells q2 cs0, .vec q3 (.int .i64) x16 false, .vec q4 (.int .u8) x17 false] => (match splitRun 2 ctn cs0 with | some ([i6 x12, .own q5], [.int .u64 x13, .int .u64 x14, .own q6, .bool x15]) => bif qb [q0, q1, q2, q3, q4, q5, q6] [0, 0, 173, 3, 5, 1, 2] then F x0 x1 x2 x3 x4 x5 x6 x7 x8 x9 x10 x11 x12 x13 x14 x15 x16 x17 (fun r => match r with | (r0, r1, r2, r3, r4, r5) => k (.tup [], [.cells 173 (i6 r0 :: .own 1 :: ctb (.int .u64 r1 :: .int .u64 r2 :: .own 2 :: .bool r3 :: [])), .vec 3 (.int .i64) r4 false, .vec 5 (.int .u8) r5 true])) else none | _ => none) | _, _ => none
theorem ok127_d0e (fuel : Nat) : FnOK Tryz.prog 127 (spg127_d0e (F_generic_put_d0e fuel)) := by
  intro args objs kk r h
  unfold spg127_d0e at h
  split at h
  · skip
    split at h
    rotate_left 1
    · cases h
    rename_i hsp
    have esp := splitRun_eq hsp
    subst esp
    obtain ⟨hb, h⟩ := cond_some' h
    cases qb_eq hb
    exact fo1 (hG127_d0e fuel) Tryz.func127 rfl (B127_d0e_0_blk fuel) (by kernel_rfl) _ _ kk r ((F127_d0e_eqg fuel (F_generic_contexts fuel) (F_coder_Encoder_Put_cf0 fuel) (F_generic_newPlane fuel) (F_generic_skips fuel) (F_bytes_Equal fuel) (F_generic_plane_above_b9e fuel) (F_generic_plane_context_a34 fuel) _ _ _ _ _ _ _ _ _ _ _ _ _ _ _ _ _ _ kk).trans h)
  · cases h
def kp51_d0e (i : Nat) : Option (List Nat) := Ev.look i [(200009, [7, 8, 9]), (600000, [])]
def Gg51_d0e (f116 : YF116) (f121_cf0 : YF121_cf0) (f122 : YF122) (f123 : YF123) (f124 : YF124) (f125 : YF125) (f126_a20 : YF126_a20) (f127_d0e : YF127_d0e) (f : Nat) : Option Ev.Spec := Ev.look f [(116, spg116 f116), (121, spg121_cf0 f121_cf0), (122, spg122 f122), (123, spg123 f123), (124, spg124 f124), (125, spg125 f125), (126, spg126_a20 f126_a20), (127, spg127_d0e f127_d0e)]
def G51_d0e (fuel : Nat) : Nat → Option Ev.Spec := Gg51_d0e (F_generic_Valid fuel) (F_coder_Encoder_Put_cf0 fuel) (F_bitmap_Valid fuel) (F_generic_clash fuel) (F_generic_sides fuel) (F_generic_fits fuel) (F_coder_Encoder_Model_a20 fuel) (F_generic_put_d0e fuel)
def Fg_generic_Put_d0e (fuel : Nat) (f116 : YF116) (f121_cf0 : YF121_cf0) (f122 : YF122) (f123 : YF123) (f124 : YF124) (f125 : YF125) (f126_a20 : YF126_a20) (f127_d0e : YF127_d0e) (x0 x1 : Int) (x2 x3 : Int) (x4 : Bool) (x5 x6 x7 : Int) (x8 : LI) (x9 x10 : Int) (x11 : LI) (x12 x13 x14 : Int) (x15 : Bool) (x16 x17 : LI) (k0 : (Int × Int × Int × Int × Bool × LI × LI) → OA) (k1 : (Int × Int × Int × Int × Bool × LI × LI) → OA) : OA := (f121_cf0 ((-1 : Int)) (0) x12 x13 x14 x15 x16 x17 (fun (y2_0, y2_1, y2_2, y2_3, y2_4, y2_5, y2_6) => bif y2_0 == 7 then k0 (7, y2_1, y2_2, y2_3, y2_4, y2_5, y2_6) else (f116 x1 x2 x3 x4 x5 (fun y7 => bif !y7 then k0 (2, y2_1, y2_2, y2_3, y2_4, y2_5, y2_6) else (f122 x6 x7 x8 (fun y12 => bif !y12 then k0 (30, y2_1, y2_2, y2_3, y2_4, y2_5, y2_6) else (f122 x9 x10 x11 (fun y17 => bif !y17 then k0 (30, y2_1, y2_2, y2_3, y2_4, y2_5, y2_6) else (f123 x6 x7 x8 x9 x10 x11 (fun y22 => bif y22 then k0 (30, y2_1, y2_2, y2_3, y2_4, y2_5, y2_6) else (f124 x9 x10 x11 x6 x7 (fun y27 => bif !y27 then k0 (2, y2_1, y2_2, y2_3, y2_4, y2_5, y2_6) else (f126_a20 y2_1 y2_2 y2_3 y2_4 y2_5 y2_6 (fun (y32_0, y32_1, y32_2, y32_3, y32_4, y32_5, y32_6, y32_7) => (f125 y32_0 y32_7 x0 x1 x2 x3 x4 x5 (fun y36 => bif !y36 then k0 (2, y32_1, y32_2, y32_3, y32_4, y32_5, y32_6) else (f127_d0e x0 x1 x2 x3 x4 x5 x6 x7 x8 x9 x10 x11 y32_1 y32_2 y32_3 y32_4 y32_5 y32_6 (fun (y41_0, y41_1, y41_2, y41_3, y41_4, y41_5) => k1 (0, y41_0, y41_1, y41_2, y41_3, y41_4, y41_5)))))))))))))))))) (fun (y2_0, y2_1, y2_2, y2_3, y2_4, y2_5, y2_6) => bif y2_0 == 7 then k1 (7, y2_1, y2_2, y2_3, y2_4, y2_5, y2_6) else (f116 x1 x2 x3 x4 x5 (fun y7 => bif !y7 then k1 (2, y2_1, y2_2, y2_3, y2_4, y2_5, y2_6) else (f122 x6 x7 x8 (fun y12 => bif !y12 then k1 (30, y2_1, y2_2, y2_3, y2_4, y2_5, y2_6) else (f122 x9 x10 x11 (fun y17 => bif !y17 then k1 (30, y2_1, y2_2, y2_3, y2_4, y2_5, y2_6) else (f123 x6 x7 x8 x9 x10 x11 (fun y22 => bif y22 then k1 (30, y2_1, y2_2, y2_3, y2_4, y2_5, y2_6) else (f124 x9 x10 x11 x6 x7 (fun y27 => bif !y27 then k1 (2, y2_1, y2_2, y2_3, y2_4, y2_5, y2_6) else (f126_a20 y2_1 y2_2 y2_3 y2_4 y2_5 y2_6 (fun (y32_0, y32_1, y32_2, y32_3, y32_4, y32_5, y32_6, y32_7) => (f125 y32_0 y32_7 x0 x1 x2 x3 x4 x5 (fun y36 => bif !y36 then k1 (2, y32_1, y32_2, y32_3, y32_4, y32_5, y32_6) else (f127_d0e x0 x1 x2 x3 x4 x5 x6 x7 x8 x9 x10 x11 y32_1 y32_2 y32_3 y32_4 y32_5 y32_6 (fun (y41_0, y41_1, y41_2, y41_3, y41_4, y41_5) => k1 (0, y41_0, y41_1, y41_2, y41_3, y41_4, y41_5)))))))))))))))))))
abbrev YF51_d0e : Type := Int → Int → Int → Int → Bool → Int → Int → Int → LI → Int → Int → LI → Int → Int → Int → Bool → LI → LI → ((Int × Int × Int × Int × Bool × LI × LI) → Option Ans) → ((Int × Int × Int × Int × Bool × LI × LI) → Option Ans) → Option Ans
def F_generic_Put_d0e (fuel : Nat) : YF51_d0e := Fg_generic_Put_d0e fuel (F_generic_Valid fuel) (F_coder_Encoder_Put_cf0 fuel) (F_bitmap_Valid fuel) (F_generic_clash fuel) (F_generic_sides fuel) (F_generic_fits fuel) (F_coder_Encoder_Model_a20 fuel) (F_generic_put_d0e fuel)
theorem F51_d0e_eqg (fuel : Nat) (f116 : YF116) (f121_cf0 : YF121_cf0) (f122 : YF122) (f123 : YF123) (f124 : YF124) (f125 : YF125) (f126_a20 : YF126_a20) (f127_d0e : YF127_d0e) (x0 x1 : Int) (x2 x3 : Int) (x4 : Bool) (x5 x6 x7 : Int) (x8 : LI) (x9 x10 : Int) (x11 : LI) (x12 x13 x14 : Int) (x15 : Bool) (x16 x17 : LI) (k : Ev.Cont) : evalFn tab (Gg51_d0e f116 f121_cf0 f122 f123 f124 f125 f126_a20 f127_d0e) J0 kp51_d0e fuel Tryz.f51 [.c (.ptr 0 0), .c (i6 x0), .agg [i6 x1, i6 x2, i6 x3, .bool x4, i6 x5], .agg [i6 x6, i6 x7, .sl (.int .u8) x8], .agg [i6 x9, i6 x10, .sl (.int .u8) x11]] [.cells 173 (i6 x12 :: .own 1 :: ctb (.int .u64 x13 :: .int .u64 x14 :: .own 2 :: .bool x15 :: [])), .vec 3 (.int .i64) x16 false, .vec 5 (.int .u8) x17 false] k = Fg_generic_Put_d0e fuel f116 f121_cf0 f122 f123 f124 f125 f126_a20 f127_d0e x0 x1 x2 x3 x4 x5 x6 x7 x8 x9 x10 x11 x12 x13 x14 x15 x16 x17 (fun r => match r with | (r0, r1, r2, r3, r4, r5, r6) => k (.c (i6 r0), [.cells 173 (i6 r1 :: .own 1 :: ctb (.int .u64 r2 :: .int .u64 r3 :: .own 2 :: .bool r4 :: [])), .vec 3 (.int .i64) r5 false, .vec 5 (.int .u8) r6 false])) (fun r => match r with | (r0, r1, r2, r3, r4, r5, r6) => k (.c (i6 r0), [.cells 173 (i6 r1 :: .own 1 :: ctb (.int .u64 r2 :: .int .u64 r3 :: .own 2 :: .bool r4 :: [])), .vec 3 (.int .i64) r5 false, .vec 5 (.int .u8) r6 true])) := by
  kernel_rfl
theorem hG51_d0e (fuel : Nat) : GOK Tryz.prog (G51_d0e fuel) :=
  gc (ok116 fuel) Tryz.func116 (by kernel_rfl) rfl <|
  gc (ok121_cf0 fuel) Tryz.func121 (by kernel_rfl) rfl <|
  gc (ok122 fuel) Tryz.func122 (by kernel_rfl) rfl <|
  gc (ok123 fuel) Tryz.func123 (by kernel_rfl) rfl <|
  gc (ok124 fuel) Tryz.func124 (by kernel_rfl) rfl <|
  gc (ok125 fuel) Tryz.func125 (by kernel_rfl) rfl <|
  gc (ok126_a20 fuel) Tryz.func126 (by kernel_rfl) rfl <|
  gc (ok127_d0e fuel) Tryz.func127 (by kernel_rfl) rfl <|
  gok_nil
def spg51_d0e (F : YF51_d0e) : Ev.Spec := fun args objs k => match args, objs with | [.c (.ptr q0 q1), .c (i6 x0), .agg [i6 x1, i6 x2, i6 x3, .bool x4, i6 x5], .agg [i6 x6, i6 x7, .sl (.int .u8) x8], .agg [i6 x9, i6 x10, .sl (.int .u8) x11]], [.cells q2 cs0, .vec q3 (.int .i64) x16 false, .vec q4 (.int .u8) x17 false] => (match splitRun 2 ctn cs0 with | some ([i6 x12, .own q5], [.int .u64 x13, .int .u64 x14, .own q6, .bool x15]) => bif qb [q0, q1, q2, q3, q4, q5, q6] [0, 0, 173, 3, 5, 1, 2] then F x0 x1 x2 x3 x4 x5 x6 x7 x8 x9 x10 x11 x12 x13 x14 x15 x16 x17 (fun r => match r with | (r0, r1, r2, r3, r4, r5, r6) => k (.c (i6 r0), [.cells 173 (i6 r1 :: .own 1 :: ctb (.int .u64 r2 :: .int .u64 r3 :: .own 2 :: .bool r4 :: [])), .vec 3 (.int .i64) r5 false, .vec 5 (.int .u8) r6 false])) (fun r => match r with | (r0, r1, r2, r3, r4, r5, r6) => k (.c (i6 r0), [.cells 173 (i6 r1 :: .own 1 :: ctb (.int .u64 r2 :: .int .u64 r3 :: .own 2 :: .bool r4 :: [])), .vec 3 (.int .i64) r5 false, .vec 5 (.int .u8) r6 true])) else none | _ => none) | _, _ => none
theorem ok51_d0e (fuel : Nat) : FnOK Tryz.prog 51 (spg51_d0e (F_generic_Put_d0e fuel)) := by
  intro args objs kk r h
  unfold spg51_d0e at h
  split at h
  · skip
    split at h
    rotate_left 1
    · cases h
    rename_i hsp
    have esp := splitRun_eq hsp
    subst esp
    obtain ⟨hb, h⟩ := cond_some' h
    cases qb_eq hb
    exact fo0 (hG51_d0e fuel) Tryz.func51 rfl (by kernel_rfl) _ _ kk r ((F51_d0e_eqg fuel (F_generic_Valid fuel) (F_coder_Encoder_Put_cf0 fuel) (F_bitmap_Valid fuel) (F_generic_clash fuel) (F_generic_sides fuel) (F_generic_fits fuel) (F_coder_Encoder_Model_a20 fuel) (F_generic_put_d0e fuel) _ _ _ _ _ _ _ _ _ _ _ _ _ _ _ _ _ _ kk).trans h)
  · cases h
def kp14 (i : Nat) : Option (List Nat) := Ev.look i [(13, [5, 13, 14, 19, 72, 73, 74]), (100000, [19]), (400000, [10, 11])]
def Gg14 (f42 : YF42) (f43 : YF43) (f44 : YF44) (f45 : YF45) (f46 : YF46) (f47 : YF47) (f48 : YF48) (f49 : YF49) (f50 : YF50) (f51_d0e : YF51_d0e) (f52_a20 : YF52_a20) (f : Nat) : Option Ev.Spec := Ev.look f [(42, spg42 f42), (43, spg43 f43), (44, spg44 f44), (45, spg45 f45), (46, spg46 f46), (47, spg47 f47), (48, spg48 f48), (49, spg49 f49), (50, spg50 f50), (51, spg51_d0e f51_d0e), (52, spg52_a20 f52_a20)]
def G14 (fuel : Nat) : Nat → Option Ev.Spec := Gg14 (F_tone_Planes fuel) (F_tone_begun fuel) (F_tone_skipped fuel) (F_tone_rightValues fuel) (F_tone_options fuel) (F_generic_Size fuel) (F_coder_New fuel) (F_coder_NewEncoder fuel) (F_number_Width fuel) (F_generic_Put_d0e fuel) (F_coder_Encoder_End_a20 fuel)
abbrev V_tone_Encode_0 : Type := Int × Int × Int × Int × Int × Int × Int × Int × Int × Int × Bool × Int × Int × Int × Int × Int × Int × Bool × Int × Int × Int × Int × Bool × (List LI) × LI × LI × LI
abbrev W_tone_Encode_0 : Type := (Int × Int × Int × Bool × LI × LI → OA)
def Sg_tone_Encode_0 (fuel : Nat) (f42 : YF42) (f43 : YF43) (f44 : YF44) (f45 : YF45) (f46 : YF46) (f47 : YF47) (f48 : YF48) (f49 : YF49) (f50 : YF50) (f51_d0e : YF51_d0e) (f52_a20 : YF52_a20) (x0 x1 : Int) (x2 x3 : Int) (x4 x5 : Int) (x6 x7 : Int) (x8 x9 : Int) (x10 : Bool) (x11 x12 : Int) (x13 x14 : Int) (x15 x16 : Int) (x17 : Bool) (x18 x19 : Int) (x20 x21 : Int) (x22 : Bool) (x23 : (List LI)) (x24 x25 x26 : LI) (c : V_tone_Encode_0 → OA) (B : W_tone_Encode_0) : OA := match B with | b => bif decide (x1 < x0) then bif decide (0 ≤ x1 ∧ x1 < (↑x23.length : Int)) then (f51_d0e (0) x14 x15 x16 x17 x18 x2 x3 (x23.getD x1.toNat []) x12 x13 x24 x19 x20 x21 x22 x25 x26 (fun (y4_0, y4_1, y4_2, y4_3, y4_4, y4_5, y4_6) => c (x0, i64.wrap (x1 + 1), x2, x3, x4, x5, x6, x7, x8, x9, x10, x11, x12, x13, x14, x15, x16, x17, x18, y4_1, y4_2, y4_3, y4_4, x23, x24, y4_5, y4_6)) (fun (y4_0, y4_1, y4_2, y4_3, y4_4, y4_5, y4_6) => c (x0, i64.wrap (x1 + 1), x2, x3, x4, x5, x6, x7, x8, x9, x10, x11, x12, x13, x14, x15, x16, x17, x18, y4_1, y4_2, y4_3, y4_4, x23, x24, y4_5, y4_6))) else none else b (x19, x20, x21, x22, x25, x26)
def S_tone_Encode_0 (fuel : Nat) (v : Int × Int × Int × Int × Int × Int × Int × Int × Int × Int × Bool × Int × Int × Int × Int × Int × Int × Bool × Int × Int × Int × Int × Bool × (List (List Int)) × (List Int) × (List Int) × (List Int)) (c : (Int × Int × Int × Int × Int × Int × Int × Int × Int × Int × Bool × Int × Int × Int × Int × Int × Int × Bool × Int × Int × Int × Int × Bool × (List (List Int)) × (List Int) × (List Int) × (List Int)) → Option Ans) (B : (Int × Int × Int × Bool × (List Int) × (List Int) → Option Ans)) : Option Ans := match v with | (x0, x1, x2, x3, x4, x5, x6, x7, x8, x9, x10, x11, x12, x13, x14, x15, x16, x17, x18, x19, x20, x21, x22, x23, x24, x25, x26) => Sg_tone_Encode_0 fuel (F_tone_Planes fuel) (F_tone_begun fuel) (F_tone_skipped fuel) (F_tone_rightValues fuel) (F_tone_options fuel) (F_generic_Size fuel) (F_coder_New fuel) (F_coder_NewEncoder fuel) (F_number_Width fuel) (F_generic_Put_d0e fuel) (F_coder_Encoder_End_a20 fuel) x0 x1 x2 x3 x4 x5 x6 x7 x8 x9 x10 x11 x12 x13 x14 x15 x16 x17 x18 x19 x20 x21 x22 x23 x24 x25 x26 c B
def L_tone_Encode_0 (fuel : Nat) (v : V_tone_Encode_0) (b : W_tone_Encode_0) : Option Ans := iter (S_tone_Encode_0 fuel) fuel v b
def T14_0 (v : V_tone_Encode_0) : Ev.St := match v with | (x0, x1, x2, x3, x4, x5, x6, x7, x8, x9, x10, x11, x12, x13, x14, x15, x16, x17, x18, x19, x20, x21, x22, x23, x24, x25, x26) => ⟨[(5, .c (.ptr 0 0)), (13, .c (.ptr 1 0)), (14, .c (.ptr 2 0)), (19, .c (.ptr 3 0)), (72, .c (.own 4)), (73, .c (i6 x0)), (74, .c (i6 x1))], [(0, .cells 23 [i6 x2, i6 x3, i6 x4, i6 x5, i6 x6, i6 x7, i6 x8, i6 x9, .bool x10, i6 x11]), (1, .cells 51 [i6 x12, i6 x13, .own 5]), (2, .cells 78 [i6 x14, i6 x15, i6 x16, .bool x17, i6 x18]), (3, .cells 173 (i6 x19 :: .own 6 :: ctb (.int .u64 x20 :: .int .u64 x21 :: .own 7 :: .bool x22 :: []))), (4, .vec 30 (.sl (.int .u8)) x23 true), (5, .vec 5 (.int .u8) x24 true), (6, .vec 3 (.int .i64) x25 true), (7, .vec 5 (.int .u8) x26 true)], 8, 0⟩
def E14_0 (K : KT) : W_tone_Encode_0 := (fun v => match v with | (x0, x1, x2, x3, x4, x5) => K .normal ⟨[(19, .c (.ptr 0 0))], [(0, .cells 173 (i6 x0 :: .own 1 :: ctb (.int .u64 x1 :: .int .u64 x2 :: .own 2 :: .bool x3 :: []))), (1, .vec 3 (.int .i64) x4 true), (2, .vec 5 (.int .u8) x5 true)], 3, 0⟩)
theorem S14_0_okg (fuel : Nat) (f42 : YF42) (f43 : YF43) (f44 : YF44) (f45 : YF45) (f46 : YF46) (f47 : YF47) (f48 : YF48) (f49 : YF49) (f50 : YF50) (f51_d0e : YF51_d0e) (f52_a20 : YF52_a20) (R : Ev.St → OA) (K : KT) (x0 x1 : Int) (x2 x3 : Int) (x4 x5 : Int) (x6 x7 : Int) (x8 x9 : Int) (x10 : Bool) (x11 x12 : Int) (x13 x14 : Int) (x15 x16 : Int) (x17 : Bool) (x18 x19 : Int) (x20 x21 : Int) (x22 : Bool) (x23 : (List LI)) (x24 x25 x26 : LI) : evalCode tab (Gg14 f42 f43 f44 f45 f46 f47 f48 f49 f50 f51_d0e f52_a20) J0 kp14 fuel (bodyOf 0 Tryz.f14) (T14_0 (x0, x1, x2, x3, x4, x5, x6, x7, x8, x9, x10, x11, x12, x13, x14, x15, x16, x17, x18, x19, x20, x21, x22, x23, x24, x25, x26)) (lc kp14 13 0 R K) = Sg_tone_Encode_0 fuel f42 f43 f44 f45 f46 f47 f48 f49 f50 f51_d0e f52_a20 x0 x1 x2 x3 x4 x5 x6 x7 x8 x9 x10 x11 x12 x13 x14 x15 x16 x17 x18 x19 x20 x21 x22 x23 x24 x25 x26 (fun v => R (T14_0 v)) (E14_0 K) := by
  kernel_rfl
def B14_0 (fuel : Nat) : Ev.Blk := fun st K => match canonO (kp14 13) st with | some s => (match s with | ⟨[(q0, .c (.ptr q1 q2)), (q3, .c (.ptr q4 q5)), (q6, .c (.ptr q7 q8)), (q9, .c (.ptr q10 q11)), (q12, .c (.own q13)), (q14, .c (i6 x0)), (q15, .c (i6 x1))], [(q16, .cells q17 [i6 x2, i6 x3, i6 x4, i6 x5, i6 x6, i6 x7, i6 x8, i6 x9, .bool x10, i6 x11]), (q18, .cells q19 [i6 x12, i6 x13, .own q20]), (q21, .cells q22 [i6 x14, i6 x15, i6 x16, .bool x17, i6 x18]), (q23, .cells q24 cs0), (q25, .vec q26 (.sl (.int .u8)) x23 true), (q27, .vec q28 (.int .u8) x24 true), (q29, .vec q30 (.int .i64) x25 true), (q31, .vec q32 (.int .u8) x26 true)], q33, q34⟩ => (match splitRun 2 ctn cs0 with | some ([i6 x19, .own q35], [.int .u64 x20, .int .u64 x21, .own q36, .bool x22]) => bif qb [q0, q1, q2, q3, q4, q5, q6, q7, q8, q9, q10, q11, q12, q13, q14, q15, q16, q17, q18, q19, q20, q21, q22, q23, q24, q25, q26, q27, q28, q29, q30, q31, q32, q33, q34, q35, q36] [5, 0, 0, 13, 1, 0, 14, 2, 0, 19, 3, 0, 72, 4, 73, 74, 0, 23, 1, 51, 5, 2, 78, 3, 173, 4, 30, 5, 5, 6, 3, 7, 5, 8, 0, 6, 7] then iter (S_tone_Encode_0 fuel) fuel (x0, x1, x2, x3, x4, x5, x6, x7, x8, x9, x10, x11, x12, x13, x14, x15, x16, x17, x18, x19, x20, x21, x22, x23, x24, x25, x26) (E14_0 K) else none | _ => none) | _ => none) | none => none
theorem B14_0_ok (fuel : Nat) (st : Ev.St) (K : KT) (r : Ans) (h : B14_0 fuel st K = some r) : evalCode tab (G14 fuel) J0 kp14 fuel (.block 0 (.loop (bodyOf 0 Tryz.f14))) st K = some r := by
  unfold B14_0 at h
  split at h
  · rename_i s hs
    split at h
    · skip
      split at h
      rotate_left 1
      · cases h
      rename_i hsp
      have esp := splitRun_eq hsp
      subst esp
      obtain ⟨hb, h⟩ := cond_some' h
      cases qb_eq hb
      exact blk_loop (S := T14_0) (ks := E14_0) (step := S_tone_Encode_0 fuel) (v := (_, _, _, _, _, _, _, _, _, _, _, _, _, _, _, _, _, _, _, _, _, _, _, _, _, _, _)) (by kernel_rfl) (by kernel_rfl) (fun R K v => by obtain ⟨x0, x1, x2, x3, x4, x5, x6, x7, x8, x9, x10, x11, x12, x13, x14, x15, x16, x17, x18, x19, x20, x21, x22, x23, x24, x25, x26⟩ := v; exact S14_0_okg fuel (F_tone_Planes fuel) (F_tone_begun fuel) (F_tone_skipped fuel) (F_tone_rightValues fuel) (F_tone_options fuel) (F_generic_Size fuel) (F_coder_New fuel) (F_coder_NewEncoder fuel) (F_number_Width fuel) (F_generic_Put_d0e fuel) (F_coder_Encoder_End_a20 fuel) R K x0 x1 x2 x3 x4 x5 x6 x7 x8 x9 x10 x11 x12 x13 x14 x15 x16 x17 x18 x19 x20 x21 x22 x23 x24 x25 x26) hs h
    · cases h
  · cases h
def J14 (fuel : Nat) (i : Nat) : Option Ev.Blk := Ev.look i [(100000, B14_0 fuel)]
def Fg_tone_Encode (fuel : Nat) (f42 : YF42) (f43 : YF43) (f44 : YF44) (f45 : YF45) (f46 : YF46) (f47 : YF47) (f48 : YF48) (f49 : YF49) (f50 : YF50) (f51_d0e : YF51_d0e) (f52_a20 : YF52_a20) (x0 x1 : Int) (x2 x3 : Int) (x4 x5 : Int) (x6 x7 : Int) (x8 : Bool) (x9 : Int) (x10 : (List (Int × Int × LI))) (x11 x12 : Int) (x13 : LI) (k0 : (Int × LI) → OA) : OA := (f43 x0 x1 x2 x3 x4 x5 x6 x7 x8 x9 x10 x11 x12 (fun y2 => bif y2 != 0 then k0 (y2, []) else (f44 x0 x1 x2 x3 x4 x5 x6 x7 x8 x9 x10 x11 x12 (fun (y7_0, y7_1, y7_2) => (f45 x0 x1 x2 x3 x4 x5 x6 x7 x8 x9 ((↑x10.length : Int)) y7_0 y7_1 y7_2 x13 (fun y11 => bif !y11 then k0 (2, []) else (f46 x0 x1 x2 x3 x4 x5 x6 x7 x8 x9 (fun (y16_0, y16_1, y16_2, y16_3, y16_4) => (f47 y16_0 y16_1 y16_2 y16_3 y16_4 (fun (y20_0, y20_1) => (f48 y16_4 y20_0 (fun (y24_0, y24_1, y24_2) => (f49 y24_0 y24_2 (fun y28 => (f50 ((↑x10.length : Int)) (fun y32 => (f42 x13 y32 (fun (y36_0, y36_1) => none))))) (fun (y28_0, y28_1, y28_2, y28_3, y28_4, y28_5, y28_6) => (f50 ((↑x10.length : Int)) (fun y32 => (f42 x13 y32 (fun (y36_0, y36_1) => (L_tone_Encode_0 fuel ((↑y36_1.length : Int), 0, x0, x1, x2, x3, x4, x5, x6, x7, x8, x9, y7_0, y7_1, y16_0, y16_1, y16_2, y16_3, y16_4, y28_1, y28_2, y28_3, y28_4, y36_1, y7_2, y28_5, y28_6) (fun (b0_0, b0_1, b0_2, b0_3, b0_4, b0_5) => (f52_a20 b0_0 b0_1 b0_2 b0_3 b0_4 b0_5 (fun (y44_0, y44_1, y44_2, y44_3, y44_4, y44_5, y44_6) => k0 (0, y44_6)))))))))))))))))))))))
abbrev YF14 : Type := Int → Int → Int → Int → Int → Int → Int → Int → Bool → Int → ((List (Int × Int × LI))) → Int → Int → LI → ((Int × LI) → Option Ans) → Option Ans
def F_tone_Encode (fuel : Nat) : YF14 := Fg_tone_Encode fuel (F_tone_Planes fuel) (F_tone_begun fuel) (F_tone_skipped fuel) (F_tone_rightValues fuel) (F_tone_options fuel) (F_generic_Size fuel) (F_coder_New fuel) (F_coder_NewEncoder fuel) (F_number_Width fuel) (F_generic_Put_d0e fuel) (F_coder_Encoder_End_a20 fuel)
theorem F14_eqg (fuel : Nat) (f42 : YF42) (f43 : YF43) (f44 : YF44) (f45 : YF45) (f46 : YF46) (f47 : YF47) (f48 : YF48) (f49 : YF49) (f50 : YF50) (f51_d0e : YF51_d0e) (f52_a20 : YF52_a20) (x0 x1 : Int) (x2 x3 : Int) (x4 x5 : Int) (x6 x7 : Int) (x8 : Bool) (x9 : Int) (x10 : (List (Int × Int × LI))) (x11 x12 : Int) (x13 : LI) (k : Ev.Cont) : evalFn tab (Gg14 f42 f43 f44 f45 f46 f47 f48 f49 f50 f51_d0e f52_a20) (J14 fuel) kp14 fuel Tryz.f14 [.agg [i6 x0, i6 x1, i6 x2, i6 x3, i6 x4, i6 x5, i6 x6, i6 x7, .bool x8, i6 x9], .c (.sl (.pair (.int .i64) (.pair (.int .i64) (.sl (.int .u8)))) x10), .c (i6 x11), .c (i6 x12), .c (.sl (.int .i64) x13)] [] k = Fg_tone_Encode fuel f42 f43 f44 f45 f46 f47 f48 f49 f50 f51_d0e f52_a20 x0 x1 x2 x3 x4 x5 x6 x7 x8 x9 x10 x11 x12 x13 (fun r => match r with | (r0, r1) => k (.tup [(false, [.own 0]), (false, [i6 r0])], [.vec 5 (.int .u8) r1 true])) := by
  kernel_rfl
theorem hG14 (fuel : Nat) : GOK Tryz.prog (G14 fuel) :=
  gc (ok42 fuel) Tryz.func42 (by kernel_rfl) rfl <|
  gc (ok43 fuel) Tryz.func43 (by kernel_rfl) rfl <|
  gc (ok44 fuel) Tryz.func44 (by kernel_rfl) rfl <|
  gc (ok45 fuel) Tryz.func45 (by kernel_rfl) rfl <|
  gc (ok46 fuel) Tryz.func46 (by kernel_rfl) rfl <|
  gc (ok47 fuel) Tryz.func47 (by kernel_rfl) rfl <|
  gc (ok48 fuel) Tryz.func48 (by kernel_rfl) rfl <|
  gc (ok49 fuel) Tryz.func49 (by kernel_rfl) rfl <|
  gc (ok50 fuel) Tryz.func50 (by kernel_rfl) rfl <|
  gc (ok51_d0e fuel) Tryz.func51 (by kernel_rfl) rfl <|
  gc (ok52_a20 fuel) Tryz.func52 (by kernel_rfl) rfl <|
  gok_nil
theorem B14_0_blk (fuel : Nat) : BlkOK Tryz.prog Tryz.f14.ntmps (.block 0 (.loop (bodyOf 0 Tryz.f14))) (B14_0 fuel) := bo0 (hG14 fuel) (by kernel_rfl) (by kernel_rfl) (B14_0_ok fuel)
def spg14 (F : YF14) : Ev.Spec := fun args objs k => match args, objs with | [.agg [i6 x0, i6 x1, i6 x2, i6 x3, i6 x4, i6 x5, i6 x6, i6 x7, .bool x8, i6 x9], .c (.sl (.pair (.int .i64) (.pair (.int .i64) (.sl (.int .u8)))) x10), .c (i6 x11), .c (i6 x12), .c (.sl (.int .i64) x13)], [] => F x0 x1 x2 x3 x4 x5 x6 x7 x8 x9 x10 x11 x12 x13 (fun r => match r with | (r0, r1) => k (.tup [(false, [.own 0]), (false, [i6 r0])], [.vec 5 (.int .u8) r1 true])) | _, _ => none
theorem ok14 (fuel : Nat) : FnOK Tryz.prog 14 (spg14 (F_tone_Encode fuel)) := by
  intro args objs kk r h
  unfold spg14 at h
  split at h
  · skip
    exact fo1 (hG14 fuel) Tryz.func14 rfl (B14_0_blk fuel) (by kernel_rfl) _ _ kk r ((F14_eqg fuel (F_tone_Planes fuel) (F_tone_begun fuel) (F_tone_skipped fuel) (F_tone_rightValues fuel) (F_tone_options fuel) (F_generic_Size fuel) (F_coder_New fuel) (F_coder_NewEncoder fuel) (F_number_Width fuel) (F_generic_Put_d0e fuel) (F_coder_Encoder_End_a20 fuel) _ _ _ _ _ _ _ _ _ _ _ _ _ _ kk).trans h)
  · cases h
def kp3 (i : Nat) : Option (List Nat) := Ev.look i [(200005, [1])]
def Gg3 (f12 : YF12) (f13 : YF13) (f14 : YF14) (f15 : YF15) (f16 : YF16) (f17 : YF17) (f18 : YF18) (f19 : YF19) (f : Nat) : Option Ev.Spec := Ev.look f [(12, spg12 f12), (13, spg13 f13), (14, spg14 f14), (15, spg15 f15), (16, spg16 f16), (17, spg17 f17), (18, spg18 f18), (19, spg19 f19)]
def G3 (fuel : Nat) : Nat → Option Ev.Spec := Gg3 (F_law11_Large fuel) (F_law11_Sane fuel) (F_tone_Encode fuel) (F_ref11_Encode fuel) (F_tone_Valid fuel) (F_ref11_Valid fuel) (F_tone_Decode fuel) (F_ref01_SameInts fuel)
def Fg_law11_ToneEncodes (fuel : Nat) (f12 : YF12) (f13 : YF13) (f14 : YF14) (f15 : YF15) (f16 : YF16) (f17 : YF17) (f18 : YF18) (f19 : YF19) (x0 x1 : Int) (x2 x3 : Int) (x4 x5 : Int) (x6 x7 : Int) (x8 : Bool) (x9 : Int) (x10 : (List (Int × Int × LI))) (x11 x12 : Int) (x13 : LI) (k0 : (Bool) → OA) : OA := (f12 x0 x1 x2 x3 x4 x5 x6 x7 x8 x9 x10 x11 x12 x13 (fun y2 => bif y2 then (f13 (fun y7 => k0 y7)) else (f14 x0 x1 x2 x3 x4 x5 x6 x7 x8 x9 x10 x11 x12 x13 (fun (y7_0, y7_1) => (f15 x0 x1 x2 x3 x4 x5 x6 x7 x8 x9 x10 x11 x12 x13 (fun (y11_0, y11_1) => bif y7_0 != y11_0 then k0 false else both (bif !(Go.strOfNums y7_1).toList == (Go.strOfNums y11_1).toList then k0 false else (f16 x0 x1 x2 x3 x4 x5 x6 x7 x8 x9 (fun y19 => (f17 x0 x1 x2 x3 x4 x5 x6 x7 x8 x9 (fun y23 => bif !y19 == y23 then k0 false else bif y7_0 != 0 then (f13 (fun y29 => k0 y29)) else (f18 x0 x1 x2 x3 x4 x5 x6 x7 x8 x9 x10 x11 x12 y7_1 (fun (y29_0, y29_1) => bif y29_0 == 0 then (f19 y29_1 x13 (fun y34 => bif y34 then (f13 (fun y39 => k0 y39)) else k0 false)) else k0 false))))))) (bif !(Go.strOfNums y7_1).toList == (Go.strOfNums y11_1).toList then k0 false else (f16 x0 x1 x2 x3 x4 x5 x6 x7 x8 x9 (fun y19 => (f17 x0 x1 x2 x3 x4 x5 x6 x7 x8 x9 (fun y23 => bif !y19 == y23 then k0 false else bif y7_0 != 0 then (f13 (fun y29 => k0 y29)) else (f18 x0 x1 x2 x3 x4 x5 x6 x7 x8 x9 x10 x11 x12 y7_1 (fun (y29_0, y29_1) => bif y29_0 == 0 then (f19 y29_1 x13 (fun y34 => bif y34 then (f13 (fun y39 => k0 y39)) else k0 false)) else k0 false)))))))))))))
abbrev YF3 : Type := Int → Int → Int → Int → Int → Int → Int → Int → Bool → Int → ((List (Int × Int × LI))) → Int → Int → LI → (Bool → Option Ans) → Option Ans
def F_law11_ToneEncodes (fuel : Nat) : YF3 := Fg_law11_ToneEncodes fuel (F_law11_Large fuel) (F_law11_Sane fuel) (F_tone_Encode fuel) (F_ref11_Encode fuel) (F_tone_Valid fuel) (F_ref11_Valid fuel) (F_tone_Decode fuel) (F_ref01_SameInts fuel)
theorem F3_eqg (fuel : Nat) (f12 : YF12) (f13 : YF13) (f14 : YF14) (f15 : YF15) (f16 : YF16) (f17 : YF17) (f18 : YF18) (f19 : YF19) (x0 x1 : Int) (x2 x3 : Int) (x4 x5 : Int) (x6 x7 : Int) (x8 : Bool) (x9 : Int) (x10 : (List (Int × Int × LI))) (x11 x12 : Int) (x13 : LI) (k : Ev.Cont) : evalFn tab (Gg3 f12 f13 f14 f15 f16 f17 f18 f19) J0 kp3 fuel Tryz.f3 [.agg [i6 x0, i6 x1, i6 x2, i6 x3, i6 x4, i6 x5, i6 x6, i6 x7, .bool x8, i6 x9, .sl (.pair (.int .i64) (.pair (.int .i64) (.sl (.int .u8)))) x10, i6 x11, i6 x12, .sl (.int .i64) x13]] [] k = Fg_law11_ToneEncodes fuel f12 f13 f14 f15 f16 f17 f18 f19 x0 x1 x2 x3 x4 x5 x6 x7 x8 x9 x10 x11 x12 x13 (fun r => match r with | r0 => k (.c (.bool r0), [])) := by
  kernel_rfl
theorem hG3 (fuel : Nat) : GOK Tryz.prog (G3 fuel) :=
  gc (ok12 fuel) Tryz.func12 (by kernel_rfl) rfl <|
  gc (ok13 fuel) Tryz.func13 (by kernel_rfl) rfl <|
  gc (ok14 fuel) Tryz.func14 (by kernel_rfl) rfl <|
  gc (ok15 fuel) Tryz.func15 (by kernel_rfl) rfl <|
  gc (ok16 fuel) Tryz.func16 (by kernel_rfl) rfl <|
  gc (ok17 fuel) Tryz.func17 (by kernel_rfl) rfl <|
  gc (ok18 fuel) Tryz.func18 (by kernel_rfl) rfl <|
  gc (ok19 fuel) Tryz.func19 (by kernel_rfl) rfl <|
  gok_nil
def spg3 (F : YF3) : Ev.Spec := fun args objs k => match args, objs with | [.agg [i6 x0, i6 x1, i6 x2, i6 x3, i6 x4, i6 x5, i6 x6, i6 x7, .bool x8, i6 x9, .sl (.pair (.int .i64) (.pair (.int .i64) (.sl (.int .u8)))) x10, i6 x11, i6 x12, .sl (.int .i64) x13]], [] => F x0 x1 x2 x3 x4 x5 x6 x7 x8 x9 x10 x11 x12 x13 (fun r => match r with | r0 => k (.c (.bool r0), [])) | _, _ => none
def spec3 (fuel : Nat) : Ev.Spec := spg3 (F_law11_ToneEncodes fuel)
theorem ok3 (fuel : Nat) : FnOK Tryz.prog 3 (spec3 fuel) := by
  intro args objs kk r h
  unfold spec3 spg3 at h
  split at h
  · skip
    exact fo0 (hG3 fuel) Tryz.func3 rfl (by kernel_rfl) _ _ kk r ((F3_eqg fuel (F_law11_Large fuel) (F_law11_Sane fuel) (F_tone_Encode fuel) (F_ref11_Encode fuel) (F_tone_Valid fuel) (F_ref11_Valid fuel) (F_tone_Decode fuel) (F_ref01_SameInts fuel) _ _ _ _ _ _ _ _ _ _ _ _ _ _ kk).trans h)
  · cases h
def kp71 (i : Nat) : Option (List Nat) := Ev.look i [(7, [0, 4, 5]), (12, [0, 4, 5, 6]), (100000, [4]), (100002, [0, 4, 5]), (200017, [0]), (400000, [2, 3]), (400002, [2, 3])]
def Gg71 (f : Nat) : Option Ev.Spec := Ev.look f []
def G71 (fuel : Nat) : Nat → Option Ev.Spec := Gg71
abbrev V_ref11_FromPlanes_2 : Type := (List LI) × Int × Int × LI
abbrev W_ref11_FromPlanes_2 : Type := (Int × LI → OA) × ((List LI) × Int × LI → OA)
def S_ref11_FromPlanes_2 (fuel : Nat) (v : (List (List Int)) × Int × Int × (List Int)) (c : ((List (List Int)) × Int × Int × (List Int)) → Option Ans) (B : (Int × (List Int) → Option Ans) × ((List (List Int)) × Int × (List Int) → Option Ans)) : Option Ans := match v, B with | (x0, x1, x2, x3), (ret, b) => bif decide (x2 < (↑x3.length : Int)) then bif decide ((0 : Int) ≤ x1 ∧ x1 < (↑x0.length : Int)) then bif decide ((0 : Int) ≤ x2 ∧ x2 < (↑(List.length (x0.getD x1.toNat [])) : Int)) then bif decide (List.getD (x0.getD x1.toNat []) x2.toNat (0 : Int) > (1 : Int)) then ret ((2 : Int), []) else bif decide ((0 : Int) ≤ x2 ∧ x2 < (↑x3.length : Int)) then bif decide ((0 : Int) ≤ x2 ∧ x2 < (↑x3.length : Int)) then bif decide ((0 : Int) ≤ x1 ∧ x1 < (↑x0.length : Int)) then bif decide ((0 : Int) ≤ x2 ∧ x2 < (↑(List.length (x0.getD x1.toNat [])) : Int)) then bif decide ((0 : Int) ≤ x2 ∧ x2 < (↑x3.length : Int)) then c (x0, x1, i64.wrap (x2 + (1 : Int)), x3.set x2.toNat (i64.wrap (i64.wrap ((2 : Int) * x3.getD x2.toNat (0 : Int)) + (i64.wrap (i64.wrap (List.getD (x0.getD x1.toNat []) x2.toNat (0 : Int)) + Int.tmod (x3.getD x2.toNat (0 : Int)) (2 : Int))).tmod (2 : Int)))) else none else none else none else none else none else none else none else b (x0, x1, x3)
def L_ref11_FromPlanes_2 (fuel : Nat) (v : V_ref11_FromPlanes_2) (ret : (Int × (List Int) → Option Ans)) (b : ((List (List Int)) × Int × (List Int) → Option Ans)) : Option Ans := iter (S_ref11_FromPlanes_2 fuel) fuel v (ret, b)
def T71_2 (v : V_ref11_FromPlanes_2) : Ev.St := match v with | (x0, x1, x2, x3) => ⟨[(0, .c (.sl (.sl (.int .u8)) x0)), (4, .c (.own 0)), (5, .c (i6 x1)), (6, .c (i6 x2))], [(0, .vec 3 (.int .i64) x3 true)], 1, 0⟩
def E71_2 (K : KT) : W_ref11_FromPlanes_2 := ((fun v => match v with | (x0, x1) => K .ret ⟨[(2, .c (.own 0)), (3, .c (i6 x0))], [(0, .vec 3 (.int .i64) x1 true)], 1, 0⟩), (fun v => match v with | (x0, x1, x2) => K .normal ⟨[(0, .c (.sl (.sl (.int .u8)) x0)), (4, .c (.own 0)), (5, .c (i6 x1))], [(0, .vec 3 (.int .i64) x2 true)], 1, 0⟩))
theorem S71_2_ok (fuel : Nat) (R : Ev.St → OA) (K : KT) (x0 : (List LI)) (x1 x2 : Int) (x3 : LI) : evalCode tab (G71 fuel) J0 kp71 fuel (bodyOf 2 Tryz.f71) (T71_2 (x0, x1, x2, x3)) (lc kp71 12 2 R K) = S_ref11_FromPlanes_2 fuel (x0, x1, x2, x3) (fun v => R (T71_2 v)) (E71_2 K) := by
  kernel_rfl
def B71_2 (fuel : Nat) : Ev.Blk := fun st K => match canonO (kp71 12) st with | some s => (match s with | ⟨[(q0, .c (.sl (.sl (.int .u8)) x0)), (q1, .c (.own q2)), (q3, .c (i6 x1)), (q4, .c (i6 x2))], [(q5, .vec q6 (.int .i64) x3 true)], q7, q8⟩ => bif qb [q0, q1, q2, q3, q4, q5, q6, q7, q8] [0, 4, 0, 5, 6, 0, 3, 1, 0] then iter (S_ref11_FromPlanes_2 fuel) fuel (x0, x1, x2, x3) (E71_2 K) else none | _ => none) | none => none
theorem B71_2_ok (fuel : Nat) (st : Ev.St) (K : KT) (r : Ans) (h : B71_2 fuel st K = some r) : evalCode tab (G71 fuel) J0 kp71 fuel (.block 2 (.loop (bodyOf 2 Tryz.f71))) st K = some r := by
  unfold B71_2 at h
  split at h
  · rename_i s hs
    split at h
    · skip
      obtain ⟨hb, h⟩ := cond_some' h
      cases qb_eq hb
      exact blk_loop (S := T71_2) (ks := E71_2) (step := S_ref11_FromPlanes_2 fuel) (v := (_, _, _, _)) (by kernel_rfl) (by kernel_rfl) (fun R K v => by obtain ⟨x0, x1, x2, x3⟩ := v; exact S71_2_ok fuel R K x0 x1 x2 x3) hs h
    · cases h
  · cases h
def S_ref11_FromPlanes_0 (fuel : Nat) (v : (List (List Int)) × Int × (List Int)) (c : ((List (List Int)) × Int × (List Int)) → Option Ans) (B : (Int × (List Int) → Option Ans) × ((List Int) → Option Ans)) : Option Ans := match v, B with | (x0, x1, x2), (ret, b) => bif decide (x1 < (↑x0.length : Int)) then bif decide ((0 : Int) ≤ x1 ∧ x1 < (↑x0.length : Int)) then bif (↑(List.length (x0.getD x1.toNat [])) : Int) != (↑x2.length : Int) then ret ((2 : Int), []) else (L_ref11_FromPlanes_2 fuel (x0, x1, (0 : Int), x2) (fun (ret2_0, ret2_1) => ret (ret2_0, ret2_1)) (fun (b2_0, b2_1, b2_2) => c (b2_0, i64.wrap (b2_1 + (1 : Int)), b2_2))) else none else b x2
def L_ref11_FromPlanes_0 (fuel : Nat) (v : (List (List Int)) × Int × (List Int)) (ret : (Int × (List Int) → Option Ans)) (b : ((List Int) → Option Ans)) : Option Ans := iter (S_ref11_FromPlanes_0 fuel) fuel v (ret, b)
def J71_0 (fuel : Nat) (i : Nat) : Option Ev.Blk := Ev.look i [(100002, B71_2 fuel)]
def T71_0 (v : (List LI) × Int × LI) : Ev.St := match v with | (x0, x1, x2) => ⟨[(0, .c (.sl (.sl (.int .u8)) x0)), (4, .c (.own 0)), (5, .c (i6 x1))], [(0, .vec 3 (.int .i64) x2 true)], 1, 0⟩
def E71_0 (K : KT) : (Int × LI → OA) × (LI → OA) := ((fun v => match v with | (x0, x1) => K .ret ⟨[(2, .c (.own 0)), (3, .c (i6 x0))], [(0, .vec 3 (.int .i64) x1 true)], 1, 0⟩), (fun v => match v with | x0 => K .normal ⟨[(4, .c (.own 0))], [(0, .vec 3 (.int .i64) x0 true)], 1, 0⟩))
theorem S71_0_ok (fuel : Nat) (R : Ev.St → OA) (K : KT) (x0 : (List LI)) (x1 : Int) (x2 : LI) : evalCode tab (G71 fuel) (J71_0 fuel) kp71 fuel (bodyOf 0 Tryz.f71) (T71_0 (x0, x1, x2)) (lc kp71 7 0 R K) = S_ref11_FromPlanes_0 fuel (x0, x1, x2) (fun v => R (T71_0 v)) (E71_0 K) := by
  kernel_rfl
def B71_0 (fuel : Nat) : Ev.Blk := fun st K => match canonO (kp71 7) st with | some s => (match s with | ⟨[(q0, .c (.sl (.sl (.int .u8)) x0)), (q1, .c (.own q2)), (q3, .c (i6 x1))], [(q4, .vec q5 (.int .i64) x2 true)], q6, q7⟩ => bif qb [q0, q1, q2, q3, q4, q5, q6, q7] [0, 4, 0, 5, 0, 3, 1, 0] then iter (S_ref11_FromPlanes_0 fuel) fuel (x0, x1, x2) (E71_0 K) else none | _ => none) | none => none
theorem B71_0_ok (fuel : Nat) (st : Ev.St) (K : KT) (r : Ans) (h : B71_0 fuel st K = some r) : evalCode tab (G71 fuel) (J71_0 fuel) kp71 fuel (.block 0 (.loop (bodyOf 0 Tryz.f71))) st K = some r := by
  unfold B71_0 at h
  split at h
  · rename_i s hs
    split at h
    · skip
      obtain ⟨hb, h⟩ := cond_some' h
      cases qb_eq hb
      exact blk_loop (S := T71_0) (ks := E71_0) (step := S_ref11_FromPlanes_0 fuel) (v := (_, _, _)) (by kernel_rfl) (by kernel_rfl) (fun R K v => by obtain ⟨x0, x1, x2⟩ := v; exact S71_0_ok fuel R K x0 x1 x2) hs h
    · cases h
  · cases h
def J71 (fuel : Nat) (i : Nat) : Option Ev.Blk := Ev.look i [(100002, B71_2 fuel), (100000, B71_0 fuel)]
def F_ref11_FromPlanes (fuel : Nat) (x0 : (List (List Int))) (k0 : (Int × (List Int)) → Option Ans) : Option Ans := bif decide ((↑x0.length : Int) > 8) then k0 (2, []) else bif (↑x0.length : Int) == 0 then k0 (0, []) else bif decide ((0 : Int) ≤ (0 : Int) ∧ (0 : Int) < (↑x0.length : Int)) then bif decide (0 ≤ (↑(List.length (x0.getD (Int.toNat 0) [])) : Int) ∧ (↑(List.length (x0.getD (Int.toNat 0) [])) : Int) = (↑(List.length (x0.getD (Int.toNat 0) [])) : Int) ∧ (↑(8 : Nat) : Int) * (↑(List.length (x0.getD (Int.toNat 0) [])) : Int) ≤ 281474976710656 ∧ (↑(List.length (x0.getD (Int.toNat 0) [])) : Int) ≤ 281474976710656) then (L_ref11_FromPlanes_0 fuel (x0, 0, List.replicate (↑(List.length (x0.getD (Int.toNat (0 : Int)) [])) : Int).toNat (0 : Int)) (fun (ret0_0, ret0_1) => k0 (ret0_0, ret0_1)) (fun b0_0 => k0 (0, b0_0))) else none else none
abbrev YF71 : Type := ((List LI)) → ((Int × LI) → Option Ans) → Option Ans
theorem F71_eq (fuel : Nat) (x0 : (List LI)) (k : Ev.Cont) : evalFn tab (G71 fuel) (J71 fuel) kp71 fuel Tryz.f71 [.c (.sl (.sl (.int .u8)) x0)] [] k = F_ref11_FromPlanes fuel x0 (fun r => match r with | (r0, r1) => k (.tup [(false, [.own 0]), (false, [i6 r0])], [.vec 3 (.int .i64) r1 true])) := by
  kernel_rfl
theorem hG71 (fuel : Nat) : GOK Tryz.prog (G71 fuel) :=
  gok_nil
theorem B71_2_blk (fuel : Nat) : BlkOK Tryz.prog Tryz.f71.ntmps (.block 2 (.loop (bodyOf 2 Tryz.f71))) (B71_2 fuel) := bo0 (hG71 fuel) (by kernel_rfl) (by kernel_rfl) (B71_2_ok fuel)
theorem B71_0_blk (fuel : Nat) : BlkOK Tryz.prog Tryz.f71.ntmps (.block 0 (.loop (bodyOf 0 Tryz.f71))) (B71_0 fuel) :=
  blk_of (blk_of_code tab_ok (hG71 fuel) mixed (J := J71_0 fuel) (kp := kp71) (fuel := fuel) (by kernel_rfl) (fun q hq => by
    rw [(by kernel_rfl : obl (J71_0 fuel) (.block 0 (.loop (bodyOf 0 Tryz.f71))) = [(.block 2 (.loop (bodyOf 2 Tryz.f71)), B71_2 fuel)])] at hq
    simp only [List.mem_cons, List.not_mem_nil, or_false] at hq
    subst hq
    · exact B71_2_blk fuel)) (B71_0_ok fuel)
def spg71 (F : YF71) : Ev.Spec := fun args objs k => match args, objs with | [.c (.sl (.sl (.int .u8)) x0)], [] => F x0 (fun r => match r with | (r0, r1) => k (.tup [(false, [.own 0]), (false, [i6 r0])], [.vec 3 (.int .i64) r1 true])) | _, _ => none
theorem ok71 (fuel : Nat) : FnOK Tryz.prog 71 (spg71 (F_ref11_FromPlanes fuel)) := by
  intro args objs kk r h
  unfold spg71 at h
  split at h
  · skip
    exact fo1 (hG71 fuel) Tryz.func71 rfl (B71_0_blk fuel) (by kernel_rfl) _ _ kk r ((F71_eq fuel _ kk).trans h)
  · cases h
end
end Go.Proofs.YtipdidpalcmlhaaGreat

