/- What the functions that ToneEncodes reaches do: their typed texts, each with the proof that the machine does it. No condition. -/
import Derived.Test.YtipdidpalcmlhaaGreatEvX
import Derived.Test.YtipdidpalcmlhaaGreatFsToneEncodes3
import Derived.Test.YtipdidpalcmlhaaGreatFsToneEncodes4
import Derived.Test.YtipdidpalcmlhaaGreatFsToneEncodes2
import Derived.Test.YtipdidpalcmlhaaGreatFsToneEncodes1
set_option linter.unusedVariables false
set_option linter.unusedSimpArgs false
set_option linter.unusedVariables false
set_option linter.unusedSimpArgs false
set_option maxRecDepth 100000
set_option maxHeartbeats 2000000
namespace Go.Proofs.YtipdidpalcmlhaaGreat
open Go Ev
open Go.IntKind (i64 u64 u8 i32 u32 u16)
noncomputable section
def kp44 (i : Nat) : Option (List Nat) := Ev.look i [(5, [1, 2, 3, 4, 8, 9, 28, 29]), (8, [1, 2, 3, 4, 8, 9, 11, 28, 29, 33, 34]), (100000, [8, 9]), (100002, [1, 2, 3, 4, 8, 9, 28, 29]), (400000, [8]), (400002, [8])]
def Gg44 (f105 : YF105) (f114 : YF114) (f : Nat) : Option Ev.Spec := Ev.look f [(105, spg105 f105), (114, spg114 f114)]
def G44 (fuel : Nat) : Nat → Option Ev.Spec := Gg44 (F_bitmap_New fuel) (F_tone_cell fuel)
abbrev V_tone_skipped_2 : Type := (List (Int × (Int × LI))) × Int × Int × Int × Int × Int × Int × Int × Int × Int × Int × Int × Int × Int × Int × Int × Bool × Int × Int × Int × Int × Int × LI × LI
abbrev W_tone_skipped_2 : Type := ((List (Int × (Int × LI))) × Int × Int × Int × Int × Int × Int × Int × Int × Int × Int × Int × Int × Bool × Int × Int × Int × Int × Int × LI × LI → OA)
def Sg_tone_skipped_2 (fuel : Nat) (f105 : YF105) (f114 : YF114) (x0 : (List (Int × (Int × LI)))) (x1 x2 : Int) (x3 x4 : Int) (x5 x6 : Int) (x7 x8 : Int) (x9 x10 : Int) (x11 x12 : Int) (x13 x14 x15 : Int) (x16 : Bool) (x17 x18 : Int) (x19 x20 x21 : Int) (x22 x23 : LI) (c : V_tone_skipped_2 → OA) (B : W_tone_skipped_2) : OA := match B with | b => bif decide (x7 < x6) then (f114 x8 x9 x10 x11 x12 x13 x14 x15 x16 x17 x3 x7 (fun (y3_0, y3_1) => bif decide (y3_0 ≥ x1) then bif decide (0 ≤ i64.wrap (i64.wrap (x3 * x8) + x7) ∧ i64.wrap (i64.wrap (x3 * x8) + x7) < (↑x23.length : Int)) then c (x0, x1, x2, x3, x4, x5, x6, i64.wrap (x7 + 1), x8, x9, x10, x11, x12, x13, x14, x15, x16, x17, x18, x19, x20, x21, x22, x23.set (i64.wrap (i64.wrap (x3 * x8) + x7)).toNat 1) else none else bif decide (y3_1 ≥ x2) then bif decide (0 ≤ i64.wrap (i64.wrap (x3 * x8) + x7) ∧ i64.wrap (i64.wrap (x3 * x8) + x7) < (↑x23.length : Int)) then c (x0, x1, x2, x3, x4, x5, x6, i64.wrap (x7 + 1), x8, x9, x10, x11, x12, x13, x14, x15, x16, x17, x18, x19, x20, x21, x22, x23.set (i64.wrap (i64.wrap (x3 * x8) + x7)).toNat 1) else none else bif decide ((0 : Int) ≤ (0 : Int) ∧ (0 : Int) < (↑x0.length : Int)) then bif decide (i64.wrap (y3_0 + (x0.getD (Int.toNat 0) (0, 0, [])).fst) ≤ 0) then bif decide (0 ≤ i64.wrap (i64.wrap (x3 * x8) + x7) ∧ i64.wrap (i64.wrap (x3 * x8) + x7) < (↑x23.length : Int)) then c (x0, x1, x2, x3, x4, x5, x6, i64.wrap (x7 + 1), x8, x9, x10, x11, x12, x13, x14, x15, x16, x17, x18, x19, x20, x21, x22, x23.set (i64.wrap (i64.wrap (x3 * x8) + x7)).toNat 1) else none else bif decide ((0 : Int) ≤ (0 : Int) ∧ (0 : Int) < (↑x0.length : Int)) then bif decide (i64.wrap (y3_1 + (x0.getD (Int.toNat 0) (0, 0, [])).snd.fst) ≤ 0) then bif decide (0 ≤ i64.wrap (i64.wrap (x3 * x8) + x7) ∧ i64.wrap (i64.wrap (x3 * x8) + x7) < (↑x23.length : Int)) then c (x0, x1, x2, x3, x4, x5, x6, i64.wrap (x7 + 1), x8, x9, x10, x11, x12, x13, x14, x15, x16, x17, x18, x19, x20, x21, x22, x23.set (i64.wrap (i64.wrap (x3 * x8) + x7)).toNat 1) else none else c (x0, x1, x2, x3, x4, x5, x6, i64.wrap (x7 + 1), x8, x9, x10, x11, x12, x13, x14, x15, x16, x17, x18, x19, x20, x21, x22, x23) else none else none)) else b (x0, x1, x2, x4, x5, x8, x9, x10, x11, x12, x13, x14, x15, x16, x17, x18, x19, x20, x21, x22, x23)
def S_tone_skipped_2 (fuel : Nat) (v : (List (Int × (Int × (List Int)))) × Int × Int × Int × Int × Int × Int × Int × Int × Int × Int × Int × Int × Int × Int × Int × Bool × Int × Int × Int × Int × Int × (List Int) × (List Int)) (c : ((List (Int × (Int × (List Int)))) × Int × Int × Int × Int × Int × Int × Int × Int × Int × Int × Int × Int × Int × Int × Int × Bool × Int × Int × Int × Int × Int × (List Int) × (List Int)) → Option Ans) (B : ((List (Int × (Int × (List Int)))) × Int × Int × Int × Int × Int × Int × Int × Int × Int × Int × Int × Int × Bool × Int × Int × Int × Int × Int × (List Int) × (List Int) → Option Ans)) : Option Ans := match v with | (x0, x1, x2, x3, x4, x5, x6, x7, x8, x9, x10, x11, x12, x13, x14, x15, x16, x17, x18, x19, x20, x21, x22, x23) => Sg_tone_skipped_2 fuel (F_bitmap_New fuel) (F_tone_cell fuel) x0 x1 x2 x3 x4 x5 x6 x7 x8 x9 x10 x11 x12 x13 x14 x15 x16 x17 x18 x19 x20 x21 x22 x23 c B
def L_tone_skipped_2 (fuel : Nat) (v : V_tone_skipped_2) (b : W_tone_skipped_2) : Option Ans := iter (S_tone_skipped_2 fuel) fuel v b
def T44_2 (v : V_tone_skipped_2) : Ev.St := match v with | (x0, x1, x2, x3, x4, x5, x6, x7, x8, x9, x10, x11, x12, x13, x14, x15, x16, x17, x18, x19, x20, x21, x22, x23) => ⟨[(1, .c (.sl (.pair (.int .i64) (.pair (.int .i64) (.sl (.int .u8)))) x0)), (2, .c (i6 x1)), (3, .c (i6 x2)), (4, .c (.ptr 0 0)), (8, .c (.ptr 1 0)), (9, .c (.ptr 2 0)), (11, .c (i6 x3)), (28, .c (i6 x4)), (29, .c (i6 x5)), (33, .c (i6 x6)), (34, .c (i6 x7))], [(0, .cells 23 [i6 x8, i6 x9, i6 x10, i6 x11, i6 x12, i6 x13, i6 x14, i6 x15, .bool x16, i6 x17]), (1, .cells 51 [i6 x18, i6 x19, .own 3]), (2, .cells 51 [i6 x20, i6 x21, .own 4]), (3, .vec 5 (.int .u8) x22 true), (4, .vec 5 (.int .u8) x23 true)], 5, 0⟩
def E44_2 (K : KT) : W_tone_skipped_2 := (fun v => match v with | (x0, x1, x2, x3, x4, x5, x6, x7, x8, x9, x10, x11, x12, x13, x14, x15, x16, x17, x18, x19, x20) => K .normal ⟨[(1, .c (.sl (.pair (.int .i64) (.pair (.int .i64) (.sl (.int .u8)))) x0)), (2, .c (i6 x1)), (3, .c (i6 x2)), (4, .c (.ptr 0 0)), (8, .c (.ptr 1 0)), (9, .c (.ptr 2 0)), (28, .c (i6 x3)), (29, .c (i6 x4))], [(0, .cells 23 [i6 x5, i6 x6, i6 x7, i6 x8, i6 x9, i6 x10, i6 x11, i6 x12, .bool x13, i6 x14]), (1, .cells 51 [i6 x15, i6 x16, .own 3]), (2, .cells 51 [i6 x17, i6 x18, .own 4]), (3, .vec 5 (.int .u8) x19 true), (4, .vec 5 (.int .u8) x20 true)], 5, 0⟩)
theorem S44_2_okg (fuel : Nat) (f105 : YF105) (f114 : YF114) (R : Ev.St → OA) (K : KT) (x0 : (List (Int × (Int × LI)))) (x1 x2 : Int) (x3 x4 : Int) (x5 x6 : Int) (x7 x8 : Int) (x9 x10 : Int) (x11 x12 : Int) (x13 x14 x15 : Int) (x16 : Bool) (x17 x18 : Int) (x19 x20 x21 : Int) (x22 x23 : LI) : evalCode tab (Gg44 f105 f114) J0 kp44 fuel (bodyOf 2 Tryz.f44) (T44_2 (x0, x1, x2, x3, x4, x5, x6, x7, x8, x9, x10, x11, x12, x13, x14, x15, x16, x17, x18, x19, x20, x21, x22, x23)) (lc kp44 8 2 R K) = Sg_tone_skipped_2 fuel f105 f114 x0 x1 x2 x3 x4 x5 x6 x7 x8 x9 x10 x11 x12 x13 x14 x15 x16 x17 x18 x19 x20 x21 x22 x23 (fun v => R (T44_2 v)) (E44_2 K) := by
  kernel_rfl
def B44_2 (fuel : Nat) : Ev.Blk := fun st K => match canonO (kp44 8) st with | some s => (match s with | ⟨[(q0, .c (.sl (.pair (.int .i64) (.pair (.int .i64) (.sl (.int .u8)))) x0)), (q1, .c (i6 x1)), (q2, .c (i6 x2)), (q3, .c (.ptr q4 q5)), (q6, .c (.ptr q7 q8)), (q9, .c (.ptr q10 q11)), (q12, .c (i6 x3)), (q13, .c (i6 x4)), (q14, .c (i6 x5)), (q15, .c (i6 x6)), (q16, .c (i6 x7))], [(q17, .cells q18 [i6 x8, i6 x9, i6 x10, i6 x11, i6 x12, i6 x13, i6 x14, i6 x15, .bool x16, i6 x17]), (q19, .cells q20 [i6 x18, i6 x19, .own q21]), (q22, .cells q23 [i6 x20, i6 x21, .own q24]), (q25, .vec q26 (.int .u8) x22 true), (q27, .vec q28 (.int .u8) x23 true)], q29, q30⟩ => bif qb [q0, q1, q2, q3, q4, q5, q6, q7, q8, q9, q10, q11, q12, q13, q14, q15, q16, q17, q18, q19, q20, q21, q22, q23, q24, q25, q26, q27, q28, q29, q30] [1, 2, 3, 4, 0, 0, 8, 1, 0, 9, 2, 0, 11, 28, 29, 33, 34, 0, 23, 1, 51, 3, 2, 51, 4, 3, 5, 4, 5, 5, 0] then iter (S_tone_skipped_2 fuel) fuel (x0, x1, x2, x3, x4, x5, x6, x7, x8, x9, x10, x11, x12, x13, x14, x15, x16, x17, x18, x19, x20, x21, x22, x23) (E44_2 K) else none | _ => none) | none => none
theorem B44_2_ok (fuel : Nat) (st : Ev.St) (K : KT) (r : Ans) (h : B44_2 fuel st K = some r) : evalCode tab (G44 fuel) J0 kp44 fuel (.block 2 (.loop (bodyOf 2 Tryz.f44))) st K = some r := by
  unfold B44_2 at h
  split at h
  · rename_i s hs
    split at h
    · skip
      obtain ⟨hb, h⟩ := cond_some' h
      cases qb_eq hb
      exact blk_loop (S := T44_2) (ks := E44_2) (step := S_tone_skipped_2 fuel) (v := (_, _, _, _, _, _, _, _, _, _, _, _, _, _, _, _, _, _, _, _, _, _, _, _)) (by kernel_rfl) (by kernel_rfl) (fun R K v => by obtain ⟨x0, x1, x2, x3, x4, x5, x6, x7, x8, x9, x10, x11, x12, x13, x14, x15, x16, x17, x18, x19, x20, x21, x22, x23⟩ := v; exact S44_2_okg fuel (F_bitmap_New fuel) (F_tone_cell fuel) R K x0 x1 x2 x3 x4 x5 x6 x7 x8 x9 x10 x11 x12 x13 x14 x15 x16 x17 x18 x19 x20 x21 x22 x23) hs h
    · cases h
  · cases h
abbrev V_tone_skipped_0 : Type := (List (Int × (Int × LI))) × Int × Int × Int × Int × Int × Int × Int × Int × Int × Int × Int × Int × Bool × Int × Int × Int × Int × Int × LI × LI
abbrev W_tone_skipped_0 : Type := (Int × Int × Int × Int × LI × LI → OA)
def Sg_tone_skipped_0 (fuel : Nat) (f105 : YF105) (f114 : YF114) (x0 : (List (Int × (Int × LI)))) (x1 x2 : Int) (x3 x4 : Int) (x5 x6 : Int) (x7 x8 : Int) (x9 x10 : Int) (x11 x12 : Int) (x13 : Bool) (x14 x15 : Int) (x16 x17 x18 : Int) (x19 x20 : LI) (c : V_tone_skipped_0 → OA) (B : W_tone_skipped_0) : OA := match B with | b => bif decide (x4 < x3) then (L_tone_skipped_2 fuel (x0, x1, x2, x4, x3, x4, x5, 0, x5, x6, x7, x8, x9, x10, x11, x12, x13, x14, x15, x16, x17, x18, x19, x20) (fun (b2_0, b2_1, b2_2, b2_3, b2_4, b2_5, b2_6, b2_7, b2_8, b2_9, b2_10, b2_11, b2_12, b2_13, b2_14, b2_15, b2_16, b2_17, b2_18, b2_19, b2_20) => c (b2_0, b2_1, b2_2, b2_3, i64.wrap (b2_4 + 1), b2_5, b2_6, b2_7, b2_8, b2_9, b2_10, b2_11, b2_12, b2_13, b2_14, b2_15, b2_16, b2_17, b2_18, b2_19, b2_20))) else b (x15, x16, x17, x18, x19, x20)
def S_tone_skipped_0 (fuel : Nat) (v : (List (Int × (Int × (List Int)))) × Int × Int × Int × Int × Int × Int × Int × Int × Int × Int × Int × Int × Bool × Int × Int × Int × Int × Int × (List Int) × (List Int)) (c : ((List (Int × (Int × (List Int)))) × Int × Int × Int × Int × Int × Int × Int × Int × Int × Int × Int × Int × Bool × Int × Int × Int × Int × Int × (List Int) × (List Int)) → Option Ans) (B : (Int × Int × Int × Int × (List Int) × (List Int) → Option Ans)) : Option Ans := match v with | (x0, x1, x2, x3, x4, x5, x6, x7, x8, x9, x10, x11, x12, x13, x14, x15, x16, x17, x18, x19, x20) => Sg_tone_skipped_0 fuel (F_bitmap_New fuel) (F_tone_cell fuel) x0 x1 x2 x3 x4 x5 x6 x7 x8 x9 x10 x11 x12 x13 x14 x15 x16 x17 x18 x19 x20 c B
def L_tone_skipped_0 (fuel : Nat) (v : V_tone_skipped_0) (b : W_tone_skipped_0) : Option Ans := iter (S_tone_skipped_0 fuel) fuel v b
def J44_0 (fuel : Nat) (i : Nat) : Option Ev.Blk := Ev.look i [(100002, B44_2 fuel)]
def T44_0 (v : V_tone_skipped_0) : Ev.St := match v with | (x0, x1, x2, x3, x4, x5, x6, x7, x8, x9, x10, x11, x12, x13, x14, x15, x16, x17, x18, x19, x20) => ⟨[(1, .c (.sl (.pair (.int .i64) (.pair (.int .i64) (.sl (.int .u8)))) x0)), (2, .c (i6 x1)), (3, .c (i6 x2)), (4, .c (.ptr 0 0)), (8, .c (.ptr 1 0)), (9, .c (.ptr 2 0)), (28, .c (i6 x3)), (29, .c (i6 x4))], [(0, .cells 23 [i6 x5, i6 x6, i6 x7, i6 x8, i6 x9, i6 x10, i6 x11, i6 x12, .bool x13, i6 x14]), (1, .cells 51 [i6 x15, i6 x16, .own 3]), (2, .cells 51 [i6 x17, i6 x18, .own 4]), (3, .vec 5 (.int .u8) x19 true), (4, .vec 5 (.int .u8) x20 true)], 5, 0⟩
def E44_0 (K : KT) : W_tone_skipped_0 := (fun v => match v with | (x0, x1, x2, x3, x4, x5) => K .normal ⟨[(8, .c (.ptr 0 0)), (9, .c (.ptr 1 0))], [(0, .cells 51 [i6 x0, i6 x1, .own 2]), (1, .cells 51 [i6 x2, i6 x3, .own 3]), (2, .vec 5 (.int .u8) x4 true), (3, .vec 5 (.int .u8) x5 true)], 4, 0⟩)
theorem S44_0_okg (fuel : Nat) (f105 : YF105) (f114 : YF114) (R : Ev.St → OA) (K : KT) (x0 : (List (Int × (Int × LI)))) (x1 x2 : Int) (x3 x4 : Int) (x5 x6 : Int) (x7 x8 : Int) (x9 x10 : Int) (x11 x12 : Int) (x13 : Bool) (x14 x15 : Int) (x16 x17 x18 : Int) (x19 x20 : LI) : evalCode tab (Gg44 f105 f114) (J44_0 fuel) kp44 fuel (bodyOf 0 Tryz.f44) (T44_0 (x0, x1, x2, x3, x4, x5, x6, x7, x8, x9, x10, x11, x12, x13, x14, x15, x16, x17, x18, x19, x20)) (lc kp44 5 0 R K) = Sg_tone_skipped_0 fuel f105 f114 x0 x1 x2 x3 x4 x5 x6 x7 x8 x9 x10 x11 x12 x13 x14 x15 x16 x17 x18 x19 x20 (fun v => R (T44_0 v)) (E44_0 K) := by
  kernel_rfl
def B44_0 (fuel : Nat) : Ev.Blk := fun st K => match canonO (kp44 5) st with | some s => (match s with | ⟨[(q0, .c (.sl (.pair (.int .i64) (.pair (.int .i64) (.sl (.int .u8)))) x0)), (q1, .c (i6 x1)), (q2, .c (i6 x2)), (q3, .c (.ptr q4 q5)), (q6, .c (.ptr q7 q8)), (q9, .c (.ptr q10 q11)), (q12, .c (i6 x3)), (q13, .c (i6 x4))], [(q14, .cells q15 [i6 x5, i6 x6, i6 x7, i6 x8, i6 x9, i6 x10, i6 x11, i6 x12, .bool x13, i6 x14]), (q16, .cells q17 [i6 x15, i6 x16, .own q18]), (q19, .cells q20 [i6 x17, i6 x18, .own q21]), (q22, .vec q23 (.int .u8) x19 true), (q24, .vec q25 (.int .u8) x20 true)], q26, q27⟩ => bif qb [q0, q1, q2, q3, q4, q5, q6, q7, q8, q9, q10, q11, q12, q13, q14, q15, q16, q17, q18, q19, q20, q21, q22, q23, q24, q25, q26, q27] [1, 2, 3, 4, 0, 0, 8, 1, 0, 9, 2, 0, 28, 29, 0, 23, 1, 51, 3, 2, 51, 4, 3, 5, 4, 5, 5, 0] then iter (S_tone_skipped_0 fuel) fuel (x0, x1, x2, x3, x4, x5, x6, x7, x8, x9, x10, x11, x12, x13, x14, x15, x16, x17, x18, x19, x20) (E44_0 K) else none | _ => none) | none => none
theorem B44_0_ok (fuel : Nat) (st : Ev.St) (K : KT) (r : Ans) (h : B44_0 fuel st K = some r) : evalCode tab (G44 fuel) (J44_0 fuel) kp44 fuel (.block 0 (.loop (bodyOf 0 Tryz.f44))) st K = some r := by
  unfold B44_0 at h
  split at h
  · rename_i s hs
    split at h
    · skip
      obtain ⟨hb, h⟩ := cond_some' h
      cases qb_eq hb
      exact blk_loop (S := T44_0) (ks := E44_0) (step := S_tone_skipped_0 fuel) (v := (_, _, _, _, _, _, _, _, _, _, _, _, _, _, _, _, _, _, _, _, _)) (by kernel_rfl) (by kernel_rfl) (fun R K v => by obtain ⟨x0, x1, x2, x3, x4, x5, x6, x7, x8, x9, x10, x11, x12, x13, x14, x15, x16, x17, x18, x19, x20⟩ := v; exact S44_0_okg fuel (F_bitmap_New fuel) (F_tone_cell fuel) R K x0 x1 x2 x3 x4 x5 x6 x7 x8 x9 x10 x11 x12 x13 x14 x15 x16 x17 x18 x19 x20) hs h
    · cases h
  · cases h
def J44 (fuel : Nat) (i : Nat) : Option Ev.Blk := Ev.look i [(100002, B44_2 fuel), (100000, B44_0 fuel)]
def Fg_tone_skipped (fuel : Nat) (f105 : YF105) (f114 : YF114) (x0 x1 : Int) (x2 x3 : Int) (x4 x5 : Int) (x6 x7 : Int) (x8 : Bool) (x9 : Int) (x10 : (List (Int × Int × LI))) (x11 x12 : Int) (k0 : (Int × Int × LI) → OA) : OA := (f105 x0 x1 (0) (fun (y2_0, y2_1, y2_2, y2_3) => bif !x8 then k0 (y2_0, y2_1, y2_3) else (L_tone_skipped_0 fuel (x10, x11, x12, x1, 0, x0, x1, x2, x3, x4, x5, x6, x7, x8, x9, 0, 0, y2_0, y2_1, [], y2_3) (fun (b0_0, b0_1, b0_2, b0_3, b0_4, b0_5) => k0 (b0_2, b0_3, b0_5)))))
abbrev YF44 : Type := Int → Int → Int → Int → Int → Int → Int → Int → Bool → Int → ((List (Int × Int × LI))) → Int → Int → ((Int × Int × LI) → Option Ans) → Option Ans
def F_tone_skipped (fuel : Nat) : YF44 := Fg_tone_skipped fuel (F_bitmap_New fuel) (F_tone_cell fuel)
theorem F44_eqg (fuel : Nat) (f105 : YF105) (f114 : YF114) (x0 x1 : Int) (x2 x3 : Int) (x4 x5 : Int) (x6 x7 : Int) (x8 : Bool) (x9 : Int) (x10 : (List (Int × Int × LI))) (x11 x12 : Int) (k : Ev.Cont) : evalFn tab (Gg44 f105 f114) (J44 fuel) kp44 fuel Tryz.f44 [.agg [i6 x0, i6 x1, i6 x2, i6 x3, i6 x4, i6 x5, i6 x6, i6 x7, .bool x8, i6 x9], .c (.sl (.pair (.int .i64) (.pair (.int .i64) (.sl (.int .u8)))) x10), .c (i6 x11), .c (i6 x12)] [] k = Fg_tone_skipped fuel f105 f114 x0 x1 x2 x3 x4 x5 x6 x7 x8 x9 x10 x11 x12 (fun r => match r with | (r0, r1, r2) => k (.agg [i6 r0, i6 r1, .own 0], [.vec 5 (.int .u8) r2 true])) := by
  kernel_rfl
theorem hG44 (fuel : Nat) : GOK Tryz.prog (G44 fuel) :=
  gc (ok105 fuel) Tryz.func105 (by kernel_rfl) rfl <|
  gc (ok114 fuel) Tryz.func114 (by kernel_rfl) rfl <|
  gok_nil
theorem B44_2_blk (fuel : Nat) : BlkOK Tryz.prog Tryz.f44.ntmps (.block 2 (.loop (bodyOf 2 Tryz.f44))) (B44_2 fuel) := bo0 (hG44 fuel) (by kernel_rfl) (by kernel_rfl) (B44_2_ok fuel)
theorem B44_0_blk (fuel : Nat) : BlkOK Tryz.prog Tryz.f44.ntmps (.block 0 (.loop (bodyOf 0 Tryz.f44))) (B44_0 fuel) :=
  blk_of (blk_of_code tab_ok (hG44 fuel) mixed (J := J44_0 fuel) (kp := kp44) (fuel := fuel) (by kernel_rfl) (fun q hq => by
    rw [(by kernel_rfl : obl (J44_0 fuel) (.block 0 (.loop (bodyOf 0 Tryz.f44))) = [(.block 2 (.loop (bodyOf 2 Tryz.f44)), B44_2 fuel)])] at hq
    simp only [List.mem_cons, List.not_mem_nil, or_false] at hq
    subst hq
    · exact B44_2_blk fuel)) (B44_0_ok fuel)
def spg44 (F : YF44) : Ev.Spec := fun args objs k => match args, objs with | [.agg [i6 x0, i6 x1, i6 x2, i6 x3, i6 x4, i6 x5, i6 x6, i6 x7, .bool x8, i6 x9], .c (.sl (.pair (.int .i64) (.pair (.int .i64) (.sl (.int .u8)))) x10), .c (i6 x11), .c (i6 x12)], [] => F x0 x1 x2 x3 x4 x5 x6 x7 x8 x9 x10 x11 x12 (fun r => match r with | (r0, r1, r2) => k (.agg [i6 r0, i6 r1, .own 0], [.vec 5 (.int .u8) r2 true])) | _, _ => none
theorem ok44 (fuel : Nat) : FnOK Tryz.prog 44 (spg44 (F_tone_skipped fuel)) := by
  intro args objs kk r h
  unfold spg44 at h
  split at h
  · skip
    exact fo1 (hG44 fuel) Tryz.func44 rfl (B44_0_blk fuel) (by kernel_rfl) _ _ kk r ((F44_eqg fuel (F_bitmap_New fuel) (F_tone_cell fuel) _ _ _ _ _ _ _ _ _ _ _ _ _ kk).trans h)
  · cases h
def kp18 (i : Nat) : Option (List Nat) := Ev.look i [(11, [1, 5, 13, 18, 20, 21, 61, 62]), (21, [1, 5, 20, 24, 104, 105]), (100000, [1, 5, 20, 21]), (100002, [1, 5, 20, 24]), (400000, [10, 11]), (400002, [10, 11])]
def Gg18 (f43 : YF43) (f44 : YF44) (f45 : YF45) (f46 : YF46) (f47 : YF47) (f48 : YF48) (f50 : YF50) (f65 : YF65) (f66_fd3 : YF66_fd3) (f67 : YF67) (f : Nat) : Option Ev.Spec := Ev.look f [(43, spg43 f43), (44, spg44 f44), (45, spg45 f45), (46, spg46 f46), (47, spg47 f47), (48, spg48 f48), (50, spg50 f50), (65, spg65 f65), (66, spg66_fd3 f66_fd3), (67, spg67 f67)]
def G18 (fuel : Nat) : Nat → Option Ev.Spec := Gg18 (F_tone_begun fuel) (F_tone_skipped fuel) (F_tone_rightValues fuel) (F_tone_options fuel) (F_generic_Size fuel) (F_coder_New fuel) (F_number_Width fuel) (F_coder_NewDecoder fuel) (F_generic_Get_fd3 fuel) (F_tone_FromPlanes fuel)
abbrev V_tone_Decode_0 : Type := (List (Int × (Int × LI))) × Int × Int × Int × Int × Int × Int × Int × Int × Int × Int × Bool × Int × Int × Int × Int × Bool × Int × Int × Int × Int × Int × Int × Int × Bool × Bool × Int × Int × (List LI) × LI × LI × LI
abbrev W_tone_Decode_0 : Type := (Int × LI → OA) × ((List (Int × (Int × LI))) × Int × Int × Int × Int × Int × Int × Int × Int × Bool × Int × Int × Int × (List LI) × LI → OA)
def Sg_tone_Decode_0 (fuel : Nat) (f43 : YF43) (f44 : YF44) (f45 : YF45) (f46 : YF46) (f47 : YF47) (f48 : YF48) (f50 : YF50) (f65 : YF65) (f66_fd3 : YF66_fd3) (f67 : YF67) (x0 : (List (Int × (Int × LI)))) (x1 x2 : Int) (x3 x4 : Int) (x5 x6 : Int) (x7 x8 : Int) (x9 x10 : Int) (x11 : Bool) (x12 x13 : Int) (x14 x15 : Int) (x16 : Bool) (x17 x18 : Int) (x19 x20 : Int) (x21 x22 x23 : Int) (x24 x25 : Bool) (x26 x27 : Int) (x28 : (List LI)) (x29 x30 x31 : LI) (c : V_tone_Decode_0 → OA) (B : W_tone_Decode_0) : OA := match B with | (ret, b) => bif decide (x2 < x1) then (f66_fd3 (0) x13 x14 x15 x16 x17 x3 x4 x26 x27 x31 x18 x19 x20 x21 x22 x23 x24 x25 x29 x30 (fun (y3_0, y3_1, y3_2, y3_3, y3_4, y3_5, y3_6, y3_7, y3_8, y3_9, y3_10, y3_11, y3_12, y3_13) => bif y3_2 != 0 then ret (y3_2, []) else bif decide ((x28.length + [y3_13].length) * (24 : Nat) ≤ (140737488355328 : Nat) ∧ x28.length + [y3_13].length ≤ (140737488355328 : Nat)) then c (x0, x1, i64.wrap (x2 + (1 : Int)), x3, x4, x5, x6, x7, x8, x9, x10, x11, x12, x13, x14, x15, x16, x17, y3_3, y3_4, y3_5, y3_6, y3_7, y3_8, y3_9, y3_10, x26, x27, x28 ++ [y3_13], y3_11, y3_12, x31) else none)) else b (x0, x3, x4, x5, x6, x7, x8, x9, x10, x11, x12, x26, x27, x28, x31)
def S_tone_Decode_0 (fuel : Nat) (v : (List (Int × (Int × (List Int)))) × Int × Int × Int × Int × Int × Int × Int × Int × Int × Int × Bool × Int × Int × Int × Int × Bool × Int × Int × Int × Int × Int × Int × Int × Bool × Bool × Int × Int × (List (List Int)) × (List Int) × (List Int) × (List Int)) (c : ((List (Int × (Int × (List Int)))) × Int × Int × Int × Int × Int × Int × Int × Int × Int × Int × Bool × Int × Int × Int × Int × Bool × Int × Int × Int × Int × Int × Int × Int × Bool × Bool × Int × Int × (List (List Int)) × (List Int) × (List Int) × (List Int)) → Option Ans) (B : (Int × (List Int) → Option Ans) × ((List (Int × (Int × (List Int)))) × Int × Int × Int × Int × Int × Int × Int × Int × Bool × Int × Int × Int × (List (List Int)) × (List Int) → Option Ans)) : Option Ans := match v with | (x0, x1, x2, x3, x4, x5, x6, x7, x8, x9, x10, x11, x12, x13, x14, x15, x16, x17, x18, x19, x20, x21, x22, x23, x24, x25, x26, x27, x28, x29, x30, x31) => Sg_tone_Decode_0 fuel (F_tone_begun fuel) (F_tone_skipped fuel) (F_tone_rightValues fuel) (F_tone_options fuel) (F_generic_Size fuel) (F_coder_New fuel) (F_number_Width fuel) (F_coder_NewDecoder fuel) (F_generic_Get_fd3 fuel) (F_tone_FromPlanes fuel) x0 x1 x2 x3 x4 x5 x6 x7 x8 x9 x10 x11 x12 x13 x14 x15 x16 x17 x18 x19 x20 x21 x22 x23 x24 x25 x26 x27 x28 x29 x30 x31 c B
def L_tone_Decode_0 (fuel : Nat) (v : V_tone_Decode_0) (ret : (Int × (List Int) → Option Ans)) (b : ((List (Int × (Int × (List Int)))) × Int × Int × Int × Int × Int × Int × Int × Int × Bool × Int × Int × Int × (List (List Int)) × (List Int) → Option Ans)) : Option Ans := iter (S_tone_Decode_0 fuel) fuel v (ret, b)
def T18_0 (v : V_tone_Decode_0) : Ev.St := match v with | (x0, x1, x2, x3, x4, x5, x6, x7, x8, x9, x10, x11, x12, x13, x14, x15, x16, x17, x18, x19, x20, x21, x22, x23, x24, x25, x26, x27, x28, x29, x30, x31) => ⟨[(1, .c (.sl (.pair (.int .i64) (.pair (.int .i64) (.sl (.int .u8)))) x0)), (5, .c (.ptr 0 0)), (13, .c (.ptr 1 0)), (18, .c (.ptr 2 0)), (20, .c (.ptr 3 0)), (21, .c (.own 4)), (61, .c (i6 x1)), (62, .c (i6 x2))], [(0, .cells 23 [i6 x3, i6 x4, i6 x5, i6 x6, i6 x7, i6 x8, i6 x9, i6 x10, .bool x11, i6 x12]), (1, .cells 78 [i6 x13, i6 x14, i6 x15, .bool x16, i6 x17]), (2, .cells 194 (i6 x18 :: .own 5 :: ctb (.int .u64 x19 :: .int .u64 x20 :: .own 6 :: i6 x21 :: .int .u64 x22 :: i6 x23 :: .bool x24 :: .bool x25 :: []))), (3, .cells 51 [i6 x26, i6 x27, .own 7]), (4, .vec 30 (.sl (.int .u8)) x28 true), (5, .vec 3 (.int .i64) x29 true), (6, .vec 5 (.int .u8) x30 true), (7, .vec 5 (.int .u8) x31 true)], 8, 0⟩
def E18_0 (K : KT) : W_tone_Decode_0 := ((fun v => match v with | (x0, x1) => K .ret ⟨[(10, .c (.own 0)), (11, .c (i6 x0))], [(0, .vec 3 (.int .i64) x1 true)], 1, 0⟩), (fun v => match v with | (x0, x1, x2, x3, x4, x5, x6, x7, x8, x9, x10, x11, x12, x13, x14) => K .normal ⟨[(1, .c (.sl (.pair (.int .i64) (.pair (.int .i64) (.sl (.int .u8)))) x0)), (5, .c (.ptr 0 0)), (20, .c (.ptr 1 0)), (21, .c (.own 2))], [(0, .cells 23 [i6 x1, i6 x2, i6 x3, i6 x4, i6 x5, i6 x6, i6 x7, i6 x8, .bool x9, i6 x10]), (1, .cells 51 [i6 x11, i6 x12, .own 3]), (2, .vec 30 (.sl (.int .u8)) x13 true), (3, .vec 5 (.int .u8) x14 true)], 4, 0⟩))
theorem S18_0_okg (fuel : Nat) (f43 : YF43) (f44 : YF44) (f45 : YF45) (f46 : YF46) (f47 : YF47) (f48 : YF48) (f50 : YF50) (f65 : YF65) (f66_fd3 : YF66_fd3) (f67 : YF67) (R : Ev.St → OA) (K : KT) (x0 : (List (Int × (Int × LI)))) (x1 x2 : Int) (x3 x4 : Int) (x5 x6 : Int) (x7 x8 : Int) (x9 x10 : Int) (x11 : Bool) (x12 x13 : Int) (x14 x15 : Int) (x16 : Bool) (x17 x18 : Int) (x19 x20 : Int) (x21 x22 x23 : Int) (x24 x25 : Bool) (x26 x27 : Int) (x28 : (List LI)) (x29 x30 x31 : LI) : evalCode tab (Gg18 f43 f44 f45 f46 f47 f48 f50 f65 f66_fd3 f67) J0 kp18 fuel (bodyOf 0 Tryz.f18) (T18_0 (x0, x1, x2, x3, x4, x5, x6, x7, x8, x9, x10, x11, x12, x13, x14, x15, x16, x17, x18, x19, x20, x21, x22, x23, x24, x25, x26, x27, x28, x29, x30, x31)) (lc kp18 11 0 R K) = Sg_tone_Decode_0 fuel f43 f44 f45 f46 f47 f48 f50 f65 f66_fd3 f67 x0 x1 x2 x3 x4 x5 x6 x7 x8 x9 x10 x11 x12 x13 x14 x15 x16 x17 x18 x19 x20 x21 x22 x23 x24 x25 x26 x27 x28 x29 x30 x31 (fun v => R (T18_0 v)) (E18_0 K) := by
  kernel_rfl
def B18_0 (fuel : Nat) : Ev.Blk := fun st K => match canonO (kp18 11) st with | some s => (match s with | ⟨[(q0, .c (.sl (.pair (.int .i64) (.pair (.int .i64) (.sl (.int .u8)))) x0)), (q1, .c (.ptr q2 q3)), (q4, .c (.ptr q5 q6)), (q7, .c (.ptr q8 q9)), (q10, .c (.ptr q11 q12)), (q13, .c (.own q14)), (q15, .c (i6 x1)), (q16, .c (i6 x2))], [(q17, .cells q18 [i6 x3, i6 x4, i6 x5, i6 x6, i6 x7, i6 x8, i6 x9, i6 x10, .bool x11, i6 x12]), (q19, .cells q20 [i6 x13, i6 x14, i6 x15, .bool x16, i6 x17]), (q21, .cells q22 cs0), (q23, .cells q24 [i6 x26, i6 x27, .own q25]), (q26, .vec q27 (.sl (.int .u8)) x28 true), (q28, .vec q29 (.int .i64) x29 true), (q30, .vec q31 (.int .u8) x30 true), (q32, .vec q33 (.int .u8) x31 true)], q34, q35⟩ => (match splitRun 2 ctn cs0 with | some ([i6 x18, .own q36], [.int .u64 x19, .int .u64 x20, .own q37, i6 x21, .int .u64 x22, i6 x23, .bool x24, .bool x25]) => bif qb [q0, q1, q2, q3, q4, q5, q6, q7, q8, q9, q10, q11, q12, q13, q14, q15, q16, q17, q18, q19, q20, q21, q22, q23, q24, q25, q26, q27, q28, q29, q30, q31, q32, q33, q34, q35, q36, q37] [1, 5, 0, 0, 13, 1, 0, 18, 2, 0, 20, 3, 0, 21, 4, 61, 62, 0, 23, 1, 78, 2, 194, 3, 51, 7, 4, 30, 5, 3, 6, 5, 7, 5, 8, 0, 5, 6] then iter (S_tone_Decode_0 fuel) fuel (x0, x1, x2, x3, x4, x5, x6, x7, x8, x9, x10, x11, x12, x13, x14, x15, x16, x17, x18, x19, x20, x21, x22, x23, x24, x25, x26, x27, x28, x29, x30, x31) (E18_0 K) else none | _ => none) | _ => none) | none => none
theorem B18_0_ok (fuel : Nat) (st : Ev.St) (K : KT) (r : Ans) (h : B18_0 fuel st K = some r) : evalCode tab (G18 fuel) J0 kp18 fuel (.block 0 (.loop (bodyOf 0 Tryz.f18))) st K = some r := by
  unfold B18_0 at h
  split at h
  · rename_i s hs
    split at h
    · skip
      split at h
      rotate_left 1
      · cases h
      rename_i hsp
      have esp := splitRun_eq hsp
      subst esp
      obtain ⟨hb, h⟩ := cond_some' h
      cases qb_eq hb
      exact blk_loop (S := T18_0) (ks := E18_0) (step := S_tone_Decode_0 fuel) (v := (_, _, _, _, _, _, _, _, _, _, _, _, _, _, _, _, _, _, _, _, _, _, _, _, _, _, _, _, _, _, _, _)) (by kernel_rfl) (by kernel_rfl) (fun R K v => by obtain ⟨x0, x1, x2, x3, x4, x5, x6, x7, x8, x9, x10, x11, x12, x13, x14, x15, x16, x17, x18, x19, x20, x21, x22, x23, x24, x25, x26, x27, x28, x29, x30, x31⟩ := v; exact S18_0_okg fuel (F_tone_begun fuel) (F_tone_skipped fuel) (F_tone_rightValues fuel) (F_tone_options fuel) (F_generic_Size fuel) (F_coder_New fuel) (F_number_Width fuel) (F_coder_NewDecoder fuel) (F_generic_Get_fd3 fuel) (F_tone_FromPlanes fuel) R K x0 x1 x2 x3 x4 x5 x6 x7 x8 x9 x10 x11 x12 x13 x14 x15 x16 x17 x18 x19 x20 x21 x22 x23 x24 x25 x26 x27 x28 x29 x30 x31) hs h
    · cases h
  · cases h
abbrev V_tone_Decode_2 : Type := (List (Int × (Int × LI))) × Int × Int × Int × Int × Int × Int × Int × Int × Int × Int × Bool × Int × Int × Int × LI × LI
abbrev W_tone_Decode_2 : Type := ((List (Int × (Int × LI))) × Int × Int × Int × Int × Int × Int × Int × Int × Bool × Int × Int × Int × LI × LI → OA)
def Sg_tone_Decode_2 (fuel : Nat) (f43 : YF43) (f44 : YF44) (f45 : YF45) (f46 : YF46) (f47 : YF47) (f48 : YF48) (f50 : YF50) (f65 : YF65) (f66_fd3 : YF66_fd3) (f67 : YF67) (x0 : (List (Int × (Int × LI)))) (x1 x2 : Int) (x3 x4 : Int) (x5 x6 : Int) (x7 x8 : Int) (x9 x10 : Int) (x11 : Bool) (x12 x13 x14 : Int) (x15 x16 : LI) (c : V_tone_Decode_2 → OA) (B : W_tone_Decode_2) : OA := match B with | b => bif decide (x2 < x1) then bif decide (0 ≤ x2 ∧ x2 < (↑x16.length : Int)) then bif x16.getD x2.toNat (0 : Int) == (1 : Int) then bif decide (0 ≤ x2 ∧ x2 < (↑x15.length : Int)) then c (x0, x1, i64.wrap (x2 + 1), x3, x4, x5, x6, x7, x8, x9, x10, x11, x12, x13, x14, x15.set x2.toNat 0, x16) else none else c (x0, x1, i64.wrap (x2 + 1), x3, x4, x5, x6, x7, x8, x9, x10, x11, x12, x13, x14, x15, x16) else none else b (x0, x3, x4, x5, x6, x7, x8, x9, x10, x11, x12, x13, x14, x15, x16)
def S_tone_Decode_2 (fuel : Nat) (v : (List (Int × (Int × (List Int)))) × Int × Int × Int × Int × Int × Int × Int × Int × Int × Int × Bool × Int × Int × Int × (List Int) × (List Int)) (c : ((List (Int × (Int × (List Int)))) × Int × Int × Int × Int × Int × Int × Int × Int × Int × Int × Bool × Int × Int × Int × (List Int) × (List Int)) → Option Ans) (B : ((List (Int × (Int × (List Int)))) × Int × Int × Int × Int × Int × Int × Int × Int × Bool × Int × Int × Int × (List Int) × (List Int) → Option Ans)) : Option Ans := match v with | (x0, x1, x2, x3, x4, x5, x6, x7, x8, x9, x10, x11, x12, x13, x14, x15, x16) => Sg_tone_Decode_2 fuel (F_tone_begun fuel) (F_tone_skipped fuel) (F_tone_rightValues fuel) (F_tone_options fuel) (F_generic_Size fuel) (F_coder_New fuel) (F_number_Width fuel) (F_coder_NewDecoder fuel) (F_generic_Get_fd3 fuel) (F_tone_FromPlanes fuel) x0 x1 x2 x3 x4 x5 x6 x7 x8 x9 x10 x11 x12 x13 x14 x15 x16 c B
def L_tone_Decode_2 (fuel : Nat) (v : V_tone_Decode_2) (b : W_tone_Decode_2) : Option Ans := iter (S_tone_Decode_2 fuel) fuel v b
def J18_2 (fuel : Nat) (i : Nat) : Option Ev.Blk := Ev.look i [(100000, B18_0 fuel)]
def T18_2 (v : V_tone_Decode_2) : Ev.St := match v with | (x0, x1, x2, x3, x4, x5, x6, x7, x8, x9, x10, x11, x12, x13, x14, x15, x16) => ⟨[(1, .c (.sl (.pair (.int .i64) (.pair (.int .i64) (.sl (.int .u8)))) x0)), (5, .c (.ptr 0 0)), (20, .c (.ptr 1 0)), (24, .c (.own 2)), (104, .c (i6 x1)), (105, .c (i6 x2))], [(0, .cells 23 [i6 x3, i6 x4, i6 x5, i6 x6, i6 x7, i6 x8, i6 x9, i6 x10, .bool x11, i6 x12]), (1, .cells 51 [i6 x13, i6 x14, .own 3]), (2, .vec 3 (.int .i64) x15 true), (3, .vec 5 (.int .u8) x16 true)], 4, 0⟩
def E18_2 (K : KT) : W_tone_Decode_2 := (fun v => match v with | (x0, x1, x2, x3, x4, x5, x6, x7, x8, x9, x10, x11, x12, x13, x14) => K .normal ⟨[(1, .c (.sl (.pair (.int .i64) (.pair (.int .i64) (.sl (.int .u8)))) x0)), (5, .c (.ptr 0 0)), (20, .c (.ptr 1 0)), (24, .c (.own 2))], [(0, .cells 23 [i6 x1, i6 x2, i6 x3, i6 x4, i6 x5, i6 x6, i6 x7, i6 x8, .bool x9, i6 x10]), (1, .cells 51 [i6 x11, i6 x12, .own 3]), (2, .vec 3 (.int .i64) x13 true), (3, .vec 5 (.int .u8) x14 true)], 4, 0⟩)
theorem S18_2_okg (fuel : Nat) (f43 : YF43) (f44 : YF44) (f45 : YF45) (f46 : YF46) (f47 : YF47) (f48 : YF48) (f50 : YF50) (f65 : YF65) (f66_fd3 : YF66_fd3) (f67 : YF67) (R : Ev.St → OA) (K : KT) (x0 : (List (Int × (Int × LI)))) (x1 x2 : Int) (x3 x4 : Int) (x5 x6 : Int) (x7 x8 : Int) (x9 x10 : Int) (x11 : Bool) (x12 x13 x14 : Int) (x15 x16 : LI) : evalCode tab (Gg18 f43 f44 f45 f46 f47 f48 f50 f65 f66_fd3 f67) (J18_2 fuel) kp18 fuel (bodyOf 2 Tryz.f18) (T18_2 (x0, x1, x2, x3, x4, x5, x6, x7, x8, x9, x10, x11, x12, x13, x14, x15, x16)) (lc kp18 21 2 R K) = Sg_tone_Decode_2 fuel f43 f44 f45 f46 f47 f48 f50 f65 f66_fd3 f67 x0 x1 x2 x3 x4 x5 x6 x7 x8 x9 x10 x11 x12 x13 x14 x15 x16 (fun v => R (T18_2 v)) (E18_2 K) := by
  kernel_rfl
def B18_2 (fuel : Nat) : Ev.Blk := fun st K => match canonO (kp18 21) st with | some s => (match s with | ⟨[(q0, .c (.sl (.pair (.int .i64) (.pair (.int .i64) (.sl (.int .u8)))) x0)), (q1, .c (.ptr q2 q3)), (q4, .c (.ptr q5 q6)), (q7, .c (.own q8)), (q9, .c (i6 x1)), (q10, .c (i6 x2))], [(q11, .cells q12 [i6 x3, i6 x4, i6 x5, i6 x6, i6 x7, i6 x8, i6 x9, i6 x10, .bool x11, i6 x12]), (q13, .cells q14 [i6 x13, i6 x14, .own q15]), (q16, .vec q17 (.int .i64) x15 true), (q18, .vec q19 (.int .u8) x16 true)], q20, q21⟩ => bif qb [q0, q1, q2, q3, q4, q5, q6, q7, q8, q9, q10, q11, q12, q13, q14, q15, q16, q17, q18, q19, q20, q21] [1, 5, 0, 0, 20, 1, 0, 24, 2, 104, 105, 0, 23, 1, 51, 3, 2, 3, 3, 5, 4, 0] then iter (S_tone_Decode_2 fuel) fuel (x0, x1, x2, x3, x4, x5, x6, x7, x8, x9, x10, x11, x12, x13, x14, x15, x16) (E18_2 K) else none | _ => none) | none => none
theorem B18_2_ok (fuel : Nat) (st : Ev.St) (K : KT) (r : Ans) (h : B18_2 fuel st K = some r) : evalCode tab (G18 fuel) (J18_2 fuel) kp18 fuel (.block 2 (.loop (bodyOf 2 Tryz.f18))) st K = some r := by
  unfold B18_2 at h
  split at h
  · rename_i s hs
    split at h
    · skip
      obtain ⟨hb, h⟩ := cond_some' h
      cases qb_eq hb
      exact blk_loop (S := T18_2) (ks := E18_2) (step := S_tone_Decode_2 fuel) (v := (_, _, _, _, _, _, _, _, _, _, _, _, _, _, _, _, _)) (by kernel_rfl) (by kernel_rfl) (fun R K v => by obtain ⟨x0, x1, x2, x3, x4, x5, x6, x7, x8, x9, x10, x11, x12, x13, x14, x15, x16⟩ := v; exact S18_2_okg fuel (F_tone_begun fuel) (F_tone_skipped fuel) (F_tone_rightValues fuel) (F_tone_options fuel) (F_generic_Size fuel) (F_coder_New fuel) (F_number_Width fuel) (F_coder_NewDecoder fuel) (F_generic_Get_fd3 fuel) (F_tone_FromPlanes fuel) R K x0 x1 x2 x3 x4 x5 x6 x7 x8 x9 x10 x11 x12 x13 x14 x15 x16) hs h
    · cases h
  · cases h
def J18 (fuel : Nat) (i : Nat) : Option Ev.Blk := Ev.look i [(100000, B18_0 fuel), (100002, B18_2 fuel)]
def Fg_tone_Decode (fuel : Nat) (f43 : YF43) (f44 : YF44) (f45 : YF45) (f46 : YF46) (f47 : YF47) (f48 : YF48) (f50 : YF50) (f65 : YF65) (f66_fd3 : YF66_fd3) (f67 : YF67) (x0 x1 : Int) (x2 x3 : Int) (x4 x5 : Int) (x6 x7 : Int) (x8 : Bool) (x9 : Int) (x10 : (List (Int × Int × LI))) (x11 x12 : Int) (x13 : LI) (k0 : (Int × LI) → OA) : OA := (f43 x0 x1 x2 x3 x4 x5 x6 x7 x8 x9 x10 x11 x12 (fun y2 => bif y2 != 0 then k0 (y2, []) else (f46 x0 x1 x2 x3 x4 x5 x6 x7 x8 x9 (fun (y7_0, y7_1, y7_2, y7_3, y7_4) => (f47 y7_0 y7_1 y7_2 y7_3 y7_4 (fun (y11_0, y11_1) => (f48 y7_4 y11_0 (fun (y15_0, y15_1, y15_2) => (f65 y15_0 y15_2 x13 (fun y19 => (f44 x0 x1 x2 x3 x4 x5 x6 x7 x8 x9 x10 x11 x12 (fun (y23_0, y23_1, y23_2) => (f50 ((↑x10.length : Int)) (fun y27 => none))))) (fun (y19_0, y19_1, y19_2, y19_3, y19_4, y19_5, y19_6, y19_7, y19_8, y19_9, y19_10) => (f44 x0 x1 x2 x3 x4 x5 x6 x7 x8 x9 x10 x11 x12 (fun (y23_0, y23_1, y23_2) => (f50 ((↑x10.length : Int)) (fun y27 => (L_tone_Decode_0 fuel (x10, y27, 0, x0, x1, x2, x3, x4, x5, x6, x7, x8, x9, y7_0, y7_1, y7_2, y7_3, y7_4, y19_1, y19_2, y19_3, y19_4, y19_5, y19_6, y19_7, y19_8, y23_0, y23_1, [], y19_9, y19_10, y23_2) (fun (ret0_0, ret0_1) => k0 (ret0_0, ret0_1)) (fun (b0_0, b0_1, b0_2, b0_3, b0_4, b0_5, b0_6, b0_7, b0_8, b0_9, b0_10, b0_11, b0_12, b0_13, b0_14) => bif decide (0 ≤ i64.wrap (b0_1 * b0_2) ∧ i64.wrap (b0_1 * b0_2) = i64.wrap (b0_1 * b0_2) ∧ (↑(8 : Nat) : Int) * i64.wrap (b0_1 * b0_2) ≤ 281474976710656 ∧ i64.wrap (b0_1 * b0_2) ≤ 281474976710656) then bif decide ((↑b0_13.length : Int) > 0) then bif decide ((↑(List.replicate (i64.wrap (b0_1 * b0_2)).toNat (0 : Int)).length : Int) > 0) then (f67 b0_13 (fun (y38_0, y38_1) => (L_tone_Decode_2 fuel (b0_0, (↑y38_1.length : Int), 0, b0_1, b0_2, b0_3, b0_4, b0_5, b0_6, b0_7, b0_8, b0_9, b0_10, b0_11, b0_12, y38_1, b0_14) (fun (b2_0, b2_1, b2_2, b2_3, b2_4, b2_5, b2_6, b2_7, b2_8, b2_9, b2_10, b2_11, b2_12, b2_13, b2_14) => (f45 b2_1 b2_2 b2_3 b2_4 b2_5 b2_6 b2_7 b2_8 b2_9 b2_10 ((↑b2_0.length : Int)) b2_11 b2_12 b2_14 b2_13 (fun y46 => bif !y46 then k0 (3, []) else k0 (0, b2_13))))))) else (L_tone_Decode_2 fuel (b0_0, (↑(List.replicate (i64.wrap (b0_1 * b0_2)).toNat (0 : Int)).length : Int), 0, b0_1, b0_2, b0_3, b0_4, b0_5, b0_6, b0_7, b0_8, b0_9, b0_10, b0_11, b0_12, List.replicate (i64.wrap (b0_1 * b0_2)).toNat (0 : Int), b0_14) (fun (b2_0, b2_1, b2_2, b2_3, b2_4, b2_5, b2_6, b2_7, b2_8, b2_9, b2_10, b2_11, b2_12, b2_13, b2_14) => (f45 b2_1 b2_2 b2_3 b2_4 b2_5 b2_6 b2_7 b2_8 b2_9 b2_10 ((↑b2_0.length : Int)) b2_11 b2_12 b2_14 b2_13 (fun y42 => bif !y42 then k0 (3, []) else k0 (0, b2_13))))) else (L_tone_Decode_2 fuel (b0_0, (↑(List.replicate (i64.wrap (b0_1 * b0_2)).toNat (0 : Int)).length : Int), 0, b0_1, b0_2, b0_3, b0_4, b0_5, b0_6, b0_7, b0_8, b0_9, b0_10, b0_11, b0_12, List.replicate (i64.wrap (b0_1 * b0_2)).toNat (0 : Int), b0_14) (fun (b2_0, b2_1, b2_2, b2_3, b2_4, b2_5, b2_6, b2_7, b2_8, b2_9, b2_10, b2_11, b2_12, b2_13, b2_14) => (f45 b2_1 b2_2 b2_3 b2_4 b2_5 b2_6 b2_7 b2_8 b2_9 b2_10 ((↑b2_0.length : Int)) b2_11 b2_12 b2_14 b2_13 (fun y41 => bif !y41 then k0 (3, []) else k0 (0, b2_13))))) else none))))))))))))))))
abbrev YF18 : Type := Int → Int → Int → Int → Int → Int → Int → Int → Bool → Int → ((List (Int × Int × LI))) → Int → Int → LI → ((Int × LI) → Option Ans) → Option Ans
def F_tone_Decode (fuel : Nat) : YF18 := Fg_tone_Decode fuel (F_tone_begun fuel) (F_tone_skipped fuel) (F_tone_rightValues fuel) (F_tone_options fuel) (F_generic_Size fuel) (F_coder_New fuel) (F_number_Width fuel) (F_coder_NewDecoder fuel) (F_generic_Get_fd3 fuel) (F_tone_FromPlanes fuel)
theorem F18_eqg (fuel : Nat) (f43 : YF43) (f44 : YF44) (f45 : YF45) (f46 : YF46) (f47 : YF47) (f48 : YF48) (f50 : YF50) (f65 : YF65) (f66_fd3 : YF66_fd3) (f67 : YF67) (x0 x1 : Int) (x2 x3 : Int) (x4 x5 : Int) (x6 x7 : Int) (x8 : Bool) (x9 : Int) (x10 : (List (Int × Int × LI))) (x11 x12 : Int) (x13 : LI) (k : Ev.Cont) : evalFn tab (Gg18 f43 f44 f45 f46 f47 f48 f50 f65 f66_fd3 f67) (J18 fuel) kp18 fuel Tryz.f18 [.agg [i6 x0, i6 x1, i6 x2, i6 x3, i6 x4, i6 x5, i6 x6, i6 x7, .bool x8, i6 x9], .c (.sl (.pair (.int .i64) (.pair (.int .i64) (.sl (.int .u8)))) x10), .c (i6 x11), .c (i6 x12), .c (.sl (.int .u8) x13)] [] k = Fg_tone_Decode fuel f43 f44 f45 f46 f47 f48 f50 f65 f66_fd3 f67 x0 x1 x2 x3 x4 x5 x6 x7 x8 x9 x10 x11 x12 x13 (fun r => match r with | (r0, r1) => k (.tup [(false, [.own 0]), (false, [i6 r0])], [.vec 3 (.int .i64) r1 true])) := by
  kernel_rfl
theorem hG18 (fuel : Nat) : GOK Tryz.prog (G18 fuel) :=
  gc (ok43 fuel) Tryz.func43 (by kernel_rfl) rfl <|
  gc (ok44 fuel) Tryz.func44 (by kernel_rfl) rfl <|
  gc (ok45 fuel) Tryz.func45 (by kernel_rfl) rfl <|
  gc (ok46 fuel) Tryz.func46 (by kernel_rfl) rfl <|
  gc (ok47 fuel) Tryz.func47 (by kernel_rfl) rfl <|
  gc (ok48 fuel) Tryz.func48 (by kernel_rfl) rfl <|
  gc (ok50 fuel) Tryz.func50 (by kernel_rfl) rfl <|
  gc (ok65 fuel) Tryz.func65 (by kernel_rfl) rfl <|
  gc (ok66_fd3 fuel) Tryz.func66 (by kernel_rfl) rfl <|
  gc (ok67 fuel) Tryz.func67 (by kernel_rfl) rfl <|
  gok_nil
theorem B18_0_blk (fuel : Nat) : BlkOK Tryz.prog Tryz.f18.ntmps (.block 0 (.loop (bodyOf 0 Tryz.f18))) (B18_0 fuel) := bo0 (hG18 fuel) (by kernel_rfl) (by kernel_rfl) (B18_0_ok fuel)
theorem B18_2_blk (fuel : Nat) : BlkOK Tryz.prog Tryz.f18.ntmps (.block 2 (.loop (bodyOf 2 Tryz.f18))) (B18_2 fuel) := bo0 (hG18 fuel) (by kernel_rfl) (by kernel_rfl) (B18_2_ok fuel)
theorem fok18 (fuel : Nat) : FnOK Tryz.prog 18 (evalFn tab (G18 fuel) (J18 fuel) kp18 fuel Tryz.f18) :=
  fn_ok tab_ok (hG18 fuel) mixed Tryz.func18 (c := (Tryz.f18.body).getD .skip) rfl (fun q hq => by
    rw [(by kernel_rfl : obl (J18 fuel) ((Tryz.f18.body).getD .skip) = [(.block 0 (.loop (bodyOf 0 Tryz.f18)), B18_0 fuel), (.block 2 (.loop (bodyOf 2 Tryz.f18)), B18_2 fuel)])] at hq
    simp only [List.mem_cons, List.not_mem_nil, or_false] at hq
    rcases hq with rfl | rfl
    · exact B18_0_blk fuel
    · exact B18_2_blk fuel)
def spg18 (F : YF18) : Ev.Spec := fun args objs k => match args, objs with | [.agg [i6 x0, i6 x1, i6 x2, i6 x3, i6 x4, i6 x5, i6 x6, i6 x7, .bool x8, i6 x9], .c (.sl (.pair (.int .i64) (.pair (.int .i64) (.sl (.int .u8)))) x10), .c (i6 x11), .c (i6 x12), .c (.sl (.int .u8) x13)], [] => F x0 x1 x2 x3 x4 x5 x6 x7 x8 x9 x10 x11 x12 x13 (fun r => match r with | (r0, r1) => k (.tup [(false, [.own 0]), (false, [i6 r0])], [.vec 3 (.int .i64) r1 true])) | _, _ => none
theorem ok18 (fuel : Nat) : FnOK Tryz.prog 18 (spg18 (F_tone_Decode fuel)) := by
  intro args objs kk r h
  unfold spg18 at h
  split at h
  · skip
    exact fok18 fuel _ _ kk r ((F18_eqg fuel (F_tone_begun fuel) (F_tone_skipped fuel) (F_tone_rightValues fuel) (F_tone_options fuel) (F_generic_Size fuel) (F_coder_New fuel) (F_number_Width fuel) (F_coder_NewDecoder fuel) (F_generic_Get_fd3 fuel) (F_tone_FromPlanes fuel) _ _ _ _ _ _ _ _ _ _ _ _ _ _ kk).trans h)
  · cases h
def kp128_a20 (i : Nat) : Option (List Nat) := Ev.look i []
def Gg128_a20 (f : Nat) : Option Ev.Spec := Ev.look f []
def G128_a20 (fuel : Nat) : Nat → Option Ev.Spec := Gg128_a20
def F_coder_Encoder_none_a20 (fuel : Nat) (x0 x1 x2 : Int) (x3 : Bool) (x4 x5 : (List Int)) (k0 : (Bool × Int × Int × Int × Bool × (List Int) × (List Int)) → Option Ans) : Option Ans := k0 (!x3, x0, x1, x2, x3, x4, x5)
abbrev YF128_a20 : Type := Int → Int → Int → Bool → LI → LI → ((Bool × Int × Int × Int × Bool × LI × LI) → Option Ans) → Option Ans
theorem F128_a20_eq (fuel : Nat) (x0 x1 x2 : Int) (x3 : Bool) (x4 x5 : LI) (k : Ev.Cont) : evalFn tab (G128_a20 fuel) J0 kp128_a20 fuel Tryz.f128 [.c (.ptr 0 0)] [.cells 173 (i6 x0 :: .own 1 :: ctb (.int .u64 x1 :: .int .u64 x2 :: .own 2 :: .bool x3 :: [])), .vec 3 (.int .i64) x4 false, .vec 5 (.int .u8) x5 false] k = F_coder_Encoder_none_a20 fuel x0 x1 x2 x3 x4 x5 (fun r => match r with | (r0, r1, r2, r3, r4, r5, r6) => k (.c (.bool r0), [.cells 173 (i6 r1 :: .own 1 :: ctb (.int .u64 r2 :: .int .u64 r3 :: .own 2 :: .bool r4 :: [])), .vec 3 (.int .i64) r5 false, .vec 5 (.int .u8) r6 false])) := by
  kernel_rfl
theorem hG128_a20 (fuel : Nat) : GOK Tryz.prog (G128_a20 fuel) :=
  gok_nil
def spg128_a20 (F : YF128_a20) : Ev.Spec := fun args objs k => match args, objs with | [.c (.ptr q0 q1)], [.cells q2 cs0, .vec q3 (.int .i64) x4 false, .vec q4 (.int .u8) x5 false] => (match splitRun 2 ctn cs0 with | some ([i6 x0, .own q5], [.int .u64 x1, .int .u64 x2, .own q6, .bool x3]) => bif qb [q0, q1, q2, q3, q4, q5, q6] [0, 0, 173, 3, 5, 1, 2] then F x0 x1 x2 x3 x4 x5 (fun r => match r with | (r0, r1, r2, r3, r4, r5, r6) => k (.c (.bool r0), [.cells 173 (i6 r1 :: .own 1 :: ctb (.int .u64 r2 :: .int .u64 r3 :: .own 2 :: .bool r4 :: [])), .vec 3 (.int .i64) r5 false, .vec 5 (.int .u8) r6 false])) else none | _ => none) | _, _ => none
theorem ok128_a20 (fuel : Nat) : FnOK Tryz.prog 128 (spg128_a20 (F_coder_Encoder_none_a20 fuel)) := by
  intro args objs kk r h
  unfold spg128_a20 at h
  split at h
  · skip
    split at h
    rotate_left 1
    · cases h
    rename_i hsp
    have esp := splitRun_eq hsp
    subst esp
    obtain ⟨hb, h⟩ := cond_some' h
    cases qb_eq hb
    exact fo0 (hG128_a20 fuel) Tryz.func128 rfl (by kernel_rfl) _ _ kk r ((F128_a20_eq fuel _ _ _ _ _ _ kk).trans h)
  · cases h
def kp52_a20 (i : Nat) : Option (List Nat) := Ev.look i [(5, [0, 3, 15]), (10, [0, 3, 37, 38]), (100000, [3]), (100002, [3]), (200008, [0]), (400000, [2]), (400002, [2])]
def Gg52_a20 (f128_a20 : YF128_a20) (f : Nat) : Option Ev.Spec := Ev.look f [(128, spg128_a20 f128_a20)]
def G52_a20 (fuel : Nat) : Nat → Option Ev.Spec := Gg52_a20 (F_coder_Encoder_none_a20 fuel)
abbrev V_coder_Encoder_End_a20_2 : Type := Int × Int × Int × Int × Int × Bool × LI × LI × LI
abbrev W_coder_Encoder_End_a20_2 : Type := (Int × Int × Int × Bool × LI × LI × LI → OA)
def Sg_coder_Encoder_End_a20_2 (fuel : Nat) (f128_a20 : YF128_a20) (x0 x1 : Int) (x2 x3 x4 : Int) (x5 : Bool) (x6 x7 x8 : LI) (c : V_coder_Encoder_End_a20_2 → OA) (B : W_coder_Encoder_End_a20_2) : OA := match B with | b => bif decide (x1 < x0) then bif decide (i64.wrap (24 - i64.wrap (8 * x1)) < 0) then none else bif decide ((x8.length + [u8.wrap (Ev.ishr IntKind.u64 x4 (i64.wrap (24 - i64.wrap (8 * x1))))].length) * (1 : Nat) ≤ (140737488355328 : Nat) ∧ x8.length + [u8.wrap (Ev.ishr IntKind.u64 x4 (i64.wrap (24 - i64.wrap (8 * x1))))].length ≤ (140737488355328 : Nat)) then c (x0, i64.wrap (x1 + (1 : Int)), x2, x3, x4, x5, x6, x7, x8 ++ [u8.wrap (Ev.ishr IntKind.u64 x4 (i64.wrap ((24 : Int) - i64.wrap ((8 : Int) * x1))))]) else none else b (x2, x3, x4, x5, x6, x7, x8)
def S_coder_Encoder_End_a20_2 (fuel : Nat) (v : Int × Int × Int × Int × Int × Bool × (List Int) × (List Int) × (List Int)) (c : (Int × Int × Int × Int × Int × Bool × (List Int) × (List Int) × (List Int)) → Option Ans) (B : (Int × Int × Int × Bool × (List Int) × (List Int) × (List Int) → Option Ans)) : Option Ans := match v with | (x0, x1, x2, x3, x4, x5, x6, x7, x8) => Sg_coder_Encoder_End_a20_2 fuel (F_coder_Encoder_none_a20 fuel) x0 x1 x2 x3 x4 x5 x6 x7 x8 c B
def L_coder_Encoder_End_a20_2 (fuel : Nat) (v : V_coder_Encoder_End_a20_2) (b : W_coder_Encoder_End_a20_2) : Option Ans := iter (S_coder_Encoder_End_a20_2 fuel) fuel v b
def T52_a20_2 (v : V_coder_Encoder_End_a20_2) : Ev.St := match v with | (x0, x1, x2, x3, x4, x5, x6, x7, x8) => ⟨[(0, .c (.ptr 0 0)), (3, .c (.own 3)), (37, .c (i6 x0)), (38, .c (i6 x1))], [(0, .cells 173 (i6 x2 :: .own 1 :: ctb (.int .u64 x3 :: .int .u64 x4 :: .own 2 :: .bool x5 :: []))), (1, .vec 3 (.int .i64) x6 false), (2, .vec 5 (.int .u8) x7 false), (3, .vec 5 (.int .u8) x8 true)], 4, 3⟩
def E52_a20_2 (K : KT) : W_coder_Encoder_End_a20_2 := (fun v => match v with | (x0, x1, x2, x3, x4, x5, x6) => K .normal ⟨[(3, .c (.own 3))], [(0, .cells 173 (i6 x0 :: .own 1 :: ctb (.int .u64 x1 :: .int .u64 x2 :: .own 2 :: .bool x3 :: []))), (1, .vec 3 (.int .i64) x4 false), (2, .vec 5 (.int .u8) x5 false), (3, .vec 5 (.int .u8) x6 true)], 4, 3⟩)
theorem S52_a20_2_okg (fuel : Nat) (f128_a20 : YF128_a20) (R : Ev.St → OA) (K : KT) (x0 x1 : Int) (x2 x3 x4 : Int) (x5 : Bool) (x6 x7 x8 : LI) : evalCode tab (Gg52_a20 f128_a20) J0 kp52_a20 fuel (bodyOf 2 Tryz.f52) (T52_a20_2 (x0, x1, x2, x3, x4, x5, x6, x7, x8)) (lc kp52_a20 10 2 R K) = Sg_coder_Encoder_End_a20_2 fuel f128_a20 x0 x1 x2 x3 x4 x5 x6 x7 x8 (fun v => R (T52_a20_2 v)) (E52_a20_2 K) := by
  kernel_rfl
def B52_a20_2 (fuel : Nat) : Ev.Blk := fun st K => match canonO (kp52_a20 10) st with | some s => (match s with | ⟨[(q0, .c (.ptr q1 q2)), (q3, .c (.own q4)), (q5, .c (i6 x0)), (q6, .c (i6 x1))], [(q7, .cells q8 cs0), (q9, .vec q10 (.int .i64) x6 false), (q11, .vec q12 (.int .u8) x7 false), (q13, .vec q14 (.int .u8) x8 true)], q15, q16⟩ => (match splitRun 2 ctn cs0 with | some ([i6 x2, .own q17], [.int .u64 x3, .int .u64 x4, .own q18, .bool x5]) => bif qb [q0, q1, q2, q3, q4, q5, q6, q7, q8, q9, q10, q11, q12, q13, q14, q15, q16, q17, q18] [0, 0, 0, 3, 3, 37, 38, 0, 173, 1, 3, 2, 5, 3, 5, 4, 3, 1, 2] then iter (S_coder_Encoder_End_a20_2 fuel) fuel (x0, x1, x2, x3, x4, x5, x6, x7, x8) (E52_a20_2 K) else none | _ => none) | _ => none) | none => none
theorem B52_a20_2_ok (fuel : Nat) (st : Ev.St) (K : KT) (r : Ans) (h : B52_a20_2 fuel st K = some r) : evalCode tab (G52_a20 fuel) J0 kp52_a20 fuel (.block 2 (.loop (bodyOf 2 Tryz.f52))) st K = some r := by
  unfold B52_a20_2 at h
  split at h
  · rename_i s hs
    split at h
    · skip
      split at h
      rotate_left 1
      · cases h
      rename_i hsp
      have esp := splitRun_eq hsp
      subst esp
      obtain ⟨hb, h⟩ := cond_some' h
      cases qb_eq hb
      exact blk_loop (S := T52_a20_2) (ks := E52_a20_2) (step := S_coder_Encoder_End_a20_2 fuel) (v := (_, _, _, _, _, _, _, _, _)) (by kernel_rfl) (by kernel_rfl) (fun R K v => by obtain ⟨x0, x1, x2, x3, x4, x5, x6, x7, x8⟩ := v; exact S52_a20_2_okg fuel (F_coder_Encoder_none_a20 fuel) R K x0 x1 x2 x3 x4 x5 x6 x7 x8) hs h
    · cases h
  · cases h
abbrev V_coder_Encoder_End_a20_0 : Type := Int × Int × Int × Int × Bool × LI × LI × LI
abbrev W_coder_Encoder_End_a20_0 : Type := (Int × Int × Int × Bool × LI × LI × LI → OA) × (Int × Int × Int × Bool × LI × LI × LI → OA)
def Sg_coder_Encoder_End_a20_0 (fuel : Nat) (f128_a20 : YF128_a20) (x0 x1 : Int) (x2 x3 : Int) (x4 : Bool) (x5 x6 x7 : LI) (c : V_coder_Encoder_End_a20_0 → OA) (B : W_coder_Encoder_End_a20_0) : OA := match B with | (ret, b) => bif decide (x0 < 5) then bif decide (u64.wrap (i64.wrap (32 - i64.wrap (8 * x0))) < 0) then none else bif decide (u64.wrap (i64.wrap (32 - i64.wrap (8 * x0))) < 0) then none else bif decide (Ev.ishl IntKind.u64 (Ev.ishr IntKind.u64 x3 (u64.wrap (i64.wrap (32 - i64.wrap (8 * x0))))) (u64.wrap (i64.wrap (32 - i64.wrap (8 * x0)))) ≥ x2) then (L_coder_Encoder_End_a20_2 fuel (x0, 0, x1, x2, x3, x4, x5, x6, x7) (fun (b2_0, b2_1, b2_2, b2_3, b2_4, b2_5, b2_6) => ret (b2_0, b2_1, b2_2, b2_3, b2_4, b2_5, b2_6))) else c (i64.wrap (x0 + 1), x1, x2, x3, x4, x5, x6, x7) else b (x1, x2, x3, x4, x5, x6, x7)
def S_coder_Encoder_End_a20_0 (fuel : Nat) (v : Int × Int × Int × Int × Bool × (List Int) × (List Int) × (List Int)) (c : (Int × Int × Int × Int × Bool × (List Int) × (List Int) × (List Int)) → Option Ans) (B : (Int × Int × Int × Bool × (List Int) × (List Int) × (List Int) → Option Ans) × (Int × Int × Int × Bool × (List Int) × (List Int) × (List Int) → Option Ans)) : Option Ans := match v with | (x0, x1, x2, x3, x4, x5, x6, x7) => Sg_coder_Encoder_End_a20_0 fuel (F_coder_Encoder_none_a20 fuel) x0 x1 x2 x3 x4 x5 x6 x7 c B
def L_coder_Encoder_End_a20_0 (fuel : Nat) (v : V_coder_Encoder_End_a20_0) (ret : (Int × Int × Int × Bool × (List Int) × (List Int) × (List Int) → Option Ans)) (b : (Int × Int × Int × Bool × (List Int) × (List Int) × (List Int) → Option Ans)) : Option Ans := iter (S_coder_Encoder_End_a20_0 fuel) fuel v (ret, b)
def J52_a20_0 (fuel : Nat) (i : Nat) : Option Ev.Blk := Ev.look i [(100002, B52_a20_2 fuel)]
def T52_a20_0 (v : V_coder_Encoder_End_a20_0) : Ev.St := match v with | (x0, x1, x2, x3, x4, x5, x6, x7) => ⟨[(0, .c (.ptr 0 0)), (3, .c (.own 3)), (15, .c (i6 x0))], [(0, .cells 173 (i6 x1 :: .own 1 :: ctb (.int .u64 x2 :: .int .u64 x3 :: .own 2 :: .bool x4 :: []))), (1, .vec 3 (.int .i64) x5 false), (2, .vec 5 (.int .u8) x6 false), (3, .vec 5 (.int .u8) x7 true)], 4, 3⟩
def E52_a20_0 (K : KT) : W_coder_Encoder_End_a20_0 := ((fun v => match v with | (x0, x1, x2, x3, x4, x5, x6) => K .ret ⟨[(2, .c (.own 3))], [(0, .cells 173 (i6 x0 :: .own 1 :: ctb (.int .u64 x1 :: .int .u64 x2 :: .own 2 :: .bool x3 :: []))), (1, .vec 3 (.int .i64) x4 false), (2, .vec 5 (.int .u8) x5 false), (3, .vec 5 (.int .u8) x6 true)], 4, 3⟩), (fun v => match v with | (x0, x1, x2, x3, x4, x5, x6) => K .normal ⟨[(3, .c (.own 3))], [(0, .cells 173 (i6 x0 :: .own 1 :: ctb (.int .u64 x1 :: .int .u64 x2 :: .own 2 :: .bool x3 :: []))), (1, .vec 3 (.int .i64) x4 false), (2, .vec 5 (.int .u8) x5 false), (3, .vec 5 (.int .u8) x6 true)], 4, 3⟩))
theorem S52_a20_0_okg (fuel : Nat) (f128_a20 : YF128_a20) (R : Ev.St → OA) (K : KT) (x0 x1 : Int) (x2 x3 : Int) (x4 : Bool) (x5 x6 x7 : LI) : evalCode tab (Gg52_a20 f128_a20) (J52_a20_0 fuel) kp52_a20 fuel (bodyOf 0 Tryz.f52) (T52_a20_0 (x0, x1, x2, x3, x4, x5, x6, x7)) (lc kp52_a20 5 0 R K) = Sg_coder_Encoder_End_a20_0 fuel f128_a20 x0 x1 x2 x3 x4 x5 x6 x7 (fun v => R (T52_a20_0 v)) (E52_a20_0 K) := by
  kernel_rfl
def B52_a20_0 (fuel : Nat) : Ev.Blk := fun st K => match canonO (kp52_a20 5) st with | some s => (match s with | ⟨[(q0, .c (.ptr q1 q2)), (q3, .c (.own q4)), (q5, .c (i6 x0))], [(q6, .cells q7 cs0), (q8, .vec q9 (.int .i64) x5 false), (q10, .vec q11 (.int .u8) x6 false), (q12, .vec q13 (.int .u8) x7 true)], q14, q15⟩ => (match splitRun 2 ctn cs0 with | some ([i6 x1, .own q16], [.int .u64 x2, .int .u64 x3, .own q17, .bool x4]) => bif qb [q0, q1, q2, q3, q4, q5, q6, q7, q8, q9, q10, q11, q12, q13, q14, q15, q16, q17] [0, 0, 0, 3, 3, 15, 0, 173, 1, 3, 2, 5, 3, 5, 4, 3, 1, 2] then iter (S_coder_Encoder_End_a20_0 fuel) fuel (x0, x1, x2, x3, x4, x5, x6, x7) (E52_a20_0 K) else none | _ => none) | _ => none) | none => none
theorem B52_a20_0_ok (fuel : Nat) (st : Ev.St) (K : KT) (r : Ans) (h : B52_a20_0 fuel st K = some r) : evalCode tab (G52_a20 fuel) (J52_a20_0 fuel) kp52_a20 fuel (.block 0 (.loop (bodyOf 0 Tryz.f52))) st K = some r := by
  unfold B52_a20_0 at h
  split at h
  · rename_i s hs
    split at h
    · skip
      split at h
      rotate_left 1
      · cases h
      rename_i hsp
      have esp := splitRun_eq hsp
      subst esp
      obtain ⟨hb, h⟩ := cond_some' h
      cases qb_eq hb
      exact blk_loop (S := T52_a20_0) (ks := E52_a20_0) (step := S_coder_Encoder_End_a20_0 fuel) (v := (_, _, _, _, _, _, _, _)) (by kernel_rfl) (by kernel_rfl) (fun R K v => by obtain ⟨x0, x1, x2, x3, x4, x5, x6, x7⟩ := v; exact S52_a20_0_okg fuel (F_coder_Encoder_none_a20 fuel) R K x0 x1 x2 x3 x4 x5 x6 x7) hs h
    · cases h
  · cases h
def J52_a20 (fuel : Nat) (i : Nat) : Option Ev.Blk := Ev.look i [(100002, B52_a20_2 fuel), (100000, B52_a20_0 fuel)]
def Fg_coder_Encoder_End_a20 (fuel : Nat) (f128_a20 : YF128_a20) (x0 x1 x2 : Int) (x3 : Bool) (x4 x5 : LI) (k0 : (Int × Int × Int × Bool × LI × LI × LI) → OA) : OA := (f128_a20 x0 x1 x2 x3 x4 x5 (fun (y2_0, y2_1, y2_2, y2_3, y2_4, y2_5, y2_6) => bif y2_0 then k0 (y2_1, y2_2, y2_3, y2_4, y2_5, y2_6, []) else bif decide (((0 : Nat) + y2_6.length) * (1 : Nat) ≤ (140737488355328 : Nat) ∧ (0 : Nat) + y2_6.length ≤ (140737488355328 : Nat)) then (L_coder_Encoder_End_a20_0 fuel ((0 : Int), y2_1, y2_2, y2_3, y2_4, y2_5, y2_6, [] ++ y2_6) (fun (ret0_0, ret0_1, ret0_2, ret0_3, ret0_4, ret0_5, ret0_6) => k0 (ret0_0, ret0_1, ret0_2, ret0_3, ret0_4, ret0_5, ret0_6)) (fun (b0_0, b0_1, b0_2, b0_3, b0_4, b0_5, b0_6) => k0 (b0_0, b0_1, b0_2, b0_3, b0_4, b0_5, b0_6))) else none))
abbrev YF52_a20 : Type := Int → Int → Int → Bool → LI → LI → ((Int × Int × Int × Bool × LI × LI × LI) → Option Ans) → Option Ans
def F_coder_Encoder_End_a20 (fuel : Nat) : YF52_a20 := Fg_coder_Encoder_End_a20 fuel (F_coder_Encoder_none_a20 fuel)
theorem F52_a20_eqg (fuel : Nat) (f128_a20 : YF128_a20) (x0 x1 x2 : Int) (x3 : Bool) (x4 x5 : LI) (k : Ev.Cont) : evalFn tab (Gg52_a20 f128_a20) (J52_a20 fuel) kp52_a20 fuel Tryz.f52 [.c (.ptr 0 0)] [.cells 173 (i6 x0 :: .own 1 :: ctb (.int .u64 x1 :: .int .u64 x2 :: .own 2 :: .bool x3 :: [])), .vec 3 (.int .i64) x4 false, .vec 5 (.int .u8) x5 false] k = Fg_coder_Encoder_End_a20 fuel f128_a20 x0 x1 x2 x3 x4 x5 (fun r => match r with | (r0, r1, r2, r3, r4, r5, r6) => k (.c (.own 3), [.cells 173 (i6 r0 :: .own 1 :: ctb (.int .u64 r1 :: .int .u64 r2 :: .own 2 :: .bool r3 :: [])), .vec 3 (.int .i64) r4 false, .vec 5 (.int .u8) r5 false, .vec 5 (.int .u8) r6 true])) := by
  kernel_rfl
theorem hG52_a20 (fuel : Nat) : GOK Tryz.prog (G52_a20 fuel) :=
  gc (ok128_a20 fuel) Tryz.func128 (by kernel_rfl) rfl <|
  gok_nil
theorem B52_a20_2_blk (fuel : Nat) : BlkOK Tryz.prog Tryz.f52.ntmps (.block 2 (.loop (bodyOf 2 Tryz.f52))) (B52_a20_2 fuel) := bo0 (hG52_a20 fuel) (by kernel_rfl) (by kernel_rfl) (B52_a20_2_ok fuel)
theorem B52_a20_0_blk (fuel : Nat) : BlkOK Tryz.prog Tryz.f52.ntmps (.block 0 (.loop (bodyOf 0 Tryz.f52))) (B52_a20_0 fuel) :=
  blk_of (blk_of_code tab_ok (hG52_a20 fuel) mixed (J := J52_a20_0 fuel) (kp := kp52_a20) (fuel := fuel) (by kernel_rfl) (fun q hq => by
    rw [(by kernel_rfl : obl (J52_a20_0 fuel) (.block 0 (.loop (bodyOf 0 Tryz.f52))) = [(.block 2 (.loop (bodyOf 2 Tryz.f52)), B52_a20_2 fuel)])] at hq
    simp only [List.mem_cons, List.not_mem_nil, or_false] at hq
    subst hq
    · exact B52_a20_2_blk fuel)) (B52_a20_0_ok fuel)
def spg52_a20 (F : YF52_a20) : Ev.Spec := fun args objs k => match args, objs with | [.c (.ptr q0 q1)], [.cells q2 cs0, .vec q3 (.int .i64) x4 false, .vec q4 (.int .u8) x5 false] => (match splitRun 2 ctn cs0 with | some ([i6 x0, .own q5], [.int .u64 x1, .int .u64 x2, .own q6, .bool x3]) => bif qb [q0, q1, q2, q3, q4, q5, q6] [0, 0, 173, 3, 5, 1, 2] then F x0 x1 x2 x3 x4 x5 (fun r => match r with | (r0, r1, r2, r3, r4, r5, r6) => k (.c (.own 3), [.cells 173 (i6 r0 :: .own 1 :: ctb (.int .u64 r1 :: .int .u64 r2 :: .own 2 :: .bool r3 :: [])), .vec 3 (.int .i64) r4 false, .vec 5 (.int .u8) r5 false, .vec 5 (.int .u8) r6 true])) else none | _ => none) | _, _ => none
theorem ok52_a20 (fuel : Nat) : FnOK Tryz.prog 52 (spg52_a20 (F_coder_Encoder_End_a20 fuel)) := by
  intro args objs kk r h
  unfold spg52_a20 at h
  split at h
  · skip
    split at h
    rotate_left 1
    · cases h
    rename_i hsp
    have esp := splitRun_eq hsp
    subst esp
    obtain ⟨hb, h⟩ := cond_some' h
    cases qb_eq hb
    exact fo1 (hG52_a20 fuel) Tryz.func52 rfl (B52_a20_0_blk fuel) (by kernel_rfl) _ _ kk r ((F52_a20_eqg fuel (F_coder_Encoder_none_a20 fuel) _ _ _ _ _ _ kk).trans h)
  · cases h
def kp49 (i : Nat) : Option (List Nat) := Ev.look i [(600000, [])]
def Gg49 (f118 : YF118) (f119 : YF119) (f : Nat) : Option Ev.Spec := Ev.look f [(118, spg118 f118), (119, spg119 f119)]
def G49 (fuel : Nat) : Nat → Option Ev.Spec := Gg49 (F_coder_Valid fuel) (F_coder_begin fuel)
def Fg_coder_NewEncoder (fuel : Nat) (f118 : YF118) (f119 : YF119) (x0 : Int) (x1 : LI) (k0 : (Int) → OA) (k1 : (Int × Int × Int × Int × Bool × LI × LI) → OA) : OA := (f118 x0 x1 (fun y2 => bif !y2 then k0 (10) else (f119 x0 x1 (fun (y7_0, y7_1, y7_2, y7_3) => k1 (0, y7_0, y7_1, y7_2, true, y7_3, [])))))
abbrev YF49 : Type := Int → LI → (Int → Option Ans) → ((Int × Int × Int × Int × Bool × LI × LI) → Option Ans) → Option Ans
def F_coder_NewEncoder (fuel : Nat) : YF49 := Fg_coder_NewEncoder fuel (F_coder_Valid fuel) (F_coder_begin fuel)
theorem F49_eqg (fuel : Nat) (f118 : YF118) (f119 : YF119) (x0 : Int) (x1 : LI) (k : Ev.Cont) : evalFn tab (Gg49 f118 f119) J0 kp49 fuel Tryz.f49 [.agg [i6 x0, .sl (.int .i64) x1]] [] k = Fg_coder_NewEncoder fuel f118 f119 x0 x1 (fun r => match r with | r0 => k (.tup [(false, [.nilptr]), (false, [i6 r0])], [])) (fun r => match r with | (r0, r1, r2, r3, r4, r5, r6) => k (.tup [(false, [.ptr 0 0]), (false, [i6 r0])], [.cells 173 (i6 r1 :: .own 1 :: ctb (.int .u64 r2 :: .int .u64 r3 :: .own 2 :: .bool r4 :: [])), .vec 3 (.int .i64) r5 true, .vec 5 (.int .u8) r6 true])) := by
  kernel_rfl
theorem hG49 (fuel : Nat) : GOK Tryz.prog (G49 fuel) :=
  gc (ok118 fuel) Tryz.func118 (by kernel_rfl) rfl <|
  gc (ok119 fuel) Tryz.func119 (by kernel_rfl) rfl <|
  gok_nil
def spg49 (F : YF49) : Ev.Spec := fun args objs k => match args, objs with | [.agg [i6 x0, .sl (.int .i64) x1]], [] => F x0 x1 (fun r => match r with | r0 => k (.tup [(false, [.nilptr]), (false, [i6 r0])], [])) (fun r => match r with | (r0, r1, r2, r3, r4, r5, r6) => k (.tup [(false, [.ptr 0 0]), (false, [i6 r0])], [.cells 173 (i6 r1 :: .own 1 :: ctb (.int .u64 r2 :: .int .u64 r3 :: .own 2 :: .bool r4 :: [])), .vec 3 (.int .i64) r5 true, .vec 5 (.int .u8) r6 true])) | _, _ => none
theorem ok49 (fuel : Nat) : FnOK Tryz.prog 49 (spg49 (F_coder_NewEncoder fuel)) := by
  intro args objs kk r h
  unfold spg49 at h
  split at h
  · skip
    exact fo0 (hG49 fuel) Tryz.func49 rfl (by kernel_rfl) _ _ kk r ((F49_eqg fuel (F_coder_Valid fuel) (F_coder_begin fuel) _ _ kk).trans h)
  · cases h
def kp126_a20 (i : Nat) : Option (List Nat) := Ev.look i []
def Gg126_a20 (f128_a20 : YF128_a20) (f204 : YF204) (f : Nat) : Option Ev.Spec := Ev.look f [(128, spg128_a20 f128_a20), (204, spg204 f204)]
def G126_a20 (fuel : Nat) : Nat → Option Ev.Spec := Gg126_a20 (F_coder_Encoder_none_a20 fuel) (F_coder_clone fuel)
def Fg_coder_Encoder_Model_a20 (fuel : Nat) (f128_a20 : YF128_a20) (f204 : YF204) (x0 x1 x2 : Int) (x3 : Bool) (x4 x5 : LI) (k0 : (Int × Int × Int × Int × Bool × LI × LI × LI) → OA) : OA := (f128_a20 x0 x1 x2 x3 x4 x5 (fun (y2_0, y2_1, y2_2, y2_3, y2_4, y2_5, y2_6) => bif y2_0 then k0 (0, y2_1, y2_2, y2_3, y2_4, y2_5, y2_6, []) else (f204 y2_1 y2_5 (fun (y7_0, y7_1) => k0 (y7_0, y2_1, y2_2, y2_3, y2_4, y2_5, y2_6, y7_1)))))
abbrev YF126_a20 : Type := Int → Int → Int → Bool → LI → LI → ((Int × Int × Int × Int × Bool × LI × LI × LI) → Option Ans) → Option Ans
def F_coder_Encoder_Model_a20 (fuel : Nat) : YF126_a20 := Fg_coder_Encoder_Model_a20 fuel (F_coder_Encoder_none_a20 fuel) (F_coder_clone fuel)
theorem F126_a20_eqg (fuel : Nat) (f128_a20 : YF128_a20) (f204 : YF204) (x0 x1 x2 : Int) (x3 : Bool) (x4 x5 : LI) (k : Ev.Cont) : evalFn tab (Gg126_a20 f128_a20 f204) J0 kp126_a20 fuel Tryz.f126 [.c (.ptr 0 0)] [.cells 173 (i6 x0 :: .own 1 :: ctb (.int .u64 x1 :: .int .u64 x2 :: .own 2 :: .bool x3 :: [])), .vec 3 (.int .i64) x4 false, .vec 5 (.int .u8) x5 false] k = Fg_coder_Encoder_Model_a20 fuel f128_a20 f204 x0 x1 x2 x3 x4 x5 (fun r => match r with | (r0, r1, r2, r3, r4, r5, r6, r7) => k (.agg [i6 r0, .own 3], [.cells 173 (i6 r1 :: .own 1 :: ctb (.int .u64 r2 :: .int .u64 r3 :: .own 2 :: .bool r4 :: [])), .vec 3 (.int .i64) r5 false, .vec 5 (.int .u8) r6 false, .vec 3 (.int .i64) r7 true])) := by
  kernel_rfl
theorem hG126_a20 (fuel : Nat) : GOK Tryz.prog (G126_a20 fuel) :=
  gc (ok128_a20 fuel) Tryz.func128 (by kernel_rfl) rfl <|
  gc (ok204 fuel) Tryz.func204 (by kernel_rfl) rfl <|
  gok_nil
def spg126_a20 (F : YF126_a20) : Ev.Spec := fun args objs k => match args, objs with | [.c (.ptr q0 q1)], [.cells q2 cs0, .vec q3 (.int .i64) x4 false, .vec q4 (.int .u8) x5 false] => (match splitRun 2 ctn cs0 with | some ([i6 x0, .own q5], [.int .u64 x1, .int .u64 x2, .own q6, .bool x3]) => bif qb [q0, q1, q2, q3, q4, q5, q6] [0, 0, 173, 3, 5, 1, 2] then F x0 x1 x2 x3 x4 x5 (fun r => match r with | (r0, r1, r2, r3, r4, r5, r6, r7) => k (.agg [i6 r0, .own 3], [.cells 173 (i6 r1 :: .own 1 :: ctb (.int .u64 r2 :: .int .u64 r3 :: .own 2 :: .bool r4 :: [])), .vec 3 (.int .i64) r5 false, .vec 5 (.int .u8) r6 false, .vec 3 (.int .i64) r7 true])) else none | _ => none) | _, _ => none
theorem ok126_a20 (fuel : Nat) : FnOK Tryz.prog 126 (spg126_a20 (F_coder_Encoder_Model_a20 fuel)) := by
  intro args objs kk r h
  unfold spg126_a20 at h
  split at h
  · skip
    split at h
    rotate_left 1
    · cases h
    rename_i hsp
    have esp := splitRun_eq hsp
    subst esp
    obtain ⟨hb, h⟩ := cond_some' h
    cases qb_eq hb
    exact fo0 (hG126_a20 fuel) Tryz.func126 rfl (by kernel_rfl) _ _ kk r ((F126_a20_eqg fuel (F_coder_Encoder_none_a20 fuel) (F_coder_clone fuel) _ _ _ _ _ _ kk).trans h)
  · cases h
def kp211_a20 (i : Nat) : Option (List Nat) := Ev.look i []
def Gg211_a20 (f : Nat) : Option Ev.Spec := Ev.look f []
def G211_a20 (fuel : Nat) : Nat → Option Ev.Spec := Gg211_a20
def F_coder_interval_lose_a20 (fuel : Nat) (x0 x1 x2 : Int) (x3 : Bool) (x4 x5 : (List Int)) (k0 : (Int × Int × Int × Int × Bool × (List Int) × (List Int)) → Option Ans) : Option Ans := k0 (u8.wrap (Ev.ishr IntKind.u64 x1 24), x0, Ev.iand IntKind.u64 (Ev.ishl IntKind.u64 x1 8) 4294967295, Ev.ior IntKind.u64 (Ev.iand IntKind.u64 (Ev.ishl IntKind.u64 x2 8) 4294967295) 255, x3, x4, x5)
abbrev YF211_a20 : Type := Int → Int → Int → Bool → LI → LI → ((Int × Int × Int × Int × Bool × LI × LI) → Option Ans) → Option Ans
theorem F211_a20_eq (fuel : Nat) (x0 x1 x2 : Int) (x3 : Bool) (x4 x5 : LI) (k : Ev.Cont) : evalFn tab (G211_a20 fuel) J0 kp211_a20 fuel Tryz.f211 [.c (.ptr 0 0)] [.cells 173 (i6 x0 :: .own 1 :: ctb (.int .u64 x1 :: .int .u64 x2 :: .own 2 :: .bool x3 :: [])), .vec 3 (.int .i64) x4 false, .vec 5 (.int .u8) x5 false] k = F_coder_interval_lose_a20 fuel x0 x1 x2 x3 x4 x5 (fun r => match r with | (r0, r1, r2, r3, r4, r5, r6) => k (.c (.int .u8 r0), [.cells 173 (i6 r1 :: .own 1 :: ctb (.int .u64 r2 :: .int .u64 r3 :: .own 2 :: .bool r4 :: [])), .vec 3 (.int .i64) r5 false, .vec 5 (.int .u8) r6 false])) := by
  kernel_rfl
theorem hG211_a20 (fuel : Nat) : GOK Tryz.prog (G211_a20 fuel) :=
  gok_nil
def spg211_a20 (F : YF211_a20) : Ev.Spec := fun args objs k => match args, objs with | [.c (.ptr q0 q1)], [.cells q2 cs0, .vec q3 (.int .i64) x4 false, .vec q4 (.int .u8) x5 false] => (match splitRun 2 ctn cs0 with | some ([i6 x0, .own q5], [.int .u64 x1, .int .u64 x2, .own q6, .bool x3]) => bif qb [q0, q1, q2, q3, q4, q5, q6] [0, 0, 173, 3, 5, 1, 2] then F x0 x1 x2 x3 x4 x5 (fun r => match r with | (r0, r1, r2, r3, r4, r5, r6) => k (.c (.int .u8 r0), [.cells 173 (i6 r1 :: .own 1 :: ctb (.int .u64 r2 :: .int .u64 r3 :: .own 2 :: .bool r4 :: [])), .vec 3 (.int .i64) r5 false, .vec 5 (.int .u8) r6 false])) else none | _ => none) | _, _ => none
theorem ok211_a20 (fuel : Nat) : FnOK Tryz.prog 211 (spg211_a20 (F_coder_interval_lose_a20 fuel)) := by
  intro args objs kk r h
  unfold spg211_a20 at h
  split at h
  · skip
    split at h
    rotate_left 1
    · cases h
    rename_i hsp
    have esp := splitRun_eq hsp
    subst esp
    obtain ⟨hb, h⟩ := cond_some' h
    cases qb_eq hb
    exact fo0 (hG211_a20 fuel) Tryz.func211 rfl (by kernel_rfl) _ _ kk r ((F211_a20_eq fuel _ _ _ _ _ _ kk).trans h)
  · cases h
def kp209_402 (i : Nat) : Option (List Nat) := Ev.look i [(200001, [0])]
def Gg209_402 (f247_bb9 : YF247_bb9) (f : Nat) : Option Ev.Spec := Ev.look f [(247, spg247_bb9 f247_bb9)]
def G209_402 (fuel : Nat) : Nat → Option Ev.Spec := Gg209_402 (F_coder_table_chance_bb9 fuel)
def Fg_coder_interval_mid_402 (fuel : Nat) (f247_bb9 : YF247_bb9) (x0 x1 : Int) (x2 x3 : Int) (x4 : Bool) (x5 x6 : LI) (k0 : (Int × Int × Int × Int × Bool × LI × LI) → OA) : OA := bif decide (0 ≤ x0 ∧ x0 < (↑x5.length : Int)) then (f247_bb9 x1 (x5.getD x0.toNat 0) (fun y3 => k0 (u64.wrap (u64.wrap (x2 + u64.wrap (u64.wrap ((u64.wrap (x3 - x2)).tdiv 4096) * u64.wrap y3)) + u64.wrap ((u64.wrap ((u64.wrap (x3 - x2)).tmod 4096 * u64.wrap y3)).tdiv 4096)), x1, x2, x3, x4, x5, x6))) else none
abbrev YF209_402 : Type := Int → Int → Int → Int → Bool → LI → LI → ((Int × Int × Int × Int × Bool × LI × LI) → Option Ans) → Option Ans
def F_coder_interval_mid_402 (fuel : Nat) : YF209_402 := Fg_coder_interval_mid_402 fuel (F_coder_table_chance_bb9 fuel)
theorem F209_402_eqg (fuel : Nat) (f247_bb9 : YF247_bb9) (x0 x1 : Int) (x2 x3 : Int) (x4 : Bool) (x5 x6 : LI) (k : Ev.Cont) : evalFn tab (Gg209_402 f247_bb9) J0 kp209_402 fuel Tryz.f209 [.c (.ptr 0 0), .c (i6 x0)] [.cells 173 (i6 x1 :: .own 1 :: ctb (.int .u64 x2 :: .int .u64 x3 :: .own 2 :: .bool x4 :: [])), .vec 3 (.int .i64) x5 false, .vec 5 (.int .u8) x6 false] k = Fg_coder_interval_mid_402 fuel f247_bb9 x0 x1 x2 x3 x4 x5 x6 (fun r => match r with | (r0, r1, r2, r3, r4, r5, r6) => k (.c (.int .u64 r0), [.cells 173 (i6 r1 :: .own 1 :: ctb (.int .u64 r2 :: .int .u64 r3 :: .own 2 :: .bool r4 :: [])), .vec 3 (.int .i64) r5 false, .vec 5 (.int .u8) r6 false])) := by
  kernel_rfl
theorem hG209_402 (fuel : Nat) : GOK Tryz.prog (G209_402 fuel) :=
  gc (ok247_bb9 fuel) Tryz.func247 (by kernel_rfl) rfl <|
  gok_nil
def spg209_402 (F : YF209_402) : Ev.Spec := fun args objs k => match args, objs with | [.c (.ptr q0 q1), .c (i6 x0)], [.cells q2 cs0, .vec q3 (.int .i64) x5 false, .vec q4 (.int .u8) x6 false] => (match splitRun 2 ctn cs0 with | some ([i6 x1, .own q5], [.int .u64 x2, .int .u64 x3, .own q6, .bool x4]) => bif qb [q0, q1, q2, q3, q4, q5, q6] [0, 0, 173, 3, 5, 1, 2] then F x0 x1 x2 x3 x4 x5 x6 (fun r => match r with | (r0, r1, r2, r3, r4, r5, r6) => k (.c (.int .u64 r0), [.cells 173 (i6 r1 :: .own 1 :: ctb (.int .u64 r2 :: .int .u64 r3 :: .own 2 :: .bool r4 :: [])), .vec 3 (.int .i64) r5 false, .vec 5 (.int .u8) r6 false])) else none | _ => none) | _, _ => none
theorem ok209_402 (fuel : Nat) : FnOK Tryz.prog 209 (spg209_402 (F_coder_interval_mid_402 fuel)) := by
  intro args objs kk r h
  unfold spg209_402 at h
  split at h
  · skip
    split at h
    rotate_left 1
    · cases h
    rename_i hsp
    have esp := splitRun_eq hsp
    subst esp
    obtain ⟨hb, h⟩ := cond_some' h
    cases qb_eq hb
    exact fo0 (hG209_402 fuel) Tryz.func209 rfl (by kernel_rfl) _ _ kk r ((F209_402_eqg fuel (F_coder_table_chance_bb9 fuel) _ _ _ _ _ _ _ kk).trans h)
  · cases h
def kp210_a20 (i : Nat) : Option (List Nat) := Ev.look i [(200001, [0])]
def Gg210_a20 (f : Nat) : Option Ev.Spec := Ev.look f []
def G210_a20 (fuel : Nat) : Nat → Option Ev.Spec := Gg210_a20
def F_coder_interval_same_a20 (fuel : Nat) (x0 x1 x2 : Int) (x3 : Bool) (x4 x5 : (List Int)) (k0 : (Bool × Int × Int × Int × Bool × (List Int) × (List Int)) → Option Ans) : Option Ans := k0 (Ev.ishr IntKind.u64 x1 24 == Ev.ishr IntKind.u64 x2 24, x0, x1, x2, x3, x4, x5)
abbrev YF210_a20 : Type := Int → Int → Int → Bool → LI → LI → ((Bool × Int × Int × Int × Bool × LI × LI) → Option Ans) → Option Ans
theorem F210_a20_eq (fuel : Nat) (x0 x1 x2 : Int) (x3 : Bool) (x4 x5 : LI) (k : Ev.Cont) : evalFn tab (G210_a20 fuel) J0 kp210_a20 fuel Tryz.f210 [.c (.ptr 0 0)] [.cells 173 (i6 x0 :: .own 1 :: ctb (.int .u64 x1 :: .int .u64 x2 :: .own 2 :: .bool x3 :: [])), .vec 3 (.int .i64) x4 false, .vec 5 (.int .u8) x5 false] k = F_coder_interval_same_a20 fuel x0 x1 x2 x3 x4 x5 (fun r => match r with | (r0, r1, r2, r3, r4, r5, r6) => k (.c (.bool r0), [.cells 173 (i6 r1 :: .own 1 :: ctb (.int .u64 r2 :: .int .u64 r3 :: .own 2 :: .bool r4 :: [])), .vec 3 (.int .i64) r5 false, .vec 5 (.int .u8) r6 false])) := by
  kernel_rfl
theorem hG210_a20 (fuel : Nat) : GOK Tryz.prog (G210_a20 fuel) :=
  gok_nil
def spg210_a20 (F : YF210_a20) : Ev.Spec := fun args objs k => match args, objs with | [.c (.ptr q0 q1)], [.cells q2 cs0, .vec q3 (.int .i64) x4 false, .vec q4 (.int .u8) x5 false] => (match splitRun 2 ctn cs0 with | some ([i6 x0, .own q5], [.int .u64 x1, .int .u64 x2, .own q6, .bool x3]) => bif qb [q0, q1, q2, q3, q4, q5, q6] [0, 0, 173, 3, 5, 1, 2] then F x0 x1 x2 x3 x4 x5 (fun r => match r with | (r0, r1, r2, r3, r4, r5, r6) => k (.c (.bool r0), [.cells 173 (i6 r1 :: .own 1 :: ctb (.int .u64 r2 :: .int .u64 r3 :: .own 2 :: .bool r4 :: [])), .vec 3 (.int .i64) r5 false, .vec 5 (.int .u8) r6 false])) else none | _ => none) | _, _ => none
theorem ok210_a20 (fuel : Nat) : FnOK Tryz.prog 210 (spg210_a20 (F_coder_interval_same_a20 fuel)) := by
  intro args objs kk r h
  unfold spg210_a20 at h
  split at h
  · skip
    split at h
    rotate_left 1
    · cases h
    rename_i hsp
    have esp := splitRun_eq hsp
    subst esp
    obtain ⟨hb, h⟩ := cond_some' h
    cases qb_eq hb
    exact fo0 (hG210_a20 fuel) Tryz.func210 rfl (by kernel_rfl) _ _ kk r ((F210_a20_eq fuel _ _ _ _ _ _ kk).trans h)
  · cases h
def kp208_546 (i : Nat) : Option (List Nat) := Ev.look i [(200003, [0])]
def Gg208_546 (f246 : YF246) (f : Nat) : Option Ev.Spec := Ev.look f [(246, spg246 f246)]
def G208_546 (fuel : Nat) : Nat → Option Ev.Spec := Gg208_546 (F_coder_next fuel)
def Fg_coder_interval_take_546 (fuel : Nat) (f246 : YF246) (x0 x1 : Int) (x2 x3 : Int) (x4 x5 : Int) (x6 : Bool) (x7 x8 : LI) (k0 : (Int × Int × Int × Bool × LI × LI) → OA) : OA := bif x1 == 1 then bif decide (0 ≤ x0 ∧ x0 < (↑x7.length : Int)) then (f246 x3 (x7.getD x0.toNat 0) x1 (fun y4 => bif decide (0 ≤ x0 ∧ x0 < (↑x7.length : Int)) then k0 (x3, x4, x2, x6, x7.set x0.toNat y4, x8) else none)) else none else bif decide (0 ≤ x0 ∧ x0 < (↑x7.length : Int)) then (f246 x3 (x7.getD x0.toNat 0) x1 (fun y4 => bif decide (0 ≤ x0 ∧ x0 < (↑x7.length : Int)) then k0 (x3, u64.wrap (x2 + 1), x5, x6, x7.set x0.toNat y4, x8) else none)) else none
abbrev YF208_546 : Type := Int → Int → Int → Int → Int → Int → Bool → LI → LI → ((Int × Int × Int × Bool × LI × LI) → Option Ans) → Option Ans
def F_coder_interval_take_546 (fuel : Nat) : YF208_546 := Fg_coder_interval_take_546 fuel (F_coder_next fuel)
theorem F208_546_eqg (fuel : Nat) (f246 : YF246) (x0 x1 : Int) (x2 x3 : Int) (x4 x5 : Int) (x6 : Bool) (x7 x8 : LI) (k : Ev.Cont) : evalFn tab (Gg208_546 f246) J0 kp208_546 fuel Tryz.f208 [.c (.ptr 0 0), .c (i6 x0), .c (i6 x1), .c (.int .u64 x2)] [.cells 173 (i6 x3 :: .own 1 :: ctb (.int .u64 x4 :: .int .u64 x5 :: .own 2 :: .bool x6 :: [])), .vec 3 (.int .i64) x7 false, .vec 5 (.int .u8) x8 false] k = Fg_coder_interval_take_546 fuel f246 x0 x1 x2 x3 x4 x5 x6 x7 x8 (fun r => match r with | (r0, r1, r2, r3, r4, r5) => k (.tup [], [.cells 173 (i6 r0 :: .own 1 :: ctb (.int .u64 r1 :: .int .u64 r2 :: .own 2 :: .bool r3 :: [])), .vec 3 (.int .i64) r4 false, .vec 5 (.int .u8) r5 false])) := by
  kernel_rfl
theorem hG208_546 (fuel : Nat) : GOK Tryz.prog (G208_546 fuel) :=
  gc (ok246 fuel) Tryz.func246 (by kernel_rfl) rfl <|
  gok_nil
def spg208_546 (F : YF208_546) : Ev.Spec := fun args objs k => match args, objs with | [.c (.ptr q0 q1), .c (i6 x0), .c (i6 x1), .c (.int .u64 x2)], [.cells q2 cs0, .vec q3 (.int .i64) x7 false, .vec q4 (.int .u8) x8 false] => (match splitRun 2 ctn cs0 with | some ([i6 x3, .own q5], [.int .u64 x4, .int .u64 x5, .own q6, .bool x6]) => bif qb [q0, q1, q2, q3, q4, q5, q6] [0, 0, 173, 3, 5, 1, 2] then F x0 x1 x2 x3 x4 x5 x6 x7 x8 (fun r => match r with | (r0, r1, r2, r3, r4, r5) => k (.tup [], [.cells 173 (i6 r0 :: .own 1 :: ctb (.int .u64 r1 :: .int .u64 r2 :: .own 2 :: .bool r3 :: [])), .vec 3 (.int .i64) r4 false, .vec 5 (.int .u8) r5 false])) else none | _ => none) | _, _ => none
theorem ok208_546 (fuel : Nat) : FnOK Tryz.prog 208 (spg208_546 (F_coder_interval_take_546 fuel)) := by
  intro args objs kk r h
  unfold spg208_546 at h
  split at h
  · skip
    split at h
    rotate_left 1
    · cases h
    rename_i hsp
    have esp := splitRun_eq hsp
    subst esp
    obtain ⟨hb, h⟩ := cond_some' h
    cases qb_eq hb
    exact fo0 (hG208_546 fuel) Tryz.func208 rfl (by kernel_rfl) _ _ kk r ((F208_546_eqg fuel (F_coder_next fuel) _ _ _ _ _ _ _ _ _ kk).trans h)
  · cases h
def kp121_cf0 (i : Nat) : Option (List Nat) := Ev.look i [(6, [0, 1000002]), (100001, []), (400001, [6]), (600000, [])]
def Gg121_cf0 (f128_a20 : YF128_a20) (f208_546 : YF208_546) (f209_402 : YF209_402) (f210_a20 : YF210_a20) (f211_a20 : YF211_a20) (f : Nat) : Option Ev.Spec := Ev.look f [(128, spg128_a20 f128_a20), (208, spg208_546 f208_546), (209, spg209_402 f209_402), (210, spg210_a20 f210_a20), (211, spg211_a20 f211_a20)]
def G121_cf0 (fuel : Nat) : Nat → Option Ev.Spec := Gg121_cf0 (F_coder_Encoder_none_a20 fuel) (F_coder_interval_take_546 fuel) (F_coder_interval_mid_402 fuel) (F_coder_interval_same_a20 fuel) (F_coder_interval_lose_a20 fuel)
abbrev V_coder_Encoder_Put_cf0_1 : Type := Int × Int × Int × Bool × LI × LI
abbrev W_coder_Encoder_Put_cf0_1 : Type := (Int × Int × Int × Bool × LI × LI → OA)
def Sg_coder_Encoder_Put_cf0_1 (fuel : Nat) (f128_a20 : YF128_a20) (f208_546 : YF208_546) (f209_402 : YF209_402) (f210_a20 : YF210_a20) (f211_a20 : YF211_a20) (x0 x1 x2 : Int) (x3 : Bool) (x4 x5 : LI) (c : V_coder_Encoder_Put_cf0_1 → OA) (B : W_coder_Encoder_Put_cf0_1) : OA := match B with | b => (f210_a20 x0 x1 x2 x3 x4 x5 (fun (y2_0, y2_1, y2_2, y2_3, y2_4, y2_5, y2_6) => bif y2_0 then both ((f211_a20 y2_1 y2_2 y2_3 y2_4 y2_5 y2_6 (fun (y9_0, y9_1, y9_2, y9_3, y9_4, y9_5, y9_6) => bif decide ((y9_6.length + [y9_0].length) * (1 : Nat) ≤ (140737488355328 : Nat) ∧ y9_6.length + [y9_0].length ≤ (140737488355328 : Nat)) then c (y9_1, y9_2, y9_3, y9_4, y9_5, y9_6 ++ [y9_0]) else none))) ((f211_a20 y2_1 y2_2 y2_3 y2_4 y2_5 y2_6 (fun (y9_0, y9_1, y9_2, y9_3, y9_4, y9_5, y9_6) => both (bif decide ((y9_6.length + [y9_0].length) * (1 : Nat) ≤ (140737488355328 : Nat) ∧ y9_6.length + [y9_0].length ≤ (140737488355328 : Nat)) then c (y9_1, y9_2, y9_3, y9_4, y9_5, y9_6 ++ [y9_0]) else none) (bif decide ((y9_6.length + [y9_0].length) * (1 : Nat) ≤ (140737488355328 : Nat) ∧ y9_6.length + [y9_0].length ≤ (140737488355328 : Nat)) then c (y9_1, y9_2, y9_3, y9_4, y9_5, y9_6 ++ [y9_0]) else none)))) else b (y2_1, y2_2, y2_3, y2_4, y2_5, y2_6)))
def S_coder_Encoder_Put_cf0_1 (fuel : Nat) (v : Int × Int × Int × Bool × (List Int) × (List Int)) (c : (Int × Int × Int × Bool × (List Int) × (List Int)) → Option Ans) (B : (Int × Int × Int × Bool × (List Int) × (List Int) → Option Ans)) : Option Ans := match v with | (x0, x1, x2, x3, x4, x5) => Sg_coder_Encoder_Put_cf0_1 fuel (F_coder_Encoder_none_a20 fuel) (F_coder_interval_take_546 fuel) (F_coder_interval_mid_402 fuel) (F_coder_interval_same_a20 fuel) (F_coder_interval_lose_a20 fuel) x0 x1 x2 x3 x4 x5 c B
def L_coder_Encoder_Put_cf0_1 (fuel : Nat) (v : V_coder_Encoder_Put_cf0_1) (b : W_coder_Encoder_Put_cf0_1) : Option Ans := iter (S_coder_Encoder_Put_cf0_1 fuel) fuel v b
def T121_cf0_1 (v : V_coder_Encoder_Put_cf0_1) : Ev.St := match v with | (x0, x1, x2, x3, x4, x5) => ⟨[(0, .c (.ptr 0 0))], [(0, .cells 173 (i6 x0 :: .own 1 :: ctb (.int .u64 x1 :: .int .u64 x2 :: .own 2 :: .bool x3 :: []))), (1, .vec 3 (.int .i64) x4 false), (2, .vec 5 (.int .u8) x5 true)], 3, 3⟩
def E121_cf0_1 (K : KT) : W_coder_Encoder_Put_cf0_1 := (fun v => match v with | (x0, x1, x2, x3, x4, x5) => K .normal ⟨[], [(0, .cells 173 (i6 x0 :: .own 1 :: ctb (.int .u64 x1 :: .int .u64 x2 :: .own 2 :: .bool x3 :: []))), (1, .vec 3 (.int .i64) x4 false), (2, .vec 5 (.int .u8) x5 true)], 3, 3⟩)
theorem S121_cf0_1_okg (fuel : Nat) (f128_a20 : YF128_a20) (f208_546 : YF208_546) (f209_402 : YF209_402) (f210_a20 : YF210_a20) (f211_a20 : YF211_a20) (R : Ev.St → OA) (K : KT) (x0 x1 x2 : Int) (x3 : Bool) (x4 x5 : LI) : evalCode tab (Gg121_cf0 f128_a20 f208_546 f209_402 f210_a20 f211_a20) J0 kp121_cf0 fuel (bodyOf 1 Tryz.f121) (T121_cf0_1 (x0, x1, x2, x3, x4, x5)) (lc kp121_cf0 6 1 R K) = Sg_coder_Encoder_Put_cf0_1 fuel f128_a20 f208_546 f209_402 f210_a20 f211_a20 x0 x1 x2 x3 x4 x5 (fun v => R (T121_cf0_1 v)) (E121_cf0_1 K) := by
  kernel_rfl
def B121_cf0_1 (fuel : Nat) : Ev.Blk := fun st K => match canonO (kp121_cf0 6) st with | some s => (match s with | ⟨[(q0, .c (.ptr q1 q2))], [(q3, .cells q4 cs0), (q5, .vec q6 (.int .i64) x4 false), (q7, .vec q8 (.int .u8) x5 true)], q9, q10⟩ => (match splitRun 2 ctn cs0 with | some ([i6 x0, .own q11], [.int .u64 x1, .int .u64 x2, .own q12, .bool x3]) => bif qb [q0, q1, q2, q3, q4, q5, q6, q7, q8, q9, q10, q11, q12] [0, 0, 0, 0, 173, 1, 3, 2, 5, 3, 3, 1, 2] then iter (S_coder_Encoder_Put_cf0_1 fuel) fuel (x0, x1, x2, x3, x4, x5) (E121_cf0_1 K) else none | _ => none) | _ => none) | none => none
theorem B121_cf0_1_ok (fuel : Nat) (st : Ev.St) (K : KT) (r : Ans) (h : B121_cf0_1 fuel st K = some r) : evalCode tab (G121_cf0 fuel) J0 kp121_cf0 fuel (.block 1 (.loop (bodyOf 1 Tryz.f121))) st K = some r := by
  unfold B121_cf0_1 at h
  split at h
  · rename_i s hs
    split at h
    · skip
      split at h
      rotate_left 1
      · cases h
      rename_i hsp
      have esp := splitRun_eq hsp
      subst esp
      obtain ⟨hb, h⟩ := cond_some' h
      cases qb_eq hb
      exact blk_loop (S := T121_cf0_1) (ks := E121_cf0_1) (step := S_coder_Encoder_Put_cf0_1 fuel) (v := (_, _, _, _, _, _)) (by kernel_rfl) (by kernel_rfl) (fun R K v => by obtain ⟨x0, x1, x2, x3, x4, x5⟩ := v; exact S121_cf0_1_okg fuel (F_coder_Encoder_none_a20 fuel) (F_coder_interval_take_546 fuel) (F_coder_interval_mid_402 fuel) (F_coder_interval_same_a20 fuel) (F_coder_interval_lose_a20 fuel) R K x0 x1 x2 x3 x4 x5) hs h
    · cases h
  · cases h
def J121_cf0 (fuel : Nat) (i : Nat) : Option Ev.Blk := Ev.look i [(100001, B121_cf0_1 fuel)]
def Fg_coder_Encoder_Put_cf0 (fuel : Nat) (f128_a20 : YF128_a20) (f208_546 : YF208_546) (f209_402 : YF209_402) (f210_a20 : YF210_a20) (f211_a20 : YF211_a20) (x0 x1 : Int) (x2 x3 x4 : Int) (x5 : Bool) (x6 x7 : LI) (k0 : (Int × Int × Int × Int × Bool × LI × LI) → OA) (k1 : (Int × Int × Int × Int × Bool × LI × LI) → OA) : OA := (f128_a20 x2 x3 x4 x5 x6 x7 (fun (y2_0, y2_1, y2_2, y2_3, y2_4, y2_5, y2_6) => bif y2_0 then k0 (7, y2_1, y2_2, y2_3, y2_4, y2_5, y2_6) else bif decide (x0 < 0) then k0 (2, y2_1, y2_2, y2_3, y2_4, y2_5, y2_6) else bif decide (x0 ≥ (↑y2_5.length : Int)) then k0 (2, y2_1, y2_2, y2_3, y2_4, y2_5, y2_6) else bif x1 != 0 then bif x1 != 1 then k0 (2, y2_1, y2_2, y2_3, y2_4, y2_5, y2_6) else (f209_402 x0 y2_1 y2_2 y2_3 y2_4 y2_5 y2_6 (fun (y11_0, y11_1, y11_2, y11_3, y11_4, y11_5, y11_6) => (f208_546 x0 x1 y11_0 y11_1 y11_2 y11_3 y11_4 y11_5 y11_6 (fun (y15_0, y15_1, y15_2, y15_3, y15_4, y15_5) => (L_coder_Encoder_Put_cf0_1 fuel (y15_0, y15_1, y15_2, y15_3, y15_4, y15_5) (fun (b1_0, b1_1, b1_2, b1_3, b1_4, b1_5) => k1 (0, b1_0, b1_1, b1_2, b1_3, b1_4, b1_5))))))) else (f209_402 x0 y2_1 y2_2 y2_3 y2_4 y2_5 y2_6 (fun (y10_0, y10_1, y10_2, y10_3, y10_4, y10_5, y10_6) => (f208_546 x0 x1 y10_0 y10_1 y10_2 y10_3 y10_4 y10_5 y10_6 (fun (y14_0, y14_1, y14_2, y14_3, y14_4, y14_5) => (L_coder_Encoder_Put_cf0_1 fuel (y14_0, y14_1, y14_2, y14_3, y14_4, y14_5) (fun (b1_0, b1_1, b1_2, b1_3, b1_4, b1_5) => k1 (0, b1_0, b1_1, b1_2, b1_3, b1_4, b1_5)))))))))
abbrev YF121_cf0 : Type := Int → Int → Int → Int → Int → Bool → LI → LI → ((Int × Int × Int × Int × Bool × LI × LI) → Option Ans) → ((Int × Int × Int × Int × Bool × LI × LI) → Option Ans) → Option Ans
def F_coder_Encoder_Put_cf0 (fuel : Nat) : YF121_cf0 := Fg_coder_Encoder_Put_cf0 fuel (F_coder_Encoder_none_a20 fuel) (F_coder_interval_take_546 fuel) (F_coder_interval_mid_402 fuel) (F_coder_interval_same_a20 fuel) (F_coder_interval_lose_a20 fuel)
theorem F121_cf0_eqg (fuel : Nat) (f128_a20 : YF128_a20) (f208_546 : YF208_546) (f209_402 : YF209_402) (f210_a20 : YF210_a20) (f211_a20 : YF211_a20) (x0 x1 : Int) (x2 x3 x4 : Int) (x5 : Bool) (x6 x7 : LI) (k : Ev.Cont) : evalFn tab (Gg121_cf0 f128_a20 f208_546 f209_402 f210_a20 f211_a20) (J121_cf0 fuel) kp121_cf0 fuel Tryz.f121 [.c (.ptr 0 0), .c (i6 x0), .c (i6 x1)] [.cells 173 (i6 x2 :: .own 1 :: ctb (.int .u64 x3 :: .int .u64 x4 :: .own 2 :: .bool x5 :: [])), .vec 3 (.int .i64) x6 false, .vec 5 (.int .u8) x7 false] k = Fg_coder_Encoder_Put_cf0 fuel f128_a20 f208_546 f209_402 f210_a20 f211_a20 x0 x1 x2 x3 x4 x5 x6 x7 (fun r => match r with | (r0, r1, r2, r3, r4, r5, r6) => k (.c (i6 r0), [.cells 173 (i6 r1 :: .own 1 :: ctb (.int .u64 r2 :: .int .u64 r3 :: .own 2 :: .bool r4 :: [])), .vec 3 (.int .i64) r5 false, .vec 5 (.int .u8) r6 false])) (fun r => match r with | (r0, r1, r2, r3, r4, r5, r6) => k (.c (i6 r0), [.cells 173 (i6 r1 :: .own 1 :: ctb (.int .u64 r2 :: .int .u64 r3 :: .own 2 :: .bool r4 :: [])), .vec 3 (.int .i64) r5 false, .vec 5 (.int .u8) r6 true])) := by
  kernel_rfl
theorem hG121_cf0 (fuel : Nat) : GOK Tryz.prog (G121_cf0 fuel) :=
  gc (ok128_a20 fuel) Tryz.func128 (by kernel_rfl) rfl <|
  gc (ok208_546 fuel) Tryz.func208 (by kernel_rfl) rfl <|
  gc (ok209_402 fuel) Tryz.func209 (by kernel_rfl) rfl <|
  gc (ok210_a20 fuel) Tryz.func210 (by kernel_rfl) rfl <|
  gc (ok211_a20 fuel) Tryz.func211 (by kernel_rfl) rfl <|
  gok_nil
theorem B121_cf0_1_blk (fuel : Nat) : BlkOK Tryz.prog Tryz.f121.ntmps (.block 1 (.loop (bodyOf 1 Tryz.f121))) (B121_cf0_1 fuel) := bo0 (hG121_cf0 fuel) (by kernel_rfl) (by kernel_rfl) (B121_cf0_1_ok fuel)
def spg121_cf0 (F : YF121_cf0) : Ev.Spec := fun args objs k => match args, objs with | [.c (.ptr q0 q1), .c (i6 x0), .c (i6 x1)], [.cells q2 cs0, .vec q3 (.int .i64) x6 false, .vec q4 (.int .u8) x7 false] => (match splitRun 2 ctn cs0 with | some ([i6 x2, .own q5], [.int .u64 x3, .int .u64 x4, .own q6, .bool x5]) => bif qb [q0, q1, q2, q3, q4, q5, q6] [0, 0, 173, 3, 5, 1, 2] then F x0 x1 x2 x3 x4 x5 x6 x7 (fun r => match r with | (r0, r1, r2, r3, r4, r5, r6) => k (.c (i6 r0), [.cells 173 (i6 r1 :: .own 1 :: ctb (.int .u64 r2 :: .int .u64 r3 :: .own 2 :: .bool r4 :: [])), .vec 3 (.int .i64) r5 false, .vec 5 (.int .u8) r6 false])) (fun r => match r with | (r0, r1, r2, r3, r4, r5, r6) => k (.c (i6 r0), [.cells 173 (i6 r1 :: .own 1 :: ctb (.int .u64 r2 :: .int .u64 r3 :: .own 2 :: .bool r4 :: [])), .vec 3 (.int .i64) r5 false, .vec 5 (.int .u8) r6 true])) else none | _ => none) | _, _ => none
theorem ok121_cf0 (fuel : Nat) : FnOK Tryz.prog 121 (spg121_cf0 (F_coder_Encoder_Put_cf0 fuel)) := by
  intro args objs kk r h
  unfold spg121_cf0 at h
  split at h
  · skip
    split at h
    rotate_left 1
    · cases h
    rename_i hsp
    have esp := splitRun_eq hsp
    subst esp
    obtain ⟨hb, h⟩ := cond_some' h
    cases qb_eq hb
    exact fo1 (hG121_cf0 fuel) Tryz.func121 rfl (B121_cf0_1_blk fuel) (by kernel_rfl) _ _ kk r ((F121_cf0_eqg fuel (F_coder_Encoder_none_a20 fuel) (F_coder_interval_take_546 fuel) (F_coder_interval_mid_402 fuel) (F_coder_interval_same_a20 fuel) (F_coder_interval_lose_a20 fuel) _ _ _ _ _ _ _ _ kk).trans h)
  · cases h
def kp123 (i : Nat) : Option (List Nat) := Ev.look i [(2, [2, 3, 8, 9, 10]), (100000, []), (400000, [4])]
def Gg123 (f124 : YF124) (f213 : YF213) (f : Nat) : Option Ev.Spec := Ev.look f [(124, spg124 f124), (213, spg213 f213)]
def G123 (fuel : Nat) : Nat → Option Ev.Spec := Gg123 (F_generic_sides fuel) (F_generic_skips fuel)
abbrev V_generic_clash_0 : Type := LI × Int × Int × Int × Int × LI × Int × Int × LI
abbrev W_generic_clash_0 : Type := (Bool → OA) × (Unit → OA)
def Sg_generic_clash_0 (fuel : Nat) (f124 : YF124) (f213 : YF213) (x0 : LI) (x1 x2 : Int) (x3 x4 : Int) (x5 : LI) (x6 x7 : Int) (x8 : LI) (c : V_generic_clash_0 → OA) (B : W_generic_clash_0) : OA := match B with | (ret, b) => bif decide (x2 < x1) then bif decide (0 ≤ x2 ∧ x2 < (↑x0.length : Int)) then bif x0.getD x2.toNat (0 : Int) == (1 : Int) then (f124 x6 x7 x8 x3 x4 (fun y5 => bif y5 then (f213 x6 x7 x8 x2 (fun y10 => bif y10 then ret true else c (x0, x1, i64.wrap (x2 + 1), x3, x4, x5, x6, x7, x8))) else c (x0, x1, i64.wrap (x2 + 1), x3, x4, x5, x6, x7, x8))) else c (x0, x1, i64.wrap (x2 + 1), x3, x4, x5, x6, x7, x8) else none else b ()
def S_generic_clash_0 (fuel : Nat) (v : (List Int) × Int × Int × Int × Int × (List Int) × Int × Int × (List Int)) (c : ((List Int) × Int × Int × Int × Int × (List Int) × Int × Int × (List Int)) → Option Ans) (B : (Bool → Option Ans) × (Unit → Option Ans)) : Option Ans := match v with | (x0, x1, x2, x3, x4, x5, x6, x7, x8) => Sg_generic_clash_0 fuel (F_generic_sides fuel) (F_generic_skips fuel) x0 x1 x2 x3 x4 x5 x6 x7 x8 c B
def L_generic_clash_0 (fuel : Nat) (v : V_generic_clash_0) (ret : (Bool → Option Ans)) (b : (Unit → Option Ans)) : Option Ans := iter (S_generic_clash_0 fuel) fuel v (ret, b)
def T123_0 (v : V_generic_clash_0) : Ev.St := match v with | (x0, x1, x2, x3, x4, x5, x6, x7, x8) => ⟨[(2, .c (.ptr 0 0)), (3, .c (.ptr 1 0)), (8, .c (.sl (.int .u8) x0)), (9, .c (i6 x1)), (10, .c (i6 x2))], [(0, .cells 51 [i6 x3, i6 x4, .sl (.int .u8) x5]), (1, .cells 51 [i6 x6, i6 x7, .sl (.int .u8) x8])], 2, 0⟩
def E123_0 (K : KT) : W_generic_clash_0 := ((fun v => match v with | x0 => K .ret ⟨[(4, .c (.bool x0))], [], 0, 0⟩), (fun v => match v with | () => K .normal ⟨[], [], 0, 0⟩))
theorem S123_0_okg (fuel : Nat) (f124 : YF124) (f213 : YF213) (R : Ev.St → OA) (K : KT) (x0 : LI) (x1 x2 : Int) (x3 x4 : Int) (x5 : LI) (x6 x7 : Int) (x8 : LI) : evalCode tab (Gg123 f124 f213) J0 kp123 fuel (bodyOf 0 Tryz.f123) (T123_0 (x0, x1, x2, x3, x4, x5, x6, x7, x8)) (lc kp123 2 0 R K) = Sg_generic_clash_0 fuel f124 f213 x0 x1 x2 x3 x4 x5 x6 x7 x8 (fun v => R (T123_0 v)) (E123_0 K) := by
  kernel_rfl
def B123_0 (fuel : Nat) : Ev.Blk := fun st K => match canonO (kp123 2) st with | some s => (match s with | ⟨[(q0, .c (.ptr q1 q2)), (q3, .c (.ptr q4 q5)), (q6, .c (.sl (.int .u8) x0)), (q7, .c (i6 x1)), (q8, .c (i6 x2))], [(q9, .cells q10 [i6 x3, i6 x4, .sl (.int .u8) x5]), (q11, .cells q12 [i6 x6, i6 x7, .sl (.int .u8) x8])], q13, q14⟩ => bif qb [q0, q1, q2, q3, q4, q5, q6, q7, q8, q9, q10, q11, q12, q13, q14] [2, 0, 0, 3, 1, 0, 8, 9, 10, 0, 51, 1, 51, 2, 0] then iter (S_generic_clash_0 fuel) fuel (x0, x1, x2, x3, x4, x5, x6, x7, x8) (E123_0 K) else none | _ => none) | none => none
theorem B123_0_ok (fuel : Nat) (st : Ev.St) (K : KT) (r : Ans) (h : B123_0 fuel st K = some r) : evalCode tab (G123 fuel) J0 kp123 fuel (.block 0 (.loop (bodyOf 0 Tryz.f123))) st K = some r := by
  unfold B123_0 at h
  split at h
  · rename_i s hs
    split at h
    · skip
      obtain ⟨hb, h⟩ := cond_some' h
      cases qb_eq hb
      exact blk_loop (S := T123_0) (ks := E123_0) (step := S_generic_clash_0 fuel) (v := (_, _, _, _, _, _, _, _, _)) (by kernel_rfl) (by kernel_rfl) (fun R K v => by obtain ⟨x0, x1, x2, x3, x4, x5, x6, x7, x8⟩ := v; exact S123_0_okg fuel (F_generic_sides fuel) (F_generic_skips fuel) R K x0 x1 x2 x3 x4 x5 x6 x7 x8) hs h
    · cases h
  · cases h
def J123 (fuel : Nat) (i : Nat) : Option Ev.Blk := Ev.look i [(100000, B123_0 fuel)]
def Fg_generic_clash (fuel : Nat) (f124 : YF124) (f213 : YF213) (x0 x1 : Int) (x2 : LI) (x3 x4 : Int) (x5 : LI) (k0 : (Bool) → OA) : OA := (L_generic_clash_0 fuel (x2, (↑x2.length : Int), 0, x0, x1, x2, x3, x4, x5) (fun ret0_0 => k0 ret0_0) (fun () => k0 false))
abbrev YF123 : Type := Int → Int → LI → Int → Int → LI → (Bool → Option Ans) → Option Ans
def F_generic_clash (fuel : Nat) : YF123 := Fg_generic_clash fuel (F_generic_sides fuel) (F_generic_skips fuel)
theorem F123_eqg (fuel : Nat) (f124 : YF124) (f213 : YF213) (x0 x1 : Int) (x2 : LI) (x3 x4 : Int) (x5 : LI) (k : Ev.Cont) : evalFn tab (Gg123 f124 f213) (J123 fuel) kp123 fuel Tryz.f123 [.agg [i6 x0, i6 x1, .sl (.int .u8) x2], .agg [i6 x3, i6 x4, .sl (.int .u8) x5]] [] k = Fg_generic_clash fuel f124 f213 x0 x1 x2 x3 x4 x5 (fun r => match r with | r0 => k (.c (.bool r0), [])) := by
  kernel_rfl
theorem hG123 (fuel : Nat) : GOK Tryz.prog (G123 fuel) :=
  gc (ok124 fuel) Tryz.func124 (by kernel_rfl) rfl <|
  gc (ok213 fuel) Tryz.func213 (by kernel_rfl) rfl <|
  gok_nil
theorem B123_0_blk (fuel : Nat) : BlkOK Tryz.prog Tryz.f123.ntmps (.block 0 (.loop (bodyOf 0 Tryz.f123))) (B123_0 fuel) := bo0 (hG123 fuel) (by kernel_rfl) (by kernel_rfl) (B123_0_ok fuel)
def spg123 (F : YF123) : Ev.Spec := fun args objs k => match args, objs with | [.agg [i6 x0, i6 x1, .sl (.int .u8) x2], .agg [i6 x3, i6 x4, .sl (.int .u8) x5]], [] => F x0 x1 x2 x3 x4 x5 (fun r => match r with | r0 => k (.c (.bool r0), [])) | _, _ => none
theorem ok123 (fuel : Nat) : FnOK Tryz.prog 123 (spg123 (F_generic_clash fuel)) := by
  intro args objs kk r h
  unfold spg123 at h
  split at h
  · skip
    exact fo1 (hG123 fuel) Tryz.func123 rfl (B123_0_blk fuel) (by kernel_rfl) _ _ kk r ((F123_eqg fuel (F_generic_sides fuel) (F_generic_skips fuel) _ _ _ _ _ _ kk).trans h)
  · cases h
def kp214 (i : Nat) : Option (List Nat) := Ev.look i []
def Gg214 (f : Nat) : Option Ev.Spec := Ev.look f []
def G214 (fuel : Nat) : Nat → Option Ev.Spec := Gg214
def F_bytes_Equal (fuel : Nat) (x0 x1 : (List Int)) (k0 : (Bool) → Option Ans) : Option Ans := k0 ((Go.strOfNums x0).toList == (Go.strOfNums x1).toList)
abbrev YF214 : Type := LI → LI → (Bool → Option Ans) → Option Ans
theorem F214_eq (fuel : Nat) (x0 x1 : LI) (k : Ev.Cont) : evalFn tab (G214 fuel) J0 kp214 fuel Tryz.f214 [.c (.sl (.int .u8) x0), .c (.sl (.int .u8) x1)] [] k = F_bytes_Equal fuel x0 x1 (fun r => match r with | r0 => k (.c (.bool r0), [])) := by
  kernel_rfl
theorem hG214 (fuel : Nat) : GOK Tryz.prog (G214 fuel) :=
  gok_nil
def spg214 (F : YF214) : Ev.Spec := fun args objs k => match args, objs with | [.c (.sl (.int .u8) x0), .c (.sl (.int .u8) x1)], [] => F x0 x1 (fun r => match r with | r0 => k (.c (.bool r0), [])) | _, _ => none
theorem ok214 (fuel : Nat) : FnOK Tryz.prog 214 (spg214 (F_bytes_Equal fuel)) := by
  intro args objs kk r h
  unfold spg214 at h
  split at h
  · skip
    exact fo0 (hG214 fuel) Tryz.func214 rfl (by kernel_rfl) _ _ kk r ((F214_eq fuel _ _ kk).trans h)
  · cases h
def kp248_a34 (i : Nat) : Option (List Nat) := Ev.look i [(200003, [0])]
def Gg248_a34 (f : Nat) : Option Ev.Spec := Ev.look f []
def G248_a34 (fuel : Nat) : Nat → Option Ev.Spec := Gg248_a34
def F_generic_plane_at_a34 (fuel : Nat) (x0 x1 : Int) (x2 x3 : Int) (x4 : (List Int)) (x5 : (List (Int × Int))) (k0 : (Int × Int × Int × (List Int) × (List (Int × Int))) → Option Ans) : Option Ans := bif decide (x0 < 0) then k0 (0, x2, x3, x4, x5) else bif decide (x1 < 0) then k0 (0, x2, x3, x4, x5) else bif decide (x0 ≥ x2) then k0 (0, x2, x3, x4, x5) else bif decide (x1 ≥ x3) then k0 (0, x2, x3, x4, x5) else bif decide (0 ≤ i64.wrap (i64.wrap (x1 * x2) + x0) ∧ i64.wrap (i64.wrap (x1 * x2) + x0) < (↑x4.length : Int)) then k0 (x4.getD (i64.wrap (i64.wrap (x1 * x2) + x0)).toNat 0, x2, x3, x4, x5) else none
abbrev YF248_a34 : Type := Int → Int → Int → Int → LI → ((List (Int × Int))) → ((Int × Int × Int × LI × (List (Int × Int))) → Option Ans) → Option Ans
theorem F248_a34_eq (fuel : Nat) (x0 x1 : Int) (x2 x3 : Int) (x4 : LI) (x5 : (List (Int × Int))) (k : Ev.Cont) : evalFn tab (G248_a34 fuel) J0 kp248_a34 fuel Tryz.f248 [.c (.ptr 0 0), .c (i6 x0), .c (i6 x1)] [.cells 200 [i6 x2, i6 x3, .sl (.int .u8) x4, .own 1], .vec 76 (.pair (.int .i64) (.int .i64)) x5 false] k = F_generic_plane_at_a34 fuel x0 x1 x2 x3 x4 x5 (fun r => match r with | (r0, r1, r2, r3, r4) => k (.c (.int .u8 r0), [.cells 200 [i6 r1, i6 r2, .sl (.int .u8) r3, .own 1], .vec 76 (.pair (.int .i64) (.int .i64)) r4 false])) := by
  kernel_rfl
theorem hG248_a34 (fuel : Nat) : GOK Tryz.prog (G248_a34 fuel) :=
  gok_nil
def spg248_a34 (F : YF248_a34) : Ev.Spec := fun args objs k => match args, objs with | [.c (.ptr q0 q1), .c (i6 x0), .c (i6 x1)], [.cells q2 [i6 x2, i6 x3, .sl (.int .u8) x4, .own q3], .vec q4 (.pair (.int .i64) (.int .i64)) x5 false] => bif qb [q0, q1, q2, q3, q4] [0, 0, 200, 1, 76] then F x0 x1 x2 x3 x4 x5 (fun r => match r with | (r0, r1, r2, r3, r4) => k (.c (.int .u8 r0), [.cells 200 [i6 r1, i6 r2, .sl (.int .u8) r3, .own 1], .vec 76 (.pair (.int .i64) (.int .i64)) r4 false])) else none | _, _ => none
theorem ok248_a34 (fuel : Nat) : FnOK Tryz.prog 248 (spg248_a34 (F_generic_plane_at_a34 fuel)) := by
  intro args objs kk r h
  unfold spg248_a34 at h
  split at h
  · skip
    obtain ⟨hb, h⟩ := cond_some' h
    cases qb_eq hb
    exact fo0 (hG248_a34 fuel) Tryz.func248 rfl (by kernel_rfl) _ _ kk r ((F248_a34_eq fuel _ _ _ _ _ _ kk).trans h)
  · cases h
def kp215_b9e (i : Nat) : Option (List Nat) := Ev.look i [(3, [0, 1, 5, 7, 15, 16]), (100000, [7]), (200005, [0, 5]), (400000, [6])]
def Gg215_b9e (f213 : YF213) (f248_a34 : YF248_a34) (f : Nat) : Option Ev.Spec := Ev.look f [(213, spg213 f213), (248, spg248_a34 f248_a34)]
def G215_b9e (fuel : Nat) : Nat → Option Ev.Spec := Gg215_b9e (F_generic_skips fuel) (F_generic_plane_at_a34 fuel)
abbrev V_generic_plane_above_b9e_0 : Type := Int × Int × Int × Int × Int × LI × (List (Int × Int)) × Int × Int × LI × LI
abbrev W_generic_plane_above_b9e_0 : Type := (Int × Int × LI × (List (Int × Int)) × LI → OA)
def Sg_generic_plane_above_b9e_0 (fuel : Nat) (f213 : YF213) (f248_a34 : YF248_a34) (x0 x1 : Int) (x2 x3 x4 : Int) (x5 : LI) (x6 : (List (Int × Int))) (x7 x8 : Int) (x9 x10 : LI) (c : V_generic_plane_above_b9e_0 → OA) (B : W_generic_plane_above_b9e_0) : OA := match B with | b => bif decide (x2 < x1) then (f213 x7 x8 x9 (i64.wrap (i64.wrap (x0 * x3) + x2)) (fun y3 => bif !y3 then (f248_a34 x2 (i64.wrap (x0 - 1)) x3 x4 x5 x6 (fun (y8_0, y8_1, y8_2, y8_3, y8_4) => bif decide (0 ≤ x2 ∧ x2 < (↑x10.length : Int)) then c (x0, x1, i64.wrap (x2 + 1), y8_1, y8_2, y8_3, y8_4, x7, x8, x9, x10.set x2.toNat y8_0) else none)) else c (x0, x1, i64.wrap (x2 + 1), x3, x4, x5, x6, x7, x8, x9, x10))) else b (x3, x4, x5, x6, x10)
def S_generic_plane_above_b9e_0 (fuel : Nat) (v : Int × Int × Int × Int × Int × (List Int) × (List (Int × Int)) × Int × Int × (List Int) × (List Int)) (c : (Int × Int × Int × Int × Int × (List Int) × (List (Int × Int)) × Int × Int × (List Int) × (List Int)) → Option Ans) (B : (Int × Int × (List Int) × (List (Int × Int)) × (List Int) → Option Ans)) : Option Ans := match v with | (x0, x1, x2, x3, x4, x5, x6, x7, x8, x9, x10) => Sg_generic_plane_above_b9e_0 fuel (F_generic_skips fuel) (F_generic_plane_at_a34 fuel) x0 x1 x2 x3 x4 x5 x6 x7 x8 x9 x10 c B
def L_generic_plane_above_b9e_0 (fuel : Nat) (v : V_generic_plane_above_b9e_0) (b : W_generic_plane_above_b9e_0) : Option Ans := iter (S_generic_plane_above_b9e_0 fuel) fuel v b
def T215_b9e_0 (v : V_generic_plane_above_b9e_0) : Ev.St := match v with | (x0, x1, x2, x3, x4, x5, x6, x7, x8, x9, x10) => ⟨[(0, .c (.ptr 0 0)), (1, .c (i6 x0)), (5, .c (.ptr 2 0)), (7, .c (.own 3)), (15, .c (i6 x1)), (16, .c (i6 x2))], [(0, .cells 200 [i6 x3, i6 x4, .sl (.int .u8) x5, .own 1]), (1, .vec 76 (.pair (.int .i64) (.int .i64)) x6 false), (2, .cells 51 [i6 x7, i6 x8, .sl (.int .u8) x9]), (3, .vec 5 (.int .u8) x10 true)], 4, 2⟩
def E215_b9e_0 (K : KT) : W_generic_plane_above_b9e_0 := (fun v => match v with | (x0, x1, x2, x3, x4) => K .normal ⟨[(7, .c (.own 2))], [(0, .cells 200 [i6 x0, i6 x1, .sl (.int .u8) x2, .own 1]), (1, .vec 76 (.pair (.int .i64) (.int .i64)) x3 false), (2, .vec 5 (.int .u8) x4 true)], 3, 2⟩)
theorem S215_b9e_0_okg (fuel : Nat) (f213 : YF213) (f248_a34 : YF248_a34) (R : Ev.St → OA) (K : KT) (x0 x1 : Int) (x2 x3 x4 : Int) (x5 : LI) (x6 : (List (Int × Int))) (x7 x8 : Int) (x9 x10 : LI) : evalCode tab (Gg215_b9e f213 f248_a34) J0 kp215_b9e fuel (bodyOf 0 Tryz.f215) (T215_b9e_0 (x0, x1, x2, x3, x4, x5, x6, x7, x8, x9, x10)) (lc kp215_b9e 3 0 R K) = Sg_generic_plane_above_b9e_0 fuel f213 f248_a34 x0 x1 x2 x3 x4 x5 x6 x7 x8 x9 x10 (fun v => R (T215_b9e_0 v)) (E215_b9e_0 K) := by
  kernel_rfl
def B215_b9e_0 (fuel : Nat) : Ev.Blk := fun st K => match canonO (kp215_b9e 3) st with | some s => (match s with | ⟨[(q0, .c (.ptr q1 q2)), (q3, .c (i6 x0)), (q4, .c (.ptr q5 q6)), (q7, .c (.own q8)), (q9, .c (i6 x1)), (q10, .c (i6 x2))], [(q11, .cells q12 [i6 x3, i6 x4, .sl (.int .u8) x5, .own q13]), (q14, .vec q15 (.pair (.int .i64) (.int .i64)) x6 false), (q16, .cells q17 [i6 x7, i6 x8, .sl (.int .u8) x9]), (q18, .vec q19 (.int .u8) x10 true)], q20, q21⟩ => bif qb [q0, q1, q2, q3, q4, q5, q6, q7, q8, q9, q10, q11, q12, q13, q14, q15, q16, q17, q18, q19, q20, q21] [0, 0, 0, 1, 5, 2, 0, 7, 3, 15, 16, 0, 200, 1, 1, 76, 2, 51, 3, 5, 4, 2] then iter (S_generic_plane_above_b9e_0 fuel) fuel (x0, x1, x2, x3, x4, x5, x6, x7, x8, x9, x10) (E215_b9e_0 K) else none | _ => none) | none => none
theorem B215_b9e_0_ok (fuel : Nat) (st : Ev.St) (K : KT) (r : Ans) (h : B215_b9e_0 fuel st K = some r) : evalCode tab (G215_b9e fuel) J0 kp215_b9e fuel (.block 0 (.loop (bodyOf 0 Tryz.f215))) st K = some r := by
  unfold B215_b9e_0 at h
  split at h
  · rename_i s hs
    split at h
    · skip
      obtain ⟨hb, h⟩ := cond_some' h
      cases qb_eq hb
      exact blk_loop (S := T215_b9e_0) (ks := E215_b9e_0) (step := S_generic_plane_above_b9e_0 fuel) (v := (_, _, _, _, _, _, _, _, _, _, _)) (by kernel_rfl) (by kernel_rfl) (fun R K v => by obtain ⟨x0, x1, x2, x3, x4, x5, x6, x7, x8, x9, x10⟩ := v; exact S215_b9e_0_okg fuel (F_generic_skips fuel) (F_generic_plane_at_a34 fuel) R K x0 x1 x2 x3 x4 x5 x6 x7 x8 x9 x10) hs h
    · cases h
  · cases h
def J215_b9e (fuel : Nat) (i : Nat) : Option Ev.Blk := Ev.look i [(100000, B215_b9e_0 fuel)]
def Fg_generic_plane_above_b9e (fuel : Nat) (f213 : YF213) (f248_a34 : YF248_a34) (x0 x1 x2 : Int) (x3 : LI) (x4 x5 : Int) (x6 : LI) (x7 : (List (Int × Int))) (k0 : (Int × Int × LI × (List (Int × Int)) × LI) → OA) : OA := bif decide (0 ≤ x4 ∧ x4 = x4 ∧ (↑(1 : Nat) : Int) * x4 ≤ 281474976710656 ∧ x4 ≤ 281474976710656) then (L_generic_plane_above_b9e_0 fuel (x0, (↑(List.replicate x4.toNat (0 : Int)).length : Int), 0, x4, x5, x6, x7, x1, x2, x3, List.replicate x4.toNat (0 : Int)) (fun (b0_0, b0_1, b0_2, b0_3, b0_4) => k0 (b0_0, b0_1, b0_2, b0_3, b0_4))) else none
abbrev YF215_b9e : Type := Int → Int → Int → LI → Int → Int → LI → ((List (Int × Int))) → ((Int × Int × LI × (List (Int × Int)) × LI) → Option Ans) → Option Ans
def F_generic_plane_above_b9e (fuel : Nat) : YF215_b9e := Fg_generic_plane_above_b9e fuel (F_generic_skips fuel) (F_generic_plane_at_a34 fuel)
theorem F215_b9e_eqg (fuel : Nat) (f213 : YF213) (f248_a34 : YF248_a34) (x0 x1 x2 : Int) (x3 : LI) (x4 x5 : Int) (x6 : LI) (x7 : (List (Int × Int))) (k : Ev.Cont) : evalFn tab (Gg215_b9e f213 f248_a34) (J215_b9e fuel) kp215_b9e fuel Tryz.f215 [.c (.ptr 0 0), .c (i6 x0), .agg [i6 x1, i6 x2, .sl (.int .u8) x3]] [.cells 200 [i6 x4, i6 x5, .sl (.int .u8) x6, .own 1], .vec 76 (.pair (.int .i64) (.int .i64)) x7 false] k = Fg_generic_plane_above_b9e fuel f213 f248_a34 x0 x1 x2 x3 x4 x5 x6 x7 (fun r => match r with | (r0, r1, r2, r3, r4) => k (.c (.own 2), [.cells 200 [i6 r0, i6 r1, .sl (.int .u8) r2, .own 1], .vec 76 (.pair (.int .i64) (.int .i64)) r3 false, .vec 5 (.int .u8) r4 true])) := by
  kernel_rfl
theorem hG215_b9e (fuel : Nat) : GOK Tryz.prog (G215_b9e fuel) :=
  gc (ok213 fuel) Tryz.func213 (by kernel_rfl) rfl <|
  gc (ok248_a34 fuel) Tryz.func248 (by kernel_rfl) rfl <|
  gok_nil
theorem B215_b9e_0_blk (fuel : Nat) : BlkOK Tryz.prog Tryz.f215.ntmps (.block 0 (.loop (bodyOf 0 Tryz.f215))) (B215_b9e_0 fuel) := bo0 (hG215_b9e fuel) (by kernel_rfl) (by kernel_rfl) (B215_b9e_0_ok fuel)
def spg215_b9e (F : YF215_b9e) : Ev.Spec := fun args objs k => match args, objs with | [.c (.ptr q0 q1), .c (i6 x0), .agg [i6 x1, i6 x2, .sl (.int .u8) x3]], [.cells q2 [i6 x4, i6 x5, .sl (.int .u8) x6, .own q3], .vec q4 (.pair (.int .i64) (.int .i64)) x7 false] => bif qb [q0, q1, q2, q3, q4] [0, 0, 200, 1, 76] then F x0 x1 x2 x3 x4 x5 x6 x7 (fun r => match r with | (r0, r1, r2, r3, r4) => k (.c (.own 2), [.cells 200 [i6 r0, i6 r1, .sl (.int .u8) r2, .own 1], .vec 76 (.pair (.int .i64) (.int .i64)) r3 false, .vec 5 (.int .u8) r4 true])) else none | _, _ => none
theorem ok215_b9e (fuel : Nat) : FnOK Tryz.prog 215 (spg215_b9e (F_generic_plane_above_b9e fuel)) := by
  intro args objs kk r h
  unfold spg215_b9e at h
  split at h
  · skip
    obtain ⟨hb, h⟩ := cond_some' h
    cases qb_eq hb
    exact fo1 (hG215_b9e fuel) Tryz.func215 rfl (B215_b9e_0_blk fuel) (by kernel_rfl) _ _ kk r ((F215_b9e_eqg fuel (F_generic_skips fuel) (F_generic_plane_at_a34 fuel) _ _ _ _ _ _ _ _ kk).trans h)
  · cases h
def kp216_a34 (i : Nat) : Option (List Nat) := Ev.look i [(3, [0, 1, 2, 7, 13, 14, 15]), (100000, [7]), (400000, [6])]
def Gg216_a34 (f248_a34 : YF248_a34) (f : Nat) : Option Ev.Spec := Ev.look f [(248, spg248_a34 f248_a34)]
def G216_a34 (fuel : Nat) : Nat → Option Ev.Spec := Gg216_a34 (F_generic_plane_at_a34 fuel)
abbrev V_generic_plane_context_a34_0 : Type := Int × Int × Int × Int × Int × Int × Int × LI × (List (Int × Int))
abbrev W_generic_plane_context_a34_0 : Type := (Int × Int × Int × LI × (List (Int × Int)) → OA)
def Sg_generic_plane_context_a34_0 (fuel : Nat) (f248_a34 : YF248_a34) (x0 x1 : Int) (x2 x3 : Int) (x4 x5 x6 : Int) (x7 : LI) (x8 : (List (Int × Int))) (c : V_generic_plane_context_a34_0 → OA) (B : W_generic_plane_context_a34_0) : OA := match B with | b => bif decide (x4 < x3) then bif decide (0 ≤ x4 ∧ x4 < (↑x8.length : Int)) then (f248_a34 (i64.wrap (x0 + (x8.getD x4.toNat (0, 0)).fst)) (i64.wrap (x1 + (x8.getD x4.toNat (0, 0)).snd)) x5 x6 x7 x8 (fun (y4_0, y4_1, y4_2, y4_3, y4_4) => c (x0, x1, i64.wrap (i64.wrap (2 * x2) + i64.wrap y4_0), x3, i64.wrap (x4 + 1), y4_1, y4_2, y4_3, y4_4))) else none else b (x2, x5, x6, x7, x8)
def S_generic_plane_context_a34_0 (fuel : Nat) (v : Int × Int × Int × Int × Int × Int × Int × (List Int) × (List (Int × Int))) (c : (Int × Int × Int × Int × Int × Int × Int × (List Int) × (List (Int × Int))) → Option Ans) (B : (Int × Int × Int × (List Int) × (List (Int × Int)) → Option Ans)) : Option Ans := match v with | (x0, x1, x2, x3, x4, x5, x6, x7, x8) => Sg_generic_plane_context_a34_0 fuel (F_generic_plane_at_a34 fuel) x0 x1 x2 x3 x4 x5 x6 x7 x8 c B
def L_generic_plane_context_a34_0 (fuel : Nat) (v : V_generic_plane_context_a34_0) (b : W_generic_plane_context_a34_0) : Option Ans := iter (S_generic_plane_context_a34_0 fuel) fuel v b
def T216_a34_0 (v : V_generic_plane_context_a34_0) : Ev.St := match v with | (x0, x1, x2, x3, x4, x5, x6, x7, x8) => ⟨[(0, .c (.ptr 0 0)), (1, .c (i6 x0)), (2, .c (i6 x1)), (7, .c (i6 x2)), (13, .c (.own 1)), (14, .c (i6 x3)), (15, .c (i6 x4))], [(0, .cells 200 [i6 x5, i6 x6, .sl (.int .u8) x7, .own 1]), (1, .vec 76 (.pair (.int .i64) (.int .i64)) x8 false)], 2, 2⟩
def E216_a34_0 (K : KT) : W_generic_plane_context_a34_0 := (fun v => match v with | (x0, x1, x2, x3, x4) => K .normal ⟨[(7, .c (i6 x0))], [(0, .cells 200 [i6 x1, i6 x2, .sl (.int .u8) x3, .own 1]), (1, .vec 76 (.pair (.int .i64) (.int .i64)) x4 false)], 2, 2⟩)
theorem S216_a34_0_okg (fuel : Nat) (f248_a34 : YF248_a34) (R : Ev.St → OA) (K : KT) (x0 x1 : Int) (x2 x3 : Int) (x4 x5 x6 : Int) (x7 : LI) (x8 : (List (Int × Int))) : evalCode tab (Gg216_a34 f248_a34) J0 kp216_a34 fuel (bodyOf 0 Tryz.f216) (T216_a34_0 (x0, x1, x2, x3, x4, x5, x6, x7, x8)) (lc kp216_a34 3 0 R K) = Sg_generic_plane_context_a34_0 fuel f248_a34 x0 x1 x2 x3 x4 x5 x6 x7 x8 (fun v => R (T216_a34_0 v)) (E216_a34_0 K) := by
  kernel_rfl
def B216_a34_0 (fuel : Nat) : Ev.Blk := fun st K => match canonO (kp216_a34 3) st with | some s => (match s with | ⟨[(q0, .c (.ptr q1 q2)), (q3, .c (i6 x0)), (q4, .c (i6 x1)), (q5, .c (i6 x2)), (q6, .c (.own q7)), (q8, .c (i6 x3)), (q9, .c (i6 x4))], [(q10, .cells q11 [i6 x5, i6 x6, .sl (.int .u8) x7, .own q12]), (q13, .vec q14 (.pair (.int .i64) (.int .i64)) x8 false)], q15, q16⟩ => bif qb [q0, q1, q2, q3, q4, q5, q6, q7, q8, q9, q10, q11, q12, q13, q14, q15, q16] [0, 0, 0, 1, 2, 7, 13, 1, 14, 15, 0, 200, 1, 1, 76, 2, 2] then iter (S_generic_plane_context_a34_0 fuel) fuel (x0, x1, x2, x3, x4, x5, x6, x7, x8) (E216_a34_0 K) else none | _ => none) | none => none
theorem B216_a34_0_ok (fuel : Nat) (st : Ev.St) (K : KT) (r : Ans) (h : B216_a34_0 fuel st K = some r) : evalCode tab (G216_a34 fuel) J0 kp216_a34 fuel (.block 0 (.loop (bodyOf 0 Tryz.f216))) st K = some r := by
  unfold B216_a34_0 at h
  split at h
  · rename_i s hs
    split at h
    · skip
      obtain ⟨hb, h⟩ := cond_some' h
      cases qb_eq hb
      exact blk_loop (S := T216_a34_0) (ks := E216_a34_0) (step := S_generic_plane_context_a34_0 fuel) (v := (_, _, _, _, _, _, _, _, _)) (by kernel_rfl) (by kernel_rfl) (fun R K v => by obtain ⟨x0, x1, x2, x3, x4, x5, x6, x7, x8⟩ := v; exact S216_a34_0_okg fuel (F_generic_plane_at_a34 fuel) R K x0 x1 x2 x3 x4 x5 x6 x7 x8) hs h
    · cases h
  · cases h
def J216_a34 (fuel : Nat) (i : Nat) : Option Ev.Blk := Ev.look i [(100000, B216_a34_0 fuel)]
def Fg_generic_plane_context_a34 (fuel : Nat) (f248_a34 : YF248_a34) (x0 x1 : Int) (x2 x3 : Int) (x4 : LI) (x5 : (List (Int × Int))) (k0 : (Int × Int × Int × LI × (List (Int × Int))) → OA) : OA := (L_generic_plane_context_a34_0 fuel (x0, x1, 0, (↑x5.length : Int), 0, x2, x3, x4, x5) (fun (b0_0, b0_1, b0_2, b0_3, b0_4) => k0 (b0_0, b0_1, b0_2, b0_3, b0_4)))
abbrev YF216_a34 : Type := Int → Int → Int → Int → LI → ((List (Int × Int))) → ((Int × Int × Int × LI × (List (Int × Int))) → Option Ans) → Option Ans
def F_generic_plane_context_a34 (fuel : Nat) : YF216_a34 := Fg_generic_plane_context_a34 fuel (F_generic_plane_at_a34 fuel)
theorem F216_a34_eqg (fuel : Nat) (f248_a34 : YF248_a34) (x0 x1 : Int) (x2 x3 : Int) (x4 : LI) (x5 : (List (Int × Int))) (k : Ev.Cont) : evalFn tab (Gg216_a34 f248_a34) (J216_a34 fuel) kp216_a34 fuel Tryz.f216 [.c (.ptr 0 0), .c (i6 x0), .c (i6 x1)] [.cells 200 [i6 x2, i6 x3, .sl (.int .u8) x4, .own 1], .vec 76 (.pair (.int .i64) (.int .i64)) x5 false] k = Fg_generic_plane_context_a34 fuel f248_a34 x0 x1 x2 x3 x4 x5 (fun r => match r with | (r0, r1, r2, r3, r4) => k (.c (i6 r0), [.cells 200 [i6 r1, i6 r2, .sl (.int .u8) r3, .own 1], .vec 76 (.pair (.int .i64) (.int .i64)) r4 false])) := by
  kernel_rfl
theorem hG216_a34 (fuel : Nat) : GOK Tryz.prog (G216_a34 fuel) :=
  gc (ok248_a34 fuel) Tryz.func248 (by kernel_rfl) rfl <|
  gok_nil
theorem B216_a34_0_blk (fuel : Nat) : BlkOK Tryz.prog Tryz.f216.ntmps (.block 0 (.loop (bodyOf 0 Tryz.f216))) (B216_a34_0 fuel) := bo0 (hG216_a34 fuel) (by kernel_rfl) (by kernel_rfl) (B216_a34_0_ok fuel)
def spg216_a34 (F : YF216_a34) : Ev.Spec := fun args objs k => match args, objs with | [.c (.ptr q0 q1), .c (i6 x0), .c (i6 x1)], [.cells q2 [i6 x2, i6 x3, .sl (.int .u8) x4, .own q3], .vec q4 (.pair (.int .i64) (.int .i64)) x5 false] => bif qb [q0, q1, q2, q3, q4] [0, 0, 200, 1, 76] then F x0 x1 x2 x3 x4 x5 (fun r => match r with | (r0, r1, r2, r3, r4) => k (.c (i6 r0), [.cells 200 [i6 r1, i6 r2, .sl (.int .u8) r3, .own 1], .vec 76 (.pair (.int .i64) (.int .i64)) r4 false])) else none | _, _ => none
theorem ok216_a34 (fuel : Nat) : FnOK Tryz.prog 216 (spg216_a34 (F_generic_plane_context_a34 fuel)) := by
  intro args objs kk r h
  unfold spg216_a34 at h
  split at h
  · skip
    obtain ⟨hb, h⟩ := cond_some' h
    cases qb_eq hb
    exact fo1 (hG216_a34 fuel) Tryz.func216 rfl (B216_a34_0_blk fuel) (by kernel_rfl) _ _ kk r ((F216_a34_eqg fuel (F_generic_plane_at_a34 fuel) _ _ _ _ _ _ kk).trans h)
  · cases h
end
end Go.Proofs.YtipdidpalcmlhaaGreat

