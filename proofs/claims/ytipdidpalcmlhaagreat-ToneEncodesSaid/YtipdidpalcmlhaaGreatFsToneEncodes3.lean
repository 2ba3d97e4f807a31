/- What the functions that ToneEncodes reaches do: their typed texts, each with the proof that the machine does it. No condition. -/
import Derived.Test.YtipdidpalcmlhaaGreatEvX
import Derived.Test.YtipdidpalcmlhaaGreatFsToneEncodes2
import Derived.Test.YtipdidpalcmlhaaGreatFsToneEncodes1
set_option linter.unusedVariables false
set_option linter.unusedSimpArgs false
set_option linter.unusedVariables false
set_option linter.unusedSimpArgs false
set_option maxRecDepth 100000
set_option maxHeartbeats 2000000
namespace Go.Proofs.YtipdidpalcmlhaaGreat
open Go Ev
open Go.IntKind (i64 u64 u8 i32 u32 u16)
noncomputable section
def kp119 (i : Nat) : Option (List Nat) := Ev.look i []
def Gg119 (f204 : YF204) (f205 : YF205) (f : Nat) : Option Ev.Spec := Ev.look f [(204, spg204 f204), (205, spg205 f205)]
def G119 (fuel : Nat) : Nat → Option Ev.Spec := Gg119 (F_coder_clone fuel) (F_coder_chances fuel)
def Fg_coder_begin (fuel : Nat) (f204 : YF204) (f205 : YF205) (x0 : Int) (x1 : LI) (k0 : (Int × Int × Int × LI) → OA) : OA := (f204 x0 x1 (fun (y2_0, y2_1) => (f205 (fun y6 => k0 (y2_0, 0, 4294967295, y2_1)))))
abbrev YF119 : Type := Int → LI → ((Int × Int × Int × LI) → Option Ans) → Option Ans
def F_coder_begin (fuel : Nat) : YF119 := Fg_coder_begin fuel (F_coder_clone fuel) (F_coder_chances fuel)
theorem F119_eqg (fuel : Nat) (f204 : YF204) (f205 : YF205) (x0 : Int) (x1 : LI) (k : Ev.Cont) : evalFn tab (Gg119 f204 f205) J0 kp119 fuel Tryz.f119 [.agg [i6 x0, .sl (.int .i64) x1]] [] k = Fg_coder_begin fuel f204 f205 x0 x1 (fun r => match r with | (r0, r1, r2, r3) => k (.agg (i6 r0 :: .own 0 :: ctb (.int .u64 r1 :: .int .u64 r2 :: [])), [.vec 3 (.int .i64) r3 true])) := by
  kernel_rfl
theorem hG119 (fuel : Nat) : GOK Tryz.prog (G119 fuel) :=
  gc (ok204 fuel) Tryz.func204 (by kernel_rfl) rfl <|
  gc (ok205 fuel) Tryz.func205 (by kernel_rfl) rfl <|
  gok_nil
def spg119 (F : YF119) : Ev.Spec := fun args objs k => match args, objs with | [.agg [i6 x0, .sl (.int .i64) x1]], [] => F x0 x1 (fun r => match r with | (r0, r1, r2, r3) => k (.agg (i6 r0 :: .own 0 :: ctb (.int .u64 r1 :: .int .u64 r2 :: [])), [.vec 3 (.int .i64) r3 true])) | _, _ => none
theorem ok119 (fuel : Nat) : FnOK Tryz.prog 119 (spg119 (F_coder_begin fuel)) := by
  intro args objs kk r h
  unfold spg119 at h
  split at h
  · skip
    exact fo0 (hG119 fuel) Tryz.func119 rfl (by kernel_rfl) _ _ kk r ((F119_eqg fuel (F_coder_clone fuel) (F_coder_chances fuel) _ _ kk).trans h)
  · cases h
def kp65 (i : Nat) : Option (List Nat) := Ev.look i [(5, [6, 17]), (100000, [6]), (400000, [4, 5]), (600000, [])]
def Gg65 (f118 : YF118) (f119 : YF119) (f145_40a : YF145_40a) (f : Nat) : Option Ev.Spec := Ev.look f [(118, spg118 f118), (119, spg119 f119), (145, spg145_40a f145_40a)]
def G65 (fuel : Nat) : Nat → Option Ev.Spec := Gg65 (F_coder_Valid fuel) (F_coder_begin fuel) (F_coder_Decoder_shift_40a fuel)
abbrev V_coder_NewDecoder_0 : Type := Int × Int × Int × Int × Int × Int × Int × Bool × Bool × LI × LI
abbrev W_coder_NewDecoder_0 : Type := (Int × Int × Int × Int × Int × Int × Bool × Bool × LI × LI → OA)
def Sg_coder_NewDecoder_0 (fuel : Nat) (f118 : YF118) (f119 : YF119) (f145_40a : YF145_40a) (x0 x1 : Int) (x2 x3 : Int) (x4 x5 x6 : Int) (x7 x8 : Bool) (x9 x10 : LI) (c : V_coder_NewDecoder_0 → OA) (B : W_coder_NewDecoder_0) : OA := match B with | b => bif decide (x0 < 4) then (f145_40a x1 x2 x3 x4 x5 x6 x7 x8 x9 x10 (fun (y3_0, y3_1, y3_2, y3_3, y3_4, y3_5, y3_6, y3_7, y3_8, y3_9) => c (i64.wrap (x0 + 1), y3_0, y3_1, y3_2, y3_3, y3_4, y3_5, y3_6, y3_7, y3_8, y3_9))) else b (x1, x2, x3, x4, x5, x6, x7, x8, x9, x10)
def S_coder_NewDecoder_0 (fuel : Nat) (v : Int × Int × Int × Int × Int × Int × Int × Bool × Bool × (List Int) × (List Int)) (c : (Int × Int × Int × Int × Int × Int × Int × Bool × Bool × (List Int) × (List Int)) → Option Ans) (B : (Int × Int × Int × Int × Int × Int × Bool × Bool × (List Int) × (List Int) → Option Ans)) : Option Ans := match v with | (x0, x1, x2, x3, x4, x5, x6, x7, x8, x9, x10) => Sg_coder_NewDecoder_0 fuel (F_coder_Valid fuel) (F_coder_begin fuel) (F_coder_Decoder_shift_40a fuel) x0 x1 x2 x3 x4 x5 x6 x7 x8 x9 x10 c B
def L_coder_NewDecoder_0 (fuel : Nat) (v : V_coder_NewDecoder_0) (b : W_coder_NewDecoder_0) : Option Ans := iter (S_coder_NewDecoder_0 fuel) fuel v b
def T65_0 (v : V_coder_NewDecoder_0) : Ev.St := match v with | (x0, x1, x2, x3, x4, x5, x6, x7, x8, x9, x10) => ⟨[(6, .c (.ptr 0 0)), (17, .c (i6 x0))], [(0, .cells 194 (i6 x1 :: .own 1 :: ctb (.int .u64 x2 :: .int .u64 x3 :: .own 2 :: i6 x4 :: .int .u64 x5 :: i6 x6 :: .bool x7 :: .bool x8 :: []))), (1, .vec 3 (.int .i64) x9 true), (2, .vec 5 (.int .u8) x10 true)], 3, 0⟩
def E65_0 (K : KT) : W_coder_NewDecoder_0 := (fun v => match v with | (x0, x1, x2, x3, x4, x5, x6, x7, x8, x9) => K .normal ⟨[(6, .c (.ptr 0 0))], [(0, .cells 194 (i6 x0 :: .own 1 :: ctb (.int .u64 x1 :: .int .u64 x2 :: .own 2 :: i6 x3 :: .int .u64 x4 :: i6 x5 :: .bool x6 :: .bool x7 :: []))), (1, .vec 3 (.int .i64) x8 true), (2, .vec 5 (.int .u8) x9 true)], 3, 0⟩)
theorem S65_0_okg (fuel : Nat) (f118 : YF118) (f119 : YF119) (f145_40a : YF145_40a) (R : Ev.St → OA) (K : KT) (x0 x1 : Int) (x2 x3 : Int) (x4 x5 x6 : Int) (x7 x8 : Bool) (x9 x10 : LI) : evalCode tab (Gg65 f118 f119 f145_40a) J0 kp65 fuel (bodyOf 0 Tryz.f65) (T65_0 (x0, x1, x2, x3, x4, x5, x6, x7, x8, x9, x10)) (lc kp65 5 0 R K) = Sg_coder_NewDecoder_0 fuel f118 f119 f145_40a x0 x1 x2 x3 x4 x5 x6 x7 x8 x9 x10 (fun v => R (T65_0 v)) (E65_0 K) := by
  kernel_rfl
def B65_0 (fuel : Nat) : Ev.Blk := fun st K => match canonO (kp65 5) st with | some s => (match s with | ⟨[(q0, .c (.ptr q1 q2)), (q3, .c (i6 x0))], [(q4, .cells q5 cs0), (q6, .vec q7 (.int .i64) x9 true), (q8, .vec q9 (.int .u8) x10 true)], q10, q11⟩ => (match splitRun 2 ctn cs0 with | some ([i6 x1, .own q12], [.int .u64 x2, .int .u64 x3, .own q13, i6 x4, .int .u64 x5, i6 x6, .bool x7, .bool x8]) => bif qb [q0, q1, q2, q3, q4, q5, q6, q7, q8, q9, q10, q11, q12, q13] [6, 0, 0, 17, 0, 194, 1, 3, 2, 5, 3, 0, 1, 2] then iter (S_coder_NewDecoder_0 fuel) fuel (x0, x1, x2, x3, x4, x5, x6, x7, x8, x9, x10) (E65_0 K) else none | _ => none) | _ => none) | none => none
theorem B65_0_ok (fuel : Nat) (st : Ev.St) (K : KT) (r : Ans) (h : B65_0 fuel st K = some r) : evalCode tab (G65 fuel) J0 kp65 fuel (.block 0 (.loop (bodyOf 0 Tryz.f65))) st K = some r := by
  unfold B65_0 at h
  split at h
  · rename_i s hs
    split at h
    · skip
      split at h
      rotate_left 1
      · cases h
      rename_i hsp
      have esp := splitRun_eq hsp
      subst esp
      obtain ⟨hb, h⟩ := cond_some' h
      cases qb_eq hb
      exact blk_loop (S := T65_0) (ks := E65_0) (step := S_coder_NewDecoder_0 fuel) (v := (_, _, _, _, _, _, _, _, _, _, _)) (by kernel_rfl) (by kernel_rfl) (fun R K v => by obtain ⟨x0, x1, x2, x3, x4, x5, x6, x7, x8, x9, x10⟩ := v; exact S65_0_okg fuel (F_coder_Valid fuel) (F_coder_begin fuel) (F_coder_Decoder_shift_40a fuel) R K x0 x1 x2 x3 x4 x5 x6 x7 x8 x9 x10) hs h
    · cases h
  · cases h
def J65 (fuel : Nat) (i : Nat) : Option Ev.Blk := Ev.look i [(100000, B65_0 fuel)]
def Fg_coder_NewDecoder (fuel : Nat) (f118 : YF118) (f119 : YF119) (f145_40a : YF145_40a) (x0 : Int) (x1 x2 : LI) (k0 : (Int) → OA) (k1 : (Int × Int × Int × Int × Int × Int × Int × Bool × Bool × LI × LI) → OA) : OA := (f118 x0 x1 (fun y2 => bif !y2 then k0 (10) else (f119 x0 x1 (fun (y7_0, y7_1, y7_2, y7_3) => bif decide (((0 : Nat) + x2.length) * (1 : Nat) ≤ (140737488355328 : Nat) ∧ (0 : Nat) + x2.length ≤ (140737488355328 : Nat)) then (L_coder_NewDecoder_0 fuel ((0 : Int), y7_0, y7_1, y7_2, (0 : Int), (0 : Int), (0 : Int), false, true, y7_3, [] ++ x2) (fun (b0_0, b0_1, b0_2, b0_3, b0_4, b0_5, b0_6, b0_7, b0_8, b0_9) => k1 (0, b0_0, b0_1, b0_2, b0_3, b0_4, b0_5, b0_6, b0_7, b0_8, b0_9))) else none))))
abbrev YF65 : Type := Int → LI → LI → (Int → Option Ans) → ((Int × Int × Int × Int × Int × Int × Int × Bool × Bool × LI × LI) → Option Ans) → Option Ans
def F_coder_NewDecoder (fuel : Nat) : YF65 := Fg_coder_NewDecoder fuel (F_coder_Valid fuel) (F_coder_begin fuel) (F_coder_Decoder_shift_40a fuel)
theorem F65_eqg (fuel : Nat) (f118 : YF118) (f119 : YF119) (f145_40a : YF145_40a) (x0 : Int) (x1 x2 : LI) (k : Ev.Cont) : evalFn tab (Gg65 f118 f119 f145_40a) (J65 fuel) kp65 fuel Tryz.f65 [.agg [i6 x0, .sl (.int .i64) x1], .c (.sl (.int .u8) x2)] [] k = Fg_coder_NewDecoder fuel f118 f119 f145_40a x0 x1 x2 (fun r => match r with | r0 => k (.tup [(false, [.nilptr]), (false, [i6 r0])], [])) (fun r => match r with | (r0, r1, r2, r3, r4, r5, r6, r7, r8, r9, r10) => k (.tup [(false, [.ptr 0 0]), (false, [i6 r0])], [.cells 194 (i6 r1 :: .own 1 :: ctb (.int .u64 r2 :: .int .u64 r3 :: .own 2 :: i6 r4 :: .int .u64 r5 :: i6 r6 :: .bool r7 :: .bool r8 :: [])), .vec 3 (.int .i64) r9 true, .vec 5 (.int .u8) r10 true])) := by
  kernel_rfl
theorem hG65 (fuel : Nat) : GOK Tryz.prog (G65 fuel) :=
  gc (ok118 fuel) Tryz.func118 (by kernel_rfl) rfl <|
  gc (ok119 fuel) Tryz.func119 (by kernel_rfl) rfl <|
  gc (ok145_40a fuel) Tryz.func145 (by kernel_rfl) rfl <|
  gok_nil
theorem B65_0_blk (fuel : Nat) : BlkOK Tryz.prog Tryz.f65.ntmps (.block 0 (.loop (bodyOf 0 Tryz.f65))) (B65_0 fuel) := bo0 (hG65 fuel) (by kernel_rfl) (by kernel_rfl) (B65_0_ok fuel)
def spg65 (F : YF65) : Ev.Spec := fun args objs k => match args, objs with | [.agg [i6 x0, .sl (.int .i64) x1], .c (.sl (.int .u8) x2)], [] => F x0 x1 x2 (fun r => match r with | r0 => k (.tup [(false, [.nilptr]), (false, [i6 r0])], [])) (fun r => match r with | (r0, r1, r2, r3, r4, r5, r6, r7, r8, r9, r10) => k (.tup [(false, [.ptr 0 0]), (false, [i6 r0])], [.cells 194 (i6 r1 :: .own 1 :: ctb (.int .u64 r2 :: .int .u64 r3 :: .own 2 :: i6 r4 :: .int .u64 r5 :: i6 r6 :: .bool r7 :: .bool r8 :: [])), .vec 3 (.int .i64) r9 true, .vec 5 (.int .u8) r10 true])) | _, _ => none
theorem ok65 (fuel : Nat) : FnOK Tryz.prog 65 (spg65 (F_coder_NewDecoder fuel)) := by
  intro args objs kk r h
  unfold spg65 at h
  split at h
  · skip
    exact fo1 (hG65 fuel) Tryz.func65 rfl (B65_0_blk fuel) (by kernel_rfl) _ _ kk r ((F65_eqg fuel (F_coder_Valid fuel) (F_coder_begin fuel) (F_coder_Decoder_shift_40a fuel) _ _ _ kk).trans h)
  · cases h
def kp212 (i : Nat) : Option (List Nat) := Ev.look i []
def Gg212 (f : Nat) : Option Ev.Spec := Ev.look f []
def G212 (fuel : Nat) : Nat → Option Ev.Spec := Gg212
def F_bitmap_fits (fuel : Nat) (x0 x1 : Int) (k0 : (Bool) → Option Ans) : Option Ans := bif decide (x0 ≥ 0) then bif decide (x1 ≥ 0) then bif decide (x0 ≤ 200) then bif decide (x1 ≤ 200) then k0 (decide (i64.wrap (x0 * x1) ≤ 8192)) else k0 false else k0 false else k0 false else k0 false
abbrev YF212 : Type := Int → Int → (Bool → Option Ans) → Option Ans
theorem F212_eq (fuel : Nat) (x0 x1 : Int) (k : Ev.Cont) : evalFn tab (G212 fuel) J0 kp212 fuel Tryz.f212 [.c (i6 x0), .c (i6 x1)] [] k = F_bitmap_fits fuel x0 x1 (fun r => match r with | r0 => k (.c (.bool r0), [])) := by
  kernel_rfl
theorem hG212 (fuel : Nat) : GOK Tryz.prog (G212 fuel) :=
  gok_nil
def spg212 (F : YF212) : Ev.Spec := fun args objs k => match args, objs with | [.c (i6 x0), .c (i6 x1)], [] => F x0 x1 (fun r => match r with | r0 => k (.c (.bool r0), [])) | _, _ => none
theorem ok212 (fuel : Nat) : FnOK Tryz.prog 212 (spg212 (F_bitmap_fits fuel)) := by
  intro args objs kk r h
  unfold spg212 at h
  split at h
  · skip
    exact fo0 (hG212 fuel) Tryz.func212 rfl (by kernel_rfl) _ _ kk r ((F212_eq fuel _ _ kk).trans h)
  · cases h
def kp195 (i : Nat) : Option (List Nat) := Ev.look i []
def Gg195 (f212 : YF212) (f : Nat) : Option Ev.Spec := Ev.look f [(212, spg212 f212)]
def G195 (fuel : Nat) : Nat → Option Ev.Spec := Gg195 (F_bitmap_fits fuel)
def Fg_bitmap_blank (fuel : Nat) (f212 : YF212) (x0 x1 : Int) (k0 : (Int × Int × Int × LI) → OA) : OA := (f212 x0 x1 (fun y2 => bif !y2 then k0 (0, 0, 4, []) else bif decide (0 ≤ i64.wrap (x0 * x1) ∧ i64.wrap (x0 * x1) = i64.wrap (x0 * x1) ∧ (↑(1 : Nat) : Int) * i64.wrap (x0 * x1) ≤ 281474976710656 ∧ i64.wrap (x0 * x1) ≤ 281474976710656) then k0 (x0, x1, 0, List.replicate (i64.wrap (x0 * x1)).toNat (0 : Int)) else none))
abbrev YF195 : Type := Int → Int → ((Int × Int × Int × LI) → Option Ans) → Option Ans
def F_bitmap_blank (fuel : Nat) : YF195 := Fg_bitmap_blank fuel (F_bitmap_fits fuel)
theorem F195_eqg (fuel : Nat) (f212 : YF212) (x0 x1 : Int) (k : Ev.Cont) : evalFn tab (Gg195 f212) J0 kp195 fuel Tryz.f195 [.c (i6 x0), .c (i6 x1)] [] k = Fg_bitmap_blank fuel f212 x0 x1 (fun r => match r with | (r0, r1, r2, r3) => k (.tup [(true, [i6 r0, i6 r1, .own 0]), (false, [i6 r2])], [.vec 5 (.int .u8) r3 true])) := by
  kernel_rfl
theorem hG195 (fuel : Nat) : GOK Tryz.prog (G195 fuel) :=
  gc (ok212 fuel) Tryz.func212 (by kernel_rfl) rfl <|
  gok_nil
def spg195 (F : YF195) : Ev.Spec := fun args objs k => match args, objs with | [.c (i6 x0), .c (i6 x1)], [] => F x0 x1 (fun r => match r with | (r0, r1, r2, r3) => k (.tup [(true, [i6 r0, i6 r1, .own 0]), (false, [i6 r2])], [.vec 5 (.int .u8) r3 true])) | _, _ => none
theorem ok195 (fuel : Nat) : FnOK Tryz.prog 195 (spg195 (F_bitmap_blank fuel)) := by
  intro args objs kk r h
  unfold spg195 at h
  split at h
  · skip
    exact fo0 (hG195 fuel) Tryz.func195 rfl (by kernel_rfl) _ _ kk r ((F195_eqg fuel (F_bitmap_fits fuel) _ _ kk).trans h)
  · cases h
def kp105 (i : Nat) : Option (List Nat) := Ev.look i [(5, [2, 6, 8, 9, 34, 35]), (100000, [6, 8, 9]), (400000, [6, 7])]
def Gg105 (f195 : YF195) (f : Nat) : Option Ev.Spec := Ev.look f [(195, spg195 f195)]
def G105 (fuel : Nat) : Nat → Option Ev.Spec := Gg105 (F_bitmap_blank fuel)
abbrev V_bitmap_New_0 : Type := Int × Int × Int × Int × Int × Int × Int × Int × LI × LI
abbrev W_bitmap_New_0 : Type := (Int × Int × Int × Int × Int × LI × LI → OA)
def Sg_bitmap_New_0 (fuel : Nat) (f195 : YF195) (x0 x1 : Int) (x2 x3 : Int) (x4 x5 : Int) (x6 x7 : Int) (x8 x9 : LI) (c : V_bitmap_New_0 → OA) (B : W_bitmap_New_0) : OA := match B with | b => bif decide (x3 < x2) then bif decide (0 ≤ x3 ∧ x3 < (↑x9.length : Int)) then c (x0, x1, x2, i64.wrap (x3 + 1), x4, x5, x6, x7, x8, x9.set x3.toNat (u8.wrap x0)) else none else b (x1, x4, x5, x6, x7, x8, x9)
def S_bitmap_New_0 (fuel : Nat) (v : Int × Int × Int × Int × Int × Int × Int × Int × (List Int) × (List Int)) (c : (Int × Int × Int × Int × Int × Int × Int × Int × (List Int) × (List Int)) → Option Ans) (B : (Int × Int × Int × Int × Int × (List Int) × (List Int) → Option Ans)) : Option Ans := match v with | (x0, x1, x2, x3, x4, x5, x6, x7, x8, x9) => Sg_bitmap_New_0 fuel (F_bitmap_blank fuel) x0 x1 x2 x3 x4 x5 x6 x7 x8 x9 c B
def L_bitmap_New_0 (fuel : Nat) (v : V_bitmap_New_0) (b : W_bitmap_New_0) : Option Ans := iter (S_bitmap_New_0 fuel) fuel v b
def T105_0 (v : V_bitmap_New_0) : Ev.St := match v with | (x0, x1, x2, x3, x4, x5, x6, x7, x8, x9) => ⟨[(2, .c (i6 x0)), (6, .c (.ptr 0 0)), (8, .c (.ptr 1 0)), (9, .c (i6 x1)), (34, .c (i6 x2)), (35, .c (i6 x3))], [(0, .cells 51 [i6 x4, i6 x5, .own 2]), (1, .cells 51 [i6 x6, i6 x7, .own 3]), (2, .vec 5 (.int .u8) x8 true), (3, .vec 5 (.int .u8) x9 true)], 4, 0⟩
def E105_0 (K : KT) : W_bitmap_New_0 := (fun v => match v with | (x0, x1, x2, x3, x4, x5, x6) => K .normal ⟨[(6, .c (.ptr 0 0)), (8, .c (.ptr 1 0)), (9, .c (i6 x0))], [(0, .cells 51 [i6 x1, i6 x2, .own 2]), (1, .cells 51 [i6 x3, i6 x4, .own 3]), (2, .vec 5 (.int .u8) x5 true), (3, .vec 5 (.int .u8) x6 true)], 4, 0⟩)
theorem S105_0_okg (fuel : Nat) (f195 : YF195) (R : Ev.St → OA) (K : KT) (x0 x1 : Int) (x2 x3 : Int) (x4 x5 : Int) (x6 x7 : Int) (x8 x9 : LI) : evalCode tab (Gg105 f195) J0 kp105 fuel (bodyOf 0 Tryz.f105) (T105_0 (x0, x1, x2, x3, x4, x5, x6, x7, x8, x9)) (lc kp105 5 0 R K) = Sg_bitmap_New_0 fuel f195 x0 x1 x2 x3 x4 x5 x6 x7 x8 x9 (fun v => R (T105_0 v)) (E105_0 K) := by
  kernel_rfl
def B105_0 (fuel : Nat) : Ev.Blk := fun st K => match canonO (kp105 5) st with | some s => (match s with | ⟨[(q0, .c (i6 x0)), (q1, .c (.ptr q2 q3)), (q4, .c (.ptr q5 q6)), (q7, .c (i6 x1)), (q8, .c (i6 x2)), (q9, .c (i6 x3))], [(q10, .cells q11 [i6 x4, i6 x5, .own q12]), (q13, .cells q14 [i6 x6, i6 x7, .own q15]), (q16, .vec q17 (.int .u8) x8 true), (q18, .vec q19 (.int .u8) x9 true)], q20, q21⟩ => bif qb [q0, q1, q2, q3, q4, q5, q6, q7, q8, q9, q10, q11, q12, q13, q14, q15, q16, q17, q18, q19, q20, q21] [2, 6, 0, 0, 8, 1, 0, 9, 34, 35, 0, 51, 2, 1, 51, 3, 2, 5, 3, 5, 4, 0] then iter (S_bitmap_New_0 fuel) fuel (x0, x1, x2, x3, x4, x5, x6, x7, x8, x9) (E105_0 K) else none | _ => none) | none => none
theorem B105_0_ok (fuel : Nat) (st : Ev.St) (K : KT) (r : Ans) (h : B105_0 fuel st K = some r) : evalCode tab (G105 fuel) J0 kp105 fuel (.block 0 (.loop (bodyOf 0 Tryz.f105))) st K = some r := by
  unfold B105_0 at h
  split at h
  · rename_i s hs
    split at h
    · skip
      obtain ⟨hb, h⟩ := cond_some' h
      cases qb_eq hb
      exact blk_loop (S := T105_0) (ks := E105_0) (step := S_bitmap_New_0 fuel) (v := (_, _, _, _, _, _, _, _, _, _)) (by kernel_rfl) (by kernel_rfl) (fun R K v => by obtain ⟨x0, x1, x2, x3, x4, x5, x6, x7, x8, x9⟩ := v; exact S105_0_okg fuel (F_bitmap_blank fuel) R K x0 x1 x2 x3 x4 x5 x6 x7 x8 x9) hs h
    · cases h
  · cases h
def J105 (fuel : Nat) (i : Nat) : Option Ev.Blk := Ev.look i [(100000, B105_0 fuel)]
def Fg_bitmap_New (fuel : Nat) (f195 : YF195) (x0 x1 x2 : Int) (k0 : (Int × Int × Int × LI) → OA) : OA := bif decide (x0 < 0) then k0 (0, 0, 2, []) else bif decide (x1 < 0) then k0 (0, 0, 2, []) else bif x2 != 0 then bif x2 != 1 then k0 (0, 0, 2, []) else (f195 x0 x1 (fun (y6_0, y6_1, y6_2, y6_3) => (L_bitmap_New_0 fuel (x2, y6_2, (↑y6_3.length : Int), 0, 0, 0, y6_0, y6_1, [], y6_3) (fun (b0_0, b0_1, b0_2, b0_3, b0_4, b0_5, b0_6) => k0 (b0_3, b0_4, b0_0, b0_6))))) else (f195 x0 x1 (fun (y5_0, y5_1, y5_2, y5_3) => (L_bitmap_New_0 fuel (x2, y5_2, (↑y5_3.length : Int), 0, 0, 0, y5_0, y5_1, [], y5_3) (fun (b0_0, b0_1, b0_2, b0_3, b0_4, b0_5, b0_6) => k0 (b0_3, b0_4, b0_0, b0_6)))))
abbrev YF105 : Type := Int → Int → Int → ((Int × Int × Int × LI) → Option Ans) → Option Ans
def F_bitmap_New (fuel : Nat) : YF105 := Fg_bitmap_New fuel (F_bitmap_blank fuel)
theorem F105_eqg (fuel : Nat) (f195 : YF195) (x0 x1 x2 : Int) (k : Ev.Cont) : evalFn tab (Gg105 f195) (J105 fuel) kp105 fuel Tryz.f105 [.c (i6 x0), .c (i6 x1), .c (i6 x2)] [] k = Fg_bitmap_New fuel f195 x0 x1 x2 (fun r => match r with | (r0, r1, r2, r3) => k (.tup [(true, [i6 r0, i6 r1, .own 0]), (false, [i6 r2])], [.vec 5 (.int .u8) r3 true])) := by
  kernel_rfl
theorem hG105 (fuel : Nat) : GOK Tryz.prog (G105 fuel) :=
  gc (ok195 fuel) Tryz.func195 (by kernel_rfl) rfl <|
  gok_nil
theorem B105_0_blk (fuel : Nat) : BlkOK Tryz.prog Tryz.f105.ntmps (.block 0 (.loop (bodyOf 0 Tryz.f105))) (B105_0 fuel) := bo0 (hG105 fuel) (by kernel_rfl) (by kernel_rfl) (B105_0_ok fuel)
def spg105 (F : YF105) : Ev.Spec := fun args objs k => match args, objs with | [.c (i6 x0), .c (i6 x1), .c (i6 x2)], [] => F x0 x1 x2 (fun r => match r with | (r0, r1, r2, r3) => k (.tup [(true, [i6 r0, i6 r1, .own 0]), (false, [i6 r2])], [.vec 5 (.int .u8) r3 true])) | _, _ => none
theorem ok105 (fuel : Nat) : FnOK Tryz.prog 105 (spg105 (F_bitmap_New fuel)) := by
  intro args objs kk r h
  unfold spg105 at h
  split at h
  · skip
    exact fo1 (hG105 fuel) Tryz.func105 rfl (B105_0_blk fuel) (by kernel_rfl) _ _ kk r ((F105_eqg fuel (F_bitmap_blank fuel) _ _ _ kk).trans h)
  · cases h
def kp122 (i : Nat) : Option (List Nat) := Ev.look i [(4, [23, 24, 25]), (100000, []), (400000, [2])]
def Gg122 (f212 : YF212) (f : Nat) : Option Ev.Spec := Ev.look f [(212, spg212 f212)]
def G122 (fuel : Nat) : Nat → Option Ev.Spec := Gg122 (F_bitmap_fits fuel)
def Sg_bitmap_Valid_0 (fuel : Nat) (f212 : YF212) (x0 : LI) (x1 x2 : Int) (c : (LI × Int × Int) → OA) (B : (Bool → OA) × (Unit → OA)) : OA := match B with | (ret, b) => bif decide (x2 < x1) then bif decide (0 ≤ x2 ∧ x2 < (↑x0.length : Int)) then bif decide (x0.getD x2.toNat (0 : Int) > (1 : Int)) then ret false else c (x0, x1, i64.wrap (x2 + 1)) else none else b ()
def S_bitmap_Valid_0 (fuel : Nat) (v : (List Int) × Int × Int) (c : ((List Int) × Int × Int) → Option Ans) (B : (Bool → Option Ans) × (Unit → Option Ans)) : Option Ans := match v with | (x0, x1, x2) => Sg_bitmap_Valid_0 fuel (F_bitmap_fits fuel) x0 x1 x2 c B
def L_bitmap_Valid_0 (fuel : Nat) (v : (List Int) × Int × Int) (ret : (Bool → Option Ans)) (b : (Unit → Option Ans)) : Option Ans := iter (S_bitmap_Valid_0 fuel) fuel v (ret, b)
def T122_0 (v : LI × Int × Int) : Ev.St := match v with | (x0, x1, x2) => ⟨[(23, .c (.sl (.int .u8) x0)), (24, .c (i6 x1)), (25, .c (i6 x2))], [], 0, 0⟩
def E122_0 (K : KT) : (Bool → OA) × (Unit → OA) := ((fun v => match v with | x0 => K .ret ⟨[(2, .c (.bool x0))], [], 0, 0⟩), (fun v => match v with | () => K .normal ⟨[], [], 0, 0⟩))
theorem S122_0_okg (fuel : Nat) (f212 : YF212) (R : Ev.St → OA) (K : KT) (x0 : LI) (x1 x2 : Int) : evalCode tab (Gg122 f212) J0 kp122 fuel (bodyOf 0 Tryz.f122) (T122_0 (x0, x1, x2)) (lc kp122 4 0 R K) = Sg_bitmap_Valid_0 fuel f212 x0 x1 x2 (fun v => R (T122_0 v)) (E122_0 K) := by
  kernel_rfl
def B122_0 (fuel : Nat) : Ev.Blk := fun st K => match canonO (kp122 4) st with | some s => (match s with | ⟨[(q0, .c (.sl (.int .u8) x0)), (q1, .c (i6 x1)), (q2, .c (i6 x2))], [], q3, q4⟩ => bif qb [q0, q1, q2, q3, q4] [23, 24, 25, 0, 0] then iter (S_bitmap_Valid_0 fuel) fuel (x0, x1, x2) (E122_0 K) else none | _ => none) | none => none
theorem B122_0_ok (fuel : Nat) (st : Ev.St) (K : KT) (r : Ans) (h : B122_0 fuel st K = some r) : evalCode tab (G122 fuel) J0 kp122 fuel (.block 0 (.loop (bodyOf 0 Tryz.f122))) st K = some r := by
  unfold B122_0 at h
  split at h
  · rename_i s hs
    split at h
    · skip
      obtain ⟨hb, h⟩ := cond_some' h
      cases qb_eq hb
      exact blk_loop (S := T122_0) (ks := E122_0) (step := S_bitmap_Valid_0 fuel) (v := (_, _, _)) (by kernel_rfl) (by kernel_rfl) (fun R K v => by obtain ⟨x0, x1, x2⟩ := v; exact S122_0_okg fuel (F_bitmap_fits fuel) R K x0 x1 x2) hs h
    · cases h
  · cases h
def J122 (fuel : Nat) (i : Nat) : Option Ev.Blk := Ev.look i [(100000, B122_0 fuel)]
def Fg_bitmap_Valid (fuel : Nat) (f212 : YF212) (x0 x1 : Int) (x2 : LI) (k0 : (Bool) → OA) : OA := (f212 x0 x1 (fun y2 => bif !y2 then k0 false else bif (↑x2.length : Int) != i64.wrap (x0 * x1) then k0 false else (L_bitmap_Valid_0 fuel (x2, (↑x2.length : Int), 0) (fun ret0_0 => k0 ret0_0) (fun () => k0 true))))
abbrev YF122 : Type := Int → Int → LI → (Bool → Option Ans) → Option Ans
def F_bitmap_Valid (fuel : Nat) : YF122 := Fg_bitmap_Valid fuel (F_bitmap_fits fuel)
theorem F122_eqg (fuel : Nat) (f212 : YF212) (x0 x1 : Int) (x2 : LI) (k : Ev.Cont) : evalFn tab (Gg122 f212) (J122 fuel) kp122 fuel Tryz.f122 [.agg [i6 x0, i6 x1, .sl (.int .u8) x2]] [] k = Fg_bitmap_Valid fuel f212 x0 x1 x2 (fun r => match r with | r0 => k (.c (.bool r0), [])) := by
  kernel_rfl
theorem hG122 (fuel : Nat) : GOK Tryz.prog (G122 fuel) :=
  gc (ok212 fuel) Tryz.func212 (by kernel_rfl) rfl <|
  gok_nil
theorem B122_0_blk (fuel : Nat) : BlkOK Tryz.prog Tryz.f122.ntmps (.block 0 (.loop (bodyOf 0 Tryz.f122))) (B122_0 fuel) := bo0 (hG122 fuel) (by kernel_rfl) (by kernel_rfl) (B122_0_ok fuel)
def spg122 (F : YF122) : Ev.Spec := fun args objs k => match args, objs with | [.agg [i6 x0, i6 x1, .sl (.int .u8) x2]], [] => F x0 x1 x2 (fun r => match r with | r0 => k (.c (.bool r0), [])) | _, _ => none
theorem ok122 (fuel : Nat) : FnOK Tryz.prog 122 (spg122 (F_bitmap_Valid fuel)) := by
  intro args objs kk r h
  unfold spg122 at h
  split at h
  · skip
    exact fo1 (hG122 fuel) Tryz.func122 rfl (B122_0_blk fuel) (by kernel_rfl) _ _ kk r ((F122_eqg fuel (F_bitmap_fits fuel) _ _ _ kk).trans h)
  · cases h
def kp222_40a (i : Nat) : Option (List Nat) := Ev.look i []
def Gg222_40a (f : Nat) : Option Ev.Spec := Ev.look f []
def G222_40a (fuel : Nat) : Nat → Option Ev.Spec := Gg222_40a
def F_coder_Decoder_none_40a (fuel : Nat) (x0 x1 : Int) (x2 x3 : Int) (x4 x5 : Int) (x6 x7 : Bool) (x8 x9 : (List Int)) (k0 : (Bool × Int × Int × Int × Int × Int × Int × Bool × Bool × (List Int) × (List Int)) → Option Ans) : Option Ans := k0 (!x7, x0, x1, x2, x3, x4, x5, x6, x7, x8, x9)
abbrev YF222_40a : Type := Int → Int → Int → Int → Int → Int → Bool → Bool → LI → LI → ((Bool × Int × Int × Int × Int × Int × Int × Bool × Bool × LI × LI) → Option Ans) → Option Ans
theorem F222_40a_eq (fuel : Nat) (x0 x1 : Int) (x2 x3 : Int) (x4 x5 : Int) (x6 x7 : Bool) (x8 x9 : LI) (k : Ev.Cont) : evalFn tab (G222_40a fuel) J0 kp222_40a fuel Tryz.f222 [.c (.ptr 0 0)] [.cells 194 (i6 x0 :: .own 1 :: ctb (.int .u64 x1 :: .int .u64 x2 :: .own 2 :: i6 x3 :: .int .u64 x4 :: i6 x5 :: .bool x6 :: .bool x7 :: [])), .vec 3 (.int .i64) x8 false, .vec 5 (.int .u8) x9 false] k = F_coder_Decoder_none_40a fuel x0 x1 x2 x3 x4 x5 x6 x7 x8 x9 (fun r => match r with | (r0, r1, r2, r3, r4, r5, r6, r7, r8, r9, r10) => k (.c (.bool r0), [.cells 194 (i6 r1 :: .own 1 :: ctb (.int .u64 r2 :: .int .u64 r3 :: .own 2 :: i6 r4 :: .int .u64 r5 :: i6 r6 :: .bool r7 :: .bool r8 :: [])), .vec 3 (.int .i64) r9 false, .vec 5 (.int .u8) r10 false])) := by
  kernel_rfl
theorem hG222_40a (fuel : Nat) : GOK Tryz.prog (G222_40a fuel) :=
  gok_nil
def spg222_40a (F : YF222_40a) : Ev.Spec := fun args objs k => match args, objs with | [.c (.ptr q0 q1)], [.cells q2 cs0, .vec q3 (.int .i64) x8 false, .vec q4 (.int .u8) x9 false] => (match splitRun 2 ctn cs0 with | some ([i6 x0, .own q5], [.int .u64 x1, .int .u64 x2, .own q6, i6 x3, .int .u64 x4, i6 x5, .bool x6, .bool x7]) => bif qb [q0, q1, q2, q3, q4, q5, q6] [0, 0, 194, 3, 5, 1, 2] then F x0 x1 x2 x3 x4 x5 x6 x7 x8 x9 (fun r => match r with | (r0, r1, r2, r3, r4, r5, r6, r7, r8, r9, r10) => k (.c (.bool r0), [.cells 194 (i6 r1 :: .own 1 :: ctb (.int .u64 r2 :: .int .u64 r3 :: .own 2 :: i6 r4 :: .int .u64 r5 :: i6 r6 :: .bool r7 :: .bool r8 :: [])), .vec 3 (.int .i64) r9 false, .vec 5 (.int .u8) r10 false])) else none | _ => none) | _, _ => none
theorem ok222_40a (fuel : Nat) : FnOK Tryz.prog 222 (spg222_40a (F_coder_Decoder_none_40a fuel)) := by
  intro args objs kk r h
  unfold spg222_40a at h
  split at h
  · skip
    split at h
    rotate_left 1
    · cases h
    rename_i hsp
    have esp := splitRun_eq hsp
    subst esp
    obtain ⟨hb, h⟩ := cond_some' h
    cases qb_eq hb
    exact fo0 (hG222_40a fuel) Tryz.func222 rfl (by kernel_rfl) _ _ kk r ((F222_40a_eq fuel _ _ _ _ _ _ _ _ _ _ kk).trans h)
  · cases h
def kp211_40a (i : Nat) : Option (List Nat) := Ev.look i []
def Gg211_40a (f : Nat) : Option Ev.Spec := Ev.look f []
def G211_40a (fuel : Nat) : Nat → Option Ev.Spec := Gg211_40a
def F_coder_interval_lose_40a (fuel : Nat) (x0 x1 : Int) (x2 x3 : Int) (x4 x5 : Int) (x6 x7 : Bool) (x8 x9 : (List Int)) (k0 : (Int × Int × Int × Int × Int × Int × Int × Bool × Bool × (List Int) × (List Int)) → Option Ans) : Option Ans := k0 (u8.wrap (Ev.ishr IntKind.u64 x1 24), x0, Ev.iand IntKind.u64 (Ev.ishl IntKind.u64 x1 8) 4294967295, Ev.ior IntKind.u64 (Ev.iand IntKind.u64 (Ev.ishl IntKind.u64 x2 8) 4294967295) 255, x3, x4, x5, x6, x7, x8, x9)
abbrev YF211_40a : Type := Int → Int → Int → Int → Int → Int → Bool → Bool → LI → LI → ((Int × Int × Int × Int × Int × Int × Int × Bool × Bool × LI × LI) → Option Ans) → Option Ans
theorem F211_40a_eq (fuel : Nat) (x0 x1 : Int) (x2 x3 : Int) (x4 x5 : Int) (x6 x7 : Bool) (x8 x9 : LI) (k : Ev.Cont) : evalFn tab (G211_40a fuel) J0 kp211_40a fuel Tryz.f211 [.c (.ptr 0 0)] [.cells 194 (i6 x0 :: .own 1 :: ctb (.int .u64 x1 :: .int .u64 x2 :: .own 2 :: i6 x3 :: .int .u64 x4 :: i6 x5 :: .bool x6 :: .bool x7 :: [])), .vec 3 (.int .i64) x8 false, .vec 5 (.int .u8) x9 false] k = F_coder_interval_lose_40a fuel x0 x1 x2 x3 x4 x5 x6 x7 x8 x9 (fun r => match r with | (r0, r1, r2, r3, r4, r5, r6, r7, r8, r9, r10) => k (.c (.int .u8 r0), [.cells 194 (i6 r1 :: .own 1 :: ctb (.int .u64 r2 :: .int .u64 r3 :: .own 2 :: i6 r4 :: .int .u64 r5 :: i6 r6 :: .bool r7 :: .bool r8 :: [])), .vec 3 (.int .i64) r9 false, .vec 5 (.int .u8) r10 false])) := by
  kernel_rfl
theorem hG211_40a (fuel : Nat) : GOK Tryz.prog (G211_40a fuel) :=
  gok_nil
def spg211_40a (F : YF211_40a) : Ev.Spec := fun args objs k => match args, objs with | [.c (.ptr q0 q1)], [.cells q2 cs0, .vec q3 (.int .i64) x8 false, .vec q4 (.int .u8) x9 false] => (match splitRun 2 ctn cs0 with | some ([i6 x0, .own q5], [.int .u64 x1, .int .u64 x2, .own q6, i6 x3, .int .u64 x4, i6 x5, .bool x6, .bool x7]) => bif qb [q0, q1, q2, q3, q4, q5, q6] [0, 0, 194, 3, 5, 1, 2] then F x0 x1 x2 x3 x4 x5 x6 x7 x8 x9 (fun r => match r with | (r0, r1, r2, r3, r4, r5, r6, r7, r8, r9, r10) => k (.c (.int .u8 r0), [.cells 194 (i6 r1 :: .own 1 :: ctb (.int .u64 r2 :: .int .u64 r3 :: .own 2 :: i6 r4 :: .int .u64 r5 :: i6 r6 :: .bool r7 :: .bool r8 :: [])), .vec 3 (.int .i64) r9 false, .vec 5 (.int .u8) r10 false])) else none | _ => none) | _, _ => none
theorem ok211_40a (fuel : Nat) : FnOK Tryz.prog 211 (spg211_40a (F_coder_interval_lose_40a fuel)) := by
  intro args objs kk r h
  unfold spg211_40a at h
  split at h
  · skip
    split at h
    rotate_left 1
    · cases h
    rename_i hsp
    have esp := splitRun_eq hsp
    subst esp
    obtain ⟨hb, h⟩ := cond_some' h
    cases qb_eq hb
    exact fo0 (hG211_40a fuel) Tryz.func211 rfl (by kernel_rfl) _ _ kk r ((F211_40a_eq fuel _ _ _ _ _ _ _ _ _ _ kk).trans h)
  · cases h
def kp247_bb9 (i : Nat) : Option (List Nat) := Ev.look i []
def Gg247_bb9 (f : Nat) : Option Ev.Spec := Ev.look f []
def G247_bb9 (fuel : Nat) : Nat → Option Ev.Spec := Gg247_bb9
def F_coder_table_chance_bb9 (fuel : Nat) (x0 x1 : Int) (k0 : (Int) → Option Ans) : Option Ans := bif x0 == 1 then bif decide (i64.wrap (i64.wrap (i64.wrap (2 * i64.wrap (x1.tdiv 256)) + i64.wrap (2 * x1.tmod 256)) + 2) = 0) then none else k0 (bif decide (4095 < bif decide (1 > i64.wrap ((i64.wrap (i64.wrap (i64.wrap (2 * x1.tmod 256) + 1) * 4096)).tdiv (i64.wrap (i64.wrap (i64.wrap (2 * i64.wrap (x1.tdiv 256)) + i64.wrap (2 * x1.tmod 256)) + 2)))) then 1 else i64.wrap ((i64.wrap (i64.wrap (i64.wrap (2 * x1.tmod 256) + 1) * 4096)).tdiv (i64.wrap (i64.wrap (i64.wrap (2 * i64.wrap (x1.tdiv 256)) + i64.wrap (2 * x1.tmod 256)) + 2)))) then 4095 else bif decide (1 > i64.wrap ((i64.wrap (i64.wrap (i64.wrap (2 * x1.tmod 256) + 1) * 4096)).tdiv (i64.wrap (i64.wrap (i64.wrap (2 * i64.wrap (x1.tdiv 256)) + i64.wrap (2 * x1.tmod 256)) + 2)))) then 1 else i64.wrap ((i64.wrap (i64.wrap (i64.wrap (2 * x1.tmod 256) + 1) * 4096)).tdiv (i64.wrap (i64.wrap (i64.wrap (2 * i64.wrap (x1.tdiv 256)) + i64.wrap (2 * x1.tmod 256)) + 2)))) else bif decide (x1 ≥ 32) then bif decide (0 ≤ i64.wrap (x1 - 32) ∧ i64.wrap (x1 - 32) < (↑(32 : Nat) : Int)) then bif decide (i64.wrap (x1 - 32) = (↑(0 : Nat) : Int)) then k0 (i64.wrap ((4096 : Int) - (2048 : Int))) else bif decide (i64.wrap (x1 - 32) = (↑(1 : Nat) : Int)) then k0 (i64.wrap ((4096 : Int) - (1792 : Int))) else bif decide (i64.wrap (x1 - 32) = (↑(2 : Nat) : Int)) then k0 (i64.wrap ((4096 : Int) - (1568 : Int))) else bif decide (i64.wrap (x1 - 32) = (↑(3 : Nat) : Int)) then k0 (i64.wrap ((4096 : Int) - (1372 : Int))) else bif decide (i64.wrap (x1 - 32) = (↑(4 : Nat) : Int)) then k0 (i64.wrap ((4096 : Int) - (1201 : Int))) else bif decide (i64.wrap (x1 - 32) = (↑(5 : Nat) : Int)) then k0 (i64.wrap ((4096 : Int) - (1051 : Int))) else bif decide (i64.wrap (x1 - 32) = (↑(6 : Nat) : Int)) then k0 (i64.wrap ((4096 : Int) - (920 : Int))) else bif decide (i64.wrap (x1 - 32) = (↑(7 : Nat) : Int)) then k0 (i64.wrap ((4096 : Int) - (805 : Int))) else bif decide (i64.wrap (x1 - 32) = (↑(8 : Nat) : Int)) then k0 (i64.wrap ((4096 : Int) - (705 : Int))) else bif decide (i64.wrap (x1 - 32) = (↑(9 : Nat) : Int)) then k0 (i64.wrap ((4096 : Int) - (617 : Int))) else bif decide (i64.wrap (x1 - 32) = (↑(10 : Nat) : Int)) then k0 (i64.wrap ((4096 : Int) - (540 : Int))) else bif decide (i64.wrap (x1 - 32) = (↑(11 : Nat) : Int)) then k0 (i64.wrap ((4096 : Int) - (473 : Int))) else bif decide (i64.wrap (x1 - 32) = (↑(12 : Nat) : Int)) then k0 (i64.wrap ((4096 : Int) - (414 : Int))) else bif decide (i64.wrap (x1 - 32) = (↑(13 : Nat) : Int)) then k0 (i64.wrap ((4096 : Int) - (363 : Int))) else bif decide (i64.wrap (x1 - 32) = (↑(14 : Nat) : Int)) then k0 (i64.wrap ((4096 : Int) - (318 : Int))) else bif decide (i64.wrap (x1 - 32) = (↑(15 : Nat) : Int)) then k0 (i64.wrap ((4096 : Int) - (279 : Int))) else bif decide (i64.wrap (x1 - 32) = (↑(16 : Nat) : Int)) then k0 (i64.wrap ((4096 : Int) - (245 : Int))) else bif decide (i64.wrap (x1 - 32) = (↑(17 : Nat) : Int)) then k0 (i64.wrap ((4096 : Int) - (215 : Int))) else bif decide (i64.wrap (x1 - 32) = (↑(18 : Nat) : Int)) then k0 (i64.wrap ((4096 : Int) - (189 : Int))) else bif decide (i64.wrap (x1 - 32) = (↑(19 : Nat) : Int)) then k0 (i64.wrap ((4096 : Int) - (166 : Int))) else bif decide (i64.wrap (x1 - 32) = (↑(20 : Nat) : Int)) then k0 (i64.wrap ((4096 : Int) - (146 : Int))) else bif decide (i64.wrap (x1 - 32) = (↑(21 : Nat) : Int)) then k0 (i64.wrap ((4096 : Int) - (128 : Int))) else bif decide (i64.wrap (x1 - 32) = (↑(22 : Nat) : Int)) then k0 (i64.wrap ((4096 : Int) - (112 : Int))) else bif decide (i64.wrap (x1 - 32) = (↑(23 : Nat) : Int)) then k0 (i64.wrap ((4096 : Int) - (98 : Int))) else bif decide (i64.wrap (x1 - 32) = (↑(24 : Nat) : Int)) then k0 (i64.wrap ((4096 : Int) - (86 : Int))) else bif decide (i64.wrap (x1 - 32) = (↑(25 : Nat) : Int)) then k0 (i64.wrap ((4096 : Int) - (76 : Int))) else bif decide (i64.wrap (x1 - 32) = (↑(26 : Nat) : Int)) then k0 (i64.wrap ((4096 : Int) - (67 : Int))) else bif decide (i64.wrap (x1 - 32) = (↑(27 : Nat) : Int)) then k0 (i64.wrap ((4096 : Int) - (59 : Int))) else bif decide (i64.wrap (x1 - 32) = (↑(28 : Nat) : Int)) then k0 (i64.wrap ((4096 : Int) - (52 : Int))) else bif decide (i64.wrap (x1 - 32) = (↑(29 : Nat) : Int)) then k0 (i64.wrap ((4096 : Int) - (46 : Int))) else bif decide (i64.wrap (x1 - 32) = (↑(30 : Nat) : Int)) then k0 (i64.wrap ((4096 : Int) - (41 : Int))) else bif decide (i64.wrap (x1 - 32) = (↑(31 : Nat) : Int)) then k0 (i64.wrap ((4096 : Int) - (36 : Int))) else none else none else bif decide (0 ≤ x1 ∧ x1 < (↑(32 : Nat) : Int)) then bif decide (x1 = (↑(0 : Nat) : Int)) then k0 (2048) else bif decide (x1 = (↑(1 : Nat) : Int)) then k0 (1792) else bif decide (x1 = (↑(2 : Nat) : Int)) then k0 (1568) else bif decide (x1 = (↑(3 : Nat) : Int)) then k0 (1372) else bif decide (x1 = (↑(4 : Nat) : Int)) then k0 (1201) else bif decide (x1 = (↑(5 : Nat) : Int)) then k0 (1051) else bif decide (x1 = (↑(6 : Nat) : Int)) then k0 (920) else bif decide (x1 = (↑(7 : Nat) : Int)) then k0 (805) else bif decide (x1 = (↑(8 : Nat) : Int)) then k0 (705) else bif decide (x1 = (↑(9 : Nat) : Int)) then k0 (617) else bif decide (x1 = (↑(10 : Nat) : Int)) then k0 (540) else bif decide (x1 = (↑(11 : Nat) : Int)) then k0 (473) else bif decide (x1 = (↑(12 : Nat) : Int)) then k0 (414) else bif decide (x1 = (↑(13 : Nat) : Int)) then k0 (363) else bif decide (x1 = (↑(14 : Nat) : Int)) then k0 (318) else bif decide (x1 = (↑(15 : Nat) : Int)) then k0 (279) else bif decide (x1 = (↑(16 : Nat) : Int)) then k0 (245) else bif decide (x1 = (↑(17 : Nat) : Int)) then k0 (215) else bif decide (x1 = (↑(18 : Nat) : Int)) then k0 (189) else bif decide (x1 = (↑(19 : Nat) : Int)) then k0 (166) else bif decide (x1 = (↑(20 : Nat) : Int)) then k0 (146) else bif decide (x1 = (↑(21 : Nat) : Int)) then k0 (128) else bif decide (x1 = (↑(22 : Nat) : Int)) then k0 (112) else bif decide (x1 = (↑(23 : Nat) : Int)) then k0 (98) else bif decide (x1 = (↑(24 : Nat) : Int)) then k0 (86) else bif decide (x1 = (↑(25 : Nat) : Int)) then k0 (76) else bif decide (x1 = (↑(26 : Nat) : Int)) then k0 (67) else bif decide (x1 = (↑(27 : Nat) : Int)) then k0 (59) else bif decide (x1 = (↑(28 : Nat) : Int)) then k0 (52) else bif decide (x1 = (↑(29 : Nat) : Int)) then k0 (46) else bif decide (x1 = (↑(30 : Nat) : Int)) then k0 (41) else bif decide (x1 = (↑(31 : Nat) : Int)) then k0 (36) else none else none
abbrev YF247_bb9 : Type := Int → Int → (Int → Option Ans) → Option Ans
theorem F247_bb9_eq (fuel : Nat) (x0 x1 : Int) (k : Ev.Cont) : evalFn tab (G247_bb9 fuel) J0 kp247_bb9 fuel Tryz.f247 [.agg (ctb []), .c (i6 x0), .c (i6 x1)] [] k = F_coder_table_chance_bb9 fuel x0 x1 (fun r => match r with | r0 => k (.c (i6 r0), [])) := by
  kernel_rfl
theorem hG247_bb9 (fuel : Nat) : GOK Tryz.prog (G247_bb9 fuel) :=
  gok_nil
def spg247_bb9 (F : YF247_bb9) : Ev.Spec := fun args objs k => match args, objs with | [.agg cs0, .c (i6 x0), .c (i6 x1)], [] => (match splitRun 0 ctn cs0 with | some ([], []) => bif true then F x0 x1 (fun r => match r with | r0 => k (.c (i6 r0), [])) else none | _ => none) | _, _ => none
theorem ok247_bb9 (fuel : Nat) : FnOK Tryz.prog 247 (spg247_bb9 (F_coder_table_chance_bb9 fuel)) := by
  intro args objs kk r h
  unfold spg247_bb9 at h
  split at h
  · skip
    split at h
    rotate_left 1
    · cases h
    rename_i hsp
    have esp := splitRun_eq hsp
    subst esp
    exact fo0 (hG247_bb9 fuel) Tryz.func247 rfl (by kernel_rfl) _ _ kk r ((F247_bb9_eq fuel _ _ kk).trans h)
  · cases h
def kp209_aa3 (i : Nat) : Option (List Nat) := Ev.look i [(200001, [0])]
def Gg209_aa3 (f247_bb9 : YF247_bb9) (f : Nat) : Option Ev.Spec := Ev.look f [(247, spg247_bb9 f247_bb9)]
def G209_aa3 (fuel : Nat) : Nat → Option Ev.Spec := Gg209_aa3 (F_coder_table_chance_bb9 fuel)
def Fg_coder_interval_mid_aa3 (fuel : Nat) (f247_bb9 : YF247_bb9) (x0 x1 : Int) (x2 x3 : Int) (x4 x5 x6 : Int) (x7 x8 : Bool) (x9 x10 : LI) (k0 : (Int × Int × Int × Int × Int × Int × Int × Bool × Bool × LI × LI) → OA) : OA := bif decide (0 ≤ x0 ∧ x0 < (↑x9.length : Int)) then (f247_bb9 x1 (x9.getD x0.toNat 0) (fun y3 => k0 (u64.wrap (u64.wrap (x2 + u64.wrap (u64.wrap ((u64.wrap (x3 - x2)).tdiv 4096) * u64.wrap y3)) + u64.wrap ((u64.wrap ((u64.wrap (x3 - x2)).tmod 4096 * u64.wrap y3)).tdiv 4096)), x1, x2, x3, x4, x5, x6, x7, x8, x9, x10))) else none
abbrev YF209_aa3 : Type := Int → Int → Int → Int → Int → Int → Int → Bool → Bool → LI → LI → ((Int × Int × Int × Int × Int × Int × Int × Bool × Bool × LI × LI) → Option Ans) → Option Ans
def F_coder_interval_mid_aa3 (fuel : Nat) : YF209_aa3 := Fg_coder_interval_mid_aa3 fuel (F_coder_table_chance_bb9 fuel)
theorem F209_aa3_eqg (fuel : Nat) (f247_bb9 : YF247_bb9) (x0 x1 : Int) (x2 x3 : Int) (x4 x5 x6 : Int) (x7 x8 : Bool) (x9 x10 : LI) (k : Ev.Cont) : evalFn tab (Gg209_aa3 f247_bb9) J0 kp209_aa3 fuel Tryz.f209 [.c (.ptr 0 0), .c (i6 x0)] [.cells 194 (i6 x1 :: .own 1 :: ctb (.int .u64 x2 :: .int .u64 x3 :: .own 2 :: i6 x4 :: .int .u64 x5 :: i6 x6 :: .bool x7 :: .bool x8 :: [])), .vec 3 (.int .i64) x9 false, .vec 5 (.int .u8) x10 false] k = Fg_coder_interval_mid_aa3 fuel f247_bb9 x0 x1 x2 x3 x4 x5 x6 x7 x8 x9 x10 (fun r => match r with | (r0, r1, r2, r3, r4, r5, r6, r7, r8, r9, r10) => k (.c (.int .u64 r0), [.cells 194 (i6 r1 :: .own 1 :: ctb (.int .u64 r2 :: .int .u64 r3 :: .own 2 :: i6 r4 :: .int .u64 r5 :: i6 r6 :: .bool r7 :: .bool r8 :: [])), .vec 3 (.int .i64) r9 false, .vec 5 (.int .u8) r10 false])) := by
  kernel_rfl
theorem hG209_aa3 (fuel : Nat) : GOK Tryz.prog (G209_aa3 fuel) :=
  gc (ok247_bb9 fuel) Tryz.func247 (by kernel_rfl) rfl <|
  gok_nil
def spg209_aa3 (F : YF209_aa3) : Ev.Spec := fun args objs k => match args, objs with | [.c (.ptr q0 q1), .c (i6 x0)], [.cells q2 cs0, .vec q3 (.int .i64) x9 false, .vec q4 (.int .u8) x10 false] => (match splitRun 2 ctn cs0 with | some ([i6 x1, .own q5], [.int .u64 x2, .int .u64 x3, .own q6, i6 x4, .int .u64 x5, i6 x6, .bool x7, .bool x8]) => bif qb [q0, q1, q2, q3, q4, q5, q6] [0, 0, 194, 3, 5, 1, 2] then F x0 x1 x2 x3 x4 x5 x6 x7 x8 x9 x10 (fun r => match r with | (r0, r1, r2, r3, r4, r5, r6, r7, r8, r9, r10) => k (.c (.int .u64 r0), [.cells 194 (i6 r1 :: .own 1 :: ctb (.int .u64 r2 :: .int .u64 r3 :: .own 2 :: i6 r4 :: .int .u64 r5 :: i6 r6 :: .bool r7 :: .bool r8 :: [])), .vec 3 (.int .i64) r9 false, .vec 5 (.int .u8) r10 false])) else none | _ => none) | _, _ => none
theorem ok209_aa3 (fuel : Nat) : FnOK Tryz.prog 209 (spg209_aa3 (F_coder_interval_mid_aa3 fuel)) := by
  intro args objs kk r h
  unfold spg209_aa3 at h
  split at h
  · skip
    split at h
    rotate_left 1
    · cases h
    rename_i hsp
    have esp := splitRun_eq hsp
    subst esp
    obtain ⟨hb, h⟩ := cond_some' h
    cases qb_eq hb
    exact fo0 (hG209_aa3 fuel) Tryz.func209 rfl (by kernel_rfl) _ _ kk r ((F209_aa3_eqg fuel (F_coder_table_chance_bb9 fuel) _ _ _ _ _ _ _ _ _ _ _ kk).trans h)
  · cases h
def kp210_40a (i : Nat) : Option (List Nat) := Ev.look i [(200001, [0])]
def Gg210_40a (f : Nat) : Option Ev.Spec := Ev.look f []
def G210_40a (fuel : Nat) : Nat → Option Ev.Spec := Gg210_40a
def F_coder_interval_same_40a (fuel : Nat) (x0 x1 : Int) (x2 x3 : Int) (x4 x5 : Int) (x6 x7 : Bool) (x8 x9 : (List Int)) (k0 : (Bool × Int × Int × Int × Int × Int × Int × Bool × Bool × (List Int) × (List Int)) → Option Ans) : Option Ans := k0 (Ev.ishr IntKind.u64 x1 24 == Ev.ishr IntKind.u64 x2 24, x0, x1, x2, x3, x4, x5, x6, x7, x8, x9)
abbrev YF210_40a : Type := Int → Int → Int → Int → Int → Int → Bool → Bool → LI → LI → ((Bool × Int × Int × Int × Int × Int × Int × Bool × Bool × LI × LI) → Option Ans) → Option Ans
theorem F210_40a_eq (fuel : Nat) (x0 x1 : Int) (x2 x3 : Int) (x4 x5 : Int) (x6 x7 : Bool) (x8 x9 : LI) (k : Ev.Cont) : evalFn tab (G210_40a fuel) J0 kp210_40a fuel Tryz.f210 [.c (.ptr 0 0)] [.cells 194 (i6 x0 :: .own 1 :: ctb (.int .u64 x1 :: .int .u64 x2 :: .own 2 :: i6 x3 :: .int .u64 x4 :: i6 x5 :: .bool x6 :: .bool x7 :: [])), .vec 3 (.int .i64) x8 false, .vec 5 (.int .u8) x9 false] k = F_coder_interval_same_40a fuel x0 x1 x2 x3 x4 x5 x6 x7 x8 x9 (fun r => match r with | (r0, r1, r2, r3, r4, r5, r6, r7, r8, r9, r10) => k (.c (.bool r0), [.cells 194 (i6 r1 :: .own 1 :: ctb (.int .u64 r2 :: .int .u64 r3 :: .own 2 :: i6 r4 :: .int .u64 r5 :: i6 r6 :: .bool r7 :: .bool r8 :: [])), .vec 3 (.int .i64) r9 false, .vec 5 (.int .u8) r10 false])) := by
  kernel_rfl
theorem hG210_40a (fuel : Nat) : GOK Tryz.prog (G210_40a fuel) :=
  gok_nil
def spg210_40a (F : YF210_40a) : Ev.Spec := fun args objs k => match args, objs with | [.c (.ptr q0 q1)], [.cells q2 cs0, .vec q3 (.int .i64) x8 false, .vec q4 (.int .u8) x9 false] => (match splitRun 2 ctn cs0 with | some ([i6 x0, .own q5], [.int .u64 x1, .int .u64 x2, .own q6, i6 x3, .int .u64 x4, i6 x5, .bool x6, .bool x7]) => bif qb [q0, q1, q2, q3, q4, q5, q6] [0, 0, 194, 3, 5, 1, 2] then F x0 x1 x2 x3 x4 x5 x6 x7 x8 x9 (fun r => match r with | (r0, r1, r2, r3, r4, r5, r6, r7, r8, r9, r10) => k (.c (.bool r0), [.cells 194 (i6 r1 :: .own 1 :: ctb (.int .u64 r2 :: .int .u64 r3 :: .own 2 :: i6 r4 :: .int .u64 r5 :: i6 r6 :: .bool r7 :: .bool r8 :: [])), .vec 3 (.int .i64) r9 false, .vec 5 (.int .u8) r10 false])) else none | _ => none) | _, _ => none
theorem ok210_40a (fuel : Nat) : FnOK Tryz.prog 210 (spg210_40a (F_coder_interval_same_40a fuel)) := by
  intro args objs kk r h
  unfold spg210_40a at h
  split at h
  · skip
    split at h
    rotate_left 1
    · cases h
    rename_i hsp
    have esp := splitRun_eq hsp
    subst esp
    obtain ⟨hb, h⟩ := cond_some' h
    cases qb_eq hb
    exact fo0 (hG210_40a fuel) Tryz.func210 rfl (by kernel_rfl) _ _ kk r ((F210_40a_eq fuel _ _ _ _ _ _ _ _ _ _ kk).trans h)
  · cases h
def kp246 (i : Nat) : Option (List Nat) := Ev.look i []
def Gg246 (f : Nat) : Option Ev.Spec := Ev.look f []
def G246 (fuel : Nat) : Nat → Option Ev.Spec := Gg246
def F_coder_next (fuel : Nat) (x0 x1 x2 : Int) (k0 : (Int) → Option Ans) : Option Ans := bif x0 == 1 then bif decide (0 ≤ x2 ∧ x2 < (↑(2 : Nat) : Int)) then bif decide (x2 = (↑(0 : Nat) : Int)) then bif i64.wrap (x1.tdiv 256) == 255 then bif decide (0 ≤ x2 ∧ x2 < (↑(2 : Nat) : Int)) then bif decide (x2 = (↑(0 : Nat) : Int)) then bif decide (0 ≤ x2 ∧ x2 < (↑(2 : Nat) : Int)) then bif decide (x2 = (↑(0 : Nat) : Int)) then k0 (i64.wrap (i64.wrap (256 * i64.wrap (i64.wrap ((i64.wrap (x1.tdiv 256)).tdiv 2) + 1)) + i64.wrap ((x1.tmod 256).tdiv 2))) else bif decide (x2 = (↑(1 : Nat) : Int)) then k0 (i64.wrap (i64.wrap (256 * i64.wrap ((i64.wrap (x1.tdiv 256)).tdiv 2)) + i64.wrap (i64.wrap ((i64.wrap (x1.tdiv 256)).tdiv 2) + 1))) else none else none else bif decide (x2 = (↑(1 : Nat) : Int)) then bif decide (0 ≤ x2 ∧ x2 < (↑(2 : Nat) : Int)) then bif decide (x2 = (↑(0 : Nat) : Int)) then k0 (i64.wrap (i64.wrap (256 * i64.wrap (i64.wrap ((x1.tmod 256).tdiv 2) + 1)) + i64.wrap ((x1.tmod 256).tdiv 2))) else bif decide (x2 = (↑(1 : Nat) : Int)) then k0 (i64.wrap (i64.wrap (256 * i64.wrap ((i64.wrap (x1.tdiv 256)).tdiv 2)) + i64.wrap (i64.wrap ((x1.tmod 256).tdiv 2) + 1))) else none else none else none else none else bif decide (0 ≤ x2 ∧ x2 < (↑(2 : Nat) : Int)) then bif decide (x2 = (↑(0 : Nat) : Int)) then bif decide (0 ≤ x2 ∧ x2 < (↑(2 : Nat) : Int)) then bif decide (x2 = (↑(0 : Nat) : Int)) then k0 (i64.wrap (i64.wrap (256 * i64.wrap (i64.wrap (x1.tdiv 256) + 1)) + x1.tmod 256)) else bif decide (x2 = (↑(1 : Nat) : Int)) then k0 (i64.wrap (i64.wrap (256 * i64.wrap (x1.tdiv 256)) + i64.wrap (i64.wrap (x1.tdiv 256) + 1))) else none else none else bif decide (x2 = (↑(1 : Nat) : Int)) then bif decide (0 ≤ x2 ∧ x2 < (↑(2 : Nat) : Int)) then bif decide (x2 = (↑(0 : Nat) : Int)) then k0 (i64.wrap (i64.wrap ((256 : Int) * i64.wrap (x1.tmod (256 : Int) + (1 : Int))) + x1.tmod (256 : Int))) else bif decide (x2 = (↑(1 : Nat) : Int)) then k0 (i64.wrap (i64.wrap ((256 : Int) * i64.wrap (x1.tdiv (256 : Int))) + i64.wrap (x1.tmod (256 : Int) + (1 : Int)))) else none else none else none else none else bif decide (x2 = (↑(1 : Nat) : Int)) then bif x1.tmod (256 : Int) == (255 : Int) then bif decide (0 ≤ x2 ∧ x2 < (↑(2 : Nat) : Int)) then bif decide (x2 = (↑(0 : Nat) : Int)) then bif decide (0 ≤ x2 ∧ x2 < (↑(2 : Nat) : Int)) then bif decide (x2 = (↑(0 : Nat) : Int)) then k0 (i64.wrap (i64.wrap (256 * i64.wrap (i64.wrap ((i64.wrap (x1.tdiv 256)).tdiv 2) + 1)) + i64.wrap ((x1.tmod 256).tdiv 2))) else bif decide (x2 = (↑(1 : Nat) : Int)) then k0 (i64.wrap (i64.wrap (256 * i64.wrap ((i64.wrap (x1.tdiv 256)).tdiv 2)) + i64.wrap (i64.wrap ((i64.wrap (x1.tdiv 256)).tdiv 2) + 1))) else none else none else bif decide (x2 = (↑(1 : Nat) : Int)) then bif decide (0 ≤ x2 ∧ x2 < (↑(2 : Nat) : Int)) then bif decide (x2 = (↑(0 : Nat) : Int)) then k0 (i64.wrap (i64.wrap (256 * i64.wrap (i64.wrap ((x1.tmod 256).tdiv 2) + 1)) + i64.wrap ((x1.tmod 256).tdiv 2))) else bif decide (x2 = (↑(1 : Nat) : Int)) then k0 (i64.wrap (i64.wrap (256 * i64.wrap ((i64.wrap (x1.tdiv 256)).tdiv 2)) + i64.wrap (i64.wrap ((x1.tmod 256).tdiv 2) + 1))) else none else none else none else none else bif decide (0 ≤ x2 ∧ x2 < (↑(2 : Nat) : Int)) then bif decide (x2 = (↑(0 : Nat) : Int)) then bif decide (0 ≤ x2 ∧ x2 < (↑(2 : Nat) : Int)) then bif decide (x2 = (↑(0 : Nat) : Int)) then k0 (i64.wrap (i64.wrap (256 * i64.wrap (i64.wrap (x1.tdiv 256) + 1)) + x1.tmod 256)) else bif decide (x2 = (↑(1 : Nat) : Int)) then k0 (i64.wrap (i64.wrap (256 * i64.wrap (x1.tdiv 256)) + i64.wrap (i64.wrap (x1.tdiv 256) + 1))) else none else none else bif decide (x2 = (↑(1 : Nat) : Int)) then bif decide (0 ≤ x2 ∧ x2 < (↑(2 : Nat) : Int)) then bif decide (x2 = (↑(0 : Nat) : Int)) then k0 (i64.wrap (i64.wrap ((256 : Int) * i64.wrap (x1.tmod (256 : Int) + (1 : Int))) + x1.tmod (256 : Int))) else bif decide (x2 = (↑(1 : Nat) : Int)) then k0 (i64.wrap (i64.wrap ((256 : Int) * i64.wrap (x1.tdiv (256 : Int))) + i64.wrap (x1.tmod (256 : Int) + (1 : Int)))) else none else none else none else none else none else none else bif x2 == i64.wrap (x1.tdiv 32) then k0 (i64.wrap (i64.wrap ((32 : Int) * i64.wrap (x1.tdiv (32 : Int))) + bif decide ((31 : Int) < i64.wrap (x1.tmod (32 : Int) + (1 : Int))) then (31 : Int) else i64.wrap (x1.tmod (32 : Int) + (1 : Int)))) else bif x1.tmod (32 : Int) == (0 : Int) then k0 (i64.wrap (i64.wrap (32 * x2) + x1.tmod 32)) else k0 (i64.wrap (i64.wrap (32 * i64.wrap (x1.tdiv 32)) + i64.wrap (x1.tmod 32 - i64.wrap (1 + i64.wrap ((x1.tmod 32).tdiv 4)))))
abbrev YF246 : Type := Int → Int → Int → (Int → Option Ans) → Option Ans
theorem F246_eq (fuel : Nat) (x0 x1 x2 : Int) (k : Ev.Cont) : evalFn tab (G246 fuel) J0 kp246 fuel Tryz.f246 [.c (i6 x0), .c (i6 x1), .c (i6 x2)] [] k = F_coder_next fuel x0 x1 x2 (fun r => match r with | r0 => k (.c (i6 r0), [])) := by
  kernel_rfl
theorem hG246 (fuel : Nat) : GOK Tryz.prog (G246 fuel) :=
  gok_nil
def spg246 (F : YF246) : Ev.Spec := fun args objs k => match args, objs with | [.c (i6 x0), .c (i6 x1), .c (i6 x2)], [] => F x0 x1 x2 (fun r => match r with | r0 => k (.c (i6 r0), [])) | _, _ => none
theorem ok246 (fuel : Nat) : FnOK Tryz.prog 246 (spg246 (F_coder_next fuel)) := by
  intro args objs kk r h
  unfold spg246 at h
  split at h
  · skip
    exact fo0 (hG246 fuel) Tryz.func246 rfl (by kernel_rfl) _ _ kk r ((F246_eq fuel _ _ _ kk).trans h)
  · cases h
def kp208_7ec (i : Nat) : Option (List Nat) := Ev.look i [(200003, [0])]
def Gg208_7ec (f246 : YF246) (f : Nat) : Option Ev.Spec := Ev.look f [(246, spg246 f246)]
def G208_7ec (fuel : Nat) : Nat → Option Ev.Spec := Gg208_7ec (F_coder_next fuel)
def Fg_coder_interval_take_7ec (fuel : Nat) (f246 : YF246) (x0 x1 : Int) (x2 x3 : Int) (x4 x5 : Int) (x6 x7 x8 : Int) (x9 x10 : Bool) (x11 x12 : LI) (k0 : (Int × Int × Int × Int × Int × Int × Bool × Bool × LI × LI) → OA) : OA := bif x1 == 1 then bif decide (0 ≤ x0 ∧ x0 < (↑x11.length : Int)) then (f246 x3 (x11.getD x0.toNat 0) x1 (fun y4 => bif decide (0 ≤ x0 ∧ x0 < (↑x11.length : Int)) then k0 (x3, x4, x2, x6, x7, x8, x9, x10, x11.set x0.toNat y4, x12) else none)) else none else bif decide (0 ≤ x0 ∧ x0 < (↑x11.length : Int)) then (f246 x3 (x11.getD x0.toNat 0) x1 (fun y4 => bif decide (0 ≤ x0 ∧ x0 < (↑x11.length : Int)) then k0 (x3, u64.wrap (x2 + 1), x5, x6, x7, x8, x9, x10, x11.set x0.toNat y4, x12) else none)) else none
abbrev YF208_7ec : Type := Int → Int → Int → Int → Int → Int → Int → Int → Int → Bool → Bool → LI → LI → ((Int × Int × Int × Int × Int × Int × Bool × Bool × LI × LI) → Option Ans) → Option Ans
def F_coder_interval_take_7ec (fuel : Nat) : YF208_7ec := Fg_coder_interval_take_7ec fuel (F_coder_next fuel)
theorem F208_7ec_eqg (fuel : Nat) (f246 : YF246) (x0 x1 : Int) (x2 x3 : Int) (x4 x5 : Int) (x6 x7 x8 : Int) (x9 x10 : Bool) (x11 x12 : LI) (k : Ev.Cont) : evalFn tab (Gg208_7ec f246) J0 kp208_7ec fuel Tryz.f208 [.c (.ptr 0 0), .c (i6 x0), .c (i6 x1), .c (.int .u64 x2)] [.cells 194 (i6 x3 :: .own 1 :: ctb (.int .u64 x4 :: .int .u64 x5 :: .own 2 :: i6 x6 :: .int .u64 x7 :: i6 x8 :: .bool x9 :: .bool x10 :: [])), .vec 3 (.int .i64) x11 false, .vec 5 (.int .u8) x12 false] k = Fg_coder_interval_take_7ec fuel f246 x0 x1 x2 x3 x4 x5 x6 x7 x8 x9 x10 x11 x12 (fun r => match r with | (r0, r1, r2, r3, r4, r5, r6, r7, r8, r9) => k (.tup [], [.cells 194 (i6 r0 :: .own 1 :: ctb (.int .u64 r1 :: .int .u64 r2 :: .own 2 :: i6 r3 :: .int .u64 r4 :: i6 r5 :: .bool r6 :: .bool r7 :: [])), .vec 3 (.int .i64) r8 false, .vec 5 (.int .u8) r9 false])) := by
  kernel_rfl
theorem hG208_7ec (fuel : Nat) : GOK Tryz.prog (G208_7ec fuel) :=
  gc (ok246 fuel) Tryz.func246 (by kernel_rfl) rfl <|
  gok_nil
def spg208_7ec (F : YF208_7ec) : Ev.Spec := fun args objs k => match args, objs with | [.c (.ptr q0 q1), .c (i6 x0), .c (i6 x1), .c (.int .u64 x2)], [.cells q2 cs0, .vec q3 (.int .i64) x11 false, .vec q4 (.int .u8) x12 false] => (match splitRun 2 ctn cs0 with | some ([i6 x3, .own q5], [.int .u64 x4, .int .u64 x5, .own q6, i6 x6, .int .u64 x7, i6 x8, .bool x9, .bool x10]) => bif qb [q0, q1, q2, q3, q4, q5, q6] [0, 0, 194, 3, 5, 1, 2] then F x0 x1 x2 x3 x4 x5 x6 x7 x8 x9 x10 x11 x12 (fun r => match r with | (r0, r1, r2, r3, r4, r5, r6, r7, r8, r9) => k (.tup [], [.cells 194 (i6 r0 :: .own 1 :: ctb (.int .u64 r1 :: .int .u64 r2 :: .own 2 :: i6 r3 :: .int .u64 r4 :: i6 r5 :: .bool r6 :: .bool r7 :: [])), .vec 3 (.int .i64) r8 false, .vec 5 (.int .u8) r9 false])) else none | _ => none) | _, _ => none
theorem ok208_7ec (fuel : Nat) : FnOK Tryz.prog 208 (spg208_7ec (F_coder_interval_take_7ec fuel)) := by
  intro args objs kk r h
  unfold spg208_7ec at h
  split at h
  · skip
    split at h
    rotate_left 1
    · cases h
    rename_i hsp
    have esp := splitRun_eq hsp
    subst esp
    obtain ⟨hb, h⟩ := cond_some' h
    cases qb_eq hb
    exact fo0 (hG208_7ec fuel) Tryz.func208 rfl (by kernel_rfl) _ _ kk r ((F208_7ec_eqg fuel (F_coder_next fuel) _ _ _ _ _ _ _ _ _ _ _ _ _ kk).trans h)
  · cases h
def kp146_aa3 (i : Nat) : Option (List Nat) := Ev.look i [(12, [0, 1, 6, 8, 9]), (100001, [0, 1, 6, 8, 9]), (200010, [0]), (400001, [4, 5])]
def Gg146_aa3 (f145_40a : YF145_40a) (f208_7ec : YF208_7ec) (f209_aa3 : YF209_aa3) (f210_40a : YF210_40a) (f211_40a : YF211_40a) (f222_40a : YF222_40a) (f : Nat) : Option Ev.Spec := Ev.look f [(145, spg145_40a f145_40a), (208, spg208_7ec f208_7ec), (209, spg209_aa3 f209_aa3), (210, spg210_40a f210_40a), (211, spg211_40a f211_40a), (222, spg222_40a f222_40a)]
def G146_aa3 (fuel : Nat) : Nat → Option Ev.Spec := Gg146_aa3 (F_coder_Decoder_shift_40a fuel) (F_coder_interval_take_7ec fuel) (F_coder_interval_mid_aa3 fuel) (F_coder_interval_same_40a fuel) (F_coder_interval_lose_40a fuel) (F_coder_Decoder_none_40a fuel)
abbrev V_coder_Decoder_Get_aa3_1 : Type := Int × Int × Int × Int × Int × Int × Int × Int × Int × Bool × Bool × LI × LI × Int × Int × Int × Int × Int × Int × Bool × Bool
abbrev W_coder_Decoder_Get_aa3_1 : Type := (Int × Int × Int × Int × Int × Int × Int × Int × Int × Bool × Bool × LI × LI × Int × Int × Int × Int × Int × Int × Bool × Bool → OA)
def Sg_coder_Decoder_Get_aa3_1 (fuel : Nat) (f145_40a : YF145_40a) (f208_7ec : YF208_7ec) (f209_aa3 : YF209_aa3) (f210_40a : YF210_40a) (f211_40a : YF211_40a) (f222_40a : YF222_40a) (x0 x1 : Int) (x2 x3 : Int) (x4 x5 : Int) (x6 x7 x8 : Int) (x9 x10 : Bool) (x11 x12 : LI) (x13 x14 : Int) (x15 x16 : Int) (x17 x18 : Int) (x19 x20 : Bool) (c : V_coder_Decoder_Get_aa3_1 → OA) (B : W_coder_Decoder_Get_aa3_1) : OA := match B with | b => (f210_40a x3 x4 x5 x6 x7 x8 x9 x10 x11 x12 (fun (y2_0, y2_1, y2_2, y2_3, y2_4, y2_5, y2_6, y2_7, y2_8, y2_9, y2_10) => bif y2_0 then (f211_40a y2_1 y2_2 y2_3 y2_4 y2_5 y2_6 y2_7 y2_8 y2_9 y2_10 (fun (y7_0, y7_1, y7_2, y7_3, y7_4, y7_5, y7_6, y7_7, y7_8, y7_9, y7_10) => (f145_40a y7_1 y7_2 y7_3 y7_4 y7_5 y7_6 y7_7 y7_8 y7_9 y7_10 (fun (y11_0, y11_1, y11_2, y11_3, y11_4, y11_5, y11_6, y11_7, y11_8, y11_9) => c (x0, x1, x2, y11_0, y11_1, y11_2, y11_3, y11_4, y11_5, y11_6, y11_7, y11_8, y11_9, x13, x14, x15, x16, x17, x18, x19, x20))))) else b (x0, x1, x2, y2_1, y2_2, y2_3, y2_4, y2_5, y2_6, y2_7, y2_8, y2_9, y2_10, x13, x14, x15, x16, x17, x18, x19, x20)))
def S_coder_Decoder_Get_aa3_1 (fuel : Nat) (v : Int × Int × Int × Int × Int × Int × Int × Int × Int × Bool × Bool × (List Int) × (List Int) × Int × Int × Int × Int × Int × Int × Bool × Bool) (c : (Int × Int × Int × Int × Int × Int × Int × Int × Int × Bool × Bool × (List Int) × (List Int) × Int × Int × Int × Int × Int × Int × Bool × Bool) → Option Ans) (B : (Int × Int × Int × Int × Int × Int × Int × Int × Int × Bool × Bool × (List Int) × (List Int) × Int × Int × Int × Int × Int × Int × Bool × Bool → Option Ans)) : Option Ans := match v with | (x0, x1, x2, x3, x4, x5, x6, x7, x8, x9, x10, x11, x12, x13, x14, x15, x16, x17, x18, x19, x20) => Sg_coder_Decoder_Get_aa3_1 fuel (F_coder_Decoder_shift_40a fuel) (F_coder_interval_take_7ec fuel) (F_coder_interval_mid_aa3 fuel) (F_coder_interval_same_40a fuel) (F_coder_interval_lose_40a fuel) (F_coder_Decoder_none_40a fuel) x0 x1 x2 x3 x4 x5 x6 x7 x8 x9 x10 x11 x12 x13 x14 x15 x16 x17 x18 x19 x20 c B
def L_coder_Decoder_Get_aa3_1 (fuel : Nat) (v : V_coder_Decoder_Get_aa3_1) (b : W_coder_Decoder_Get_aa3_1) : Option Ans := iter (S_coder_Decoder_Get_aa3_1 fuel) fuel v b
def T146_aa3_1 (v : V_coder_Decoder_Get_aa3_1) : Ev.St := match v with | (x0, x1, x2, x3, x4, x5, x6, x7, x8, x9, x10, x11, x12, x13, x14, x15, x16, x17, x18, x19, x20) => ⟨[(0, .c (.ptr 0 0)), (1, .c (i6 x0)), (6, .c (i6 x1)), (8, .c (.ptr 3 0)), (9, .c (i6 x2))], [(0, .cells 194 (i6 x3 :: .own 1 :: ctb (.int .u64 x4 :: .int .u64 x5 :: .own 2 :: i6 x6 :: .int .u64 x7 :: i6 x8 :: .bool x9 :: .bool x10 :: []))), (1, .vec 3 (.int .i64) x11 false), (2, .vec 5 (.int .u8) x12 false), (3, .cells 194 (i6 x13 :: .own 1 :: ctb (.int .u64 x14 :: .int .u64 x15 :: .own 2 :: i6 x16 :: .int .u64 x17 :: i6 x18 :: .bool x19 :: .bool x20 :: [])))], 4, 3⟩
def E146_aa3_1 (K : KT) : W_coder_Decoder_Get_aa3_1 := (fun v => match v with | (x0, x1, x2, x3, x4, x5, x6, x7, x8, x9, x10, x11, x12, x13, x14, x15, x16, x17, x18, x19, x20) => K .normal ⟨[(0, .c (.ptr 0 0)), (1, .c (i6 x0)), (6, .c (i6 x1)), (8, .c (.ptr 3 0)), (9, .c (i6 x2))], [(0, .cells 194 (i6 x3 :: .own 1 :: ctb (.int .u64 x4 :: .int .u64 x5 :: .own 2 :: i6 x6 :: .int .u64 x7 :: i6 x8 :: .bool x9 :: .bool x10 :: []))), (1, .vec 3 (.int .i64) x11 false), (2, .vec 5 (.int .u8) x12 false), (3, .cells 194 (i6 x13 :: .own 1 :: ctb (.int .u64 x14 :: .int .u64 x15 :: .own 2 :: i6 x16 :: .int .u64 x17 :: i6 x18 :: .bool x19 :: .bool x20 :: [])))], 4, 3⟩)
theorem S146_aa3_1_okg (fuel : Nat) (f145_40a : YF145_40a) (f208_7ec : YF208_7ec) (f209_aa3 : YF209_aa3) (f210_40a : YF210_40a) (f211_40a : YF211_40a) (f222_40a : YF222_40a) (R : Ev.St → OA) (K : KT) (x0 x1 : Int) (x2 x3 : Int) (x4 x5 : Int) (x6 x7 x8 : Int) (x9 x10 : Bool) (x11 x12 : LI) (x13 x14 : Int) (x15 x16 : Int) (x17 x18 : Int) (x19 x20 : Bool) : evalCode tab (Gg146_aa3 f145_40a f208_7ec f209_aa3 f210_40a f211_40a f222_40a) J0 kp146_aa3 fuel (bodyOf 1 Tryz.f146) (T146_aa3_1 (x0, x1, x2, x3, x4, x5, x6, x7, x8, x9, x10, x11, x12, x13, x14, x15, x16, x17, x18, x19, x20)) (lc kp146_aa3 12 1 R K) = Sg_coder_Decoder_Get_aa3_1 fuel f145_40a f208_7ec f209_aa3 f210_40a f211_40a f222_40a x0 x1 x2 x3 x4 x5 x6 x7 x8 x9 x10 x11 x12 x13 x14 x15 x16 x17 x18 x19 x20 (fun v => R (T146_aa3_1 v)) (E146_aa3_1 K) := by
  kernel_rfl
def B146_aa3_1 (fuel : Nat) : Ev.Blk := fun st K => match canonO (kp146_aa3 12) st with | some s => (match s with | ⟨[(q0, .c (.ptr q1 q2)), (q3, .c (i6 x0)), (q4, .c (i6 x1)), (q5, .c (.ptr q6 q7)), (q8, .c (i6 x2))], [(q9, .cells q10 cs0), (q11, .vec q12 (.int .i64) x11 false), (q13, .vec q14 (.int .u8) x12 false), (q15, .cells q16 cs1)], q17, q18⟩ => (match splitRun 2 ctn cs0 with | some ([i6 x3, .own q19], [.int .u64 x4, .int .u64 x5, .own q20, i6 x6, .int .u64 x7, i6 x8, .bool x9, .bool x10]) => (match splitRun 2 ctn cs1 with | some ([i6 x13, .own q21], [.int .u64 x14, .int .u64 x15, .own q22, i6 x16, .int .u64 x17, i6 x18, .bool x19, .bool x20]) => bif qb [q0, q1, q2, q3, q4, q5, q6, q7, q8, q9, q10, q11, q12, q13, q14, q15, q16, q17, q18, q19, q20, q21, q22] [0, 0, 0, 1, 6, 8, 3, 0, 9, 0, 194, 1, 3, 2, 5, 3, 194, 4, 3, 1, 2, 1, 2] then iter (S_coder_Decoder_Get_aa3_1 fuel) fuel (x0, x1, x2, x3, x4, x5, x6, x7, x8, x9, x10, x11, x12, x13, x14, x15, x16, x17, x18, x19, x20) (E146_aa3_1 K) else none | _ => none) | _ => none) | _ => none) | none => none
theorem B146_aa3_1_ok (fuel : Nat) (st : Ev.St) (K : KT) (r : Ans) (h : B146_aa3_1 fuel st K = some r) : evalCode tab (G146_aa3 fuel) J0 kp146_aa3 fuel (.block 1 (.loop (bodyOf 1 Tryz.f146))) st K = some r := by
  unfold B146_aa3_1 at h
  split at h
  · rename_i s hs
    split at h
    · skip
      split at h
      rotate_left 1
      · cases h
      rename_i hsp
      have esp := splitRun_eq hsp
      subst esp
      split at h
      rotate_left 1
      · cases h
      rename_i hsp
      have esp := splitRun_eq hsp
      subst esp
      obtain ⟨hb, h⟩ := cond_some' h
      cases qb_eq hb
      exact blk_loop (S := T146_aa3_1) (ks := E146_aa3_1) (step := S_coder_Decoder_Get_aa3_1 fuel) (v := (_, _, _, _, _, _, _, _, _, _, _, _, _, _, _, _, _, _, _, _, _)) (by kernel_rfl) (by kernel_rfl) (fun R K v => by obtain ⟨x0, x1, x2, x3, x4, x5, x6, x7, x8, x9, x10, x11, x12, x13, x14, x15, x16, x17, x18, x19, x20⟩ := v; exact S146_aa3_1_okg fuel (F_coder_Decoder_shift_40a fuel) (F_coder_interval_take_7ec fuel) (F_coder_interval_mid_aa3 fuel) (F_coder_interval_same_40a fuel) (F_coder_interval_lose_40a fuel) (F_coder_Decoder_none_40a fuel) R K x0 x1 x2 x3 x4 x5 x6 x7 x8 x9 x10 x11 x12 x13 x14 x15 x16 x17 x18 x19 x20) hs h
    · cases h
  · cases h
def J146_aa3 (fuel : Nat) (i : Nat) : Option Ev.Blk := Ev.look i [(100001, B146_aa3_1 fuel)]
def Fg_coder_Decoder_Get_aa3 (fuel : Nat) (f145_40a : YF145_40a) (f208_7ec : YF208_7ec) (f209_aa3 : YF209_aa3) (f210_40a : YF210_40a) (f211_40a : YF211_40a) (f222_40a : YF222_40a) (x0 x1 : Int) (x2 x3 : Int) (x4 x5 x6 : Int) (x7 x8 : Bool) (x9 x10 : LI) (k0 : (Int × Int × Int × Int × Int × Int × Int × Int × Bool × Bool × LI × LI) → OA) : OA := (f222_40a x1 x2 x3 x4 x5 x6 x7 x8 x9 x10 (fun (y2_0, y2_1, y2_2, y2_3, y2_4, y2_5, y2_6, y2_7, y2_8, y2_9, y2_10) => bif y2_0 then k0 (0, 7, y2_1, y2_2, y2_3, y2_4, y2_5, y2_6, y2_7, y2_8, y2_9, y2_10) else bif decide (x0 < 0) then k0 (0, 2, y2_1, y2_2, y2_3, y2_4, y2_5, y2_6, y2_7, y2_8, y2_9, y2_10) else bif decide (x0 ≥ (↑y2_9.length : Int)) then k0 (0, 2, y2_1, y2_2, y2_3, y2_4, y2_5, y2_6, y2_7, y2_8, y2_9, y2_10) else bif y2_7 then k0 (0, 6, y2_1, y2_2, y2_3, y2_4, y2_5, y2_6, y2_7, y2_8, y2_9, y2_10) else (f209_aa3 x0 y2_1 y2_2 y2_3 y2_4 y2_5 y2_6 y2_7 y2_8 y2_9 y2_10 (fun (y10_0, y10_1, y10_2, y10_3, y10_4, y10_5, y10_6, y10_7, y10_8, y10_9, y10_10) => bif decide (y10_5 ≤ y10_0) then bif decide (0 ≤ x0 ∧ x0 < (↑y10_9.length : Int)) then both ((f208_7ec x0 (1) y10_0 y10_1 y10_2 y10_3 y10_4 y10_5 y10_6 y10_7 y10_8 y10_9 y10_10 (fun (y18_0, y18_1, y18_2, y18_3, y18_4, y18_5, y18_6, y18_7, y18_8, y18_9) => (L_coder_Decoder_Get_aa3_1 fuel (x0, 1, y10_9.getD x0.toNat 0, y18_0, y18_1, y18_2, y18_3, y18_4, y18_5, y18_6, y18_7, y18_8, y18_9, y10_1, y10_2, y10_3, y10_4, y10_5, y10_6, y10_7, y10_8) (fun (b1_0, b1_1, b1_2, b1_3, b1_4, b1_5, b1_6, b1_7, b1_8, b1_9, b1_10, b1_11, b1_12, b1_13, b1_14, b1_15, b1_16, b1_17, b1_18, b1_19, b1_20) => bif decide (b1_8 > 4) then bif decide (0 ≤ b1_0 ∧ b1_0 < (↑b1_11.length : Int)) then k0 (0, 6, b1_13, b1_14, b1_15, b1_16, b1_17, b1_18, true, b1_20, b1_11.set b1_0.toNat b1_2, b1_12) else none else k0 (b1_1, 0, b1_3, b1_4, b1_5, b1_6, b1_7, b1_8, b1_9, b1_10, b1_11, b1_12)))))) (both ((f208_7ec x0 (1) y10_0 y10_1 y10_2 y10_3 y10_4 y10_5 y10_6 y10_7 y10_8 y10_9 y10_10 (fun (y20_0, y20_1, y20_2, y20_3, y20_4, y20_5, y20_6, y20_7, y20_8, y20_9) => (L_coder_Decoder_Get_aa3_1 fuel (x0, 1, y10_9.getD x0.toNat 0, y20_0, y20_1, y20_2, y20_3, y20_4, y20_5, y20_6, y20_7, y20_8, y20_9, y10_1, y10_2, y10_3, y10_4, y10_5, y10_6, y10_7, y10_8) (fun (b1_0, b1_1, b1_2, b1_3, b1_4, b1_5, b1_6, b1_7, b1_8, b1_9, b1_10, b1_11, b1_12, b1_13, b1_14, b1_15, b1_16, b1_17, b1_18, b1_19, b1_20) => bif decide (b1_8 > 4) then bif decide (0 ≤ b1_0 ∧ b1_0 < (↑b1_11.length : Int)) then k0 (0, 6, b1_13, b1_14, b1_15, b1_16, b1_17, b1_18, true, b1_20, b1_11.set b1_0.toNat b1_2, b1_12) else none else k0 (b1_1, 0, b1_3, b1_4, b1_5, b1_6, b1_7, b1_8, b1_9, b1_10, b1_11, b1_12)))))) ((f208_7ec x0 (1) y10_0 y10_1 y10_2 y10_3 y10_4 y10_5 y10_6 y10_7 y10_8 y10_9 y10_10 (fun (y20_0, y20_1, y20_2, y20_3, y20_4, y20_5, y20_6, y20_7, y20_8, y20_9) => (L_coder_Decoder_Get_aa3_1 fuel (x0, 1, y10_9.getD x0.toNat 0, y20_0, y20_1, y20_2, y20_3, y20_4, y20_5, y20_6, y20_7, y20_8, y20_9, y10_1, y10_2, y10_3, y10_4, y10_5, y10_6, y10_7, y10_8) (fun (b1_0, b1_1, b1_2, b1_3, b1_4, b1_5, b1_6, b1_7, b1_8, b1_9, b1_10, b1_11, b1_12, b1_13, b1_14, b1_15, b1_16, b1_17, b1_18, b1_19, b1_20) => bif decide (b1_8 > 4) then bif decide (0 ≤ b1_0 ∧ b1_0 < (↑b1_11.length : Int)) then k0 (0, 6, b1_13, b1_14, b1_15, b1_16, b1_17, b1_18, true, b1_20, b1_11.set b1_0.toNat b1_2, b1_12) else none else k0 (b1_1, 0, b1_3, b1_4, b1_5, b1_6, b1_7, b1_8, b1_9, b1_10, b1_11, b1_12))))))) else none else bif decide (0 ≤ x0 ∧ x0 < (↑y10_9.length : Int)) then both ((f208_7ec x0 (0) y10_0 y10_1 y10_2 y10_3 y10_4 y10_5 y10_6 y10_7 y10_8 y10_9 y10_10 (fun (y18_0, y18_1, y18_2, y18_3, y18_4, y18_5, y18_6, y18_7, y18_8, y18_9) => (L_coder_Decoder_Get_aa3_1 fuel (x0, 0, y10_9.getD x0.toNat 0, y18_0, y18_1, y18_2, y18_3, y18_4, y18_5, y18_6, y18_7, y18_8, y18_9, y10_1, y10_2, y10_3, y10_4, y10_5, y10_6, y10_7, y10_8) (fun (b1_0, b1_1, b1_2, b1_3, b1_4, b1_5, b1_6, b1_7, b1_8, b1_9, b1_10, b1_11, b1_12, b1_13, b1_14, b1_15, b1_16, b1_17, b1_18, b1_19, b1_20) => bif decide (b1_8 > 4) then bif decide (0 ≤ b1_0 ∧ b1_0 < (↑b1_11.length : Int)) then k0 (0, 6, b1_13, b1_14, b1_15, b1_16, b1_17, b1_18, true, b1_20, b1_11.set b1_0.toNat b1_2, b1_12) else none else k0 (b1_1, 0, b1_3, b1_4, b1_5, b1_6, b1_7, b1_8, b1_9, b1_10, b1_11, b1_12)))))) (both ((f208_7ec x0 (0) y10_0 y10_1 y10_2 y10_3 y10_4 y10_5 y10_6 y10_7 y10_8 y10_9 y10_10 (fun (y20_0, y20_1, y20_2, y20_3, y20_4, y20_5, y20_6, y20_7, y20_8, y20_9) => (L_coder_Decoder_Get_aa3_1 fuel (x0, 0, y10_9.getD x0.toNat 0, y20_0, y20_1, y20_2, y20_3, y20_4, y20_5, y20_6, y20_7, y20_8, y20_9, y10_1, y10_2, y10_3, y10_4, y10_5, y10_6, y10_7, y10_8) (fun (b1_0, b1_1, b1_2, b1_3, b1_4, b1_5, b1_6, b1_7, b1_8, b1_9, b1_10, b1_11, b1_12, b1_13, b1_14, b1_15, b1_16, b1_17, b1_18, b1_19, b1_20) => bif decide (b1_8 > 4) then bif decide (0 ≤ b1_0 ∧ b1_0 < (↑b1_11.length : Int)) then k0 (0, 6, b1_13, b1_14, b1_15, b1_16, b1_17, b1_18, true, b1_20, b1_11.set b1_0.toNat b1_2, b1_12) else none else k0 (b1_1, 0, b1_3, b1_4, b1_5, b1_6, b1_7, b1_8, b1_9, b1_10, b1_11, b1_12)))))) ((f208_7ec x0 (0) y10_0 y10_1 y10_2 y10_3 y10_4 y10_5 y10_6 y10_7 y10_8 y10_9 y10_10 (fun (y20_0, y20_1, y20_2, y20_3, y20_4, y20_5, y20_6, y20_7, y20_8, y20_9) => (L_coder_Decoder_Get_aa3_1 fuel (x0, 0, y10_9.getD x0.toNat 0, y20_0, y20_1, y20_2, y20_3, y20_4, y20_5, y20_6, y20_7, y20_8, y20_9, y10_1, y10_2, y10_3, y10_4, y10_5, y10_6, y10_7, y10_8) (fun (b1_0, b1_1, b1_2, b1_3, b1_4, b1_5, b1_6, b1_7, b1_8, b1_9, b1_10, b1_11, b1_12, b1_13, b1_14, b1_15, b1_16, b1_17, b1_18, b1_19, b1_20) => bif decide (b1_8 > 4) then bif decide (0 ≤ b1_0 ∧ b1_0 < (↑b1_11.length : Int)) then k0 (0, 6, b1_13, b1_14, b1_15, b1_16, b1_17, b1_18, true, b1_20, b1_11.set b1_0.toNat b1_2, b1_12) else none else k0 (b1_1, 0, b1_3, b1_4, b1_5, b1_6, b1_7, b1_8, b1_9, b1_10, b1_11, b1_12))))))) else none))))
abbrev YF146_aa3 : Type := Int → Int → Int → Int → Int → Int → Int → Bool → Bool → LI → LI → ((Int × Int × Int × Int × Int × Int × Int × Int × Bool × Bool × LI × LI) → Option Ans) → Option Ans
def F_coder_Decoder_Get_aa3 (fuel : Nat) : YF146_aa3 := Fg_coder_Decoder_Get_aa3 fuel (F_coder_Decoder_shift_40a fuel) (F_coder_interval_take_7ec fuel) (F_coder_interval_mid_aa3 fuel) (F_coder_interval_same_40a fuel) (F_coder_interval_lose_40a fuel) (F_coder_Decoder_none_40a fuel)
theorem F146_aa3_eqg (fuel : Nat) (f145_40a : YF145_40a) (f208_7ec : YF208_7ec) (f209_aa3 : YF209_aa3) (f210_40a : YF210_40a) (f211_40a : YF211_40a) (f222_40a : YF222_40a) (x0 x1 : Int) (x2 x3 : Int) (x4 x5 x6 : Int) (x7 x8 : Bool) (x9 x10 : LI) (k : Ev.Cont) : evalFn tab (Gg146_aa3 f145_40a f208_7ec f209_aa3 f210_40a f211_40a f222_40a) (J146_aa3 fuel) kp146_aa3 fuel Tryz.f146 [.c (.ptr 0 0), .c (i6 x0)] [.cells 194 (i6 x1 :: .own 1 :: ctb (.int .u64 x2 :: .int .u64 x3 :: .own 2 :: i6 x4 :: .int .u64 x5 :: i6 x6 :: .bool x7 :: .bool x8 :: [])), .vec 3 (.int .i64) x9 false, .vec 5 (.int .u8) x10 false] k = Fg_coder_Decoder_Get_aa3 fuel f145_40a f208_7ec f209_aa3 f210_40a f211_40a f222_40a x0 x1 x2 x3 x4 x5 x6 x7 x8 x9 x10 (fun r => match r with | (r0, r1, r2, r3, r4, r5, r6, r7, r8, r9, r10, r11) => k (.tup [(false, [i6 r0]), (false, [i6 r1])], [.cells 194 (i6 r2 :: .own 1 :: ctb (.int .u64 r3 :: .int .u64 r4 :: .own 2 :: i6 r5 :: .int .u64 r6 :: i6 r7 :: .bool r8 :: .bool r9 :: [])), .vec 3 (.int .i64) r10 false, .vec 5 (.int .u8) r11 false])) := by
  kernel_rfl
theorem hG146_aa3 (fuel : Nat) : GOK Tryz.prog (G146_aa3 fuel) :=
  gc (ok145_40a fuel) Tryz.func145 (by kernel_rfl) rfl <|
  gc (ok208_7ec fuel) Tryz.func208 (by kernel_rfl) rfl <|
  gc (ok209_aa3 fuel) Tryz.func209 (by kernel_rfl) rfl <|
  gc (ok210_40a fuel) Tryz.func210 (by kernel_rfl) rfl <|
  gc (ok211_40a fuel) Tryz.func211 (by kernel_rfl) rfl <|
  gc (ok222_40a fuel) Tryz.func222 (by kernel_rfl) rfl <|
  gok_nil
theorem B146_aa3_1_blk (fuel : Nat) : BlkOK Tryz.prog Tryz.f146.ntmps (.block 1 (.loop (bodyOf 1 Tryz.f146))) (B146_aa3_1 fuel) := bo0 (hG146_aa3 fuel) (by kernel_rfl) (by kernel_rfl) (B146_aa3_1_ok fuel)
def spg146_aa3 (F : YF146_aa3) : Ev.Spec := fun args objs k => match args, objs with | [.c (.ptr q0 q1), .c (i6 x0)], [.cells q2 cs0, .vec q3 (.int .i64) x9 false, .vec q4 (.int .u8) x10 false] => (match splitRun 2 ctn cs0 with | some ([i6 x1, .own q5], [.int .u64 x2, .int .u64 x3, .own q6, i6 x4, .int .u64 x5, i6 x6, .bool x7, .bool x8]) => bif qb [q0, q1, q2, q3, q4, q5, q6] [0, 0, 194, 3, 5, 1, 2] then F x0 x1 x2 x3 x4 x5 x6 x7 x8 x9 x10 (fun r => match r with | (r0, r1, r2, r3, r4, r5, r6, r7, r8, r9, r10, r11) => k (.tup [(false, [i6 r0]), (false, [i6 r1])], [.cells 194 (i6 r2 :: .own 1 :: ctb (.int .u64 r3 :: .int .u64 r4 :: .own 2 :: i6 r5 :: .int .u64 r6 :: i6 r7 :: .bool r8 :: .bool r9 :: [])), .vec 3 (.int .i64) r10 false, .vec 5 (.int .u8) r11 false])) else none | _ => none) | _, _ => none
theorem ok146_aa3 (fuel : Nat) : FnOK Tryz.prog 146 (spg146_aa3 (F_coder_Decoder_Get_aa3 fuel)) := by
  intro args objs kk r h
  unfold spg146_aa3 at h
  split at h
  · skip
    split at h
    rotate_left 1
    · cases h
    rename_i hsp
    have esp := splitRun_eq hsp
    subst esp
    obtain ⟨hb, h⟩ := cond_some' h
    cases qb_eq hb
    exact fo1 (hG146_aa3 fuel) Tryz.func146 rfl (B146_aa3_1_blk fuel) (by kernel_rfl) _ _ kk r ((F146_aa3_eqg fuel (F_coder_Decoder_shift_40a fuel) (F_coder_interval_take_7ec fuel) (F_coder_interval_mid_aa3 fuel) (F_coder_interval_same_40a fuel) (F_coder_interval_lose_40a fuel) (F_coder_Decoder_none_40a fuel) _ _ _ _ _ _ _ _ _ _ _ kk).trans h)
  · cases h
def kp147_40a (i : Nat) : Option (List Nat) := Ev.look i []
def Gg147_40a (f204 : YF204) (f222_40a : YF222_40a) (f : Nat) : Option Ev.Spec := Ev.look f [(204, spg204 f204), (222, spg222_40a f222_40a)]
def G147_40a (fuel : Nat) : Nat → Option Ev.Spec := Gg147_40a (F_coder_clone fuel) (F_coder_Decoder_none_40a fuel)
def Fg_coder_Decoder_Model_40a (fuel : Nat) (f204 : YF204) (f222_40a : YF222_40a) (x0 x1 : Int) (x2 x3 : Int) (x4 x5 : Int) (x6 x7 : Bool) (x8 x9 : LI) (k0 : (Int × Int × Int × Int × Int × Int × Int × Bool × Bool × LI × LI × LI) → OA) : OA := (f222_40a x0 x1 x2 x3 x4 x5 x6 x7 x8 x9 (fun (y2_0, y2_1, y2_2, y2_3, y2_4, y2_5, y2_6, y2_7, y2_8, y2_9, y2_10) => bif y2_0 then k0 (0, y2_1, y2_2, y2_3, y2_4, y2_5, y2_6, y2_7, y2_8, y2_9, y2_10, []) else (f204 y2_1 y2_9 (fun (y7_0, y7_1) => k0 (y7_0, y2_1, y2_2, y2_3, y2_4, y2_5, y2_6, y2_7, y2_8, y2_9, y2_10, y7_1)))))
abbrev YF147_40a : Type := Int → Int → Int → Int → Int → Int → Bool → Bool → LI → LI → ((Int × Int × Int × Int × Int × Int × Int × Bool × Bool × LI × LI × LI) → Option Ans) → Option Ans
def F_coder_Decoder_Model_40a (fuel : Nat) : YF147_40a := Fg_coder_Decoder_Model_40a fuel (F_coder_clone fuel) (F_coder_Decoder_none_40a fuel)
theorem F147_40a_eqg (fuel : Nat) (f204 : YF204) (f222_40a : YF222_40a) (x0 x1 : Int) (x2 x3 : Int) (x4 x5 : Int) (x6 x7 : Bool) (x8 x9 : LI) (k : Ev.Cont) : evalFn tab (Gg147_40a f204 f222_40a) J0 kp147_40a fuel Tryz.f147 [.c (.ptr 0 0)] [.cells 194 (i6 x0 :: .own 1 :: ctb (.int .u64 x1 :: .int .u64 x2 :: .own 2 :: i6 x3 :: .int .u64 x4 :: i6 x5 :: .bool x6 :: .bool x7 :: [])), .vec 3 (.int .i64) x8 false, .vec 5 (.int .u8) x9 false] k = Fg_coder_Decoder_Model_40a fuel f204 f222_40a x0 x1 x2 x3 x4 x5 x6 x7 x8 x9 (fun r => match r with | (r0, r1, r2, r3, r4, r5, r6, r7, r8, r9, r10, r11) => k (.agg [i6 r0, .own 3], [.cells 194 (i6 r1 :: .own 1 :: ctb (.int .u64 r2 :: .int .u64 r3 :: .own 2 :: i6 r4 :: .int .u64 r5 :: i6 r6 :: .bool r7 :: .bool r8 :: [])), .vec 3 (.int .i64) r9 false, .vec 5 (.int .u8) r10 false, .vec 3 (.int .i64) r11 true])) := by
  kernel_rfl
theorem hG147_40a (fuel : Nat) : GOK Tryz.prog (G147_40a fuel) :=
  gc (ok204 fuel) Tryz.func204 (by kernel_rfl) rfl <|
  gc (ok222_40a fuel) Tryz.func222 (by kernel_rfl) rfl <|
  gok_nil
def spg147_40a (F : YF147_40a) : Ev.Spec := fun args objs k => match args, objs with | [.c (.ptr q0 q1)], [.cells q2 cs0, .vec q3 (.int .i64) x8 false, .vec q4 (.int .u8) x9 false] => (match splitRun 2 ctn cs0 with | some ([i6 x0, .own q5], [.int .u64 x1, .int .u64 x2, .own q6, i6 x3, .int .u64 x4, i6 x5, .bool x6, .bool x7]) => bif qb [q0, q1, q2, q3, q4, q5, q6] [0, 0, 194, 3, 5, 1, 2] then F x0 x1 x2 x3 x4 x5 x6 x7 x8 x9 (fun r => match r with | (r0, r1, r2, r3, r4, r5, r6, r7, r8, r9, r10, r11) => k (.agg [i6 r0, .own 3], [.cells 194 (i6 r1 :: .own 1 :: ctb (.int .u64 r2 :: .int .u64 r3 :: .own 2 :: i6 r4 :: .int .u64 r5 :: i6 r6 :: .bool r7 :: .bool r8 :: [])), .vec 3 (.int .i64) r9 false, .vec 5 (.int .u8) r10 false, .vec 3 (.int .i64) r11 true])) else none | _ => none) | _, _ => none
theorem ok147_40a (fuel : Nat) : FnOK Tryz.prog 147 (spg147_40a (F_coder_Decoder_Model_40a fuel)) := by
  intro args objs kk r h
  unfold spg147_40a at h
  split at h
  · skip
    split at h
    rotate_left 1
    · cases h
    rename_i hsp
    have esp := splitRun_eq hsp
    subst esp
    obtain ⟨hb, h⟩ := cond_some' h
    cases qb_eq hb
    exact fo0 (hG147_40a fuel) Tryz.func147 rfl (by kernel_rfl) _ _ kk r ((F147_40a_eqg fuel (F_coder_clone fuel) (F_coder_Decoder_none_40a fuel) _ _ _ _ _ _ _ _ _ _ kk).trans h)
  · cases h
def kp116 (i : Nat) : Option (List Nat) := Ev.look i [(200001, [1])]
def Gg116 (f : Nat) : Option Ev.Spec := Ev.look f []
def G116 (fuel : Nat) : Nat → Option Ev.Spec := Gg116
def F_generic_Valid (fuel : Nat) (x0 x1 x2 : Int) (x3 : Bool) (x4 : Int) (k0 : (Bool) → Option Ans) : Option Ans := bif decide (x0 ≥ 0) then bif decide (x0 ≤ 3) then bif x4 == 0 then bif decide (x1 ≥ (-8 : Int)) then bif decide (x1 ≤ 8) then bif decide (x2 ≥ (-8 : Int)) then bif decide (x2 ≤ 0) then bif decide (x2 < 0) then k0 true else k0 (decide (x1 < 0)) else k0 false else k0 false else k0 false else k0 false else bif x4 == 1 then bif decide (x1 ≥ (-8 : Int)) then bif decide (x1 ≤ 8) then bif decide (x2 ≥ (-8 : Int)) then bif decide (x2 ≤ 0) then bif decide (x2 < 0) then k0 true else k0 (decide (x1 < 0)) else k0 false else k0 false else k0 false else k0 false else k0 false else k0 false else k0 false
abbrev YF116 : Type := Int → Int → Int → Bool → Int → (Bool → Option Ans) → Option Ans
theorem F116_eq (fuel : Nat) (x0 x1 x2 : Int) (x3 : Bool) (x4 : Int) (k : Ev.Cont) : evalFn tab (G116 fuel) J0 kp116 fuel Tryz.f116 [.agg [i6 x0, i6 x1, i6 x2, .bool x3, i6 x4]] [] k = F_generic_Valid fuel x0 x1 x2 x3 x4 (fun r => match r with | r0 => k (.c (.bool r0), [])) := by
  kernel_rfl
theorem hG116 (fuel : Nat) : GOK Tryz.prog (G116 fuel) :=
  gok_nil
def spg116 (F : YF116) : Ev.Spec := fun args objs k => match args, objs with | [.agg [i6 x0, i6 x1, i6 x2, .bool x3, i6 x4]], [] => F x0 x1 x2 x3 x4 (fun r => match r with | r0 => k (.c (.bool r0), [])) | _, _ => none
theorem ok116 (fuel : Nat) : FnOK Tryz.prog 116 (spg116 (F_generic_Valid fuel)) := by
  intro args objs kk r h
  unfold spg116 at h
  split at h
  · skip
    exact fo0 (hG116 fuel) Tryz.func116 rfl (by kernel_rfl) _ _ kk r ((F116_eq fuel _ _ _ _ _ kk).trans h)
  · cases h
def kp203 (i : Nat) : Option (List Nat) := Ev.look i []
def Gg203 (f : Nat) : Option Ev.Spec := Ev.look f []
def G203 (fuel : Nat) : Nat → Option Ev.Spec := Gg203
def F_generic_pixels (fuel : Nat) (x0 : Int) (k0 : ((List (Int × Int))) → Option Ans) : Option Ans := bif x0 == 0 then k0 ([((-1 : Int), (-2 : Int)), (0, (-2 : Int)), (1, (-2 : Int)), ((-2 : Int), (-1 : Int)), ((-1 : Int), (-1 : Int)), (0, (-1 : Int)), (1, (-1 : Int)), (2, (-1 : Int)), ((-2 : Int), 0), ((-1 : Int), 0)]) else bif x0 == 1 then k0 ([((-1 : Int), (-2 : Int)), (0, (-2 : Int)), ((-1 : Int), (-1 : Int)), (0, (-1 : Int)), (1, (-1 : Int)), ((-2 : Int), 0), ((-1 : Int), 0)]) else bif x0 == 2 then k0 ([((-2 : Int), (-1 : Int)), ((-1 : Int), (-1 : Int)), (0, (-1 : Int)), (1, (-1 : Int)), (2, (-1 : Int)), ((-2 : Int), 0), ((-1 : Int), 0)]) else k0 ([((-1 : Int), (-1 : Int)), (0, (-1 : Int)), (1, (-1 : Int)), ((-1 : Int), 0)])
abbrev YF203 : Type := Int → (((List (Int × Int))) → Option Ans) → Option Ans
theorem F203_eq (fuel : Nat) (x0 : Int) (k : Ev.Cont) : evalFn tab (G203 fuel) J0 kp203 fuel Tryz.f203 [.c (i6 x0)] [] k = F_generic_pixels fuel x0 (fun r => match r with | r0 => k (.c (.own 0), [.vec 76 (.pair (.int .i64) (.int .i64)) r0 true])) := by
  kernel_rfl
theorem hG203 (fuel : Nat) : GOK Tryz.prog (G203 fuel) :=
  gok_nil
def spg203 (F : YF203) : Ev.Spec := fun args objs k => match args, objs with | [.c (i6 x0)], [] => F x0 (fun r => match r with | r0 => k (.c (.own 0), [.vec 76 (.pair (.int .i64) (.int .i64)) r0 true])) | _, _ => none
theorem ok203 (fuel : Nat) : FnOK Tryz.prog 203 (spg203 (F_generic_pixels fuel)) := by
  intro args objs kk r h
  unfold spg203 at h
  split at h
  · skip
    exact fo0 (hG203 fuel) Tryz.func203 rfl (by kernel_rfl) _ _ kk r ((F203_eq fuel _ kk).trans h)
  · cases h
def kp117 (i : Nat) : Option (List Nat) := Ev.look i []
def Gg117 (f203 : YF203) (f : Nat) : Option Ev.Spec := Ev.look f [(203, spg203 f203)]
def G117 (fuel : Nat) : Nat → Option Ev.Spec := Gg117 (F_generic_pixels fuel)
def Fg_generic_contexts (fuel : Nat) (f203 : YF203) (x0 x1 x2 : Int) (x3 : Bool) (x4 : Int) (k0 : (Int) → OA) : OA := (f203 x0 (fun y2 => k0 (Ev.ishl IntKind.i64 2 (↑y2.length : Int))))
abbrev YF117 : Type := Int → Int → Int → Bool → Int → (Int → Option Ans) → Option Ans
def F_generic_contexts (fuel : Nat) : YF117 := Fg_generic_contexts fuel (F_generic_pixels fuel)
theorem F117_eqg (fuel : Nat) (f203 : YF203) (x0 x1 x2 : Int) (x3 : Bool) (x4 : Int) (k : Ev.Cont) : evalFn tab (Gg117 f203) J0 kp117 fuel Tryz.f117 [.agg [i6 x0, i6 x1, i6 x2, .bool x3, i6 x4]] [] k = Fg_generic_contexts fuel f203 x0 x1 x2 x3 x4 (fun r => match r with | r0 => k (.c (i6 r0), [])) := by
  kernel_rfl
theorem hG117 (fuel : Nat) : GOK Tryz.prog (G117 fuel) :=
  gc (ok203 fuel) Tryz.func203 (by kernel_rfl) rfl <|
  gok_nil
def spg117 (F : YF117) : Ev.Spec := fun args objs k => match args, objs with | [.agg [i6 x0, i6 x1, i6 x2, .bool x3, i6 x4]], [] => F x0 x1 x2 x3 x4 (fun r => match r with | r0 => k (.c (i6 r0), [])) | _, _ => none
theorem ok117 (fuel : Nat) : FnOK Tryz.prog 117 (spg117 (F_generic_contexts fuel)) := by
  intro args objs kk r h
  unfold spg117 at h
  split at h
  · skip
    exact fo0 (hG117 fuel) Tryz.func117 rfl (by kernel_rfl) _ _ kk r ((F117_eqg fuel (F_generic_pixels fuel) _ _ _ _ _ kk).trans h)
  · cases h
def kp125 (i : Nat) : Option (List Nat) := Ev.look i [(200001, [3, 5])]
def Gg125 (f117 : YF117) (f : Nat) : Option Ev.Spec := Ev.look f [(117, spg117 f117)]
def G125 (fuel : Nat) : Nat → Option Ev.Spec := Gg125 (F_generic_contexts fuel)
def Fg_generic_fits (fuel : Nat) (f117 : YF117) (x0 : Int) (x1 : LI) (x2 x3 : Int) (x4 x5 : Int) (x6 : Bool) (x7 : Int) (k0 : (Bool) → OA) : OA := bif decide (x2 ≥ 0) then (f117 x3 x4 x5 x6 x7 (fun y3 => k0 (decide (x2 ≤ i64.wrap (i64.wrap ((↑x1.length : Int) - y3) - 1))))) else k0 false
abbrev YF125 : Type := Int → LI → Int → Int → Int → Int → Bool → Int → (Bool → Option Ans) → Option Ans
def F_generic_fits (fuel : Nat) : YF125 := Fg_generic_fits fuel (F_generic_contexts fuel)
theorem F125_eqg (fuel : Nat) (f117 : YF117) (x0 : Int) (x1 : LI) (x2 x3 : Int) (x4 x5 : Int) (x6 : Bool) (x7 : Int) (k : Ev.Cont) : evalFn tab (Gg125 f117) J0 kp125 fuel Tryz.f125 [.agg [i6 x0, .sl (.int .i64) x1], .c (i6 x2), .agg [i6 x3, i6 x4, i6 x5, .bool x6, i6 x7]] [] k = Fg_generic_fits fuel f117 x0 x1 x2 x3 x4 x5 x6 x7 (fun r => match r with | r0 => k (.c (.bool r0), [])) := by
  kernel_rfl
theorem hG125 (fuel : Nat) : GOK Tryz.prog (G125 fuel) :=
  gc (ok117 fuel) Tryz.func117 (by kernel_rfl) rfl <|
  gok_nil
def spg125 (F : YF125) : Ev.Spec := fun args objs k => match args, objs with | [.agg [i6 x0, .sl (.int .i64) x1], .c (i6 x2), .agg [i6 x3, i6 x4, i6 x5, .bool x6, i6 x7]], [] => F x0 x1 x2 x3 x4 x5 x6 x7 (fun r => match r with | r0 => k (.c (.bool r0), [])) | _, _ => none
theorem ok125 (fuel : Nat) : FnOK Tryz.prog 125 (spg125 (F_generic_fits fuel)) := by
  intro args objs kk r h
  unfold spg125 at h
  split at h
  · skip
    exact fo0 (hG125 fuel) Tryz.func125 rfl (by kernel_rfl) _ _ kk r ((F125_eqg fuel (F_generic_contexts fuel) _ _ _ _ _ _ _ _ kk).trans h)
  · cases h
def kp148 (i : Nat) : Option (List Nat) := Ev.look i [(200001, [3])]
def Gg148 (f203 : YF203) (f : Nat) : Option Ev.Spec := Ev.look f [(203, spg203 f203)]
def G148 (fuel : Nat) : Nat → Option Ev.Spec := Gg148 (F_generic_pixels fuel)
def Fg_generic_newPlane (fuel : Nat) (f203 : YF203) (x0 x1 x2 : Int) (x3 : Bool) (x4 x5 x6 : Int) (k0 : (Int × Int × LI × (List (Int × Int))) → OA) : OA := both (bif decide (0 ≤ i64.wrap (x5 * x6) ∧ i64.wrap (x5 * x6) = i64.wrap (x5 * x6) ∧ (↑(1 : Nat) : Int) * i64.wrap (x5 * x6) ≤ 281474976710656 ∧ i64.wrap (x5 * x6) ≤ 281474976710656) then both ((f203 x0 (fun y7 => bif decide ((y7.length + [(x1, x2)].length) * (16 : Nat) ≤ (140737488355328 : Nat) ∧ y7.length + [(x1, x2)].length ≤ (140737488355328 : Nat)) then k0 (x5, x6, List.replicate (i64.wrap (x5 * x6)).toNat (0 : Int), y7 ++ [(x1, x2)]) else none))) ((f203 x0 (fun y7 => bif decide ((y7.length + [(x1, x2)].length) * (16 : Nat) ≤ (140737488355328 : Nat) ∧ y7.length + [(x1, x2)].length ≤ (140737488355328 : Nat)) then k0 (x5, x6, List.replicate (i64.wrap (x5 * x6)).toNat (0 : Int), y7 ++ [(x1, x2)]) else none))) else none) (both ((f203 x0 (fun y6 => both (bif decide (0 ≤ i64.wrap (x5 * x6) ∧ i64.wrap (x5 * x6) = i64.wrap (x5 * x6) ∧ (↑(1 : Nat) : Int) * i64.wrap (x5 * x6) ≤ 281474976710656 ∧ i64.wrap (x5 * x6) ≤ 281474976710656) then bif decide ((y6.length + [(x1, x2)].length) * (16 : Nat) ≤ (140737488355328 : Nat) ∧ y6.length + [(x1, x2)].length ≤ (140737488355328 : Nat)) then k0 (x5, x6, List.replicate (i64.wrap (x5 * x6)).toNat (0 : Int), y6 ++ [(x1, x2)]) else none else none) (both (bif decide (0 ≤ i64.wrap (x5 * x6) ∧ i64.wrap (x5 * x6) = i64.wrap (x5 * x6) ∧ (↑(1 : Nat) : Int) * i64.wrap (x5 * x6) ≤ 281474976710656 ∧ i64.wrap (x5 * x6) ≤ 281474976710656) then bif decide ((y6.length + [(x1, x2)].length) * (16 : Nat) ≤ (140737488355328 : Nat) ∧ y6.length + [(x1, x2)].length ≤ (140737488355328 : Nat)) then k0 (x5, x6, List.replicate (i64.wrap (x5 * x6)).toNat (0 : Int), y6 ++ [(x1, x2)]) else none else none) (bif decide ((y6.length + [(x1, x2)].length) * (16 : Nat) ≤ (140737488355328 : Nat) ∧ y6.length + [(x1, x2)].length ≤ (140737488355328 : Nat)) then bif decide (0 ≤ i64.wrap (x5 * x6) ∧ i64.wrap (x5 * x6) = i64.wrap (x5 * x6) ∧ (↑(1 : Nat) : Int) * i64.wrap (x5 * x6) ≤ 281474976710656 ∧ i64.wrap (x5 * x6) ≤ 281474976710656) then k0 (x5, x6, List.replicate (i64.wrap (x5 * x6)).toNat (0 : Int), y6 ++ [(x1, x2)]) else none else none))))) (both (bif decide (0 ≤ i64.wrap (x5 * x6) ∧ i64.wrap (x5 * x6) = i64.wrap (x5 * x6) ∧ (↑(1 : Nat) : Int) * i64.wrap (x5 * x6) ≤ 281474976710656 ∧ i64.wrap (x5 * x6) ≤ 281474976710656) then (f203 x0 (fun y9 => bif decide ((y9.length + [(x1, x2)].length) * (16 : Nat) ≤ (140737488355328 : Nat) ∧ y9.length + [(x1, x2)].length ≤ (140737488355328 : Nat)) then k0 (x5, x6, List.replicate (i64.wrap (x5 * x6)).toNat (0 : Int), y9 ++ [(x1, x2)]) else none)) else none) ((f203 x0 (fun y8 => both (bif decide (0 ≤ i64.wrap (x5 * x6) ∧ i64.wrap (x5 * x6) = i64.wrap (x5 * x6) ∧ (↑(1 : Nat) : Int) * i64.wrap (x5 * x6) ≤ 281474976710656 ∧ i64.wrap (x5 * x6) ≤ 281474976710656) then bif decide ((y8.length + [(x1, x2)].length) * (16 : Nat) ≤ (140737488355328 : Nat) ∧ y8.length + [(x1, x2)].length ≤ (140737488355328 : Nat)) then k0 (x5, x6, List.replicate (i64.wrap (x5 * x6)).toNat (0 : Int), y8 ++ [(x1, x2)]) else none else none) (bif decide ((y8.length + [(x1, x2)].length) * (16 : Nat) ≤ (140737488355328 : Nat) ∧ y8.length + [(x1, x2)].length ≤ (140737488355328 : Nat)) then bif decide (0 ≤ i64.wrap (x5 * x6) ∧ i64.wrap (x5 * x6) = i64.wrap (x5 * x6) ∧ (↑(1 : Nat) : Int) * i64.wrap (x5 * x6) ≤ 281474976710656 ∧ i64.wrap (x5 * x6) ≤ 281474976710656) then k0 (x5, x6, List.replicate (i64.wrap (x5 * x6)).toNat (0 : Int), y8 ++ [(x1, x2)]) else none else none))))))
abbrev YF148 : Type := Int → Int → Int → Bool → Int → Int → Int → ((Int × Int × LI × (List (Int × Int))) → Option Ans) → Option Ans
def F_generic_newPlane (fuel : Nat) : YF148 := Fg_generic_newPlane fuel (F_generic_pixels fuel)
theorem F148_eqg (fuel : Nat) (f203 : YF203) (x0 x1 x2 : Int) (x3 : Bool) (x4 x5 x6 : Int) (k : Ev.Cont) : evalFn tab (Gg148 f203) J0 kp148 fuel Tryz.f148 [.agg [i6 x0, i6 x1, i6 x2, .bool x3, i6 x4], .c (i6 x5), .c (i6 x6)] [] k = Fg_generic_newPlane fuel f203 x0 x1 x2 x3 x4 x5 x6 (fun r => match r with | (r0, r1, r2, r3) => k (.c (.ptr 0 0), [.cells 200 [i6 r0, i6 r1, .own 1, .own 2], .vec 5 (.int .u8) r2 true, .vec 76 (.pair (.int .i64) (.int .i64)) r3 true])) := by
  kernel_rfl
theorem hG148 (fuel : Nat) : GOK Tryz.prog (G148 fuel) :=
  gc (ok203 fuel) Tryz.func203 (by kernel_rfl) rfl <|
  gok_nil
def spg148 (F : YF148) : Ev.Spec := fun args objs k => match args, objs with | [.agg [i6 x0, i6 x1, i6 x2, .bool x3, i6 x4], .c (i6 x5), .c (i6 x6)], [] => F x0 x1 x2 x3 x4 x5 x6 (fun r => match r with | (r0, r1, r2, r3) => k (.c (.ptr 0 0), [.cells 200 [i6 r0, i6 r1, .own 1, .own 2], .vec 5 (.int .u8) r2 true, .vec 76 (.pair (.int .i64) (.int .i64)) r3 true])) | _, _ => none
theorem ok148 (fuel : Nat) : FnOK Tryz.prog 148 (spg148 (F_generic_newPlane fuel)) := by
  intro args objs kk r h
  unfold spg148 at h
  split at h
  · skip
    exact fo0 (hG148 fuel) Tryz.func148 rfl (by kernel_rfl) _ _ kk r ((F148_eqg fuel (F_generic_pixels fuel) _ _ _ _ _ _ _ kk).trans h)
  · cases h
def kp248_b72 (i : Nat) : Option (List Nat) := Ev.look i [(200003, [0])]
def Gg248_b72 (f : Nat) : Option Ev.Spec := Ev.look f []
def G248_b72 (fuel : Nat) : Nat → Option Ev.Spec := Gg248_b72
def F_generic_plane_at_b72 (fuel : Nat) (x0 x1 : Int) (x2 x3 : Int) (x4 : (List Int)) (x5 : (List (Int × Int))) (k0 : (Int × Int × Int × (List Int) × (List (Int × Int))) → Option Ans) : Option Ans := bif decide (x0 < 0) then k0 (0, x2, x3, x4, x5) else bif decide (x1 < 0) then k0 (0, x2, x3, x4, x5) else bif decide (x0 ≥ x2) then k0 (0, x2, x3, x4, x5) else bif decide (x1 ≥ x3) then k0 (0, x2, x3, x4, x5) else bif decide (0 ≤ i64.wrap (i64.wrap (x1 * x2) + x0) ∧ i64.wrap (i64.wrap (x1 * x2) + x0) < (↑x4.length : Int)) then k0 (x4.getD (i64.wrap (i64.wrap (x1 * x2) + x0)).toNat 0, x2, x3, x4, x5) else none
abbrev YF248_b72 : Type := Int → Int → Int → Int → LI → ((List (Int × Int))) → ((Int × Int × Int × LI × (List (Int × Int))) → Option Ans) → Option Ans
theorem F248_b72_eq (fuel : Nat) (x0 x1 : Int) (x2 x3 : Int) (x4 : LI) (x5 : (List (Int × Int))) (k : Ev.Cont) : evalFn tab (G248_b72 fuel) J0 kp248_b72 fuel Tryz.f248 [.c (.ptr 0 0), .c (i6 x0), .c (i6 x1)] [.cells 200 [i6 x2, i6 x3, .own 1, .own 2], .vec 5 (.int .u8) x4 false, .vec 76 (.pair (.int .i64) (.int .i64)) x5 false] k = F_generic_plane_at_b72 fuel x0 x1 x2 x3 x4 x5 (fun r => match r with | (r0, r1, r2, r3, r4) => k (.c (.int .u8 r0), [.cells 200 [i6 r1, i6 r2, .own 1, .own 2], .vec 5 (.int .u8) r3 false, .vec 76 (.pair (.int .i64) (.int .i64)) r4 false])) := by
  kernel_rfl
theorem hG248_b72 (fuel : Nat) : GOK Tryz.prog (G248_b72 fuel) :=
  gok_nil
def spg248_b72 (F : YF248_b72) : Ev.Spec := fun args objs k => match args, objs with | [.c (.ptr q0 q1), .c (i6 x0), .c (i6 x1)], [.cells q2 [i6 x2, i6 x3, .own q3, .own q4], .vec q5 (.int .u8) x4 false, .vec q6 (.pair (.int .i64) (.int .i64)) x5 false] => bif qb [q0, q1, q2, q3, q4, q5, q6] [0, 0, 200, 1, 2, 5, 76] then F x0 x1 x2 x3 x4 x5 (fun r => match r with | (r0, r1, r2, r3, r4) => k (.c (.int .u8 r0), [.cells 200 [i6 r1, i6 r2, .own 1, .own 2], .vec 5 (.int .u8) r3 false, .vec 76 (.pair (.int .i64) (.int .i64)) r4 false])) else none | _, _ => none
theorem ok248_b72 (fuel : Nat) : FnOK Tryz.prog 248 (spg248_b72 (F_generic_plane_at_b72 fuel)) := by
  intro args objs kk r h
  unfold spg248_b72 at h
  split at h
  · skip
    obtain ⟨hb, h⟩ := cond_some' h
    cases qb_eq hb
    exact fo0 (hG248_b72 fuel) Tryz.func248 rfl (by kernel_rfl) _ _ kk r ((F248_b72_eq fuel _ _ _ _ _ _ kk).trans h)
  · cases h
def kp213 (i : Nat) : Option (List Nat) := Ev.look i []
def Gg213 (f : Nat) : Option Ev.Spec := Ev.look f []
def G213 (fuel : Nat) : Nat → Option Ev.Spec := Gg213
def F_generic_skips (fuel : Nat) (x0 x1 : Int) (x2 : (List Int)) (x3 : Int) (k0 : (Bool) → Option Ans) : Option Ans := bif decide ((↑x2.length : Int) > 0) then bif decide (0 ≤ x3 ∧ x3 < (↑x2.length : Int)) then k0 (x2.getD x3.toNat (0 : Int) == (1 : Int)) else none else k0 false
abbrev YF213 : Type := Int → Int → LI → Int → (Bool → Option Ans) → Option Ans
theorem F213_eq (fuel : Nat) (x0 x1 : Int) (x2 : LI) (x3 : Int) (k : Ev.Cont) : evalFn tab (G213 fuel) J0 kp213 fuel Tryz.f213 [.agg [i6 x0, i6 x1, .sl (.int .u8) x2], .c (i6 x3)] [] k = F_generic_skips fuel x0 x1 x2 x3 (fun r => match r with | r0 => k (.c (.bool r0), [])) := by
  kernel_rfl
theorem hG213 (fuel : Nat) : GOK Tryz.prog (G213 fuel) :=
  gok_nil
def spg213 (F : YF213) : Ev.Spec := fun args objs k => match args, objs with | [.agg [i6 x0, i6 x1, .sl (.int .u8) x2], .c (i6 x3)], [] => F x0 x1 x2 x3 (fun r => match r with | r0 => k (.c (.bool r0), [])) | _, _ => none
theorem ok213 (fuel : Nat) : FnOK Tryz.prog 213 (spg213 (F_generic_skips fuel)) := by
  intro args objs kk r h
  unfold spg213 at h
  split at h
  · skip
    exact fo0 (hG213 fuel) Tryz.func213 rfl (by kernel_rfl) _ _ kk r ((F213_eq fuel _ _ _ _ kk).trans h)
  · cases h
def kp215_3e8 (i : Nat) : Option (List Nat) := Ev.look i [(3, [0, 1, 5, 7, 15, 16]), (100000, [7]), (200005, [0, 5]), (400000, [6])]
def Gg215_3e8 (f213 : YF213) (f248_b72 : YF248_b72) (f : Nat) : Option Ev.Spec := Ev.look f [(213, spg213 f213), (248, spg248_b72 f248_b72)]
def G215_3e8 (fuel : Nat) : Nat → Option Ev.Spec := Gg215_3e8 (F_generic_skips fuel) (F_generic_plane_at_b72 fuel)
abbrev V_generic_plane_above_3e8_0 : Type := Int × Int × Int × Int × Int × LI × (List (Int × Int)) × Int × Int × LI × LI
abbrev W_generic_plane_above_3e8_0 : Type := (Int × Int × LI × (List (Int × Int)) × LI → OA)
def Sg_generic_plane_above_3e8_0 (fuel : Nat) (f213 : YF213) (f248_b72 : YF248_b72) (x0 x1 : Int) (x2 x3 x4 : Int) (x5 : LI) (x6 : (List (Int × Int))) (x7 x8 : Int) (x9 x10 : LI) (c : V_generic_plane_above_3e8_0 → OA) (B : W_generic_plane_above_3e8_0) : OA := match B with | b => bif decide (x2 < x1) then (f213 x7 x8 x9 (i64.wrap (i64.wrap (x0 * x3) + x2)) (fun y3 => bif !y3 then (f248_b72 x2 (i64.wrap (x0 - 1)) x3 x4 x5 x6 (fun (y8_0, y8_1, y8_2, y8_3, y8_4) => bif decide (0 ≤ x2 ∧ x2 < (↑x10.length : Int)) then c (x0, x1, i64.wrap (x2 + 1), y8_1, y8_2, y8_3, y8_4, x7, x8, x9, x10.set x2.toNat y8_0) else none)) else c (x0, x1, i64.wrap (x2 + 1), x3, x4, x5, x6, x7, x8, x9, x10))) else b (x3, x4, x5, x6, x10)
def S_generic_plane_above_3e8_0 (fuel : Nat) (v : Int × Int × Int × Int × Int × (List Int) × (List (Int × Int)) × Int × Int × (List Int) × (List Int)) (c : (Int × Int × Int × Int × Int × (List Int) × (List (Int × Int)) × Int × Int × (List Int) × (List Int)) → Option Ans) (B : (Int × Int × (List Int) × (List (Int × Int)) × (List Int) → Option Ans)) : Option Ans := match v with | (x0, x1, x2, x3, x4, x5, x6, x7, x8, x9, x10) => Sg_generic_plane_above_3e8_0 fuel (F_generic_skips fuel) (F_generic_plane_at_b72 fuel) x0 x1 x2 x3 x4 x5 x6 x7 x8 x9 x10 c B
def L_generic_plane_above_3e8_0 (fuel : Nat) (v : V_generic_plane_above_3e8_0) (b : W_generic_plane_above_3e8_0) : Option Ans := iter (S_generic_plane_above_3e8_0 fuel) fuel v b
def T215_3e8_0 (v : V_generic_plane_above_3e8_0) : Ev.St := match v with | (x0, x1, x2, x3, x4, x5, x6, x7, x8, x9, x10) => ⟨[(0, .c (.ptr 0 0)), (1, .c (i6 x0)), (5, .c (.ptr 3 0)), (7, .c (.own 4)), (15, .c (i6 x1)), (16, .c (i6 x2))], [(0, .cells 200 [i6 x3, i6 x4, .own 1, .own 2]), (1, .vec 5 (.int .u8) x5 false), (2, .vec 76 (.pair (.int .i64) (.int .i64)) x6 false), (3, .cells 51 [i6 x7, i6 x8, .sl (.int .u8) x9]), (4, .vec 5 (.int .u8) x10 true)], 5, 3⟩
def E215_3e8_0 (K : KT) : W_generic_plane_above_3e8_0 := (fun v => match v with | (x0, x1, x2, x3, x4) => K .normal ⟨[(7, .c (.own 3))], [(0, .cells 200 [i6 x0, i6 x1, .own 1, .own 2]), (1, .vec 5 (.int .u8) x2 false), (2, .vec 76 (.pair (.int .i64) (.int .i64)) x3 false), (3, .vec 5 (.int .u8) x4 true)], 4, 3⟩)
theorem S215_3e8_0_okg (fuel : Nat) (f213 : YF213) (f248_b72 : YF248_b72) (R : Ev.St → OA) (K : KT) (x0 x1 : Int) (x2 x3 x4 : Int) (x5 : LI) (x6 : (List (Int × Int))) (x7 x8 : Int) (x9 x10 : LI) : evalCode tab (Gg215_3e8 f213 f248_b72) J0 kp215_3e8 fuel (bodyOf 0 Tryz.f215) (T215_3e8_0 (x0, x1, x2, x3, x4, x5, x6, x7, x8, x9, x10)) (lc kp215_3e8 3 0 R K) = Sg_generic_plane_above_3e8_0 fuel f213 f248_b72 x0 x1 x2 x3 x4 x5 x6 x7 x8 x9 x10 (fun v => R (T215_3e8_0 v)) (E215_3e8_0 K) := by
  kernel_rfl
def B215_3e8_0 (fuel : Nat) : Ev.Blk := fun st K => match canonO (kp215_3e8 3) st with | some s => (match s with | ⟨[(q0, .c (.ptr q1 q2)), (q3, .c (i6 x0)), (q4, .c (.ptr q5 q6)), (q7, .c (.own q8)), (q9, .c (i6 x1)), (q10, .c (i6 x2))], [(q11, .cells q12 [i6 x3, i6 x4, .own q13, .own q14]), (q15, .vec q16 (.int .u8) x5 false), (q17, .vec q18 (.pair (.int .i64) (.int .i64)) x6 false), (q19, .cells q20 [i6 x7, i6 x8, .sl (.int .u8) x9]), (q21, .vec q22 (.int .u8) x10 true)], q23, q24⟩ => bif qb [q0, q1, q2, q3, q4, q5, q6, q7, q8, q9, q10, q11, q12, q13, q14, q15, q16, q17, q18, q19, q20, q21, q22, q23, q24] [0, 0, 0, 1, 5, 3, 0, 7, 4, 15, 16, 0, 200, 1, 2, 1, 5, 2, 76, 3, 51, 4, 5, 5, 3] then iter (S_generic_plane_above_3e8_0 fuel) fuel (x0, x1, x2, x3, x4, x5, x6, x7, x8, x9, x10) (E215_3e8_0 K) else none | _ => none) | none => none
theorem B215_3e8_0_ok (fuel : Nat) (st : Ev.St) (K : KT) (r : Ans) (h : B215_3e8_0 fuel st K = some r) : evalCode tab (G215_3e8 fuel) J0 kp215_3e8 fuel (.block 0 (.loop (bodyOf 0 Tryz.f215))) st K = some r := by
  unfold B215_3e8_0 at h
  split at h
  · rename_i s hs
    split at h
    · skip
      obtain ⟨hb, h⟩ := cond_some' h
      cases qb_eq hb
      exact blk_loop (S := T215_3e8_0) (ks := E215_3e8_0) (step := S_generic_plane_above_3e8_0 fuel) (v := (_, _, _, _, _, _, _, _, _, _, _)) (by kernel_rfl) (by kernel_rfl) (fun R K v => by obtain ⟨x0, x1, x2, x3, x4, x5, x6, x7, x8, x9, x10⟩ := v; exact S215_3e8_0_okg fuel (F_generic_skips fuel) (F_generic_plane_at_b72 fuel) R K x0 x1 x2 x3 x4 x5 x6 x7 x8 x9 x10) hs h
    · cases h
  · cases h
def J215_3e8 (fuel : Nat) (i : Nat) : Option Ev.Blk := Ev.look i [(100000, B215_3e8_0 fuel)]
def Fg_generic_plane_above_3e8 (fuel : Nat) (f213 : YF213) (f248_b72 : YF248_b72) (x0 x1 x2 : Int) (x3 : LI) (x4 x5 : Int) (x6 : LI) (x7 : (List (Int × Int))) (k0 : (Int × Int × LI × (List (Int × Int)) × LI) → OA) : OA := bif decide (0 ≤ x4 ∧ x4 = x4 ∧ (↑(1 : Nat) : Int) * x4 ≤ 281474976710656 ∧ x4 ≤ 281474976710656) then (L_generic_plane_above_3e8_0 fuel (x0, (↑(List.replicate x4.toNat (0 : Int)).length : Int), 0, x4, x5, x6, x7, x1, x2, x3, List.replicate x4.toNat (0 : Int)) (fun (b0_0, b0_1, b0_2, b0_3, b0_4) => k0 (b0_0, b0_1, b0_2, b0_3, b0_4))) else none
abbrev YF215_3e8 : Type := Int → Int → Int → LI → Int → Int → LI → ((List (Int × Int))) → ((Int × Int × LI × (List (Int × Int)) × LI) → Option Ans) → Option Ans
def F_generic_plane_above_3e8 (fuel : Nat) : YF215_3e8 := Fg_generic_plane_above_3e8 fuel (F_generic_skips fuel) (F_generic_plane_at_b72 fuel)
theorem F215_3e8_eqg (fuel : Nat) (f213 : YF213) (f248_b72 : YF248_b72) (x0 x1 x2 : Int) (x3 : LI) (x4 x5 : Int) (x6 : LI) (x7 : (List (Int × Int))) (k : Ev.Cont) : evalFn tab (Gg215_3e8 f213 f248_b72) (J215_3e8 fuel) kp215_3e8 fuel Tryz.f215 [.c (.ptr 0 0), .c (i6 x0), .agg [i6 x1, i6 x2, .sl (.int .u8) x3]] [.cells 200 [i6 x4, i6 x5, .own 1, .own 2], .vec 5 (.int .u8) x6 false, .vec 76 (.pair (.int .i64) (.int .i64)) x7 false] k = Fg_generic_plane_above_3e8 fuel f213 f248_b72 x0 x1 x2 x3 x4 x5 x6 x7 (fun r => match r with | (r0, r1, r2, r3, r4) => k (.c (.own 3), [.cells 200 [i6 r0, i6 r1, .own 1, .own 2], .vec 5 (.int .u8) r2 false, .vec 76 (.pair (.int .i64) (.int .i64)) r3 false, .vec 5 (.int .u8) r4 true])) := by
  kernel_rfl
theorem hG215_3e8 (fuel : Nat) : GOK Tryz.prog (G215_3e8 fuel) :=
  gc (ok213 fuel) Tryz.func213 (by kernel_rfl) rfl <|
  gc (ok248_b72 fuel) Tryz.func248 (by kernel_rfl) rfl <|
  gok_nil
theorem B215_3e8_0_blk (fuel : Nat) : BlkOK Tryz.prog Tryz.f215.ntmps (.block 0 (.loop (bodyOf 0 Tryz.f215))) (B215_3e8_0 fuel) := bo0 (hG215_3e8 fuel) (by kernel_rfl) (by kernel_rfl) (B215_3e8_0_ok fuel)
def spg215_3e8 (F : YF215_3e8) : Ev.Spec := fun args objs k => match args, objs with | [.c (.ptr q0 q1), .c (i6 x0), .agg [i6 x1, i6 x2, .sl (.int .u8) x3]], [.cells q2 [i6 x4, i6 x5, .own q3, .own q4], .vec q5 (.int .u8) x6 false, .vec q6 (.pair (.int .i64) (.int .i64)) x7 false] => bif qb [q0, q1, q2, q3, q4, q5, q6] [0, 0, 200, 1, 2, 5, 76] then F x0 x1 x2 x3 x4 x5 x6 x7 (fun r => match r with | (r0, r1, r2, r3, r4) => k (.c (.own 3), [.cells 200 [i6 r0, i6 r1, .own 1, .own 2], .vec 5 (.int .u8) r2 false, .vec 76 (.pair (.int .i64) (.int .i64)) r3 false, .vec 5 (.int .u8) r4 true])) else none | _, _ => none
theorem ok215_3e8 (fuel : Nat) : FnOK Tryz.prog 215 (spg215_3e8 (F_generic_plane_above_3e8 fuel)) := by
  intro args objs kk r h
  unfold spg215_3e8 at h
  split at h
  · skip
    obtain ⟨hb, h⟩ := cond_some' h
    cases qb_eq hb
    exact fo1 (hG215_3e8 fuel) Tryz.func215 rfl (B215_3e8_0_blk fuel) (by kernel_rfl) _ _ kk r ((F215_3e8_eqg fuel (F_generic_skips fuel) (F_generic_plane_at_b72 fuel) _ _ _ _ _ _ _ _ kk).trans h)
  · cases h
def kp216_b72 (i : Nat) : Option (List Nat) := Ev.look i [(3, [0, 1, 2, 7, 13, 14, 15]), (100000, [7]), (400000, [6])]
def Gg216_b72 (f248_b72 : YF248_b72) (f : Nat) : Option Ev.Spec := Ev.look f [(248, spg248_b72 f248_b72)]
def G216_b72 (fuel : Nat) : Nat → Option Ev.Spec := Gg216_b72 (F_generic_plane_at_b72 fuel)
abbrev V_generic_plane_context_b72_0 : Type := Int × Int × Int × Int × Int × Int × Int × LI × (List (Int × Int))
abbrev W_generic_plane_context_b72_0 : Type := (Int × Int × Int × LI × (List (Int × Int)) → OA)
def Sg_generic_plane_context_b72_0 (fuel : Nat) (f248_b72 : YF248_b72) (x0 x1 : Int) (x2 x3 : Int) (x4 x5 x6 : Int) (x7 : LI) (x8 : (List (Int × Int))) (c : V_generic_plane_context_b72_0 → OA) (B : W_generic_plane_context_b72_0) : OA := match B with | b => bif decide (x4 < x3) then bif decide (0 ≤ x4 ∧ x4 < (↑x8.length : Int)) then (f248_b72 (i64.wrap (x0 + (x8.getD x4.toNat (0, 0)).fst)) (i64.wrap (x1 + (x8.getD x4.toNat (0, 0)).snd)) x5 x6 x7 x8 (fun (y4_0, y4_1, y4_2, y4_3, y4_4) => c (x0, x1, i64.wrap (i64.wrap (2 * x2) + i64.wrap y4_0), x3, i64.wrap (x4 + 1), y4_1, y4_2, y4_3, y4_4))) else none else b (x2, x5, x6, x7, x8)
def S_generic_plane_context_b72_0 (fuel : Nat) (v : Int × Int × Int × Int × Int × Int × Int × (List Int) × (List (Int × Int))) (c : (Int × Int × Int × Int × Int × Int × Int × (List Int) × (List (Int × Int))) → Option Ans) (B : (Int × Int × Int × (List Int) × (List (Int × Int)) → Option Ans)) : Option Ans := match v with | (x0, x1, x2, x3, x4, x5, x6, x7, x8) => Sg_generic_plane_context_b72_0 fuel (F_generic_plane_at_b72 fuel) x0 x1 x2 x3 x4 x5 x6 x7 x8 c B
def L_generic_plane_context_b72_0 (fuel : Nat) (v : V_generic_plane_context_b72_0) (b : W_generic_plane_context_b72_0) : Option Ans := iter (S_generic_plane_context_b72_0 fuel) fuel v b
def T216_b72_0 (v : V_generic_plane_context_b72_0) : Ev.St := match v with | (x0, x1, x2, x3, x4, x5, x6, x7, x8) => ⟨[(0, .c (.ptr 0 0)), (1, .c (i6 x0)), (2, .c (i6 x1)), (7, .c (i6 x2)), (13, .c (.own 2)), (14, .c (i6 x3)), (15, .c (i6 x4))], [(0, .cells 200 [i6 x5, i6 x6, .own 1, .own 2]), (1, .vec 5 (.int .u8) x7 false), (2, .vec 76 (.pair (.int .i64) (.int .i64)) x8 false)], 3, 3⟩
def E216_b72_0 (K : KT) : W_generic_plane_context_b72_0 := (fun v => match v with | (x0, x1, x2, x3, x4) => K .normal ⟨[(7, .c (i6 x0))], [(0, .cells 200 [i6 x1, i6 x2, .own 1, .own 2]), (1, .vec 5 (.int .u8) x3 false), (2, .vec 76 (.pair (.int .i64) (.int .i64)) x4 false)], 3, 3⟩)
theorem S216_b72_0_okg (fuel : Nat) (f248_b72 : YF248_b72) (R : Ev.St → OA) (K : KT) (x0 x1 : Int) (x2 x3 : Int) (x4 x5 x6 : Int) (x7 : LI) (x8 : (List (Int × Int))) : evalCode tab (Gg216_b72 f248_b72) J0 kp216_b72 fuel (bodyOf 0 Tryz.f216) (T216_b72_0 (x0, x1, x2, x3, x4, x5, x6, x7, x8)) (lc kp216_b72 3 0 R K) = Sg_generic_plane_context_b72_0 fuel f248_b72 x0 x1 x2 x3 x4 x5 x6 x7 x8 (fun v => R (T216_b72_0 v)) (E216_b72_0 K) := by
  kernel_rfl
def B216_b72_0 (fuel : Nat) : Ev.Blk := fun st K => match canonO (kp216_b72 3) st with | some s => (match s with | ⟨[(q0, .c (.ptr q1 q2)), (q3, .c (i6 x0)), (q4, .c (i6 x1)), (q5, .c (i6 x2)), (q6, .c (.own q7)), (q8, .c (i6 x3)), (q9, .c (i6 x4))], [(q10, .cells q11 [i6 x5, i6 x6, .own q12, .own q13]), (q14, .vec q15 (.int .u8) x7 false), (q16, .vec q17 (.pair (.int .i64) (.int .i64)) x8 false)], q18, q19⟩ => bif qb [q0, q1, q2, q3, q4, q5, q6, q7, q8, q9, q10, q11, q12, q13, q14, q15, q16, q17, q18, q19] [0, 0, 0, 1, 2, 7, 13, 2, 14, 15, 0, 200, 1, 2, 1, 5, 2, 76, 3, 3] then iter (S_generic_plane_context_b72_0 fuel) fuel (x0, x1, x2, x3, x4, x5, x6, x7, x8) (E216_b72_0 K) else none | _ => none) | none => none
theorem B216_b72_0_ok (fuel : Nat) (st : Ev.St) (K : KT) (r : Ans) (h : B216_b72_0 fuel st K = some r) : evalCode tab (G216_b72 fuel) J0 kp216_b72 fuel (.block 0 (.loop (bodyOf 0 Tryz.f216))) st K = some r := by
  unfold B216_b72_0 at h
  split at h
  · rename_i s hs
    split at h
    · skip
      obtain ⟨hb, h⟩ := cond_some' h
      cases qb_eq hb
      exact blk_loop (S := T216_b72_0) (ks := E216_b72_0) (step := S_generic_plane_context_b72_0 fuel) (v := (_, _, _, _, _, _, _, _, _)) (by kernel_rfl) (by kernel_rfl) (fun R K v => by obtain ⟨x0, x1, x2, x3, x4, x5, x6, x7, x8⟩ := v; exact S216_b72_0_okg fuel (F_generic_plane_at_b72 fuel) R K x0 x1 x2 x3 x4 x5 x6 x7 x8) hs h
    · cases h
  · cases h
def J216_b72 (fuel : Nat) (i : Nat) : Option Ev.Blk := Ev.look i [(100000, B216_b72_0 fuel)]
def Fg_generic_plane_context_b72 (fuel : Nat) (f248_b72 : YF248_b72) (x0 x1 : Int) (x2 x3 : Int) (x4 : LI) (x5 : (List (Int × Int))) (k0 : (Int × Int × Int × LI × (List (Int × Int))) → OA) : OA := (L_generic_plane_context_b72_0 fuel (x0, x1, 0, (↑x5.length : Int), 0, x2, x3, x4, x5) (fun (b0_0, b0_1, b0_2, b0_3, b0_4) => k0 (b0_0, b0_1, b0_2, b0_3, b0_4)))
abbrev YF216_b72 : Type := Int → Int → Int → Int → LI → ((List (Int × Int))) → ((Int × Int × Int × LI × (List (Int × Int))) → Option Ans) → Option Ans
def F_generic_plane_context_b72 (fuel : Nat) : YF216_b72 := Fg_generic_plane_context_b72 fuel (F_generic_plane_at_b72 fuel)
theorem F216_b72_eqg (fuel : Nat) (f248_b72 : YF248_b72) (x0 x1 : Int) (x2 x3 : Int) (x4 : LI) (x5 : (List (Int × Int))) (k : Ev.Cont) : evalFn tab (Gg216_b72 f248_b72) (J216_b72 fuel) kp216_b72 fuel Tryz.f216 [.c (.ptr 0 0), .c (i6 x0), .c (i6 x1)] [.cells 200 [i6 x2, i6 x3, .own 1, .own 2], .vec 5 (.int .u8) x4 false, .vec 76 (.pair (.int .i64) (.int .i64)) x5 false] k = Fg_generic_plane_context_b72 fuel f248_b72 x0 x1 x2 x3 x4 x5 (fun r => match r with | (r0, r1, r2, r3, r4) => k (.c (i6 r0), [.cells 200 [i6 r1, i6 r2, .own 1, .own 2], .vec 5 (.int .u8) r3 false, .vec 76 (.pair (.int .i64) (.int .i64)) r4 false])) := by
  kernel_rfl
theorem hG216_b72 (fuel : Nat) : GOK Tryz.prog (G216_b72 fuel) :=
  gc (ok248_b72 fuel) Tryz.func248 (by kernel_rfl) rfl <|
  gok_nil
theorem B216_b72_0_blk (fuel : Nat) : BlkOK Tryz.prog Tryz.f216.ntmps (.block 0 (.loop (bodyOf 0 Tryz.f216))) (B216_b72_0 fuel) := bo0 (hG216_b72 fuel) (by kernel_rfl) (by kernel_rfl) (B216_b72_0_ok fuel)
def spg216_b72 (F : YF216_b72) : Ev.Spec := fun args objs k => match args, objs with | [.c (.ptr q0 q1), .c (i6 x0), .c (i6 x1)], [.cells q2 [i6 x2, i6 x3, .own q3, .own q4], .vec q5 (.int .u8) x4 false, .vec q6 (.pair (.int .i64) (.int .i64)) x5 false] => bif qb [q0, q1, q2, q3, q4, q5, q6] [0, 0, 200, 1, 2, 5, 76] then F x0 x1 x2 x3 x4 x5 (fun r => match r with | (r0, r1, r2, r3, r4) => k (.c (i6 r0), [.cells 200 [i6 r1, i6 r2, .own 1, .own 2], .vec 5 (.int .u8) r3 false, .vec 76 (.pair (.int .i64) (.int .i64)) r4 false])) else none | _, _ => none
theorem ok216_b72 (fuel : Nat) : FnOK Tryz.prog 216 (spg216_b72 (F_generic_plane_context_b72 fuel)) := by
  intro args objs kk r h
  unfold spg216_b72 at h
  split at h
  · skip
    obtain ⟨hb, h⟩ := cond_some' h
    cases qb_eq hb
    exact fo1 (hG216_b72 fuel) Tryz.func216 rfl (B216_b72_0_blk fuel) (by kernel_rfl) _ _ kk r ((F216_b72_eqg fuel (F_generic_plane_at_b72 fuel) _ _ _ _ _ _ kk).trans h)
  · cases h
end
end Go.Proofs.YtipdidpalcmlhaaGreat

