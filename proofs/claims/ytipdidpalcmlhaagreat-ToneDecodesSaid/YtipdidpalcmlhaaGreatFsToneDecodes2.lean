/- What the functions that ToneDecodes reaches do: their typed texts, each with the proof that the machine does it. No condition. -/
import Derived.Test.YtipdidpalcmlhaaGreatEvX
import Derived.Test.YtipdidpalcmlhaaGreatFsToneDecodes1
set_option linter.unusedVariables false
set_option linter.unusedSimpArgs false
set_option linter.unusedVariables false
set_option linter.unusedSimpArgs false
set_option maxRecDepth 100000
set_option maxHeartbeats 2000000
namespace Go.Proofs.YtipdidpalcmlhaaGreat
open Go Ev
open Go.IntKind (i64 u64 u8 i32 u32 u16)
noncomputable section
def kp137 (i : Nat) : Option (List Nat) := Ev.look i []
def Gg137 (f55 : YF55) (f219 : YF219) (f : Nat) : Option Ev.Spec := Ev.look f [(55, spg55 f55), (219, spg219 f219)]
def G137 (fuel : Nat) : Nat → Option Ev.Spec := Gg137 (F_ref07_Size fuel) (F_ref07_none fuel)
def Fg_ref07_room (fuel : Nat) (f55 : YF55) (f219 : YF219) (x0 x1 x2 : Int) (x3 : Bool) (x4 x5 : Int) (x6 x7 : Int) (x8 x9 x10 : Int) (x11 : LI) (k0 : (Int) → OA) : OA := (f55 x0 x1 x2 x3 x4 (fun (y2_0, y2_1) => (f219 x9 x10 x11 (fun y6 => bif !y6 then bif x9 != x7 then k0 (2) else bif x10 != x8 then k0 (2) else bif decide (x5 < 0) then k0 (2) else bif decide (x5 > x6) then k0 (2) else bif decide (y2_0 > i64.wrap (x6 - x5)) then k0 (2) else k0 (0) else bif decide (x5 < 0) then k0 (2) else bif decide (x5 > x6) then k0 (2) else bif decide (y2_0 > i64.wrap (x6 - x5)) then k0 (2) else k0 (0)))))
abbrev YF137 : Type := Int → Int → Int → Bool → Int → Int → Int → Int → Int → Int → Int → LI → (Int → Option Ans) → Option Ans
def F_ref07_room (fuel : Nat) : YF137 := Fg_ref07_room fuel (F_ref07_Size fuel) (F_ref07_none fuel)
theorem F137_eqg (fuel : Nat) (f55 : YF55) (f219 : YF219) (x0 x1 x2 : Int) (x3 : Bool) (x4 x5 : Int) (x6 x7 : Int) (x8 x9 x10 : Int) (x11 : LI) (k : Ev.Cont) : evalFn tab (Gg137 f55 f219) J0 kp137 fuel Tryz.f137 [.agg [i6 x0, i6 x1, i6 x2, .bool x3, i6 x4], .c (i6 x5), .c (i6 x6), .c (i6 x7), .c (i6 x8), .agg [i6 x9, i6 x10, .sl (.int .u8) x11]] [] k = Fg_ref07_room fuel f55 f219 x0 x1 x2 x3 x4 x5 x6 x7 x8 x9 x10 x11 (fun r => match r with | r0 => k (.c (i6 r0), [])) := by
  kernel_rfl
theorem hG137 (fuel : Nat) : GOK Tryz.prog (G137 fuel) :=
  gc (ok55 fuel) Tryz.func55 (by kernel_rfl) rfl <|
  gc (ok219 fuel) Tryz.func219 (by kernel_rfl) rfl <|
  gok_nil
def spg137 (F : YF137) : Ev.Spec := fun args objs k => match args, objs with | [.agg [i6 x0, i6 x1, i6 x2, .bool x3, i6 x4], .c (i6 x5), .c (i6 x6), .c (i6 x7), .c (i6 x8), .agg [i6 x9, i6 x10, .sl (.int .u8) x11]], [] => F x0 x1 x2 x3 x4 x5 x6 x7 x8 x9 x10 x11 (fun r => match r with | r0 => k (.c (i6 r0), [])) | _, _ => none
theorem ok137 (fuel : Nat) : FnOK Tryz.prog 137 (spg137 (F_ref07_room fuel)) := by
  intro args objs kk r h
  unfold spg137 at h
  split at h
  · skip
    exact fo0 (hG137 fuel) Tryz.func137 rfl (by kernel_rfl) _ _ kk r ((F137_eqg fuel (F_ref07_Size fuel) (F_ref07_none fuel) _ _ _ _ _ _ _ _ _ _ _ _ kk).trans h)
  · cases h
def kp139 (i : Nat) : Option (List Nat) := Ev.look i [(3, [2, 3, 4, 7, 8]), (100000, [7]), (400000, [6])]
def Gg139 (f136 : YF136) (f : Nat) : Option Ev.Spec := Ev.look f [(136, spg136 f136)]
def G139 (fuel : Nat) : Nat → Option Ev.Spec := Gg139 (F_ref05_At fuel)
abbrev V_ref07_typical_0 : Type := Int × Int × Int × Int × LI × Int × Int × LI × LI
abbrev W_ref07_typical_0 : Type := (LI → OA)
def Sg_ref07_typical_0 (fuel : Nat) (f136 : YF136) (x0 x1 : Int) (x2 x3 : Int) (x4 : LI) (x5 x6 : Int) (x7 x8 : LI) (c : V_ref07_typical_0 → OA) (B : W_ref07_typical_0) : OA := match B with | b => bif decide (x1 < x2) then (f136 x2 x3 x4 x1 (i64.wrap (x0 - 1)) (fun y3 => (f136 x5 x6 x7 x1 x0 (fun y7 => bif y7 == 1 then bif decide ((x8.length + [u8.wrap 0].length) * (1 : Nat) ≤ (140737488355328 : Nat) ∧ x8.length + [u8.wrap 0].length ≤ (140737488355328 : Nat)) then c (x0, i64.wrap (x1 + (1 : Int)), x2, x3, x4, x5, x6, x7, x8 ++ [u8.wrap (0 : Int)]) else none else bif decide ((x8.length + [u8.wrap y3].length) * (1 : Nat) ≤ (140737488355328 : Nat) ∧ x8.length + [u8.wrap y3].length ≤ (140737488355328 : Nat)) then c (x0, i64.wrap (x1 + (1 : Int)), x2, x3, x4, x5, x6, x7, x8 ++ [u8.wrap y3]) else none)))) else b x8
def S_ref07_typical_0 (fuel : Nat) (v : Int × Int × Int × Int × (List Int) × Int × Int × (List Int) × (List Int)) (c : (Int × Int × Int × Int × (List Int) × Int × Int × (List Int) × (List Int)) → Option Ans) (B : ((List Int) → Option Ans)) : Option Ans := match v with | (x0, x1, x2, x3, x4, x5, x6, x7, x8) => Sg_ref07_typical_0 fuel (F_ref05_At fuel) x0 x1 x2 x3 x4 x5 x6 x7 x8 c B
def L_ref07_typical_0 (fuel : Nat) (v : V_ref07_typical_0) (b : W_ref07_typical_0) : Option Ans := iter (S_ref07_typical_0 fuel) fuel v b
def T139_0 (v : V_ref07_typical_0) : Ev.St := match v with | (x0, x1, x2, x3, x4, x5, x6, x7, x8) => ⟨[(2, .c (i6 x0)), (3, .c (.ptr 0 0)), (4, .c (.ptr 1 0)), (7, .c (.own 2)), (8, .c (i6 x1))], [(0, .cells 51 [i6 x2, i6 x3, .sl (.int .u8) x4]), (1, .cells 51 [i6 x5, i6 x6, .sl (.int .u8) x7]), (2, .vec 5 (.int .u8) x8 true)], 3, 0⟩
def E139_0 (K : KT) : W_ref07_typical_0 := (fun v => match v with | x0 => K .normal ⟨[(7, .c (.own 0))], [(0, .vec 5 (.int .u8) x0 true)], 1, 0⟩)
theorem S139_0_okg (fuel : Nat) (f136 : YF136) (R : Ev.St → OA) (K : KT) (x0 x1 : Int) (x2 x3 : Int) (x4 : LI) (x5 x6 : Int) (x7 x8 : LI) : evalCode tab (Gg139 f136) J0 kp139 fuel (bodyOf 0 Tryz.f139) (T139_0 (x0, x1, x2, x3, x4, x5, x6, x7, x8)) (lc kp139 3 0 R K) = Sg_ref07_typical_0 fuel f136 x0 x1 x2 x3 x4 x5 x6 x7 x8 (fun v => R (T139_0 v)) (E139_0 K) := by
  kernel_rfl
def B139_0 (fuel : Nat) : Ev.Blk := fun st K => match canonO (kp139 3) st with | some s => (match s with | ⟨[(q0, .c (i6 x0)), (q1, .c (.ptr q2 q3)), (q4, .c (.ptr q5 q6)), (q7, .c (.own q8)), (q9, .c (i6 x1))], [(q10, .cells q11 [i6 x2, i6 x3, .sl (.int .u8) x4]), (q12, .cells q13 [i6 x5, i6 x6, .sl (.int .u8) x7]), (q14, .vec q15 (.int .u8) x8 true)], q16, q17⟩ => bif qb [q0, q1, q2, q3, q4, q5, q6, q7, q8, q9, q10, q11, q12, q13, q14, q15, q16, q17] [2, 3, 0, 0, 4, 1, 0, 7, 2, 8, 0, 51, 1, 51, 2, 5, 3, 0] then iter (S_ref07_typical_0 fuel) fuel (x0, x1, x2, x3, x4, x5, x6, x7, x8) (E139_0 K) else none | _ => none) | none => none
theorem B139_0_ok (fuel : Nat) (st : Ev.St) (K : KT) (r : Ans) (h : B139_0 fuel st K = some r) : evalCode tab (G139 fuel) J0 kp139 fuel (.block 0 (.loop (bodyOf 0 Tryz.f139))) st K = some r := by
  unfold B139_0 at h
  split at h
  · rename_i s hs
    split at h
    · skip
      obtain ⟨hb, h⟩ := cond_some' h
      cases qb_eq hb
      exact blk_loop (S := T139_0) (ks := E139_0) (step := S_ref07_typical_0 fuel) (v := (_, _, _, _, _, _, _, _, _)) (by kernel_rfl) (by kernel_rfl) (fun R K v => by obtain ⟨x0, x1, x2, x3, x4, x5, x6, x7, x8⟩ := v; exact S139_0_okg fuel (F_ref05_At fuel) R K x0 x1 x2 x3 x4 x5 x6 x7 x8) hs h
    · cases h
  · cases h
def J139 (fuel : Nat) (i : Nat) : Option Ev.Blk := Ev.look i [(100000, B139_0 fuel)]
def Fg_ref07_typical (fuel : Nat) (f136 : YF136) (x0 x1 : Int) (x2 : LI) (x3 x4 : Int) (x5 : LI) (x6 : Int) (k0 : (LI) → OA) : OA := (L_ref07_typical_0 fuel (x6, 0, x0, x1, x2, x3, x4, x5, []) (fun b0_0 => k0 b0_0))
abbrev YF139 : Type := Int → Int → LI → Int → Int → LI → Int → (LI → Option Ans) → Option Ans
def F_ref07_typical (fuel : Nat) : YF139 := Fg_ref07_typical fuel (F_ref05_At fuel)
theorem F139_eqg (fuel : Nat) (f136 : YF136) (x0 x1 : Int) (x2 : LI) (x3 x4 : Int) (x5 : LI) (x6 : Int) (k : Ev.Cont) : evalFn tab (Gg139 f136) (J139 fuel) kp139 fuel Tryz.f139 [.agg [i6 x0, i6 x1, .sl (.int .u8) x2], .agg [i6 x3, i6 x4, .sl (.int .u8) x5], .c (i6 x6)] [] k = Fg_ref07_typical fuel f136 x0 x1 x2 x3 x4 x5 x6 (fun r => match r with | r0 => k (.c (.own 0), [.vec 5 (.int .u8) r0 true])) := by
  kernel_rfl
theorem hG139 (fuel : Nat) : GOK Tryz.prog (G139 fuel) :=
  gc (ok136 fuel) Tryz.func136 (by kernel_rfl) rfl <|
  gok_nil
theorem B139_0_blk (fuel : Nat) : BlkOK Tryz.prog Tryz.f139.ntmps (.block 0 (.loop (bodyOf 0 Tryz.f139))) (B139_0 fuel) := bo0 (hG139 fuel) (by kernel_rfl) (by kernel_rfl) (B139_0_ok fuel)
def spg139 (F : YF139) : Ev.Spec := fun args objs k => match args, objs with | [.agg [i6 x0, i6 x1, .sl (.int .u8) x2], .agg [i6 x3, i6 x4, .sl (.int .u8) x5], .c (i6 x6)], [] => F x0 x1 x2 x3 x4 x5 x6 (fun r => match r with | r0 => k (.c (.own 0), [.vec 5 (.int .u8) r0 true])) | _, _ => none
theorem ok139 (fuel : Nat) : FnOK Tryz.prog 139 (spg139 (F_ref07_typical fuel)) := by
  intro args objs kk r h
  unfold spg139 at h
  split at h
  · skip
    exact fo1 (hG139 fuel) Tryz.func139 rfl (B139_0_blk fuel) (by kernel_rfl) _ _ kk r ((F139_eqg fuel (F_ref05_At fuel) _ _ _ _ _ _ _ kk).trans h)
  · cases h
def kp70_9c5 (i : Nat) : Option (List Nat) := Ev.look i [(11, [0, 1, 3, 4, 8, 11, 12, 15, 17, 19]), (20, [0, 1, 3, 4, 8, 11, 12, 15, 17, 19, 22]), (100000, [12, 17]), (100002, [0, 1, 3, 4, 8, 11, 12, 15, 17, 19]), (200005, [8, 11]), (200018, [11, 17]), (400000, [12, 13]), (400002, [12, 13])]
def Gg70_9c5 (f55 : YF55) (f130 : YF130) (f135 : YF135) (f136 : YF136) (f137 : YF137) (f139 : YF139) (f140 : YF140) (f141 : YF141) (f143_a2e : YF143_a2e) (f153 : YF153) (f156_a7e : YF156_a7e) (f157_0a6 : YF157_0a6) (f : Nat) : Option Ev.Spec := Ev.look f [(55, spg55 f55), (130, spg130 f130), (135, spg135 f135), (136, spg136 f136), (137, spg137 f137), (139, spg139 f139), (140, spg140 f140), (141, spg141 f141), (1000143, spg143_a2e f143_a2e), (153, spg153 f153), (156, spg156_a7e f156_a7e), (157, spg157_0a6 f157_0a6)]
def G70_9c5 (fuel : Nat) : Nat → Option Ev.Spec := Gg70_9c5 (F_ref07_Size fuel) (F_ref07_Valid fuel) (F_ref05_Valid fuel) (F_ref05_At fuel) (F_ref07_room fuel) (F_ref07_typical fuel) (F_ref07_context fuel) (F_ref05_New fuel) (F_ref05_Put_a2e fuel) (F_ref05_Sides fuel) (F_ref02_Decoder_Model_a7e fuel) (F_ref02_Decoder_Get_0a6 fuel)
abbrev V_ref07_Get_9c5_2 : Type := Int × Int × Int × Int × Int × Int × Int × Int × Int × Int × Int × Int × Bool × LI × LI × Int × Int × Int × Bool × Int × Int × Int × LI × Int × Int × Int × Int × LI × LI
abbrev W_ref07_Get_9c5_2 : Type := (Int × Int × Int × Int × Int × Int × Int × Bool × LI × LI × Int × Int × LI → OA) × (Int × Int × Int × Int × Int × Int × Int × Int × Int × Int × Int × Bool × LI × LI × Int × Int × Int × Bool × Int × Int × Int × LI × Int × Int × Int × Int × LI × LI → OA)
def Sg_ref07_Get_9c5_2 (fuel : Nat) (f55 : YF55) (f130 : YF130) (f135 : YF135) (f136 : YF136) (f137 : YF137) (f139 : YF139) (f140 : YF140) (f141 : YF141) (f143_a2e : YF143_a2e) (f153 : YF153) (f156_a7e : YF156_a7e) (f157_0a6 : YF157_0a6) (x0 x1 : Int) (x2 x3 : Int) (x4 x5 : Int) (x6 x7 : Int) (x8 x9 : Int) (x10 x11 : Int) (x12 : Bool) (x13 x14 : LI) (x15 x16 x17 : Int) (x18 : Bool) (x19 x20 x21 : Int) (x22 : LI) (x23 x24 : Int) (x25 x26 : Int) (x27 x28 : LI) (c : V_ref07_Get_9c5_2 → OA) (B : W_ref07_Get_9c5_2) : OA := match B with | (ret, b) => bif decide (x5 < x1) then (f136 x20 x21 x22 x5 x4 (fun y3 => bif y3 == 1 then c (x0, x1, x2, x3, x4, i64.wrap (x5 + 1), x6, x7, x8, x9, x10, x11, x12, x13, x14, x15, x16, x17, x18, x19, x20, x21, x22, x23, x24, x25, x26, x27, x28) else (f140 x15 x16 x17 x18 x19 x25 x26 x28 x5 x4 (fun y8 => (f157_0a6 (i64.wrap (x0 + y8)) x6 x7 x8 x9 x10 x11 x12 x13 x14 (fun (y12_0, y12_1, y12_2, y12_3, y12_4, y12_5, y12_6, y12_7, y12_8, y12_9, y12_10) => bif y12_1 != 0 then ret (y12_1, y12_2, y12_3, y12_4, y12_5, y12_6, y12_7, y12_8, y12_9, y12_10, 0, 0, []) else (f143_a2e x25 x26 x5 x4 y12_0 x28 (fun y17 => c (x0, x1, x2, x3, x4, i64.wrap (x5 + 1), y12_2, y12_3, y12_4, y12_5, y12_6, y12_7, y12_8, y12_9, y12_10, x15, x16, x17, x18, x19, x20, x21, x22, x23, x24, x25, x26, x27, y17))))))))) else b (x0, x1, x2, x3, x4, x6, x7, x8, x9, x10, x11, x12, x13, x14, x15, x16, x17, x18, x19, x20, x21, x22, x23, x24, x25, x26, x27, x28)
def S_ref07_Get_9c5_2 (fuel : Nat) (v : Int × Int × Int × Int × Int × Int × Int × Int × Int × Int × Int × Int × Bool × (List Int) × (List Int) × Int × Int × Int × Bool × Int × Int × Int × (List Int) × Int × Int × Int × Int × (List Int) × (List Int)) (c : (Int × Int × Int × Int × Int × Int × Int × Int × Int × Int × Int × Int × Bool × (List Int) × (List Int) × Int × Int × Int × Bool × Int × Int × Int × (List Int) × Int × Int × Int × Int × (List Int) × (List Int)) → Option Ans) (B : (Int × Int × Int × Int × Int × Int × Int × Bool × (List Int) × (List Int) × Int × Int × (List Int) → Option Ans) × (Int × Int × Int × Int × Int × Int × Int × Int × Int × Int × Int × Bool × (List Int) × (List Int) × Int × Int × Int × Bool × Int × Int × Int × (List Int) × Int × Int × Int × Int × (List Int) × (List Int) → Option Ans)) : Option Ans := match v with | (x0, x1, x2, x3, x4, x5, x6, x7, x8, x9, x10, x11, x12, x13, x14, x15, x16, x17, x18, x19, x20, x21, x22, x23, x24, x25, x26, x27, x28) => Sg_ref07_Get_9c5_2 fuel (F_ref07_Size fuel) (F_ref07_Valid fuel) (F_ref05_Valid fuel) (F_ref05_At fuel) (F_ref07_room fuel) (F_ref07_typical fuel) (F_ref07_context fuel) (F_ref05_New fuel) (F_ref05_Put_a2e fuel) (F_ref05_Sides fuel) (F_ref02_Decoder_Model_a7e fuel) (F_ref02_Decoder_Get_0a6 fuel) x0 x1 x2 x3 x4 x5 x6 x7 x8 x9 x10 x11 x12 x13 x14 x15 x16 x17 x18 x19 x20 x21 x22 x23 x24 x25 x26 x27 x28 c B
def L_ref07_Get_9c5_2 (fuel : Nat) (v : V_ref07_Get_9c5_2) (ret : (Int × Int × Int × Int × Int × Int × Int × Bool × (List Int) × (List Int) × Int × Int × (List Int) → Option Ans)) (b : (Int × Int × Int × Int × Int × Int × Int × Int × Int × Int × Int × Bool × (List Int) × (List Int) × Int × Int × Int × Bool × Int × Int × Int × (List Int) × Int × Int × Int × Int × (List Int) × (List Int) → Option Ans)) : Option Ans := iter (S_ref07_Get_9c5_2 fuel) fuel v (ret, b)
def T70_9c5_2 (v : V_ref07_Get_9c5_2) : Ev.St := match v with | (x0, x1, x2, x3, x4, x5, x6, x7, x8, x9, x10, x11, x12, x13, x14, x15, x16, x17, x18, x19, x20, x21, x22, x23, x24, x25, x26, x27, x28) => ⟨[(0, .c (.ptr 0 0)), (1, .c (i6 x0)), (3, .c (i6 x1)), (4, .c (i6 x2)), (8, .c (.ptr 3 0)), (11, .c (.ptr 4 0)), (12, .c (.ptr 5 0)), (15, .c (i6 x3)), (17, .c (.ptr 6 0)), (19, .c (i6 x4)), (22, .c (i6 x5))], [(0, .cells 204 [i6 x6, .own 1, .int .u64 x7, .int .u64 x8, .own 2, i6 x9, .int .u64 x10, i6 x11, .bool x12]), (1, .vec 3 (.int .i64) x13 false), (2, .vec 5 (.int .u8) x14 false), (3, .cells 78 [i6 x15, i6 x16, i6 x17, .bool x18, i6 x19]), (4, .cells 51 [i6 x20, i6 x21, .sl (.int .u8) x22]), (5, .cells 51 [i6 x23, i6 x24, .own 7]), (6, .cells 51 [i6 x25, i6 x26, .own 8]), (7, .vec 5 (.int .u8) x27 true), (8, .vec 5 (.int .u8) x28 true)], 9, 3⟩
def E70_9c5_2 (K : KT) : W_ref07_Get_9c5_2 := ((fun v => match v with | (x0, x1, x2, x3, x4, x5, x6, x7, x8, x9, x10, x11, x12) => K .ret ⟨[(12, .c (.ptr 3 0)), (13, .c (i6 x0))], [(0, .cells 204 [i6 x1, .own 1, .int .u64 x2, .int .u64 x3, .own 2, i6 x4, .int .u64 x5, i6 x6, .bool x7]), (1, .vec 3 (.int .i64) x8 false), (2, .vec 5 (.int .u8) x9 false), (3, .cells 51 [i6 x10, i6 x11, .own 4]), (4, .vec 5 (.int .u8) x12 true)], 5, 3⟩), (fun v => match v with | (x0, x1, x2, x3, x4, x5, x6, x7, x8, x9, x10, x11, x12, x13, x14, x15, x16, x17, x18, x19, x20, x21, x22, x23, x24, x25, x26, x27) => K .normal ⟨[(0, .c (.ptr 0 0)), (1, .c (i6 x0)), (3, .c (i6 x1)), (4, .c (i6 x2)), (8, .c (.ptr 3 0)), (11, .c (.ptr 4 0)), (12, .c (.ptr 5 0)), (15, .c (i6 x3)), (17, .c (.ptr 6 0)), (19, .c (i6 x4))], [(0, .cells 204 [i6 x5, .own 1, .int .u64 x6, .int .u64 x7, .own 2, i6 x8, .int .u64 x9, i6 x10, .bool x11]), (1, .vec 3 (.int .i64) x12 false), (2, .vec 5 (.int .u8) x13 false), (3, .cells 78 [i6 x14, i6 x15, i6 x16, .bool x17, i6 x18]), (4, .cells 51 [i6 x19, i6 x20, .sl (.int .u8) x21]), (5, .cells 51 [i6 x22, i6 x23, .own 7]), (6, .cells 51 [i6 x24, i6 x25, .own 8]), (7, .vec 5 (.int .u8) x26 true), (8, .vec 5 (.int .u8) x27 true)], 9, 3⟩))
theorem S70_9c5_2_okg (fuel : Nat) (f55 : YF55) (f130 : YF130) (f135 : YF135) (f136 : YF136) (f137 : YF137) (f139 : YF139) (f140 : YF140) (f141 : YF141) (f143_a2e : YF143_a2e) (f153 : YF153) (f156_a7e : YF156_a7e) (f157_0a6 : YF157_0a6) (R : Ev.St → OA) (K : KT) (x0 x1 : Int) (x2 x3 : Int) (x4 x5 : Int) (x6 x7 : Int) (x8 x9 : Int) (x10 x11 : Int) (x12 : Bool) (x13 x14 : LI) (x15 x16 x17 : Int) (x18 : Bool) (x19 x20 x21 : Int) (x22 : LI) (x23 x24 : Int) (x25 x26 : Int) (x27 x28 : LI) : evalCode tab (Gg70_9c5 f55 f130 f135 f136 f137 f139 f140 f141 f143_a2e f153 f156_a7e f157_0a6) J0 kp70_9c5 fuel (bodyOf 2 Tryz.f70) (T70_9c5_2 (x0, x1, x2, x3, x4, x5, x6, x7, x8, x9, x10, x11, x12, x13, x14, x15, x16, x17, x18, x19, x20, x21, x22, x23, x24, x25, x26, x27, x28)) (lc kp70_9c5 20 2 R K) = Sg_ref07_Get_9c5_2 fuel f55 f130 f135 f136 f137 f139 f140 f141 f143_a2e f153 f156_a7e f157_0a6 x0 x1 x2 x3 x4 x5 x6 x7 x8 x9 x10 x11 x12 x13 x14 x15 x16 x17 x18 x19 x20 x21 x22 x23 x24 x25 x26 x27 x28 (fun v => R (T70_9c5_2 v)) (E70_9c5_2 K) := by
  kernel_rfl
def B70_9c5_2 (fuel : Nat) : Ev.Blk := fun st K => match canonO (kp70_9c5 20) st with | some s => (match s with | ⟨[(q0, .c (.ptr q1 q2)), (q3, .c (i6 x0)), (q4, .c (i6 x1)), (q5, .c (i6 x2)), (q6, .c (.ptr q7 q8)), (q9, .c (.ptr q10 q11)), (q12, .c (.ptr q13 q14)), (q15, .c (i6 x3)), (q16, .c (.ptr q17 q18)), (q19, .c (i6 x4)), (q20, .c (i6 x5))], [(q21, .cells q22 [i6 x6, .own q23, .int .u64 x7, .int .u64 x8, .own q24, i6 x9, .int .u64 x10, i6 x11, .bool x12]), (q25, .vec q26 (.int .i64) x13 false), (q27, .vec q28 (.int .u8) x14 false), (q29, .cells q30 [i6 x15, i6 x16, i6 x17, .bool x18, i6 x19]), (q31, .cells q32 [i6 x20, i6 x21, .sl (.int .u8) x22]), (q33, .cells q34 [i6 x23, i6 x24, .own q35]), (q36, .cells q37 [i6 x25, i6 x26, .own q38]), (q39, .vec q40 (.int .u8) x27 true), (q41, .vec q42 (.int .u8) x28 true)], q43, q44⟩ => bif qb [q0, q1, q2, q3, q4, q5, q6, q7, q8, q9, q10, q11, q12, q13, q14, q15, q16, q17, q18, q19, q20, q21, q22, q23, q24, q25, q26, q27, q28, q29, q30, q31, q32, q33, q34, q35, q36, q37, q38, q39, q40, q41, q42, q43, q44] [0, 0, 0, 1, 3, 4, 8, 3, 0, 11, 4, 0, 12, 5, 0, 15, 17, 6, 0, 19, 22, 0, 204, 1, 2, 1, 3, 2, 5, 3, 78, 4, 51, 5, 51, 7, 6, 51, 8, 7, 5, 8, 5, 9, 3] then iter (S_ref07_Get_9c5_2 fuel) fuel (x0, x1, x2, x3, x4, x5, x6, x7, x8, x9, x10, x11, x12, x13, x14, x15, x16, x17, x18, x19, x20, x21, x22, x23, x24, x25, x26, x27, x28) (E70_9c5_2 K) else none | _ => none) | none => none
theorem B70_9c5_2_ok (fuel : Nat) (st : Ev.St) (K : KT) (r : Ans) (h : B70_9c5_2 fuel st K = some r) : evalCode tab (G70_9c5 fuel) J0 kp70_9c5 fuel (.block 2 (.loop (bodyOf 2 Tryz.f70))) st K = some r := by
  unfold B70_9c5_2 at h
  split at h
  · rename_i s hs
    split at h
    · skip
      obtain ⟨hb, h⟩ := cond_some' h
      cases qb_eq hb
      exact blk_loop (S := T70_9c5_2) (ks := E70_9c5_2) (step := S_ref07_Get_9c5_2 fuel) (v := (_, _, _, _, _, _, _, _, _, _, _, _, _, _, _, _, _, _, _, _, _, _, _, _, _, _, _, _, _)) (by kernel_rfl) (by kernel_rfl) (fun R K v => by obtain ⟨x0, x1, x2, x3, x4, x5, x6, x7, x8, x9, x10, x11, x12, x13, x14, x15, x16, x17, x18, x19, x20, x21, x22, x23, x24, x25, x26, x27, x28⟩ := v; exact S70_9c5_2_okg fuel (F_ref07_Size fuel) (F_ref07_Valid fuel) (F_ref05_Valid fuel) (F_ref05_At fuel) (F_ref07_room fuel) (F_ref07_typical fuel) (F_ref07_context fuel) (F_ref05_New fuel) (F_ref05_Put_a2e fuel) (F_ref05_Sides fuel) (F_ref02_Decoder_Model_a7e fuel) (F_ref02_Decoder_Get_0a6 fuel) R K x0 x1 x2 x3 x4 x5 x6 x7 x8 x9 x10 x11 x12 x13 x14 x15 x16 x17 x18 x19 x20 x21 x22 x23 x24 x25 x26 x27 x28) hs h
    · cases h
  · cases h
abbrev V_ref07_Get_9c5_0 : Type := Int × Int × Int × Int × Int × Int × Int × Int × Int × Int × Int × Bool × LI × LI × Int × Int × Int × Bool × Int × Int × Int × LI × Int × Int × Int × Int × LI × LI
abbrev W_ref07_Get_9c5_0 : Type := (Int × Int × Int × Int × Int × Int × Int × Bool × LI × LI × Int × Int × LI → OA) × (Int × Int × Int × Int × Int × Int × Bool × LI × LI × Int × Int × Int × Int × LI × LI → OA)
def Sg_ref07_Get_9c5_0 (fuel : Nat) (f55 : YF55) (f130 : YF130) (f135 : YF135) (f136 : YF136) (f137 : YF137) (f139 : YF139) (f140 : YF140) (f141 : YF141) (f143_a2e : YF143_a2e) (f153 : YF153) (f156_a7e : YF156_a7e) (f157_0a6 : YF157_0a6) (x0 x1 : Int) (x2 x3 : Int) (x4 x5 : Int) (x6 x7 : Int) (x8 x9 x10 : Int) (x11 : Bool) (x12 x13 : LI) (x14 x15 x16 : Int) (x17 : Bool) (x18 x19 x20 : Int) (x21 : LI) (x22 x23 : Int) (x24 x25 : Int) (x26 x27 : LI) (c : V_ref07_Get_9c5_0 → OA) (B : W_ref07_Get_9c5_0) : OA := match B with | (ret, b) => bif decide (x4 < x2) then bif x17 then (f157_0a6 (i64.wrap (i64.wrap (x0 + x3) - 1)) x5 x6 x7 x8 x9 x10 x11 x12 x13 (fun (y4_0, y4_1, y4_2, y4_3, y4_4, y4_5, y4_6, y4_7, y4_8, y4_9, y4_10) => bif y4_1 != 0 then ret (y4_1, y4_2, y4_3, y4_4, y4_5, y4_6, y4_7, y4_8, y4_9, y4_10, 0, 0, []) else bif y4_0 == 1 then bif decide (0 ≤ Ev.loOf (some (i64.wrap (x4 * x1))) ∧ Ev.loOf (some (i64.wrap (x4 * x1))) ≤ Ev.hiOf Option.none (↑x27.length : Int) ∧ Ev.hiOf Option.none (↑x27.length : Int) ≤ (↑x27.length : Int)) then (f139 x24 x25 x27 x19 x20 x21 x4 (fun y11 => c (x0, x1, x2, x3, i64.wrap (x4 + (1 : Int)), y4_2, y4_3, y4_4, y4_5, y4_6, y4_7, y4_8, y4_9, y4_10, x14, x15, x16, x17, x18, x19, x20, x21, x22, x23, x24, x25, x26, List.take (Ev.loOf (some (i64.wrap (x4 * x1)))).toNat x27 ++ List.take (Ev.hiOf Option.none (↑x27.length : Int) - Ev.loOf (some (i64.wrap (x4 * x1)))).toNat y11 ++ List.drop ((Ev.loOf (some (i64.wrap (x4 * x1)))).toNat + Min.min (Ev.hiOf Option.none (↑x27.length : Int) - Ev.loOf (some (i64.wrap (x4 * x1)))).toNat y11.length) x27))) else none else (L_ref07_Get_9c5_2 fuel (x0, x1, x2, x3, x4, 0, y4_2, y4_3, y4_4, y4_5, y4_6, y4_7, y4_8, y4_9, y4_10, x14, x15, x16, x17, x18, x19, x20, x21, x22, x23, x24, x25, x26, x27) (fun (ret2_0, ret2_1, ret2_2, ret2_3, ret2_4, ret2_5, ret2_6, ret2_7, ret2_8, ret2_9, ret2_10, ret2_11, ret2_12) => ret (ret2_0, ret2_1, ret2_2, ret2_3, ret2_4, ret2_5, ret2_6, ret2_7, ret2_8, ret2_9, ret2_10, ret2_11, ret2_12)) (fun (b2_0, b2_1, b2_2, b2_3, b2_4, b2_5, b2_6, b2_7, b2_8, b2_9, b2_10, b2_11, b2_12, b2_13, b2_14, b2_15, b2_16, b2_17, b2_18, b2_19, b2_20, b2_21, b2_22, b2_23, b2_24, b2_25, b2_26, b2_27) => c (b2_0, b2_1, b2_2, b2_3, i64.wrap (b2_4 + 1), b2_5, b2_6, b2_7, b2_8, b2_9, b2_10, b2_11, b2_12, b2_13, b2_14, b2_15, b2_16, b2_17, b2_18, b2_19, b2_20, b2_21, b2_22, b2_23, b2_24, b2_25, b2_26, b2_27))))) else (L_ref07_Get_9c5_2 fuel (x0, x1, x2, x3, x4, 0, x5, x6, x7, x8, x9, x10, x11, x12, x13, x14, x15, x16, x17, x18, x19, x20, x21, x22, x23, x24, x25, x26, x27) (fun (ret2_0, ret2_1, ret2_2, ret2_3, ret2_4, ret2_5, ret2_6, ret2_7, ret2_8, ret2_9, ret2_10, ret2_11, ret2_12) => ret (ret2_0, ret2_1, ret2_2, ret2_3, ret2_4, ret2_5, ret2_6, ret2_7, ret2_8, ret2_9, ret2_10, ret2_11, ret2_12)) (fun (b2_0, b2_1, b2_2, b2_3, b2_4, b2_5, b2_6, b2_7, b2_8, b2_9, b2_10, b2_11, b2_12, b2_13, b2_14, b2_15, b2_16, b2_17, b2_18, b2_19, b2_20, b2_21, b2_22, b2_23, b2_24, b2_25, b2_26, b2_27) => c (b2_0, b2_1, b2_2, b2_3, i64.wrap (b2_4 + 1), b2_5, b2_6, b2_7, b2_8, b2_9, b2_10, b2_11, b2_12, b2_13, b2_14, b2_15, b2_16, b2_17, b2_18, b2_19, b2_20, b2_21, b2_22, b2_23, b2_24, b2_25, b2_26, b2_27))) else b (x5, x6, x7, x8, x9, x10, x11, x12, x13, x22, x23, x24, x25, x26, x27)
def S_ref07_Get_9c5_0 (fuel : Nat) (v : Int × Int × Int × Int × Int × Int × Int × Int × Int × Int × Int × Bool × (List Int) × (List Int) × Int × Int × Int × Bool × Int × Int × Int × (List Int) × Int × Int × Int × Int × (List Int) × (List Int)) (c : (Int × Int × Int × Int × Int × Int × Int × Int × Int × Int × Int × Bool × (List Int) × (List Int) × Int × Int × Int × Bool × Int × Int × Int × (List Int) × Int × Int × Int × Int × (List Int) × (List Int)) → Option Ans) (B : (Int × Int × Int × Int × Int × Int × Int × Bool × (List Int) × (List Int) × Int × Int × (List Int) → Option Ans) × (Int × Int × Int × Int × Int × Int × Bool × (List Int) × (List Int) × Int × Int × Int × Int × (List Int) × (List Int) → Option Ans)) : Option Ans := match v with | (x0, x1, x2, x3, x4, x5, x6, x7, x8, x9, x10, x11, x12, x13, x14, x15, x16, x17, x18, x19, x20, x21, x22, x23, x24, x25, x26, x27) => Sg_ref07_Get_9c5_0 fuel (F_ref07_Size fuel) (F_ref07_Valid fuel) (F_ref05_Valid fuel) (F_ref05_At fuel) (F_ref07_room fuel) (F_ref07_typical fuel) (F_ref07_context fuel) (F_ref05_New fuel) (F_ref05_Put_a2e fuel) (F_ref05_Sides fuel) (F_ref02_Decoder_Model_a7e fuel) (F_ref02_Decoder_Get_0a6 fuel) x0 x1 x2 x3 x4 x5 x6 x7 x8 x9 x10 x11 x12 x13 x14 x15 x16 x17 x18 x19 x20 x21 x22 x23 x24 x25 x26 x27 c B
def L_ref07_Get_9c5_0 (fuel : Nat) (v : V_ref07_Get_9c5_0) (ret : (Int × Int × Int × Int × Int × Int × Int × Bool × (List Int) × (List Int) × Int × Int × (List Int) → Option Ans)) (b : (Int × Int × Int × Int × Int × Int × Bool × (List Int) × (List Int) × Int × Int × Int × Int × (List Int) × (List Int) → Option Ans)) : Option Ans := iter (S_ref07_Get_9c5_0 fuel) fuel v (ret, b)
def J70_9c5_0 (fuel : Nat) (i : Nat) : Option Ev.Blk := Ev.look i [(100002, B70_9c5_2 fuel)]
def T70_9c5_0 (v : V_ref07_Get_9c5_0) : Ev.St := match v with | (x0, x1, x2, x3, x4, x5, x6, x7, x8, x9, x10, x11, x12, x13, x14, x15, x16, x17, x18, x19, x20, x21, x22, x23, x24, x25, x26, x27) => ⟨[(0, .c (.ptr 0 0)), (1, .c (i6 x0)), (3, .c (i6 x1)), (4, .c (i6 x2)), (8, .c (.ptr 3 0)), (11, .c (.ptr 4 0)), (12, .c (.ptr 5 0)), (15, .c (i6 x3)), (17, .c (.ptr 6 0)), (19, .c (i6 x4))], [(0, .cells 204 [i6 x5, .own 1, .int .u64 x6, .int .u64 x7, .own 2, i6 x8, .int .u64 x9, i6 x10, .bool x11]), (1, .vec 3 (.int .i64) x12 false), (2, .vec 5 (.int .u8) x13 false), (3, .cells 78 [i6 x14, i6 x15, i6 x16, .bool x17, i6 x18]), (4, .cells 51 [i6 x19, i6 x20, .sl (.int .u8) x21]), (5, .cells 51 [i6 x22, i6 x23, .own 7]), (6, .cells 51 [i6 x24, i6 x25, .own 8]), (7, .vec 5 (.int .u8) x26 true), (8, .vec 5 (.int .u8) x27 true)], 9, 3⟩
def E70_9c5_0 (K : KT) : W_ref07_Get_9c5_0 := ((fun v => match v with | (x0, x1, x2, x3, x4, x5, x6, x7, x8, x9, x10, x11, x12) => K .ret ⟨[(12, .c (.ptr 3 0)), (13, .c (i6 x0))], [(0, .cells 204 [i6 x1, .own 1, .int .u64 x2, .int .u64 x3, .own 2, i6 x4, .int .u64 x5, i6 x6, .bool x7]), (1, .vec 3 (.int .i64) x8 false), (2, .vec 5 (.int .u8) x9 false), (3, .cells 51 [i6 x10, i6 x11, .own 4]), (4, .vec 5 (.int .u8) x12 true)], 5, 3⟩), (fun v => match v with | (x0, x1, x2, x3, x4, x5, x6, x7, x8, x9, x10, x11, x12, x13, x14) => K .normal ⟨[(12, .c (.ptr 3 0)), (17, .c (.ptr 4 0))], [(0, .cells 204 [i6 x0, .own 1, .int .u64 x1, .int .u64 x2, .own 2, i6 x3, .int .u64 x4, i6 x5, .bool x6]), (1, .vec 3 (.int .i64) x7 false), (2, .vec 5 (.int .u8) x8 false), (3, .cells 51 [i6 x9, i6 x10, .own 5]), (4, .cells 51 [i6 x11, i6 x12, .own 6]), (5, .vec 5 (.int .u8) x13 true), (6, .vec 5 (.int .u8) x14 true)], 7, 3⟩))
theorem S70_9c5_0_okg (fuel : Nat) (f55 : YF55) (f130 : YF130) (f135 : YF135) (f136 : YF136) (f137 : YF137) (f139 : YF139) (f140 : YF140) (f141 : YF141) (f143_a2e : YF143_a2e) (f153 : YF153) (f156_a7e : YF156_a7e) (f157_0a6 : YF157_0a6) (R : Ev.St → OA) (K : KT) (x0 x1 : Int) (x2 x3 : Int) (x4 x5 : Int) (x6 x7 : Int) (x8 x9 x10 : Int) (x11 : Bool) (x12 x13 : LI) (x14 x15 x16 : Int) (x17 : Bool) (x18 x19 x20 : Int) (x21 : LI) (x22 x23 : Int) (x24 x25 : Int) (x26 x27 : LI) : evalCode tab (Gg70_9c5 f55 f130 f135 f136 f137 f139 f140 f141 f143_a2e f153 f156_a7e f157_0a6) (J70_9c5_0 fuel) kp70_9c5 fuel (bodyOf 0 Tryz.f70) (T70_9c5_0 (x0, x1, x2, x3, x4, x5, x6, x7, x8, x9, x10, x11, x12, x13, x14, x15, x16, x17, x18, x19, x20, x21, x22, x23, x24, x25, x26, x27)) (lc kp70_9c5 11 0 R K) = Sg_ref07_Get_9c5_0 fuel f55 f130 f135 f136 f137 f139 f140 f141 f143_a2e f153 f156_a7e f157_0a6 x0 x1 x2 x3 x4 x5 x6 x7 x8 x9 x10 x11 x12 x13 x14 x15 x16 x17 x18 x19 x20 x21 x22 x23 x24 x25 x26 x27 (fun v => R (T70_9c5_0 v)) (E70_9c5_0 K) := by
  kernel_rfl
def B70_9c5_0 (fuel : Nat) : Ev.Blk := fun st K => match canonO (kp70_9c5 11) st with | some s => (match s with | ⟨[(q0, .c (.ptr q1 q2)), (q3, .c (i6 x0)), (q4, .c (i6 x1)), (q5, .c (i6 x2)), (q6, .c (.ptr q7 q8)), (q9, .c (.ptr q10 q11)), (q12, .c (.ptr q13 q14)), (q15, .c (i6 x3)), (q16, .c (.ptr q17 q18)), (q19, .c (i6 x4))], [(q20, .cells q21 [i6 x5, .own q22, .int .u64 x6, .int .u64 x7, .own q23, i6 x8, .int .u64 x9, i6 x10, .bool x11]), (q24, .vec q25 (.int .i64) x12 false), (q26, .vec q27 (.int .u8) x13 false), (q28, .cells q29 [i6 x14, i6 x15, i6 x16, .bool x17, i6 x18]), (q30, .cells q31 [i6 x19, i6 x20, .sl (.int .u8) x21]), (q32, .cells q33 [i6 x22, i6 x23, .own q34]), (q35, .cells q36 [i6 x24, i6 x25, .own q37]), (q38, .vec q39 (.int .u8) x26 true), (q40, .vec q41 (.int .u8) x27 true)], q42, q43⟩ => bif qb [q0, q1, q2, q3, q4, q5, q6, q7, q8, q9, q10, q11, q12, q13, q14, q15, q16, q17, q18, q19, q20, q21, q22, q23, q24, q25, q26, q27, q28, q29, q30, q31, q32, q33, q34, q35, q36, q37, q38, q39, q40, q41, q42, q43] [0, 0, 0, 1, 3, 4, 8, 3, 0, 11, 4, 0, 12, 5, 0, 15, 17, 6, 0, 19, 0, 204, 1, 2, 1, 3, 2, 5, 3, 78, 4, 51, 5, 51, 7, 6, 51, 8, 7, 5, 8, 5, 9, 3] then iter (S_ref07_Get_9c5_0 fuel) fuel (x0, x1, x2, x3, x4, x5, x6, x7, x8, x9, x10, x11, x12, x13, x14, x15, x16, x17, x18, x19, x20, x21, x22, x23, x24, x25, x26, x27) (E70_9c5_0 K) else none | _ => none) | none => none
theorem B70_9c5_0_ok (fuel : Nat) (st : Ev.St) (K : KT) (r : Ans) (h : B70_9c5_0 fuel st K = some r) : evalCode tab (G70_9c5 fuel) (J70_9c5_0 fuel) kp70_9c5 fuel (.block 0 (.loop (bodyOf 0 Tryz.f70))) st K = some r := by
  unfold B70_9c5_0 at h
  split at h
  · rename_i s hs
    split at h
    · skip
      obtain ⟨hb, h⟩ := cond_some' h
      cases qb_eq hb
      exact blk_loop (S := T70_9c5_0) (ks := E70_9c5_0) (step := S_ref07_Get_9c5_0 fuel) (v := (_, _, _, _, _, _, _, _, _, _, _, _, _, _, _, _, _, _, _, _, _, _, _, _, _, _, _, _)) (by kernel_rfl) (by kernel_rfl) (fun R K v => by obtain ⟨x0, x1, x2, x3, x4, x5, x6, x7, x8, x9, x10, x11, x12, x13, x14, x15, x16, x17, x18, x19, x20, x21, x22, x23, x24, x25, x26, x27⟩ := v; exact S70_9c5_0_okg fuel (F_ref07_Size fuel) (F_ref07_Valid fuel) (F_ref05_Valid fuel) (F_ref05_At fuel) (F_ref07_room fuel) (F_ref07_typical fuel) (F_ref07_context fuel) (F_ref05_New fuel) (F_ref05_Put_a2e fuel) (F_ref05_Sides fuel) (F_ref02_Decoder_Model_a7e fuel) (F_ref02_Decoder_Get_0a6 fuel) R K x0 x1 x2 x3 x4 x5 x6 x7 x8 x9 x10 x11 x12 x13 x14 x15 x16 x17 x18 x19 x20 x21 x22 x23 x24 x25 x26 x27) hs h
    · cases h
  · cases h
def J70_9c5 (fuel : Nat) (i : Nat) : Option Ev.Blk := Ev.look i [(100002, B70_9c5_2 fuel), (100000, B70_9c5_0 fuel)]
def Fg_ref07_Get_9c5 (fuel : Nat) (f55 : YF55) (f130 : YF130) (f135 : YF135) (f136 : YF136) (f137 : YF137) (f139 : YF139) (f140 : YF140) (f141 : YF141) (f143_a2e : YF143_a2e) (f153 : YF153) (f156_a7e : YF156_a7e) (f157_0a6 : YF157_0a6) (x0 x1 : Int) (x2 x3 : Int) (x4 : Bool) (x5 x6 : Int) (x7 x8 x9 : Int) (x10 : LI) (x11 x12 : Int) (x13 x14 : Int) (x15 x16 : Int) (x17 : Bool) (x18 x19 : LI) (k0 : (Int × Int × Int × Int × Int × Int × Int × Int × Int × Bool × LI × LI × LI) → OA) : OA := (f130 x1 x2 x3 x4 x5 (fun y2 => bif !y2 then k0 (0, 0, 2, x11, x12, x13, x14, x15, x16, x17, x18, x19, []) else (f153 x6 x7 (fun y7 => bif !y7 then k0 (0, 0, 30, x11, x12, x13, x14, x15, x16, x17, x18, x19, []) else (f135 x8 x9 x10 (fun y12 => bif !y12 then k0 (0, 0, 30, x11, x12, x13, x14, x15, x16, x17, x18, x19, []) else (f156_a7e x11 x12 x13 x14 x15 x16 x17 x18 x19 (fun (y17_0, y17_1, y17_2, y17_3, y17_4, y17_5, y17_6, y17_7, y17_8, y17_9, y17_10) => (f137 x1 x2 x3 x4 x5 x0 ((↑y17_10.length : Int)) x6 x7 x8 x9 x10 (fun y21 => bif y21 != 0 then k0 (0, 0, y21, y17_1, y17_2, y17_3, y17_4, y17_5, y17_6, y17_7, y17_8, y17_9, []) else (f55 x1 x2 x3 x4 x5 (fun (y26_0, y26_1) => (f141 x6 x7 (0) (fun (y30_0, y30_1, y30_2, y30_3) => (L_ref07_Get_9c5_0 fuel (x0, x6, x7, y26_0, 0, y17_1, y17_2, y17_3, y17_4, y17_5, y17_6, y17_7, y17_8, y17_9, x1, x2, x3, x4, x5, x8, x9, x10, 0, 0, y30_0, y30_1, [], y30_3) (fun (ret0_0, ret0_1, ret0_2, ret0_3, ret0_4, ret0_5, ret0_6, ret0_7, ret0_8, ret0_9, ret0_10, ret0_11, ret0_12) => k0 (ret0_10, ret0_11, ret0_0, ret0_1, ret0_2, ret0_3, ret0_4, ret0_5, ret0_6, ret0_7, ret0_8, ret0_9, ret0_12)) (fun (b0_0, b0_1, b0_2, b0_3, b0_4, b0_5, b0_6, b0_7, b0_8, b0_9, b0_10, b0_11, b0_12, b0_13, b0_14) => k0 (b0_11, b0_12, 0, b0_0, b0_1, b0_2, b0_3, b0_4, b0_5, b0_6, b0_7, b0_8, b0_14)))))))))))))))))
abbrev YF70_9c5 : Type := Int → Int → Int → Int → Bool → Int → Int → Int → Int → Int → LI → Int → Int → Int → Int → Int → Int → Bool → LI → LI → ((Int × Int × Int × Int × Int × Int × Int × Int × Int × Bool × LI × LI × LI) → Option Ans) → Option Ans
def F_ref07_Get_9c5 (fuel : Nat) : YF70_9c5 := Fg_ref07_Get_9c5 fuel (F_ref07_Size fuel) (F_ref07_Valid fuel) (F_ref05_Valid fuel) (F_ref05_At fuel) (F_ref07_room fuel) (F_ref07_typical fuel) (F_ref07_context fuel) (F_ref05_New fuel) (F_ref05_Put_a2e fuel) (F_ref05_Sides fuel) (F_ref02_Decoder_Model_a7e fuel) (F_ref02_Decoder_Get_0a6 fuel)
theorem F70_9c5_eqg (fuel : Nat) (f55 : YF55) (f130 : YF130) (f135 : YF135) (f136 : YF136) (f137 : YF137) (f139 : YF139) (f140 : YF140) (f141 : YF141) (f143_a2e : YF143_a2e) (f153 : YF153) (f156_a7e : YF156_a7e) (f157_0a6 : YF157_0a6) (x0 x1 : Int) (x2 x3 : Int) (x4 : Bool) (x5 x6 : Int) (x7 x8 x9 : Int) (x10 : LI) (x11 x12 : Int) (x13 x14 : Int) (x15 x16 : Int) (x17 : Bool) (x18 x19 : LI) (k : Ev.Cont) : evalFn tab (Gg70_9c5 f55 f130 f135 f136 f137 f139 f140 f141 f143_a2e f153 f156_a7e f157_0a6) (J70_9c5 fuel) kp70_9c5 fuel Tryz.f70 [.c (.ptr 0 0), .c (i6 x0), .agg [i6 x1, i6 x2, i6 x3, .bool x4, i6 x5], .c (i6 x6), .c (i6 x7), .agg [i6 x8, i6 x9, .sl (.int .u8) x10]] [.cells 204 [i6 x11, .own 1, .int .u64 x12, .int .u64 x13, .own 2, i6 x14, .int .u64 x15, i6 x16, .bool x17], .vec 3 (.int .i64) x18 false, .vec 5 (.int .u8) x19 false] k = Fg_ref07_Get_9c5 fuel f55 f130 f135 f136 f137 f139 f140 f141 f143_a2e f153 f156_a7e f157_0a6 x0 x1 x2 x3 x4 x5 x6 x7 x8 x9 x10 x11 x12 x13 x14 x15 x16 x17 x18 x19 (fun r => match r with | (r0, r1, r2, r3, r4, r5, r6, r7, r8, r9, r10, r11, r12) => k (.tup [(true, [i6 r0, i6 r1, .own 3]), (false, [i6 r2])], [.cells 204 [i6 r3, .own 1, .int .u64 r4, .int .u64 r5, .own 2, i6 r6, .int .u64 r7, i6 r8, .bool r9], .vec 3 (.int .i64) r10 false, .vec 5 (.int .u8) r11 false, .vec 5 (.int .u8) r12 true])) := by
  kernel_rfl
theorem hG70_9c5 (fuel : Nat) : GOK Tryz.prog (G70_9c5 fuel) :=
  gc (ok55 fuel) Tryz.func55 (by kernel_rfl) rfl <|
  gc (ok130 fuel) Tryz.func130 (by kernel_rfl) rfl <|
  gc (ok135 fuel) Tryz.func135 (by kernel_rfl) rfl <|
  gc (ok136 fuel) Tryz.func136 (by kernel_rfl) rfl <|
  gc (ok137 fuel) Tryz.func137 (by kernel_rfl) rfl <|
  gc (ok139 fuel) Tryz.func139 (by kernel_rfl) rfl <|
  gc (ok140 fuel) Tryz.func140 (by kernel_rfl) rfl <|
  gc (ok141 fuel) Tryz.func141 (by kernel_rfl) rfl <|
  gc (ok143_a2e fuel) Tryz.func143 (by kernel_rfl) rfl <|
  gc (ok153 fuel) Tryz.func153 (by kernel_rfl) rfl <|
  gc (ok156_a7e fuel) Tryz.func156 (by kernel_rfl) rfl <|
  gc (ok157_0a6 fuel) Tryz.func157 (by kernel_rfl) rfl <|
  gok_nil
theorem B70_9c5_2_blk (fuel : Nat) : BlkOK Tryz.prog Tryz.f70.ntmps (.block 2 (.loop (bodyOf 2 Tryz.f70))) (B70_9c5_2 fuel) := bo0 (hG70_9c5 fuel) (by kernel_rfl) (by kernel_rfl) (B70_9c5_2_ok fuel)
theorem B70_9c5_0_blk (fuel : Nat) : BlkOK Tryz.prog Tryz.f70.ntmps (.block 0 (.loop (bodyOf 0 Tryz.f70))) (B70_9c5_0 fuel) :=
  blk_of (blk_of_code tab_ok (hG70_9c5 fuel) mixed (J := J70_9c5_0 fuel) (kp := kp70_9c5) (fuel := fuel) (by kernel_rfl) (fun q hq => by
    rw [(by kernel_rfl : obl (J70_9c5_0 fuel) (.block 0 (.loop (bodyOf 0 Tryz.f70))) = [(.block 2 (.loop (bodyOf 2 Tryz.f70)), B70_9c5_2 fuel)])] at hq
    simp only [List.mem_cons, List.not_mem_nil, or_false] at hq
    subst hq
    · exact B70_9c5_2_blk fuel)) (B70_9c5_0_ok fuel)
def spg70_9c5 (F : YF70_9c5) : Ev.Spec := fun args objs k => match args, objs with | [.c (.ptr q0 q1), .c (i6 x0), .agg [i6 x1, i6 x2, i6 x3, .bool x4, i6 x5], .c (i6 x6), .c (i6 x7), .agg [i6 x8, i6 x9, .sl (.int .u8) x10]], [.cells q2 [i6 x11, .own q3, .int .u64 x12, .int .u64 x13, .own q4, i6 x14, .int .u64 x15, i6 x16, .bool x17], .vec q5 (.int .i64) x18 false, .vec q6 (.int .u8) x19 false] => bif qb [q0, q1, q2, q3, q4, q5, q6] [0, 0, 204, 1, 2, 3, 5] then F x0 x1 x2 x3 x4 x5 x6 x7 x8 x9 x10 x11 x12 x13 x14 x15 x16 x17 x18 x19 (fun r => match r with | (r0, r1, r2, r3, r4, r5, r6, r7, r8, r9, r10, r11, r12) => k (.tup [(true, [i6 r0, i6 r1, .own 3]), (false, [i6 r2])], [.cells 204 [i6 r3, .own 1, .int .u64 r4, .int .u64 r5, .own 2, i6 r6, .int .u64 r7, i6 r8, .bool r9], .vec 3 (.int .i64) r10 false, .vec 5 (.int .u8) r11 false, .vec 5 (.int .u8) r12 true])) else none | _, _ => none
theorem ok70_9c5 (fuel : Nat) : FnOK Tryz.prog 70 (spg70_9c5 (F_ref07_Get_9c5 fuel)) := by
  intro args objs kk r h
  unfold spg70_9c5 at h
  split at h
  · skip
    obtain ⟨hb, h⟩ := cond_some' h
    cases qb_eq hb
    exact fo1 (hG70_9c5 fuel) Tryz.func70 rfl (B70_9c5_0_blk fuel) (by kernel_rfl) _ _ kk r ((F70_9c5_eqg fuel (F_ref07_Size fuel) (F_ref07_Valid fuel) (F_ref05_Valid fuel) (F_ref05_At fuel) (F_ref07_room fuel) (F_ref07_typical fuel) (F_ref07_context fuel) (F_ref05_New fuel) (F_ref05_Put_a2e fuel) (F_ref05_Sides fuel) (F_ref02_Decoder_Model_a7e fuel) (F_ref02_Decoder_Get_0a6 fuel) _ _ _ _ _ _ _ _ _ _ _ _ _ _ _ _ _ _ _ _ kk).trans h)
  · cases h
def kp71 (i : Nat) : Option (List Nat) := Ev.look i [(7, [0, 4, 5]), (12, [0, 4, 5, 6]), (100000, [4]), (100002, [0, 4, 5]), (200017, [0]), (400000, [2, 3]), (400002, [2, 3])]
def Gg71 (f : Nat) : Option Ev.Spec := Ev.look f []
def G71 (fuel : Nat) : Nat → Option Ev.Spec := Gg71
abbrev V_ref11_FromPlanes_2 : Type := (List LI) × Int × Int × LI
abbrev W_ref11_FromPlanes_2 : Type := (Int × LI → OA) × ((List LI) × Int × LI → OA)
def S_ref11_FromPlanes_2 (fuel : Nat) (v : (List (List Int)) × Int × Int × (List Int)) (c : ((List (List Int)) × Int × Int × (List Int)) → Option Ans) (B : (Int × (List Int) → Option Ans) × ((List (List Int)) × Int × (List Int) → Option Ans)) : Option Ans := match v, B with | (x0, x1, x2, x3), (ret, b) => bif decide (x2 < (↑x3.length : Int)) then bif decide ((0 : Int) ≤ x1 ∧ x1 < (↑x0.length : Int)) then bif decide ((0 : Int) ≤ x2 ∧ x2 < (↑(List.length (x0.getD x1.toNat [])) : Int)) then bif decide (List.getD (x0.getD x1.toNat []) x2.toNat (0 : Int) > (1 : Int)) then ret ((2 : Int), []) else bif decide ((0 : Int) ≤ x2 ∧ x2 < (↑x3.length : Int)) then bif decide ((0 : Int) ≤ x2 ∧ x2 < (↑x3.length : Int)) then bif decide ((0 : Int) ≤ x1 ∧ x1 < (↑x0.length : Int)) then bif decide ((0 : Int) ≤ x2 ∧ x2 < (↑(List.length (x0.getD x1.toNat [])) : Int)) then bif decide ((0 : Int) ≤ x2 ∧ x2 < (↑x3.length : Int)) then c (x0, x1, i64.wrap (x2 + (1 : Int)), x3.set x2.toNat (i64.wrap (i64.wrap ((2 : Int) * x3.getD x2.toNat (0 : Int)) + (i64.wrap (i64.wrap (List.getD (x0.getD x1.toNat []) x2.toNat (0 : Int)) + Int.tmod (x3.getD x2.toNat (0 : Int)) (2 : Int))).tmod (2 : Int)))) else none else none else none else none else none else none else none else b (x0, x1, x3)
def L_ref11_FromPlanes_2 (fuel : Nat) (v : V_ref11_FromPlanes_2) (ret : (Int × (List Int) → Option Ans)) (b : ((List (List Int)) × Int × (List Int) → Option Ans)) : Option Ans := iter (S_ref11_FromPlanes_2 fuel) fuel v (ret, b)
def T71_2 (v : V_ref11_FromPlanes_2) : Ev.St := match v with | (x0, x1, x2, x3) => ⟨[(0, .c (.sl (.sl (.int .u8)) x0)), (4, .c (.own 0)), (5, .c (i6 x1)), (6, .c (i6 x2))], [(0, .vec 3 (.int .i64) x3 true)], 1, 0⟩
def E71_2 (K : KT) : W_ref11_FromPlanes_2 := ((fun v => match v with | (x0, x1) => K .ret ⟨[(2, .c (.own 0)), (3, .c (i6 x0))], [(0, .vec 3 (.int .i64) x1 true)], 1, 0⟩), (fun v => match v with | (x0, x1, x2) => K .normal ⟨[(0, .c (.sl (.sl (.int .u8)) x0)), (4, .c (.own 0)), (5, .c (i6 x1))], [(0, .vec 3 (.int .i64) x2 true)], 1, 0⟩))
theorem S71_2_ok (fuel : Nat) (R : Ev.St → OA) (K : KT) (x0 : (List LI)) (x1 x2 : Int) (x3 : LI) : evalCode tab (G71 fuel) J0 kp71 fuel (bodyOf 2 Tryz.f71) (T71_2 (x0, x1, x2, x3)) (lc kp71 12 2 R K) = S_ref11_FromPlanes_2 fuel (x0, x1, x2, x3) (fun v => R (T71_2 v)) (E71_2 K) := by
  kernel_rfl
def B71_2 (fuel : Nat) : Ev.Blk := fun st K => match canonO (kp71 12) st with | some s => (match s with | ⟨[(q0, .c (.sl (.sl (.int .u8)) x0)), (q1, .c (.own q2)), (q3, .c (i6 x1)), (q4, .c (i6 x2))], [(q5, .vec q6 (.int .i64) x3 true)], q7, q8⟩ => bif qb [q0, q1, q2, q3, q4, q5, q6, q7, q8] [0, 4, 0, 5, 6, 0, 3, 1, 0] then iter (S_ref11_FromPlanes_2 fuel) fuel (x0, x1, x2, x3) (E71_2 K) else none | _ => none) | none => none
theorem B71_2_ok (fuel : Nat) (st : Ev.St) (K : KT) (r : Ans) (h : B71_2 fuel st K = some r) : evalCode tab (G71 fuel) J0 kp71 fuel (.block 2 (.loop (bodyOf 2 Tryz.f71))) st K = some r := by
  unfold B71_2 at h
  split at h
  · rename_i s hs
    split at h
    · skip
      obtain ⟨hb, h⟩ := cond_some' h
      cases qb_eq hb
      exact blk_loop (S := T71_2) (ks := E71_2) (step := S_ref11_FromPlanes_2 fuel) (v := (_, _, _, _)) (by kernel_rfl) (by kernel_rfl) (fun R K v => by obtain ⟨x0, x1, x2, x3⟩ := v; exact S71_2_ok fuel R K x0 x1 x2 x3) hs h
    · cases h
  · cases h
def S_ref11_FromPlanes_0 (fuel : Nat) (v : (List (List Int)) × Int × (List Int)) (c : ((List (List Int)) × Int × (List Int)) → Option Ans) (B : (Int × (List Int) → Option Ans) × ((List Int) → Option Ans)) : Option Ans := match v, B with | (x0, x1, x2), (ret, b) => bif decide (x1 < (↑x0.length : Int)) then bif decide ((0 : Int) ≤ x1 ∧ x1 < (↑x0.length : Int)) then bif (↑(List.length (x0.getD x1.toNat [])) : Int) != (↑x2.length : Int) then ret ((2 : Int), []) else (L_ref11_FromPlanes_2 fuel (x0, x1, (0 : Int), x2) (fun (ret2_0, ret2_1) => ret (ret2_0, ret2_1)) (fun (b2_0, b2_1, b2_2) => c (b2_0, i64.wrap (b2_1 + (1 : Int)), b2_2))) else none else b x2
def L_ref11_FromPlanes_0 (fuel : Nat) (v : (List (List Int)) × Int × (List Int)) (ret : (Int × (List Int) → Option Ans)) (b : ((List Int) → Option Ans)) : Option Ans := iter (S_ref11_FromPlanes_0 fuel) fuel v (ret, b)
def J71_0 (fuel : Nat) (i : Nat) : Option Ev.Blk := Ev.look i [(100002, B71_2 fuel)]
def T71_0 (v : (List LI) × Int × LI) : Ev.St := match v with | (x0, x1, x2) => ⟨[(0, .c (.sl (.sl (.int .u8)) x0)), (4, .c (.own 0)), (5, .c (i6 x1))], [(0, .vec 3 (.int .i64) x2 true)], 1, 0⟩
def E71_0 (K : KT) : (Int × LI → OA) × (LI → OA) := ((fun v => match v with | (x0, x1) => K .ret ⟨[(2, .c (.own 0)), (3, .c (i6 x0))], [(0, .vec 3 (.int .i64) x1 true)], 1, 0⟩), (fun v => match v with | x0 => K .normal ⟨[(4, .c (.own 0))], [(0, .vec 3 (.int .i64) x0 true)], 1, 0⟩))
theorem S71_0_ok (fuel : Nat) (R : Ev.St → OA) (K : KT) (x0 : (List LI)) (x1 : Int) (x2 : LI) : evalCode tab (G71 fuel) (J71_0 fuel) kp71 fuel (bodyOf 0 Tryz.f71) (T71_0 (x0, x1, x2)) (lc kp71 7 0 R K) = S_ref11_FromPlanes_0 fuel (x0, x1, x2) (fun v => R (T71_0 v)) (E71_0 K) := by
  kernel_rfl
def B71_0 (fuel : Nat) : Ev.Blk := fun st K => match canonO (kp71 7) st with | some s => (match s with | ⟨[(q0, .c (.sl (.sl (.int .u8)) x0)), (q1, .c (.own q2)), (q3, .c (i6 x1))], [(q4, .vec q5 (.int .i64) x2 true)], q6, q7⟩ => bif qb [q0, q1, q2, q3, q4, q5, q6, q7] [0, 4, 0, 5, 0, 3, 1, 0] then iter (S_ref11_FromPlanes_0 fuel) fuel (x0, x1, x2) (E71_0 K) else none | _ => none) | none => none
theorem B71_0_ok (fuel : Nat) (st : Ev.St) (K : KT) (r : Ans) (h : B71_0 fuel st K = some r) : evalCode tab (G71 fuel) (J71_0 fuel) kp71 fuel (.block 0 (.loop (bodyOf 0 Tryz.f71))) st K = some r := by
  unfold B71_0 at h
  split at h
  · rename_i s hs
    split at h
    · skip
      obtain ⟨hb, h⟩ := cond_some' h
      cases qb_eq hb
      exact blk_loop (S := T71_0) (ks := E71_0) (step := S_ref11_FromPlanes_0 fuel) (v := (_, _, _)) (by kernel_rfl) (by kernel_rfl) (fun R K v => by obtain ⟨x0, x1, x2⟩ := v; exact S71_0_ok fuel R K x0 x1 x2) hs h
    · cases h
  · cases h
def J71 (fuel : Nat) (i : Nat) : Option Ev.Blk := Ev.look i [(100002, B71_2 fuel), (100000, B71_0 fuel)]
def F_ref11_FromPlanes (fuel : Nat) (x0 : (List (List Int))) (k0 : (Int × (List Int)) → Option Ans) : Option Ans := bif decide ((↑x0.length : Int) > 8) then k0 (2, []) else bif (↑x0.length : Int) == 0 then k0 (0, []) else bif decide ((0 : Int) ≤ (0 : Int) ∧ (0 : Int) < (↑x0.length : Int)) then bif decide (0 ≤ (↑(List.length (x0.getD (Int.toNat 0) [])) : Int) ∧ (↑(List.length (x0.getD (Int.toNat 0) [])) : Int) = (↑(List.length (x0.getD (Int.toNat 0) [])) : Int) ∧ (↑(8 : Nat) : Int) * (↑(List.length (x0.getD (Int.toNat 0) [])) : Int) ≤ 281474976710656 ∧ (↑(List.length (x0.getD (Int.toNat 0) [])) : Int) ≤ 281474976710656) then (L_ref11_FromPlanes_0 fuel (x0, 0, List.replicate (↑(List.length (x0.getD (Int.toNat (0 : Int)) [])) : Int).toNat (0 : Int)) (fun (ret0_0, ret0_1) => k0 (ret0_0, ret0_1)) (fun b0_0 => k0 (0, b0_0))) else none else none
abbrev YF71 : Type := ((List LI)) → ((Int × LI) → Option Ans) → Option Ans
theorem F71_eq (fuel : Nat) (x0 : (List LI)) (k : Ev.Cont) : evalFn tab (G71 fuel) (J71 fuel) kp71 fuel Tryz.f71 [.c (.sl (.sl (.int .u8)) x0)] [] k = F_ref11_FromPlanes fuel x0 (fun r => match r with | (r0, r1) => k (.tup [(false, [.own 0]), (false, [i6 r0])], [.vec 3 (.int .i64) r1 true])) := by
  kernel_rfl
theorem hG71 (fuel : Nat) : GOK Tryz.prog (G71 fuel) :=
  gok_nil
theorem B71_2_blk (fuel : Nat) : BlkOK Tryz.prog Tryz.f71.ntmps (.block 2 (.loop (bodyOf 2 Tryz.f71))) (B71_2 fuel) := bo0 (hG71 fuel) (by kernel_rfl) (by kernel_rfl) (B71_2_ok fuel)
theorem B71_0_blk (fuel : Nat) : BlkOK Tryz.prog Tryz.f71.ntmps (.block 0 (.loop (bodyOf 0 Tryz.f71))) (B71_0 fuel) :=
  blk_of (blk_of_code tab_ok (hG71 fuel) mixed (J := J71_0 fuel) (kp := kp71) (fuel := fuel) (by kernel_rfl) (fun q hq => by
    rw [(by kernel_rfl : obl (J71_0 fuel) (.block 0 (.loop (bodyOf 0 Tryz.f71))) = [(.block 2 (.loop (bodyOf 2 Tryz.f71)), B71_2 fuel)])] at hq
    simp only [List.mem_cons, List.not_mem_nil, or_false] at hq
    subst hq
    · exact B71_2_blk fuel)) (B71_0_ok fuel)
def spg71 (F : YF71) : Ev.Spec := fun args objs k => match args, objs with | [.c (.sl (.sl (.int .u8)) x0)], [] => F x0 (fun r => match r with | (r0, r1) => k (.tup [(false, [.own 0]), (false, [i6 r0])], [.vec 3 (.int .i64) r1 true])) | _, _ => none
theorem ok71 (fuel : Nat) : FnOK Tryz.prog 71 (spg71 (F_ref11_FromPlanes fuel)) := by
  intro args objs kk r h
  unfold spg71 at h
  split at h
  · skip
    exact fo1 (hG71 fuel) Tryz.func71 rfl (B71_0_blk fuel) (by kernel_rfl) _ _ kk r ((F71_eq fuel _ kk).trans h)
  · cases h
def kp64 (i : Nat) : Option (List Nat) := Ev.look i []
def Gg64 (f : Nat) : Option Ev.Spec := Ev.look f []
def G64 (fuel : Nat) : Nat → Option Ev.Spec := Gg64
def F_ref11_isPlace (fuel : Nat) (x0 : Int) (k0 : (Bool) → Option Ans) : Option Ans := bif decide (x0 ≥ (-1048576 : Int)) then k0 (decide (x0 ≤ 1048576)) else k0 false
abbrev YF64 : Type := Int → (Bool → Option Ans) → Option Ans
theorem F64_eq (fuel : Nat) (x0 : Int) (k : Ev.Cont) : evalFn tab (G64 fuel) J0 kp64 fuel Tryz.f64 [.c (i6 x0)] [] k = F_ref11_isPlace fuel x0 (fun r => match r with | r0 => k (.c (.bool r0), [])) := by
  kernel_rfl
theorem hG64 (fuel : Nat) : GOK Tryz.prog (G64 fuel) :=
  gok_nil
def spg64 (F : YF64) : Ev.Spec := fun args objs k => match args, objs with | [.c (i6 x0)], [] => F x0 (fun r => match r with | r0 => k (.c (.bool r0), [])) | _, _ => none
theorem ok64 (fuel : Nat) : FnOK Tryz.prog 64 (spg64 (F_ref11_isPlace fuel)) := by
  intro args objs kk r h
  unfold spg64 at h
  split at h
  · skip
    exact fo0 (hG64 fuel) Tryz.func64 rfl (by kernel_rfl) _ _ kk r ((F64_eq fuel _ kk).trans h)
  · cases h
def kp17 (i : Nat) : Option (List Nat) := Ev.look i []
def Gg17 (f64 : YF64) (f : Nat) : Option Ev.Spec := Ev.look f [(64, spg64 f64)]
def G17 (fuel : Nat) : Nat → Option Ev.Spec := Gg17 (F_ref11_isPlace fuel)
def Fg_ref11_Valid (fuel : Nat) (f64 : YF64) (x0 x1 : Int) (x2 x3 : Int) (x4 x5 : Int) (x6 x7 : Int) (x8 : Bool) (x9 : Int) (k0 : (Bool) → OA) : OA := bif decide (x0 < 0) then k0 false else bif decide (x1 < 0) then k0 false else bif decide (x0 > 64) then k0 false else bif decide (x1 > 64) then k0 false else bif decide (i64.wrap (x0 * x1) > 8192) then k0 false else (f64 x2 (fun y7 => bif !y7 then k0 false else (f64 x3 (fun y12 => bif !y12 then k0 false else (f64 x4 (fun y17 => bif !y17 then k0 false else (f64 x5 (fun y22 => bif !y22 then k0 false else bif decide (x6 ≥ 0) then bif decide (x6 ≤ 3) then bif decide (x7 ≥ 0) then bif decide (x7 ≤ 1) then bif decide (x9 ≥ 0) then k0 (decide (x9 ≤ 4)) else k0 false else k0 false else k0 false else k0 false else k0 false))))))))
abbrev YF17 : Type := Int → Int → Int → Int → Int → Int → Int → Int → Bool → Int → (Bool → Option Ans) → Option Ans
def F_ref11_Valid (fuel : Nat) : YF17 := Fg_ref11_Valid fuel (F_ref11_isPlace fuel)
theorem F17_eqg (fuel : Nat) (f64 : YF64) (x0 x1 : Int) (x2 x3 : Int) (x4 x5 : Int) (x6 x7 : Int) (x8 : Bool) (x9 : Int) (k : Ev.Cont) : evalFn tab (Gg17 f64) J0 kp17 fuel Tryz.f17 [.agg [i6 x0, i6 x1, i6 x2, i6 x3, i6 x4, i6 x5, i6 x6, i6 x7, .bool x8, i6 x9]] [] k = Fg_ref11_Valid fuel f64 x0 x1 x2 x3 x4 x5 x6 x7 x8 x9 (fun r => match r with | r0 => k (.c (.bool r0), [])) := by
  kernel_rfl
theorem hG17 (fuel : Nat) : GOK Tryz.prog (G17 fuel) :=
  gc (ok64 fuel) Tryz.func64 (by kernel_rfl) rfl <|
  gok_nil
def spg17 (F : YF17) : Ev.Spec := fun args objs k => match args, objs with | [.agg [i6 x0, i6 x1, i6 x2, i6 x3, i6 x4, i6 x5, i6 x6, i6 x7, .bool x8, i6 x9]], [] => F x0 x1 x2 x3 x4 x5 x6 x7 x8 x9 (fun r => match r with | r0 => k (.c (.bool r0), [])) | _, _ => none
theorem ok17 (fuel : Nat) : FnOK Tryz.prog 17 (spg17 (F_ref11_Valid fuel)) := by
  intro args objs kk r h
  unfold spg17 at h
  split at h
  · skip
    exact fo0 (hG17 fuel) Tryz.func17 rfl (by kernel_rfl) _ _ kk r ((F17_eqg fuel (F_ref11_isPlace fuel) _ _ _ _ _ _ _ _ _ _ kk).trans h)
  · cases h
def kp152 (i : Nat) : Option (List Nat) := Ev.look i [(2, [0, 3]), (100000, []), (200004, [0]), (400000, [2])]
def Gg152 (f135 : YF135) (f : Nat) : Option Ev.Spec := Ev.look f [(135, spg135 f135)]
def G152 (fuel : Nat) : Nat → Option Ev.Spec := Gg152 (F_ref05_Valid fuel)
def Sg_ref11_bitmaps_0 (fuel : Nat) (f135 : YF135) (x0 : (List (Int × (Int × LI)))) (x1 : Int) (c : ((List (Int × (Int × LI))) × Int) → OA) (B : (Int → OA) × (Unit → OA)) : OA := match B with | (ret, b) => bif decide (x1 < (↑x0.length : Int)) then bif decide (0 ≤ x1 ∧ x1 < (↑x0.length : Int)) then (f135 ((x0.getD x1.toNat (0, 0, [])).fst) ((x0.getD x1.toNat (0, 0, [])).snd.fst) ((x0.getD x1.toNat (0, 0, [])).snd.snd) (fun y4 => bif !y4 then ret (30) else bif decide (0 ≤ x1 ∧ x1 < (↑x0.length : Int)) then bif decide ((0 : Int) ≤ (0 : Int) ∧ (0 : Int) < (↑x0.length : Int)) then bif (x0.getD x1.toNat (0, 0, [])).fst != (x0.getD (Int.toNat 0) (0, 0, [])).fst then ret (30) else bif decide (0 ≤ x1 ∧ x1 < (↑x0.length : Int)) then bif decide ((0 : Int) ≤ (0 : Int) ∧ (0 : Int) < (↑x0.length : Int)) then bif (x0.getD x1.toNat (0, 0, [])).snd.fst != (x0.getD (Int.toNat 0) (0, 0, [])).snd.fst then ret (30) else c (x0, i64.wrap (x1 + 1)) else none else none else none else none)) else none else b ()
def S_ref11_bitmaps_0 (fuel : Nat) (v : (List (Int × (Int × (List Int)))) × Int) (c : ((List (Int × (Int × (List Int)))) × Int) → Option Ans) (B : (Int → Option Ans) × (Unit → Option Ans)) : Option Ans := match v with | (x0, x1) => Sg_ref11_bitmaps_0 fuel (F_ref05_Valid fuel) x0 x1 c B
def L_ref11_bitmaps_0 (fuel : Nat) (v : (List (Int × (Int × (List Int)))) × Int) (ret : (Int → Option Ans)) (b : (Unit → Option Ans)) : Option Ans := iter (S_ref11_bitmaps_0 fuel) fuel v (ret, b)
def T152_0 (v : (List (Int × (Int × LI))) × Int) : Ev.St := match v with | (x0, x1) => ⟨[(0, .c (.sl (.pair (.int .i64) (.pair (.int .i64) (.sl (.int .u8)))) x0)), (3, .c (i6 x1))], [], 0, 0⟩
def E152_0 (K : KT) : (Int → OA) × (Unit → OA) := ((fun v => match v with | x0 => K .ret ⟨[(2, .c (i6 x0))], [], 0, 0⟩), (fun v => match v with | () => K .normal ⟨[], [], 0, 0⟩))
theorem S152_0_okg (fuel : Nat) (f135 : YF135) (R : Ev.St → OA) (K : KT) (x0 : (List (Int × (Int × LI)))) (x1 : Int) : evalCode tab (Gg152 f135) J0 kp152 fuel (bodyOf 0 Tryz.f152) (T152_0 (x0, x1)) (lc kp152 2 0 R K) = Sg_ref11_bitmaps_0 fuel f135 x0 x1 (fun v => R (T152_0 v)) (E152_0 K) := by
  kernel_rfl
def B152_0 (fuel : Nat) : Ev.Blk := fun st K => match canonO (kp152 2) st with | some s => (match s with | ⟨[(q0, .c (.sl (.pair (.int .i64) (.pair (.int .i64) (.sl (.int .u8)))) x0)), (q1, .c (i6 x1))], [], q2, q3⟩ => bif qb [q0, q1, q2, q3] [0, 3, 0, 0] then iter (S_ref11_bitmaps_0 fuel) fuel (x0, x1) (E152_0 K) else none | _ => none) | none => none
theorem B152_0_ok (fuel : Nat) (st : Ev.St) (K : KT) (r : Ans) (h : B152_0 fuel st K = some r) : evalCode tab (G152 fuel) J0 kp152 fuel (.block 0 (.loop (bodyOf 0 Tryz.f152))) st K = some r := by
  unfold B152_0 at h
  split at h
  · rename_i s hs
    split at h
    · skip
      obtain ⟨hb, h⟩ := cond_some' h
      cases qb_eq hb
      exact blk_loop (S := T152_0) (ks := E152_0) (step := S_ref11_bitmaps_0 fuel) (v := (_, _)) (by kernel_rfl) (by kernel_rfl) (fun R K v => by obtain ⟨x0, x1⟩ := v; exact S152_0_okg fuel (F_ref05_Valid fuel) R K x0 x1) hs h
    · cases h
  · cases h
def J152 (fuel : Nat) (i : Nat) : Option Ev.Blk := Ev.look i [(100000, B152_0 fuel)]
def Fg_ref11_bitmaps (fuel : Nat) (f135 : YF135) (x0 : (List (Int × Int × LI))) (k0 : (Int) → OA) : OA := (L_ref11_bitmaps_0 fuel (x0, 0) (fun ret0_0 => k0 ret0_0) (fun () => k0 (0)))
abbrev YF152 : Type := ((List (Int × Int × LI))) → (Int → Option Ans) → Option Ans
def F_ref11_bitmaps (fuel : Nat) : YF152 := Fg_ref11_bitmaps fuel (F_ref05_Valid fuel)
theorem F152_eqg (fuel : Nat) (f135 : YF135) (x0 : (List (Int × Int × LI))) (k : Ev.Cont) : evalFn tab (Gg152 f135) (J152 fuel) kp152 fuel Tryz.f152 [.c (.sl (.pair (.int .i64) (.pair (.int .i64) (.sl (.int .u8)))) x0)] [] k = Fg_ref11_bitmaps fuel f135 x0 (fun r => match r with | r0 => k (.c (i6 r0), [])) := by
  kernel_rfl
theorem hG152 (fuel : Nat) : GOK Tryz.prog (G152 fuel) :=
  gc (ok135 fuel) Tryz.func135 (by kernel_rfl) rfl <|
  gok_nil
theorem B152_0_blk (fuel : Nat) : BlkOK Tryz.prog Tryz.f152.ntmps (.block 0 (.loop (bodyOf 0 Tryz.f152))) (B152_0 fuel) := bo0 (hG152 fuel) (by kernel_rfl) (by kernel_rfl) (B152_0_ok fuel)
def spg152 (F : YF152) : Ev.Spec := fun args objs k => match args, objs with | [.c (.sl (.pair (.int .i64) (.pair (.int .i64) (.sl (.int .u8)))) x0)], [] => F x0 (fun r => match r with | r0 => k (.c (i6 r0), [])) | _, _ => none
theorem ok152 (fuel : Nat) : FnOK Tryz.prog 152 (spg152 (F_ref11_bitmaps fuel)) := by
  intro args objs kk r h
  unfold spg152 at h
  split at h
  · skip
    exact fo1 (hG152 fuel) Tryz.func152 rfl (B152_0_blk fuel) (by kernel_rfl) _ _ kk r ((F152_eqg fuel (F_ref05_Valid fuel) _ kk).trans h)
  · cases h
def kp224 (i : Nat) : Option (List Nat) := Ev.look i []
def Gg224 (f153 : YF153) (f : Nat) : Option Ev.Spec := Ev.look f [(153, spg153 f153)]
def G224 (fuel : Nat) : Nat → Option Ev.Spec := Gg224 (F_ref05_Sides fuel)
def Fg_ref11_isSides (fuel : Nat) (f153 : YF153) (x0 x1 x2 : Int) (k0 : (Bool) → OA) : OA := bif decide (x0 ≥ 1) then bif decide (x0 ≤ 64) then bif decide (x1 ≥ 1) then bif decide (x2 ≥ 1) then bif decide (x1 ≤ 16) then bif decide (x2 ≤ 16) then (f153 (i64.wrap (x0 * x1)) x2 (fun y8 => k0 y8)) else k0 false else k0 false else k0 false else k0 false else k0 false else k0 false
abbrev YF224 : Type := Int → Int → Int → (Bool → Option Ans) → Option Ans
def F_ref11_isSides (fuel : Nat) : YF224 := Fg_ref11_isSides fuel (F_ref05_Sides fuel)
theorem F224_eqg (fuel : Nat) (f153 : YF153) (x0 x1 x2 : Int) (k : Ev.Cont) : evalFn tab (Gg224 f153) J0 kp224 fuel Tryz.f224 [.c (i6 x0), .c (i6 x1), .c (i6 x2)] [] k = Fg_ref11_isSides fuel f153 x0 x1 x2 (fun r => match r with | r0 => k (.c (.bool r0), [])) := by
  kernel_rfl
theorem hG224 (fuel : Nat) : GOK Tryz.prog (G224 fuel) :=
  gc (ok153 fuel) Tryz.func153 (by kernel_rfl) rfl <|
  gok_nil
def spg224 (F : YF224) : Ev.Spec := fun args objs k => match args, objs with | [.c (i6 x0), .c (i6 x1), .c (i6 x2)], [] => F x0 x1 x2 (fun r => match r with | r0 => k (.c (.bool r0), [])) | _, _ => none
theorem ok224 (fuel : Nat) : FnOK Tryz.prog 224 (spg224 (F_ref11_isSides fuel)) := by
  intro args objs kk r h
  unfold spg224 at h
  split at h
  · skip
    exact fo0 (hG224 fuel) Tryz.func224 rfl (by kernel_rfl) _ _ kk r ((F224_eqg fuel (F_ref05_Sides fuel) _ _ _ kk).trans h)
  · cases h
def kp154 (i : Nat) : Option (List Nat) := Ev.look i []
def Gg154 (f224 : YF224) (f : Nat) : Option Ev.Spec := Ev.look f [(224, spg224 f224)]
def G154 (fuel : Nat) : Nat → Option Ev.Spec := Gg154 (F_ref11_isSides fuel)
def Fg_ref11_patterns (fuel : Nat) (f224 : YF224) (x0 : (List (Int × Int × LI))) (k0 : (Int) → OA) : OA := bif (↑x0.length : Int) == 0 then k0 (2) else bif decide ((0 : Int) ≤ (0 : Int) ∧ (0 : Int) < (↑x0.length : Int)) then bif decide ((0 : Int) ≤ (0 : Int) ∧ (0 : Int) < (↑x0.length : Int)) then (f224 ((↑x0.length : Int)) ((x0.getD (Int.toNat 0) (0, 0, [])).fst) ((x0.getD (Int.toNat 0) (0, 0, [])).snd.fst) (fun y5 => bif !y5 then k0 (2) else k0 (0))) else none else none
abbrev YF154 : Type := ((List (Int × Int × LI))) → (Int → Option Ans) → Option Ans
def F_ref11_patterns (fuel : Nat) : YF154 := Fg_ref11_patterns fuel (F_ref11_isSides fuel)
theorem F154_eqg (fuel : Nat) (f224 : YF224) (x0 : (List (Int × Int × LI))) (k : Ev.Cont) : evalFn tab (Gg154 f224) J0 kp154 fuel Tryz.f154 [.c (.sl (.pair (.int .i64) (.pair (.int .i64) (.sl (.int .u8)))) x0)] [] k = Fg_ref11_patterns fuel f224 x0 (fun r => match r with | r0 => k (.c (i6 r0), [])) := by
  kernel_rfl
theorem hG154 (fuel : Nat) : GOK Tryz.prog (G154 fuel) :=
  gc (ok224 fuel) Tryz.func224 (by kernel_rfl) rfl <|
  gok_nil
def spg154 (F : YF154) : Ev.Spec := fun args objs k => match args, objs with | [.c (.sl (.pair (.int .i64) (.pair (.int .i64) (.sl (.int .u8)))) x0)], [] => F x0 (fun r => match r with | r0 => k (.c (i6 r0), [])) | _, _ => none
theorem ok154 (fuel : Nat) : FnOK Tryz.prog 154 (spg154 (F_ref11_patterns fuel)) := by
  intro args objs kk r h
  unfold spg154 at h
  split at h
  · skip
    exact fo0 (hG154 fuel) Tryz.func154 rfl (by kernel_rfl) _ _ kk r ((F154_eqg fuel (F_ref11_isSides fuel) _ kk).trans h)
  · cases h
def kp68 (i : Nat) : Option (List Nat) := Ev.look i []
def Gg68 (f17 : YF17) (f152 : YF152) (f153 : YF153) (f154 : YF154) (f : Nat) : Option Ev.Spec := Ev.look f [(17, spg17 f17), (152, spg152 f152), (153, spg153 f153), (154, spg154 f154)]
def G68 (fuel : Nat) : Nat → Option Ev.Spec := Gg68 (F_ref11_Valid fuel) (F_ref11_bitmaps fuel) (F_ref05_Sides fuel) (F_ref11_patterns fuel)
def Fg_ref11_asked (fuel : Nat) (f17 : YF17) (f152 : YF152) (f153 : YF153) (f154 : YF154) (x0 x1 : Int) (x2 x3 : Int) (x4 x5 : Int) (x6 x7 : Int) (x8 : Bool) (x9 : Int) (x10 : (List (Int × Int × LI))) (x11 x12 : Int) (k0 : (Int) → OA) : OA := (f17 x0 x1 x2 x3 x4 x5 x6 x7 x8 x9 (fun y2 => bif !y2 then k0 (2) else (f152 x10 (fun y7 => bif y7 != 0 then k0 (30) else (f153 x11 x12 (fun y12 => bif !y12 then k0 (30) else (f154 x10 (fun y17 => k0 y17))))))))
abbrev YF68 : Type := Int → Int → Int → Int → Int → Int → Int → Int → Bool → Int → ((List (Int × Int × LI))) → Int → Int → (Int → Option Ans) → Option Ans
def F_ref11_asked (fuel : Nat) : YF68 := Fg_ref11_asked fuel (F_ref11_Valid fuel) (F_ref11_bitmaps fuel) (F_ref05_Sides fuel) (F_ref11_patterns fuel)
theorem F68_eqg (fuel : Nat) (f17 : YF17) (f152 : YF152) (f153 : YF153) (f154 : YF154) (x0 x1 : Int) (x2 x3 : Int) (x4 x5 : Int) (x6 x7 : Int) (x8 : Bool) (x9 : Int) (x10 : (List (Int × Int × LI))) (x11 x12 : Int) (k : Ev.Cont) : evalFn tab (Gg68 f17 f152 f153 f154) J0 kp68 fuel Tryz.f68 [.agg [i6 x0, i6 x1, i6 x2, i6 x3, i6 x4, i6 x5, i6 x6, i6 x7, .bool x8, i6 x9], .c (.sl (.pair (.int .i64) (.pair (.int .i64) (.sl (.int .u8)))) x10), .c (i6 x11), .c (i6 x12)] [] k = Fg_ref11_asked fuel f17 f152 f153 f154 x0 x1 x2 x3 x4 x5 x6 x7 x8 x9 x10 x11 x12 (fun r => match r with | r0 => k (.c (i6 r0), [])) := by
  kernel_rfl
theorem hG68 (fuel : Nat) : GOK Tryz.prog (G68 fuel) :=
  gc (ok17 fuel) Tryz.func17 (by kernel_rfl) rfl <|
  gc (ok152 fuel) Tryz.func152 (by kernel_rfl) rfl <|
  gc (ok153 fuel) Tryz.func153 (by kernel_rfl) rfl <|
  gc (ok154 fuel) Tryz.func154 (by kernel_rfl) rfl <|
  gok_nil
def spg68 (F : YF68) : Ev.Spec := fun args objs k => match args, objs with | [.agg [i6 x0, i6 x1, i6 x2, i6 x3, i6 x4, i6 x5, i6 x6, i6 x7, .bool x8, i6 x9], .c (.sl (.pair (.int .i64) (.pair (.int .i64) (.sl (.int .u8)))) x10), .c (i6 x11), .c (i6 x12)], [] => F x0 x1 x2 x3 x4 x5 x6 x7 x8 x9 x10 x11 x12 (fun r => match r with | r0 => k (.c (i6 r0), [])) | _, _ => none
theorem ok68 (fuel : Nat) : FnOK Tryz.prog 68 (spg68 (F_ref11_asked fuel)) := by
  intro args objs kk r h
  unfold spg68 at h
  split at h
  · skip
    exact fo0 (hG68 fuel) Tryz.func68 rfl (by kernel_rfl) _ _ kk r ((F68_eqg fuel (F_ref11_Valid fuel) (F_ref11_bitmaps fuel) (F_ref05_Sides fuel) (F_ref11_patterns fuel) _ _ _ _ _ _ _ _ _ _ _ _ _ kk).trans h)
  · cases h
def kp129 (i : Nat) : Option (List Nat) := Ev.look i []
def Gg129 (f : Nat) : Option Ev.Spec := Ev.look f []
def G129 (fuel : Nat) : Nat → Option Ev.Spec := Gg129
def F_ref07_Usual (fuel : Nat) (x0 : Int) (k0 : (Int × Int × Int × Bool × Int × Int) → Option Ans) : Option Ans := bif decide (x0 < 0) then k0 (0, 0, 0, false, 0, 2) else bif decide (x0 > 3) then k0 (0, 0, 0, false, 0, 2) else k0 (x0, i64.wrap (3 - x0.tmod 2), (-1 : Int), true, 0, 0)
abbrev YF129 : Type := Int → ((Int × Int × Int × Bool × Int × Int) → Option Ans) → Option Ans
theorem F129_eq (fuel : Nat) (x0 : Int) (k : Ev.Cont) : evalFn tab (G129 fuel) J0 kp129 fuel Tryz.f129 [.c (i6 x0)] [] k = F_ref07_Usual fuel x0 (fun r => match r with | (r0, r1, r2, r3, r4, r5) => k (.tup [(true, [i6 r0, i6 r1, i6 r2, .bool r3, i6 r4]), (false, [i6 r5])], [])) := by
  kernel_rfl
theorem hG129 (fuel : Nat) : GOK Tryz.prog (G129 fuel) :=
  gok_nil
def spg129 (F : YF129) : Ev.Spec := fun args objs k => match args, objs with | [.c (i6 x0)], [] => F x0 (fun r => match r with | (r0, r1, r2, r3, r4, r5) => k (.tup [(true, [i6 r0, i6 r1, i6 r2, .bool r3, i6 r4]), (false, [i6 r5])], [])) | _, _ => none
theorem ok129 (fuel : Nat) : FnOK Tryz.prog 129 (spg129 (F_ref07_Usual fuel)) := by
  intro args objs kk r h
  unfold spg129 at h
  split at h
  · skip
    exact fo0 (hG129 fuel) Tryz.func129 rfl (by kernel_rfl) _ _ kk r ((F129_eq fuel _ kk).trans h)
  · cases h
def kp54 (i : Nat) : Option (List Nat) := Ev.look i [(200002, [1])]
def Gg54 (f129 : YF129) (f : Nat) : Option Ev.Spec := Ev.look f [(129, spg129 f129)]
def G54 (fuel : Nat) : Nat → Option Ev.Spec := Gg54 (F_ref07_Usual fuel)
def Fg_ref11_options (fuel : Nat) (f129 : YF129) (x0 x1 : Int) (x2 x3 : Int) (x4 x5 : Int) (x6 x7 : Int) (x8 : Bool) (x9 : Int) (k0 : (Int × Int × Int × Bool × Int) → OA) : OA := (f129 x6 (fun (y2_0, y2_1, y2_2, y2_3, y2_4, y2_5) => k0 (y2_0, y2_1, y2_2, false, x7)))
abbrev YF54 : Type := Int → Int → Int → Int → Int → Int → Int → Int → Bool → Int → ((Int × Int × Int × Bool × Int) → Option Ans) → Option Ans
def F_ref11_options (fuel : Nat) : YF54 := Fg_ref11_options fuel (F_ref07_Usual fuel)
theorem F54_eqg (fuel : Nat) (f129 : YF129) (x0 x1 : Int) (x2 x3 : Int) (x4 x5 : Int) (x6 x7 : Int) (x8 : Bool) (x9 : Int) (k : Ev.Cont) : evalFn tab (Gg54 f129) J0 kp54 fuel Tryz.f54 [.agg [i6 x0, i6 x1, i6 x2, i6 x3, i6 x4, i6 x5, i6 x6, i6 x7, .bool x8, i6 x9]] [] k = Fg_ref11_options fuel f129 x0 x1 x2 x3 x4 x5 x6 x7 x8 x9 (fun r => match r with | (r0, r1, r2, r3, r4) => k (.agg [i6 r0, i6 r1, i6 r2, .bool r3, i6 r4], [])) := by
  kernel_rfl
theorem hG54 (fuel : Nat) : GOK Tryz.prog (G54 fuel) :=
  gc (ok129 fuel) Tryz.func129 (by kernel_rfl) rfl <|
  gok_nil
def spg54 (F : YF54) : Ev.Spec := fun args objs k => match args, objs with | [.agg [i6 x0, i6 x1, i6 x2, i6 x3, i6 x4, i6 x5, i6 x6, i6 x7, .bool x8, i6 x9]], [] => F x0 x1 x2 x3 x4 x5 x6 x7 x8 x9 (fun r => match r with | (r0, r1, r2, r3, r4) => k (.agg [i6 r0, i6 r1, i6 r2, .bool r3, i6 r4], [])) | _, _ => none
theorem ok54 (fuel : Nat) : FnOK Tryz.prog 54 (spg54 (F_ref11_options fuel)) := by
  intro args objs kk r h
  unfold spg54 at h
  split at h
  · skip
    exact fo0 (hG54 fuel) Tryz.func54 rfl (by kernel_rfl) _ _ kk r ((F54_eqg fuel (F_ref07_Usual fuel) _ _ _ _ _ _ _ _ _ _ kk).trans h)
  · cases h
def kp221 (i : Nat) : Option (List Nat) := Ev.look i []
def Gg221 (f : Nat) : Option Ev.Spec := Ev.look f []
def G221 (fuel : Nat) : Nat → Option Ev.Spec := Gg221
def F_ref11_down (fuel : Nat) (x0 : Int) (k0 : (Int) → Option Ans) : Option Ans := k0 (Ev.ishr IntKind.i64 x0 8)
abbrev YF221 : Type := Int → (Int → Option Ans) → Option Ans
theorem F221_eq (fuel : Nat) (x0 : Int) (k : Ev.Cont) : evalFn tab (G221 fuel) J0 kp221 fuel Tryz.f221 [.c (i6 x0)] [] k = F_ref11_down fuel x0 (fun r => match r with | r0 => k (.c (i6 r0), [])) := by
  kernel_rfl
theorem hG221 (fuel : Nat) : GOK Tryz.prog (G221 fuel) :=
  gok_nil
def spg221 (F : YF221) : Ev.Spec := fun args objs k => match args, objs with | [.c (i6 x0)], [] => F x0 (fun r => match r with | r0 => k (.c (i6 r0), [])) | _, _ => none
theorem ok221 (fuel : Nat) : FnOK Tryz.prog 221 (spg221 (F_ref11_down fuel)) := by
  intro args objs kk r h
  unfold spg221 at h
  split at h
  · skip
    exact fo0 (hG221 fuel) Tryz.func221 rfl (by kernel_rfl) _ _ kk r ((F221_eq fuel _ kk).trans h)
  · cases h
def kp142 (i : Nat) : Option (List Nat) := Ev.look i [(200001, [3])]
def Gg142 (f221 : YF221) (f : Nat) : Option Ev.Spec := Ev.look f [(221, spg221 f221)]
def G142 (fuel : Nat) : Nat → Option Ev.Spec := Gg142 (F_ref11_down fuel)
def Fg_ref11_cell (fuel : Nat) (f221 : YF221) (x0 x1 : Int) (x2 x3 : Int) (x4 x5 : Int) (x6 x7 : Int) (x8 : Bool) (x9 x10 x11 : Int) (k0 : (Int × Int) → OA) : OA := (f221 (i64.wrap (i64.wrap (x2 + i64.wrap (x10 * x5)) + i64.wrap (x11 * x4))) (fun y2 => (f221 (i64.wrap (i64.wrap (x3 + i64.wrap (x10 * x4)) - i64.wrap (x11 * x5))) (fun y6 => k0 (y2, y6)))))
abbrev YF142 : Type := Int → Int → Int → Int → Int → Int → Int → Int → Bool → Int → Int → Int → ((Int × Int) → Option Ans) → Option Ans
def F_ref11_cell (fuel : Nat) : YF142 := Fg_ref11_cell fuel (F_ref11_down fuel)
theorem F142_eqg (fuel : Nat) (f221 : YF221) (x0 x1 : Int) (x2 x3 : Int) (x4 x5 : Int) (x6 x7 : Int) (x8 : Bool) (x9 x10 x11 : Int) (k : Ev.Cont) : evalFn tab (Gg142 f221) J0 kp142 fuel Tryz.f142 [.agg [i6 x0, i6 x1, i6 x2, i6 x3, i6 x4, i6 x5, i6 x6, i6 x7, .bool x8, i6 x9], .c (i6 x10), .c (i6 x11)] [] k = Fg_ref11_cell fuel f221 x0 x1 x2 x3 x4 x5 x6 x7 x8 x9 x10 x11 (fun r => match r with | (r0, r1) => k (.tup [(false, [i6 r0]), (false, [i6 r1])], [])) := by
  kernel_rfl
theorem hG142 (fuel : Nat) : GOK Tryz.prog (G142 fuel) :=
  gc (ok221 fuel) Tryz.func221 (by kernel_rfl) rfl <|
  gok_nil
def spg142 (F : YF142) : Ev.Spec := fun args objs k => match args, objs with | [.agg [i6 x0, i6 x1, i6 x2, i6 x3, i6 x4, i6 x5, i6 x6, i6 x7, .bool x8, i6 x9], .c (i6 x10), .c (i6 x11)], [] => F x0 x1 x2 x3 x4 x5 x6 x7 x8 x9 x10 x11 (fun r => match r with | (r0, r1) => k (.tup [(false, [i6 r0]), (false, [i6 r1])], [])) | _, _ => none
theorem ok142 (fuel : Nat) : FnOK Tryz.prog 142 (spg142 (F_ref11_cell fuel)) := by
  intro args objs kk r h
  unfold spg142 at h
  split at h
  · skip
    exact fo0 (hG142 fuel) Tryz.func142 rfl (by kernel_rfl) _ _ kk r ((F142_eqg fuel (F_ref11_down fuel) _ _ _ _ _ _ _ _ _ _ _ _ kk).trans h)
  · cases h
def kp61 (i : Nat) : Option (List Nat) := Ev.look i [(3, [1, 2, 3, 4, 8, 9, 11]), (6, [1, 2, 3, 4, 8, 9, 11, 12]), (100000, [8, 9]), (100002, [1, 2, 3, 4, 8, 9, 11]), (400000, [8]), (400002, [8])]
def Gg61 (f141 : YF141) (f142 : YF142) (f143_a2e : YF143_a2e) (f : Nat) : Option Ev.Spec := Ev.look f [(141, spg141 f141), (142, spg142 f142), (1000143, spg143_a2e f143_a2e)]
def G61 (fuel : Nat) : Nat → Option Ev.Spec := Gg61 (F_ref05_New fuel) (F_ref11_cell fuel) (F_ref05_Put_a2e fuel)
abbrev V_ref11_skipped_2 : Type := (List (Int × (Int × LI))) × Int × Int × Int × Int × Int × Int × Int × Int × Int × Int × Int × Int × Bool × Int × Int × Int × Int × Int × LI × LI
abbrev W_ref11_skipped_2 : Type := ((List (Int × (Int × LI))) × Int × Int × Int × Int × Int × Int × Int × Int × Int × Int × Int × Bool × Int × Int × Int × Int × Int × LI × LI → OA)
def Sg_ref11_skipped_2 (fuel : Nat) (f141 : YF141) (f142 : YF142) (f143_a2e : YF143_a2e) (x0 : (List (Int × (Int × LI)))) (x1 x2 : Int) (x3 x4 : Int) (x5 x6 : Int) (x7 x8 : Int) (x9 x10 : Int) (x11 x12 : Int) (x13 : Bool) (x14 x15 : Int) (x16 x17 x18 : Int) (x19 x20 : LI) (c : V_ref11_skipped_2 → OA) (B : W_ref11_skipped_2) : OA := match B with | b => bif decide (x4 < x5) then (f142 x5 x6 x7 x8 x9 x10 x11 x12 x13 x14 x3 x4 (fun (y3_0, y3_1) => bif x13 then bif decide ((0 : Int) ≤ (0 : Int) ∧ (0 : Int) < (↑x0.length : Int)) then bif decide (i64.wrap (y3_0 + (x0.getD (Int.toNat 0) (0, 0, [])).fst) ≤ 0) then (f143_a2e x17 x18 x4 x3 (1) x20 (fun y10 => c (x0, x1, x2, x3, i64.wrap (x4 + 1), x5, x6, x7, x8, x9, x10, x11, x12, x13, x14, x15, x16, x17, x18, x19, y10))) else bif decide ((0 : Int) ≤ (0 : Int) ∧ (0 : Int) < (↑x0.length : Int)) then bif decide (i64.wrap (y3_1 + (x0.getD (Int.toNat 0) (0, 0, [])).snd.fst) ≤ 0) then (f143_a2e x17 x18 x4 x3 (1) x20 (fun y12 => c (x0, x1, x2, x3, i64.wrap (x4 + 1), x5, x6, x7, x8, x9, x10, x11, x12, x13, x14, x15, x16, x17, x18, x19, y12))) else bif decide (y3_0 ≥ x1) then (f143_a2e x17 x18 x4 x3 (1) x20 (fun y13 => c (x0, x1, x2, x3, i64.wrap (x4 + 1), x5, x6, x7, x8, x9, x10, x11, x12, x13, x14, x15, x16, x17, x18, x19, y13))) else bif decide (y3_1 ≥ x2) then (f143_a2e x17 x18 x4 x3 (1) x20 (fun y14 => c (x0, x1, x2, x3, i64.wrap (x4 + 1), x5, x6, x7, x8, x9, x10, x11, x12, x13, x14, x15, x16, x17, x18, x19, y14))) else c (x0, x1, x2, x3, i64.wrap (x4 + 1), x5, x6, x7, x8, x9, x10, x11, x12, x13, x14, x15, x16, x17, x18, x19, x20) else none else none else c (x0, x1, x2, x3, i64.wrap (x4 + 1), x5, x6, x7, x8, x9, x10, x11, x12, x13, x14, x15, x16, x17, x18, x19, x20))) else b (x0, x1, x2, x3, x5, x6, x7, x8, x9, x10, x11, x12, x13, x14, x15, x16, x17, x18, x19, x20)
def S_ref11_skipped_2 (fuel : Nat) (v : (List (Int × (Int × (List Int)))) × Int × Int × Int × Int × Int × Int × Int × Int × Int × Int × Int × Int × Bool × Int × Int × Int × Int × Int × (List Int) × (List Int)) (c : ((List (Int × (Int × (List Int)))) × Int × Int × Int × Int × Int × Int × Int × Int × Int × Int × Int × Int × Bool × Int × Int × Int × Int × Int × (List Int) × (List Int)) → Option Ans) (B : ((List (Int × (Int × (List Int)))) × Int × Int × Int × Int × Int × Int × Int × Int × Int × Int × Int × Bool × Int × Int × Int × Int × Int × (List Int) × (List Int) → Option Ans)) : Option Ans := match v with | (x0, x1, x2, x3, x4, x5, x6, x7, x8, x9, x10, x11, x12, x13, x14, x15, x16, x17, x18, x19, x20) => Sg_ref11_skipped_2 fuel (F_ref05_New fuel) (F_ref11_cell fuel) (F_ref05_Put_a2e fuel) x0 x1 x2 x3 x4 x5 x6 x7 x8 x9 x10 x11 x12 x13 x14 x15 x16 x17 x18 x19 x20 c B
def L_ref11_skipped_2 (fuel : Nat) (v : V_ref11_skipped_2) (b : W_ref11_skipped_2) : Option Ans := iter (S_ref11_skipped_2 fuel) fuel v b
def T61_2 (v : V_ref11_skipped_2) : Ev.St := match v with | (x0, x1, x2, x3, x4, x5, x6, x7, x8, x9, x10, x11, x12, x13, x14, x15, x16, x17, x18, x19, x20) => ⟨[(1, .c (.sl (.pair (.int .i64) (.pair (.int .i64) (.sl (.int .u8)))) x0)), (2, .c (i6 x1)), (3, .c (i6 x2)), (4, .c (.ptr 0 0)), (8, .c (.ptr 1 0)), (9, .c (.ptr 2 0)), (11, .c (i6 x3)), (12, .c (i6 x4))], [(0, .cells 23 [i6 x5, i6 x6, i6 x7, i6 x8, i6 x9, i6 x10, i6 x11, i6 x12, .bool x13, i6 x14]), (1, .cells 51 [i6 x15, i6 x16, .own 3]), (2, .cells 51 [i6 x17, i6 x18, .own 4]), (3, .vec 5 (.int .u8) x19 true), (4, .vec 5 (.int .u8) x20 true)], 5, 0⟩
def E61_2 (K : KT) : W_ref11_skipped_2 := (fun v => match v with | (x0, x1, x2, x3, x4, x5, x6, x7, x8, x9, x10, x11, x12, x13, x14, x15, x16, x17, x18, x19) => K .normal ⟨[(1, .c (.sl (.pair (.int .i64) (.pair (.int .i64) (.sl (.int .u8)))) x0)), (2, .c (i6 x1)), (3, .c (i6 x2)), (4, .c (.ptr 0 0)), (8, .c (.ptr 1 0)), (9, .c (.ptr 2 0)), (11, .c (i6 x3))], [(0, .cells 23 [i6 x4, i6 x5, i6 x6, i6 x7, i6 x8, i6 x9, i6 x10, i6 x11, .bool x12, i6 x13]), (1, .cells 51 [i6 x14, i6 x15, .own 3]), (2, .cells 51 [i6 x16, i6 x17, .own 4]), (3, .vec 5 (.int .u8) x18 true), (4, .vec 5 (.int .u8) x19 true)], 5, 0⟩)
theorem S61_2_okg (fuel : Nat) (f141 : YF141) (f142 : YF142) (f143_a2e : YF143_a2e) (R : Ev.St → OA) (K : KT) (x0 : (List (Int × (Int × LI)))) (x1 x2 : Int) (x3 x4 : Int) (x5 x6 : Int) (x7 x8 : Int) (x9 x10 : Int) (x11 x12 : Int) (x13 : Bool) (x14 x15 : Int) (x16 x17 x18 : Int) (x19 x20 : LI) : evalCode tab (Gg61 f141 f142 f143_a2e) J0 kp61 fuel (bodyOf 2 Tryz.f61) (T61_2 (x0, x1, x2, x3, x4, x5, x6, x7, x8, x9, x10, x11, x12, x13, x14, x15, x16, x17, x18, x19, x20)) (lc kp61 6 2 R K) = Sg_ref11_skipped_2 fuel f141 f142 f143_a2e x0 x1 x2 x3 x4 x5 x6 x7 x8 x9 x10 x11 x12 x13 x14 x15 x16 x17 x18 x19 x20 (fun v => R (T61_2 v)) (E61_2 K) := by
  kernel_rfl
def B61_2 (fuel : Nat) : Ev.Blk := fun st K => match canonO (kp61 6) st with | some s => (match s with | ⟨[(q0, .c (.sl (.pair (.int .i64) (.pair (.int .i64) (.sl (.int .u8)))) x0)), (q1, .c (i6 x1)), (q2, .c (i6 x2)), (q3, .c (.ptr q4 q5)), (q6, .c (.ptr q7 q8)), (q9, .c (.ptr q10 q11)), (q12, .c (i6 x3)), (q13, .c (i6 x4))], [(q14, .cells q15 [i6 x5, i6 x6, i6 x7, i6 x8, i6 x9, i6 x10, i6 x11, i6 x12, .bool x13, i6 x14]), (q16, .cells q17 [i6 x15, i6 x16, .own q18]), (q19, .cells q20 [i6 x17, i6 x18, .own q21]), (q22, .vec q23 (.int .u8) x19 true), (q24, .vec q25 (.int .u8) x20 true)], q26, q27⟩ => bif qb [q0, q1, q2, q3, q4, q5, q6, q7, q8, q9, q10, q11, q12, q13, q14, q15, q16, q17, q18, q19, q20, q21, q22, q23, q24, q25, q26, q27] [1, 2, 3, 4, 0, 0, 8, 1, 0, 9, 2, 0, 11, 12, 0, 23, 1, 51, 3, 2, 51, 4, 3, 5, 4, 5, 5, 0] then iter (S_ref11_skipped_2 fuel) fuel (x0, x1, x2, x3, x4, x5, x6, x7, x8, x9, x10, x11, x12, x13, x14, x15, x16, x17, x18, x19, x20) (E61_2 K) else none | _ => none) | none => none
theorem B61_2_ok (fuel : Nat) (st : Ev.St) (K : KT) (r : Ans) (h : B61_2 fuel st K = some r) : evalCode tab (G61 fuel) J0 kp61 fuel (.block 2 (.loop (bodyOf 2 Tryz.f61))) st K = some r := by
  unfold B61_2 at h
  split at h
  · rename_i s hs
    split at h
    · skip
      obtain ⟨hb, h⟩ := cond_some' h
      cases qb_eq hb
      exact blk_loop (S := T61_2) (ks := E61_2) (step := S_ref11_skipped_2 fuel) (v := (_, _, _, _, _, _, _, _, _, _, _, _, _, _, _, _, _, _, _, _, _)) (by kernel_rfl) (by kernel_rfl) (fun R K v => by obtain ⟨x0, x1, x2, x3, x4, x5, x6, x7, x8, x9, x10, x11, x12, x13, x14, x15, x16, x17, x18, x19, x20⟩ := v; exact S61_2_okg fuel (F_ref05_New fuel) (F_ref11_cell fuel) (F_ref05_Put_a2e fuel) R K x0 x1 x2 x3 x4 x5 x6 x7 x8 x9 x10 x11 x12 x13 x14 x15 x16 x17 x18 x19 x20) hs h
    · cases h
  · cases h
abbrev V_ref11_skipped_0 : Type := (List (Int × (Int × LI))) × Int × Int × Int × Int × Int × Int × Int × Int × Int × Int × Int × Bool × Int × Int × Int × Int × Int × LI × LI
abbrev W_ref11_skipped_0 : Type := (Int × Int × Int × Int × LI × LI → OA)
def Sg_ref11_skipped_0 (fuel : Nat) (f141 : YF141) (f142 : YF142) (f143_a2e : YF143_a2e) (x0 : (List (Int × (Int × LI)))) (x1 x2 : Int) (x3 x4 : Int) (x5 x6 : Int) (x7 x8 : Int) (x9 x10 x11 : Int) (x12 : Bool) (x13 x14 : Int) (x15 x16 x17 : Int) (x18 x19 : LI) (c : V_ref11_skipped_0 → OA) (B : W_ref11_skipped_0) : OA := match B with | b => bif decide (x3 < x5) then (L_ref11_skipped_2 fuel (x0, x1, x2, x3, 0, x4, x5, x6, x7, x8, x9, x10, x11, x12, x13, x14, x15, x16, x17, x18, x19) (fun (b2_0, b2_1, b2_2, b2_3, b2_4, b2_5, b2_6, b2_7, b2_8, b2_9, b2_10, b2_11, b2_12, b2_13, b2_14, b2_15, b2_16, b2_17, b2_18, b2_19) => c (b2_0, b2_1, b2_2, i64.wrap (b2_3 + 1), b2_4, b2_5, b2_6, b2_7, b2_8, b2_9, b2_10, b2_11, b2_12, b2_13, b2_14, b2_15, b2_16, b2_17, b2_18, b2_19))) else b (x14, x15, x16, x17, x18, x19)
def S_ref11_skipped_0 (fuel : Nat) (v : (List (Int × (Int × (List Int)))) × Int × Int × Int × Int × Int × Int × Int × Int × Int × Int × Int × Bool × Int × Int × Int × Int × Int × (List Int) × (List Int)) (c : ((List (Int × (Int × (List Int)))) × Int × Int × Int × Int × Int × Int × Int × Int × Int × Int × Int × Bool × Int × Int × Int × Int × Int × (List Int) × (List Int)) → Option Ans) (B : (Int × Int × Int × Int × (List Int) × (List Int) → Option Ans)) : Option Ans := match v with | (x0, x1, x2, x3, x4, x5, x6, x7, x8, x9, x10, x11, x12, x13, x14, x15, x16, x17, x18, x19) => Sg_ref11_skipped_0 fuel (F_ref05_New fuel) (F_ref11_cell fuel) (F_ref05_Put_a2e fuel) x0 x1 x2 x3 x4 x5 x6 x7 x8 x9 x10 x11 x12 x13 x14 x15 x16 x17 x18 x19 c B
def L_ref11_skipped_0 (fuel : Nat) (v : V_ref11_skipped_0) (b : W_ref11_skipped_0) : Option Ans := iter (S_ref11_skipped_0 fuel) fuel v b
def J61_0 (fuel : Nat) (i : Nat) : Option Ev.Blk := Ev.look i [(100002, B61_2 fuel)]
def T61_0 (v : V_ref11_skipped_0) : Ev.St := match v with | (x0, x1, x2, x3, x4, x5, x6, x7, x8, x9, x10, x11, x12, x13, x14, x15, x16, x17, x18, x19) => ⟨[(1, .c (.sl (.pair (.int .i64) (.pair (.int .i64) (.sl (.int .u8)))) x0)), (2, .c (i6 x1)), (3, .c (i6 x2)), (4, .c (.ptr 0 0)), (8, .c (.ptr 1 0)), (9, .c (.ptr 2 0)), (11, .c (i6 x3))], [(0, .cells 23 [i6 x4, i6 x5, i6 x6, i6 x7, i6 x8, i6 x9, i6 x10, i6 x11, .bool x12, i6 x13]), (1, .cells 51 [i6 x14, i6 x15, .own 3]), (2, .cells 51 [i6 x16, i6 x17, .own 4]), (3, .vec 5 (.int .u8) x18 true), (4, .vec 5 (.int .u8) x19 true)], 5, 0⟩
def E61_0 (K : KT) : W_ref11_skipped_0 := (fun v => match v with | (x0, x1, x2, x3, x4, x5) => K .normal ⟨[(8, .c (.ptr 0 0)), (9, .c (.ptr 1 0))], [(0, .cells 51 [i6 x0, i6 x1, .own 2]), (1, .cells 51 [i6 x2, i6 x3, .own 3]), (2, .vec 5 (.int .u8) x4 true), (3, .vec 5 (.int .u8) x5 true)], 4, 0⟩)
theorem S61_0_okg (fuel : Nat) (f141 : YF141) (f142 : YF142) (f143_a2e : YF143_a2e) (R : Ev.St → OA) (K : KT) (x0 : (List (Int × (Int × LI)))) (x1 x2 : Int) (x3 x4 : Int) (x5 x6 : Int) (x7 x8 : Int) (x9 x10 x11 : Int) (x12 : Bool) (x13 x14 : Int) (x15 x16 x17 : Int) (x18 x19 : LI) : evalCode tab (Gg61 f141 f142 f143_a2e) (J61_0 fuel) kp61 fuel (bodyOf 0 Tryz.f61) (T61_0 (x0, x1, x2, x3, x4, x5, x6, x7, x8, x9, x10, x11, x12, x13, x14, x15, x16, x17, x18, x19)) (lc kp61 3 0 R K) = Sg_ref11_skipped_0 fuel f141 f142 f143_a2e x0 x1 x2 x3 x4 x5 x6 x7 x8 x9 x10 x11 x12 x13 x14 x15 x16 x17 x18 x19 (fun v => R (T61_0 v)) (E61_0 K) := by
  kernel_rfl
def B61_0 (fuel : Nat) : Ev.Blk := fun st K => match canonO (kp61 3) st with | some s => (match s with | ⟨[(q0, .c (.sl (.pair (.int .i64) (.pair (.int .i64) (.sl (.int .u8)))) x0)), (q1, .c (i6 x1)), (q2, .c (i6 x2)), (q3, .c (.ptr q4 q5)), (q6, .c (.ptr q7 q8)), (q9, .c (.ptr q10 q11)), (q12, .c (i6 x3))], [(q13, .cells q14 [i6 x4, i6 x5, i6 x6, i6 x7, i6 x8, i6 x9, i6 x10, i6 x11, .bool x12, i6 x13]), (q15, .cells q16 [i6 x14, i6 x15, .own q17]), (q18, .cells q19 [i6 x16, i6 x17, .own q20]), (q21, .vec q22 (.int .u8) x18 true), (q23, .vec q24 (.int .u8) x19 true)], q25, q26⟩ => bif qb [q0, q1, q2, q3, q4, q5, q6, q7, q8, q9, q10, q11, q12, q13, q14, q15, q16, q17, q18, q19, q20, q21, q22, q23, q24, q25, q26] [1, 2, 3, 4, 0, 0, 8, 1, 0, 9, 2, 0, 11, 0, 23, 1, 51, 3, 2, 51, 4, 3, 5, 4, 5, 5, 0] then iter (S_ref11_skipped_0 fuel) fuel (x0, x1, x2, x3, x4, x5, x6, x7, x8, x9, x10, x11, x12, x13, x14, x15, x16, x17, x18, x19) (E61_0 K) else none | _ => none) | none => none
theorem B61_0_ok (fuel : Nat) (st : Ev.St) (K : KT) (r : Ans) (h : B61_0 fuel st K = some r) : evalCode tab (G61 fuel) (J61_0 fuel) kp61 fuel (.block 0 (.loop (bodyOf 0 Tryz.f61))) st K = some r := by
  unfold B61_0 at h
  split at h
  · rename_i s hs
    split at h
    · skip
      obtain ⟨hb, h⟩ := cond_some' h
      cases qb_eq hb
      exact blk_loop (S := T61_0) (ks := E61_0) (step := S_ref11_skipped_0 fuel) (v := (_, _, _, _, _, _, _, _, _, _, _, _, _, _, _, _, _, _, _, _)) (by kernel_rfl) (by kernel_rfl) (fun R K v => by obtain ⟨x0, x1, x2, x3, x4, x5, x6, x7, x8, x9, x10, x11, x12, x13, x14, x15, x16, x17, x18, x19⟩ := v; exact S61_0_okg fuel (F_ref05_New fuel) (F_ref11_cell fuel) (F_ref05_Put_a2e fuel) R K x0 x1 x2 x3 x4 x5 x6 x7 x8 x9 x10 x11 x12 x13 x14 x15 x16 x17 x18 x19) hs h
    · cases h
  · cases h
def J61 (fuel : Nat) (i : Nat) : Option Ev.Blk := Ev.look i [(100002, B61_2 fuel), (100000, B61_0 fuel)]
def Fg_ref11_skipped (fuel : Nat) (f141 : YF141) (f142 : YF142) (f143_a2e : YF143_a2e) (x0 x1 : Int) (x2 x3 : Int) (x4 x5 : Int) (x6 x7 : Int) (x8 : Bool) (x9 : Int) (x10 : (List (Int × Int × LI))) (x11 x12 : Int) (k0 : (Int × Int × LI) → OA) : OA := (f141 x0 x1 (0) (fun (y2_0, y2_1, y2_2, y2_3) => (L_ref11_skipped_0 fuel (x10, x11, x12, 0, x0, x1, x2, x3, x4, x5, x6, x7, x8, x9, 0, 0, y2_0, y2_1, [], y2_3) (fun (b0_0, b0_1, b0_2, b0_3, b0_4, b0_5) => k0 (b0_2, b0_3, b0_5)))))
abbrev YF61 : Type := Int → Int → Int → Int → Int → Int → Int → Int → Bool → Int → ((List (Int × Int × LI))) → Int → Int → ((Int × Int × LI) → Option Ans) → Option Ans
def F_ref11_skipped (fuel : Nat) : YF61 := Fg_ref11_skipped fuel (F_ref05_New fuel) (F_ref11_cell fuel) (F_ref05_Put_a2e fuel)
theorem F61_eqg (fuel : Nat) (f141 : YF141) (f142 : YF142) (f143_a2e : YF143_a2e) (x0 x1 : Int) (x2 x3 : Int) (x4 x5 : Int) (x6 x7 : Int) (x8 : Bool) (x9 : Int) (x10 : (List (Int × Int × LI))) (x11 x12 : Int) (k : Ev.Cont) : evalFn tab (Gg61 f141 f142 f143_a2e) (J61 fuel) kp61 fuel Tryz.f61 [.agg [i6 x0, i6 x1, i6 x2, i6 x3, i6 x4, i6 x5, i6 x6, i6 x7, .bool x8, i6 x9], .c (.sl (.pair (.int .i64) (.pair (.int .i64) (.sl (.int .u8)))) x10), .c (i6 x11), .c (i6 x12)] [] k = Fg_ref11_skipped fuel f141 f142 f143_a2e x0 x1 x2 x3 x4 x5 x6 x7 x8 x9 x10 x11 x12 (fun r => match r with | (r0, r1, r2) => k (.agg [i6 r0, i6 r1, .own 0], [.vec 5 (.int .u8) r2 true])) := by
  kernel_rfl
theorem hG61 (fuel : Nat) : GOK Tryz.prog (G61 fuel) :=
  gc (ok141 fuel) Tryz.func141 (by kernel_rfl) rfl <|
  gc (ok142 fuel) Tryz.func142 (by kernel_rfl) rfl <|
  gc (ok143_a2e fuel) Tryz.func143 (by kernel_rfl) rfl <|
  gok_nil
theorem B61_2_blk (fuel : Nat) : BlkOK Tryz.prog Tryz.f61.ntmps (.block 2 (.loop (bodyOf 2 Tryz.f61))) (B61_2 fuel) := bo0 (hG61 fuel) (by kernel_rfl) (by kernel_rfl) (B61_2_ok fuel)
theorem B61_0_blk (fuel : Nat) : BlkOK Tryz.prog Tryz.f61.ntmps (.block 0 (.loop (bodyOf 0 Tryz.f61))) (B61_0 fuel) :=
  blk_of (blk_of_code tab_ok (hG61 fuel) mixed (J := J61_0 fuel) (kp := kp61) (fuel := fuel) (by kernel_rfl) (fun q hq => by
    rw [(by kernel_rfl : obl (J61_0 fuel) (.block 0 (.loop (bodyOf 0 Tryz.f61))) = [(.block 2 (.loop (bodyOf 2 Tryz.f61)), B61_2 fuel)])] at hq
    simp only [List.mem_cons, List.not_mem_nil, or_false] at hq
    subst hq
    · exact B61_2_blk fuel)) (B61_0_ok fuel)
def spg61 (F : YF61) : Ev.Spec := fun args objs k => match args, objs with | [.agg [i6 x0, i6 x1, i6 x2, i6 x3, i6 x4, i6 x5, i6 x6, i6 x7, .bool x8, i6 x9], .c (.sl (.pair (.int .i64) (.pair (.int .i64) (.sl (.int .u8)))) x10), .c (i6 x11), .c (i6 x12)], [] => F x0 x1 x2 x3 x4 x5 x6 x7 x8 x9 x10 x11 x12 (fun r => match r with | (r0, r1, r2) => k (.agg [i6 r0, i6 r1, .own 0], [.vec 5 (.int .u8) r2 true])) | _, _ => none
theorem ok61 (fuel : Nat) : FnOK Tryz.prog 61 (spg61 (F_ref11_skipped fuel)) := by
  intro args objs kk r h
  unfold spg61 at h
  split at h
  · skip
    exact fo1 (hG61 fuel) Tryz.func61 rfl (B61_0_blk fuel) (by kernel_rfl) _ _ kk r ((F61_eqg fuel (F_ref05_New fuel) (F_ref11_cell fuel) (F_ref05_Put_a2e fuel) _ _ _ _ _ _ _ _ _ _ _ _ _ kk).trans h)
  · cases h
def kp20 (i : Nat) : Option (List Nat) := Ev.look i [(10, [1, 2, 3, 5, 13, 18, 20, 21]), (20, [1, 24, 26]), (100000, [1, 5, 20]), (100002, [24]), (200012, [5, 13]), (400000, [10, 11]), (400002, [10, 11])]
def Gg20 (f54 : YF54) (f55 : YF55) (f56 : YF56) (f59 : YF59) (f61 : YF61) (f68 : YF68) (f69 : YF69) (f70_9c5 : YF70_9c5) (f71 : YF71) (f : Nat) : Option Ev.Spec := Ev.look f [(54, spg54 f54), (55, spg55 f55), (56, spg56 f56), (59, spg59 f59), (61, spg61 f61), (68, spg68 f68), (69, spg69 f69), (70, spg70_9c5 f70_9c5), (71, spg71 f71)]
def G20 (fuel : Nat) : Nat → Option Ev.Spec := Gg20 (F_ref11_options fuel) (F_ref07_Size fuel) (F_ref02_New fuel) (F_ref03_Width fuel) (F_ref11_skipped fuel) (F_ref11_asked fuel) (F_ref02_NewDecoder fuel) (F_ref07_Get_9c5 fuel) (F_ref11_FromPlanes fuel)
abbrev V_ref11_Decode_0 : Type := (List (Int × (Int × LI))) × Int × Int × Int × Int × Int × Int × Int × Int × Int × Int × Int × Bool × Int × Int × Int × Int × Bool × Int × Int × Int × Int × Int × Int × Int × Bool × (List LI) × LI × LI
abbrev W_ref11_Decode_0 : Type := (Int × LI → OA) × ((List (Int × (Int × LI))) × Int × Int × Int × Int × Int × Int × Int × Int × Bool × Int × (List LI) → OA)
def Sg_ref11_Decode_0 (fuel : Nat) (f54 : YF54) (f55 : YF55) (f56 : YF56) (f59 : YF59) (f61 : YF61) (f68 : YF68) (f69 : YF69) (f70_9c5 : YF70_9c5) (f71 : YF71) (x0 : (List (Int × (Int × LI)))) (x1 x2 : Int) (x3 x4 : Int) (x5 x6 : Int) (x7 x8 : Int) (x9 x10 x11 : Int) (x12 : Bool) (x13 x14 : Int) (x15 x16 : Int) (x17 : Bool) (x18 x19 : Int) (x20 x21 : Int) (x22 x23 x24 : Int) (x25 : Bool) (x26 : (List LI)) (x27 x28 : LI) (c : V_ref11_Decode_0 → OA) (B : W_ref11_Decode_0) : OA := match B with | (ret, b) => (f59 ((↑x0.length : Int)) (fun y2 => bif decide (x3 < y2) then both ((f61 x4 x5 x6 x7 x8 x9 x10 x11 x12 x13 x0 x1 x2 (fun (y9_0, y9_1, y9_2) => both ((f70_9c5 (0) x14 x15 x16 x17 x18 x4 x5 y9_0 y9_1 y9_2 x19 x20 x21 x22 x23 x24 x25 x27 x28 (fun (y15_0, y15_1, y15_2, y15_3, y15_4, y15_5, y15_6, y15_7, y15_8, y15_9, y15_10, y15_11, y15_12) => bif y15_2 != 0 then ret (y15_2, []) else bif decide ((x26.length + [y15_12].length) * (24 : Nat) ≤ (140737488355328 : Nat) ∧ x26.length + [y15_12].length ≤ (140737488355328 : Nat)) then c (x0, x1, x2, i64.wrap (x3 + (1 : Int)), x4, x5, x6, x7, x8, x9, x10, x11, x12, x13, x14, x15, x16, x17, x18, y15_3, y15_4, y15_5, y15_6, y15_7, y15_8, y15_9, x26 ++ [y15_12], y15_10, y15_11) else none))) ((f70_9c5 (0) x14 x15 x16 x17 x18 x4 x5 y9_0 y9_1 y9_2 x19 x20 x21 x22 x23 x24 x25 x27 x28 (fun (y15_0, y15_1, y15_2, y15_3, y15_4, y15_5, y15_6, y15_7, y15_8, y15_9, y15_10, y15_11, y15_12) => bif y15_2 != 0 then ret (y15_2, []) else bif decide ((x26.length + [y15_12].length) * (24 : Nat) ≤ (140737488355328 : Nat) ∧ x26.length + [y15_12].length ≤ (140737488355328 : Nat)) then c (x0, x1, x2, i64.wrap (x3 + (1 : Int)), x4, x5, x6, x7, x8, x9, x10, x11, x12, x13, x14, x15, x16, x17, x18, y15_3, y15_4, y15_5, y15_6, y15_7, y15_8, y15_9, x26 ++ [y15_12], y15_10, y15_11) else none)))))) ((f61 x4 x5 x6 x7 x8 x9 x10 x11 x12 x13 x0 x1 x2 (fun (y9_0, y9_1, y9_2) => (f70_9c5 (0) x14 x15 x16 x17 x18 x4 x5 y9_0 y9_1 y9_2 x19 x20 x21 x22 x23 x24 x25 x27 x28 (fun (y13_0, y13_1, y13_2, y13_3, y13_4, y13_5, y13_6, y13_7, y13_8, y13_9, y13_10, y13_11, y13_12) => bif y13_2 != 0 then ret (y13_2, []) else bif decide ((x26.length + [y13_12].length) * (24 : Nat) ≤ (140737488355328 : Nat) ∧ x26.length + [y13_12].length ≤ (140737488355328 : Nat)) then c (x0, x1, x2, i64.wrap (x3 + (1 : Int)), x4, x5, x6, x7, x8, x9, x10, x11, x12, x13, x14, x15, x16, x17, x18, y13_3, y13_4, y13_5, y13_6, y13_7, y13_8, y13_9, x26 ++ [y13_12], y13_10, y13_11) else none))))) else b (x0, x4, x5, x6, x7, x8, x9, x10, x11, x12, x13, x26)))
def S_ref11_Decode_0 (fuel : Nat) (v : (List (Int × (Int × (List Int)))) × Int × Int × Int × Int × Int × Int × Int × Int × Int × Int × Int × Bool × Int × Int × Int × Int × Bool × Int × Int × Int × Int × Int × Int × Int × Bool × (List (List Int)) × (List Int) × (List Int)) (c : ((List (Int × (Int × (List Int)))) × Int × Int × Int × Int × Int × Int × Int × Int × Int × Int × Int × Bool × Int × Int × Int × Int × Bool × Int × Int × Int × Int × Int × Int × Int × Bool × (List (List Int)) × (List Int) × (List Int)) → Option Ans) (B : (Int × (List Int) → Option Ans) × ((List (Int × (Int × (List Int)))) × Int × Int × Int × Int × Int × Int × Int × Int × Bool × Int × (List (List Int)) → Option Ans)) : Option Ans := match v with | (x0, x1, x2, x3, x4, x5, x6, x7, x8, x9, x10, x11, x12, x13, x14, x15, x16, x17, x18, x19, x20, x21, x22, x23, x24, x25, x26, x27, x28) => Sg_ref11_Decode_0 fuel (F_ref11_options fuel) (F_ref07_Size fuel) (F_ref02_New fuel) (F_ref03_Width fuel) (F_ref11_skipped fuel) (F_ref11_asked fuel) (F_ref02_NewDecoder fuel) (F_ref07_Get_9c5 fuel) (F_ref11_FromPlanes fuel) x0 x1 x2 x3 x4 x5 x6 x7 x8 x9 x10 x11 x12 x13 x14 x15 x16 x17 x18 x19 x20 x21 x22 x23 x24 x25 x26 x27 x28 c B
def L_ref11_Decode_0 (fuel : Nat) (v : V_ref11_Decode_0) (ret : (Int × (List Int) → Option Ans)) (b : ((List (Int × (Int × (List Int)))) × Int × Int × Int × Int × Int × Int × Int × Int × Bool × Int × (List (List Int)) → Option Ans)) : Option Ans := iter (S_ref11_Decode_0 fuel) fuel v (ret, b)
def T20_0 (v : V_ref11_Decode_0) : Ev.St := match v with | (x0, x1, x2, x3, x4, x5, x6, x7, x8, x9, x10, x11, x12, x13, x14, x15, x16, x17, x18, x19, x20, x21, x22, x23, x24, x25, x26, x27, x28) => ⟨[(1, .c (.sl (.pair (.int .i64) (.pair (.int .i64) (.sl (.int .u8)))) x0)), (2, .c (i6 x1)), (3, .c (i6 x2)), (5, .c (.ptr 0 0)), (13, .c (.ptr 1 0)), (18, .c (.ptr 2 0)), (20, .c (.own 3)), (21, .c (i6 x3))], [(0, .cells 23 [i6 x4, i6 x5, i6 x6, i6 x7, i6 x8, i6 x9, i6 x10, i6 x11, .bool x12, i6 x13]), (1, .cells 78 [i6 x14, i6 x15, i6 x16, .bool x17, i6 x18]), (2, .cells 204 [i6 x19, .own 4, .int .u64 x20, .int .u64 x21, .own 5, i6 x22, .int .u64 x23, i6 x24, .bool x25]), (3, .vec 30 (.sl (.int .u8)) x26 true), (4, .vec 3 (.int .i64) x27 true), (5, .vec 5 (.int .u8) x28 true)], 6, 0⟩
def E20_0 (K : KT) : W_ref11_Decode_0 := ((fun v => match v with | (x0, x1) => K .ret ⟨[(10, .c (.own 0)), (11, .c (i6 x0))], [(0, .vec 3 (.int .i64) x1 true)], 1, 0⟩), (fun v => match v with | (x0, x1, x2, x3, x4, x5, x6, x7, x8, x9, x10, x11) => K .normal ⟨[(1, .c (.sl (.pair (.int .i64) (.pair (.int .i64) (.sl (.int .u8)))) x0)), (5, .c (.ptr 0 0)), (20, .c (.own 1))], [(0, .cells 23 [i6 x1, i6 x2, i6 x3, i6 x4, i6 x5, i6 x6, i6 x7, i6 x8, .bool x9, i6 x10]), (1, .vec 30 (.sl (.int .u8)) x11 true)], 2, 0⟩))
theorem S20_0_okg (fuel : Nat) (f54 : YF54) (f55 : YF55) (f56 : YF56) (f59 : YF59) (f61 : YF61) (f68 : YF68) (f69 : YF69) (f70_9c5 : YF70_9c5) (f71 : YF71) (R : Ev.St → OA) (K : KT) (x0 : (List (Int × (Int × LI)))) (x1 x2 : Int) (x3 x4 : Int) (x5 x6 : Int) (x7 x8 : Int) (x9 x10 x11 : Int) (x12 : Bool) (x13 x14 : Int) (x15 x16 : Int) (x17 : Bool) (x18 x19 : Int) (x20 x21 : Int) (x22 x23 x24 : Int) (x25 : Bool) (x26 : (List LI)) (x27 x28 : LI) : evalCode tab (Gg20 f54 f55 f56 f59 f61 f68 f69 f70_9c5 f71) J0 kp20 fuel (bodyOf 0 Tryz.f20) (T20_0 (x0, x1, x2, x3, x4, x5, x6, x7, x8, x9, x10, x11, x12, x13, x14, x15, x16, x17, x18, x19, x20, x21, x22, x23, x24, x25, x26, x27, x28)) (lc kp20 10 0 R K) = Sg_ref11_Decode_0 fuel f54 f55 f56 f59 f61 f68 f69 f70_9c5 f71 x0 x1 x2 x3 x4 x5 x6 x7 x8 x9 x10 x11 x12 x13 x14 x15 x16 x17 x18 x19 x20 x21 x22 x23 x24 x25 x26 x27 x28 (fun v => R (T20_0 v)) (E20_0 K) := by
  kernel_rfl
def B20_0 (fuel : Nat) : Ev.Blk := fun st K => match canonO (kp20 10) st with | some s => (match s with | ⟨[(q0, .c (.sl (.pair (.int .i64) (.pair (.int .i64) (.sl (.int .u8)))) x0)), (q1, .c (i6 x1)), (q2, .c (i6 x2)), (q3, .c (.ptr q4 q5)), (q6, .c (.ptr q7 q8)), (q9, .c (.ptr q10 q11)), (q12, .c (.own q13)), (q14, .c (i6 x3))], [(q15, .cells q16 [i6 x4, i6 x5, i6 x6, i6 x7, i6 x8, i6 x9, i6 x10, i6 x11, .bool x12, i6 x13]), (q17, .cells q18 [i6 x14, i6 x15, i6 x16, .bool x17, i6 x18]), (q19, .cells q20 [i6 x19, .own q21, .int .u64 x20, .int .u64 x21, .own q22, i6 x22, .int .u64 x23, i6 x24, .bool x25]), (q23, .vec q24 (.sl (.int .u8)) x26 true), (q25, .vec q26 (.int .i64) x27 true), (q27, .vec q28 (.int .u8) x28 true)], q29, q30⟩ => bif qb [q0, q1, q2, q3, q4, q5, q6, q7, q8, q9, q10, q11, q12, q13, q14, q15, q16, q17, q18, q19, q20, q21, q22, q23, q24, q25, q26, q27, q28, q29, q30] [1, 2, 3, 5, 0, 0, 13, 1, 0, 18, 2, 0, 20, 3, 21, 0, 23, 1, 78, 2, 204, 4, 5, 3, 30, 4, 3, 5, 5, 6, 0] then iter (S_ref11_Decode_0 fuel) fuel (x0, x1, x2, x3, x4, x5, x6, x7, x8, x9, x10, x11, x12, x13, x14, x15, x16, x17, x18, x19, x20, x21, x22, x23, x24, x25, x26, x27, x28) (E20_0 K) else none | _ => none) | none => none
theorem B20_0_ok (fuel : Nat) (st : Ev.St) (K : KT) (r : Ans) (h : B20_0 fuel st K = some r) : evalCode tab (G20 fuel) J0 kp20 fuel (.block 0 (.loop (bodyOf 0 Tryz.f20))) st K = some r := by
  unfold B20_0 at h
  split at h
  · rename_i s hs
    split at h
    · skip
      obtain ⟨hb, h⟩ := cond_some' h
      cases qb_eq hb
      exact blk_loop (S := T20_0) (ks := E20_0) (step := S_ref11_Decode_0 fuel) (v := (_, _, _, _, _, _, _, _, _, _, _, _, _, _, _, _, _, _, _, _, _, _, _, _, _, _, _, _, _)) (by kernel_rfl) (by kernel_rfl) (fun R K v => by obtain ⟨x0, x1, x2, x3, x4, x5, x6, x7, x8, x9, x10, x11, x12, x13, x14, x15, x16, x17, x18, x19, x20, x21, x22, x23, x24, x25, x26, x27, x28⟩ := v; exact S20_0_okg fuel (F_ref11_options fuel) (F_ref07_Size fuel) (F_ref02_New fuel) (F_ref03_Width fuel) (F_ref11_skipped fuel) (F_ref11_asked fuel) (F_ref02_NewDecoder fuel) (F_ref07_Get_9c5 fuel) (F_ref11_FromPlanes fuel) R K x0 x1 x2 x3 x4 x5 x6 x7 x8 x9 x10 x11 x12 x13 x14 x15 x16 x17 x18 x19 x20 x21 x22 x23 x24 x25 x26 x27 x28) hs h
    · cases h
  · cases h
abbrev V_ref11_Decode_2 : Type := (List (Int × (Int × LI))) × Int × LI
abbrev W_ref11_Decode_2 : Type := (Int × LI → OA) × (LI → OA)
def Sg_ref11_Decode_2 (fuel : Nat) (f54 : YF54) (f55 : YF55) (f56 : YF56) (f59 : YF59) (f61 : YF61) (f68 : YF68) (f69 : YF69) (f70_9c5 : YF70_9c5) (f71 : YF71) (x0 : (List (Int × (Int × LI)))) (x1 : Int) (x2 : LI) (c : V_ref11_Decode_2 → OA) (B : W_ref11_Decode_2) : OA := match B with | (ret, b) => bif decide (x1 < (↑x2.length : Int)) then bif decide (0 ≤ x1 ∧ x1 < (↑x2.length : Int)) then bif decide (x2.getD x1.toNat 0 ≥ (↑x0.length : Int)) then ret (3, []) else c (x0, i64.wrap (x1 + 1), x2) else none else b x2
def S_ref11_Decode_2 (fuel : Nat) (v : (List (Int × (Int × (List Int)))) × Int × (List Int)) (c : ((List (Int × (Int × (List Int)))) × Int × (List Int)) → Option Ans) (B : (Int × (List Int) → Option Ans) × ((List Int) → Option Ans)) : Option Ans := match v with | (x0, x1, x2) => Sg_ref11_Decode_2 fuel (F_ref11_options fuel) (F_ref07_Size fuel) (F_ref02_New fuel) (F_ref03_Width fuel) (F_ref11_skipped fuel) (F_ref11_asked fuel) (F_ref02_NewDecoder fuel) (F_ref07_Get_9c5 fuel) (F_ref11_FromPlanes fuel) x0 x1 x2 c B
def L_ref11_Decode_2 (fuel : Nat) (v : V_ref11_Decode_2) (ret : (Int × (List Int) → Option Ans)) (b : ((List Int) → Option Ans)) : Option Ans := iter (S_ref11_Decode_2 fuel) fuel v (ret, b)
def J20_2 (fuel : Nat) (i : Nat) : Option Ev.Blk := Ev.look i [(100000, B20_0 fuel)]
def T20_2 (v : V_ref11_Decode_2) : Ev.St := match v with | (x0, x1, x2) => ⟨[(1, .c (.sl (.pair (.int .i64) (.pair (.int .i64) (.sl (.int .u8)))) x0)), (24, .c (.own 0)), (26, .c (i6 x1))], [(0, .vec 3 (.int .i64) x2 true)], 1, 0⟩
def E20_2 (K : KT) : W_ref11_Decode_2 := ((fun v => match v with | (x0, x1) => K .ret ⟨[(10, .c (.own 0)), (11, .c (i6 x0))], [(0, .vec 3 (.int .i64) x1 true)], 1, 0⟩), (fun v => match v with | x0 => K .normal ⟨[(24, .c (.own 0))], [(0, .vec 3 (.int .i64) x0 true)], 1, 0⟩))
theorem S20_2_okg (fuel : Nat) (f54 : YF54) (f55 : YF55) (f56 : YF56) (f59 : YF59) (f61 : YF61) (f68 : YF68) (f69 : YF69) (f70_9c5 : YF70_9c5) (f71 : YF71) (R : Ev.St → OA) (K : KT) (x0 : (List (Int × (Int × LI)))) (x1 : Int) (x2 : LI) : evalCode tab (Gg20 f54 f55 f56 f59 f61 f68 f69 f70_9c5 f71) (J20_2 fuel) kp20 fuel (bodyOf 2 Tryz.f20) (T20_2 (x0, x1, x2)) (lc kp20 20 2 R K) = Sg_ref11_Decode_2 fuel f54 f55 f56 f59 f61 f68 f69 f70_9c5 f71 x0 x1 x2 (fun v => R (T20_2 v)) (E20_2 K) := by
  kernel_rfl
def B20_2 (fuel : Nat) : Ev.Blk := fun st K => match canonO (kp20 20) st with | some s => (match s with | ⟨[(q0, .c (.sl (.pair (.int .i64) (.pair (.int .i64) (.sl (.int .u8)))) x0)), (q1, .c (.own q2)), (q3, .c (i6 x1))], [(q4, .vec q5 (.int .i64) x2 true)], q6, q7⟩ => bif qb [q0, q1, q2, q3, q4, q5, q6, q7] [1, 24, 0, 26, 0, 3, 1, 0] then iter (S_ref11_Decode_2 fuel) fuel (x0, x1, x2) (E20_2 K) else none | _ => none) | none => none
theorem B20_2_ok (fuel : Nat) (st : Ev.St) (K : KT) (r : Ans) (h : B20_2 fuel st K = some r) : evalCode tab (G20 fuel) (J20_2 fuel) kp20 fuel (.block 2 (.loop (bodyOf 2 Tryz.f20))) st K = some r := by
  unfold B20_2 at h
  split at h
  · rename_i s hs
    split at h
    · skip
      obtain ⟨hb, h⟩ := cond_some' h
      cases qb_eq hb
      exact blk_loop (S := T20_2) (ks := E20_2) (step := S_ref11_Decode_2 fuel) (v := (_, _, _)) (by kernel_rfl) (by kernel_rfl) (fun R K v => by obtain ⟨x0, x1, x2⟩ := v; exact S20_2_okg fuel (F_ref11_options fuel) (F_ref07_Size fuel) (F_ref02_New fuel) (F_ref03_Width fuel) (F_ref11_skipped fuel) (F_ref11_asked fuel) (F_ref02_NewDecoder fuel) (F_ref07_Get_9c5 fuel) (F_ref11_FromPlanes fuel) R K x0 x1 x2) hs h
    · cases h
  · cases h
def J20 (fuel : Nat) (i : Nat) : Option Ev.Blk := Ev.look i [(100000, B20_0 fuel), (100002, B20_2 fuel)]
def Fg_ref11_Decode (fuel : Nat) (f54 : YF54) (f55 : YF55) (f56 : YF56) (f59 : YF59) (f61 : YF61) (f68 : YF68) (f69 : YF69) (f70_9c5 : YF70_9c5) (f71 : YF71) (x0 x1 : Int) (x2 x3 : Int) (x4 x5 : Int) (x6 x7 : Int) (x8 : Bool) (x9 : Int) (x10 : (List (Int × Int × LI))) (x11 x12 : Int) (x13 : LI) (k0 : (Int × LI) → OA) : OA := (f68 x0 x1 x2 x3 x4 x5 x6 x7 x8 x9 x10 x11 x12 (fun y2 => bif y2 != 0 then k0 (y2, []) else (f54 x0 x1 x2 x3 x4 x5 x6 x7 x8 x9 (fun (y7_0, y7_1, y7_2, y7_3, y7_4) => (f55 y7_0 y7_1 y7_2 y7_3 y7_4 (fun (y11_0, y11_1) => (f56 y7_4 y11_0 (fun (y15_0, y15_1, y15_2) => (f69 y15_0 y15_2 x13 (fun y19 => none) (fun (y19_0, y19_1, y19_2, y19_3, y19_4, y19_5, y19_6, y19_7, y19_8, y19_9) => (L_ref11_Decode_0 fuel (x10, x11, x12, 0, x0, x1, x2, x3, x4, x5, x6, x7, x8, x9, y7_0, y7_1, y7_2, y7_3, y7_4, y19_1, y19_2, y19_3, y19_4, y19_5, y19_6, y19_7, [], y19_8, y19_9) (fun (ret0_0, ret0_1) => k0 (ret0_0, ret0_1)) (fun (b0_0, b0_1, b0_2, b0_3, b0_4, b0_5, b0_6, b0_7, b0_8, b0_9, b0_10, b0_11) => (f71 b0_11 (fun (y27_0, y27_1) => bif (↑b0_11.length : Int) == 0 then bif decide (0 ≤ i64.wrap (b0_1 * b0_2) ∧ i64.wrap (b0_1 * b0_2) = i64.wrap (b0_1 * b0_2) ∧ (↑(8 : Nat) : Int) * i64.wrap (b0_1 * b0_2) ≤ 281474976710656 ∧ i64.wrap (b0_1 * b0_2) ≤ 281474976710656) then (L_ref11_Decode_2 fuel (b0_0, 0, List.replicate (i64.wrap (b0_1 * b0_2)).toNat (0 : Int)) (fun (ret2_0, ret2_1) => k0 (ret2_0, ret2_1)) (fun b2_0 => k0 (0, b2_0))) else none else (L_ref11_Decode_2 fuel (b0_0, 0, y27_1) (fun (ret2_0, ret2_1) => k0 (ret2_0, ret2_1)) (fun b2_0 => k0 (0, b2_0)))))))))))))))))
abbrev YF20 : Type := Int → Int → Int → Int → Int → Int → Int → Int → Bool → Int → ((List (Int × Int × LI))) → Int → Int → LI → ((Int × LI) → Option Ans) → Option Ans
def F_ref11_Decode (fuel : Nat) : YF20 := Fg_ref11_Decode fuel (F_ref11_options fuel) (F_ref07_Size fuel) (F_ref02_New fuel) (F_ref03_Width fuel) (F_ref11_skipped fuel) (F_ref11_asked fuel) (F_ref02_NewDecoder fuel) (F_ref07_Get_9c5 fuel) (F_ref11_FromPlanes fuel)
theorem F20_eqg (fuel : Nat) (f54 : YF54) (f55 : YF55) (f56 : YF56) (f59 : YF59) (f61 : YF61) (f68 : YF68) (f69 : YF69) (f70_9c5 : YF70_9c5) (f71 : YF71) (x0 x1 : Int) (x2 x3 : Int) (x4 x5 : Int) (x6 x7 : Int) (x8 : Bool) (x9 : Int) (x10 : (List (Int × Int × LI))) (x11 x12 : Int) (x13 : LI) (k : Ev.Cont) : evalFn tab (Gg20 f54 f55 f56 f59 f61 f68 f69 f70_9c5 f71) (J20 fuel) kp20 fuel Tryz.f20 [.agg [i6 x0, i6 x1, i6 x2, i6 x3, i6 x4, i6 x5, i6 x6, i6 x7, .bool x8, i6 x9], .c (.sl (.pair (.int .i64) (.pair (.int .i64) (.sl (.int .u8)))) x10), .c (i6 x11), .c (i6 x12), .c (.sl (.int .u8) x13)] [] k = Fg_ref11_Decode fuel f54 f55 f56 f59 f61 f68 f69 f70_9c5 f71 x0 x1 x2 x3 x4 x5 x6 x7 x8 x9 x10 x11 x12 x13 (fun r => match r with | (r0, r1) => k (.tup [(false, [.own 0]), (false, [i6 r0])], [.vec 3 (.int .i64) r1 true])) := by
  kernel_rfl
theorem hG20 (fuel : Nat) : GOK Tryz.prog (G20 fuel) :=
  gc (ok54 fuel) Tryz.func54 (by kernel_rfl) rfl <|
  gc (ok55 fuel) Tryz.func55 (by kernel_rfl) rfl <|
  gc (ok56 fuel) Tryz.func56 (by kernel_rfl) rfl <|
  gc (ok59 fuel) Tryz.func59 (by kernel_rfl) rfl <|
  gc (ok61 fuel) Tryz.func61 (by kernel_rfl) rfl <|
  gc (ok68 fuel) Tryz.func68 (by kernel_rfl) rfl <|
  gc (ok69 fuel) Tryz.func69 (by kernel_rfl) rfl <|
  gc (ok70_9c5 fuel) Tryz.func70 (by kernel_rfl) rfl <|
  gc (ok71 fuel) Tryz.func71 (by kernel_rfl) rfl <|
  gok_nil
theorem B20_0_blk (fuel : Nat) : BlkOK Tryz.prog Tryz.f20.ntmps (.block 0 (.loop (bodyOf 0 Tryz.f20))) (B20_0 fuel) := bo0 (hG20 fuel) (by kernel_rfl) (by kernel_rfl) (B20_0_ok fuel)
theorem B20_2_blk (fuel : Nat) : BlkOK Tryz.prog Tryz.f20.ntmps (.block 2 (.loop (bodyOf 2 Tryz.f20))) (B20_2 fuel) := bo0 (hG20 fuel) (by kernel_rfl) (by kernel_rfl) (B20_2_ok fuel)
theorem fok20 (fuel : Nat) : FnOK Tryz.prog 20 (evalFn tab (G20 fuel) (J20 fuel) kp20 fuel Tryz.f20) :=
  fn_ok tab_ok (hG20 fuel) mixed Tryz.func20 (c := (Tryz.f20.body).getD .skip) rfl (fun q hq => by
    rw [(by kernel_rfl : obl (J20 fuel) ((Tryz.f20.body).getD .skip) = [(.block 0 (.loop (bodyOf 0 Tryz.f20)), B20_0 fuel), (.block 2 (.loop (bodyOf 2 Tryz.f20)), B20_2 fuel)])] at hq
    simp only [List.mem_cons, List.not_mem_nil, or_false] at hq
    rcases hq with rfl | rfl
    · exact B20_0_blk fuel
    · exact B20_2_blk fuel)
def spg20 (F : YF20) : Ev.Spec := fun args objs k => match args, objs with | [.agg [i6 x0, i6 x1, i6 x2, i6 x3, i6 x4, i6 x5, i6 x6, i6 x7, .bool x8, i6 x9], .c (.sl (.pair (.int .i64) (.pair (.int .i64) (.sl (.int .u8)))) x10), .c (i6 x11), .c (i6 x12), .c (.sl (.int .u8) x13)], [] => F x0 x1 x2 x3 x4 x5 x6 x7 x8 x9 x10 x11 x12 x13 (fun r => match r with | (r0, r1) => k (.tup [(false, [.own 0]), (false, [i6 r0])], [.vec 3 (.int .i64) r1 true])) | _, _ => none
theorem ok20 (fuel : Nat) : FnOK Tryz.prog 20 (spg20 (F_ref11_Decode fuel)) := by
  intro args objs kk r h
  unfold spg20 at h
  split at h
  · skip
    exact fok20 fuel _ _ kk r ((F20_eqg fuel (F_ref11_options fuel) (F_ref07_Size fuel) (F_ref02_New fuel) (F_ref03_Width fuel) (F_ref11_skipped fuel) (F_ref11_asked fuel) (F_ref02_NewDecoder fuel) (F_ref07_Get_9c5 fuel) (F_ref11_FromPlanes fuel) _ _ _ _ _ _ _ _ _ _ _ _ _ _ kk).trans h)
  · cases h
def kp48 (i : Nat) : Option (List Nat) := Ev.look i []
def Gg48 (f : Nat) : Option Ev.Spec := Ev.look f []
def G48 (fuel : Nat) : Nat → Option Ev.Spec := Gg48
def F_coder_New (fuel : Nat) (x0 x1 : Int) (k0 : (Int × Int × (List Int)) → Option Ans) : Option Ans := bif x0 != 0 then bif x0 != 1 then k0 (0, 2, []) else bif decide (x1 < 0) then k0 (0, 2, []) else bif decide (x1 > 8192) then k0 (0, 2, []) else bif decide (0 ≤ x1 ∧ x1 = x1 ∧ (↑(8 : Nat) : Int) * x1 ≤ 281474976710656 ∧ x1 ≤ 281474976710656) then k0 (x0, 0, List.replicate x1.toNat (0 : Int)) else none else bif decide (x1 < 0) then k0 (0, 2, []) else bif decide (x1 > 8192) then k0 (0, 2, []) else bif decide (0 ≤ x1 ∧ x1 = x1 ∧ (↑(8 : Nat) : Int) * x1 ≤ 281474976710656 ∧ x1 ≤ 281474976710656) then k0 (x0, 0, List.replicate x1.toNat (0 : Int)) else none
abbrev YF48 : Type := Int → Int → ((Int × Int × LI) → Option Ans) → Option Ans
theorem F48_eq (fuel : Nat) (x0 x1 : Int) (k : Ev.Cont) : evalFn tab (G48 fuel) J0 kp48 fuel Tryz.f48 [.c (i6 x0), .c (i6 x1)] [] k = F_coder_New fuel x0 x1 (fun r => match r with | (r0, r1, r2) => k (.tup [(true, [i6 r0, .own 0]), (false, [i6 r1])], [.vec 3 (.int .i64) r2 true])) := by
  kernel_rfl
theorem hG48 (fuel : Nat) : GOK Tryz.prog (G48 fuel) :=
  gok_nil
def spg48 (F : YF48) : Ev.Spec := fun args objs k => match args, objs with | [.c (i6 x0), .c (i6 x1)], [] => F x0 x1 (fun r => match r with | (r0, r1, r2) => k (.tup [(true, [i6 r0, .own 0]), (false, [i6 r1])], [.vec 3 (.int .i64) r2 true])) | _, _ => none
theorem ok48 (fuel : Nat) : FnOK Tryz.prog 48 (spg48 (F_coder_New fuel)) := by
  intro args objs kk r h
  unfold spg48 at h
  split at h
  · skip
    exact fo0 (hG48 fuel) Tryz.func48 rfl (by kernel_rfl) _ _ kk r ((F48_eq fuel _ _ kk).trans h)
  · cases h
def kp145_40a (i : Nat) : Option (List Nat) := Ev.look i [(200001, [0]), (200002, [0])]
def Gg145_40a (f : Nat) : Option Ev.Spec := Ev.look f []
def G145_40a (fuel : Nat) : Nat → Option Ev.Spec := Gg145_40a
def F_coder_Decoder_shift_40a (fuel : Nat) (x0 x1 : Int) (x2 x3 : Int) (x4 x5 : Int) (x6 x7 : Bool) (x8 x9 : (List Int)) (k0 : (Int × Int × Int × Int × Int × Int × Bool × Bool × (List Int) × (List Int)) → Option Ans) : Option Ans := bif decide (x3 < (↑x9.length : Int)) then bif decide (0 ≤ x3 ∧ x3 < (↑x9.length : Int)) then k0 (x0, x1, x2, i64.wrap (x3 + 1), Ev.ior IntKind.u64 (Ev.iand IntKind.u64 (Ev.ishl IntKind.u64 x4 8) 4294967295) (u64.wrap (x9.getD x3.toNat 0)), x5, x6, x7, x8, x9) else none else k0 (x0, x1, x2, i64.wrap (x3 + 1), Ev.ior IntKind.u64 (Ev.iand IntKind.u64 (Ev.ishl IntKind.u64 x4 8) 4294967295) (u64.wrap 0), i64.wrap (x5 + 1), x6, x7, x8, x9)
abbrev YF145_40a : Type := Int → Int → Int → Int → Int → Int → Bool → Bool → LI → LI → ((Int × Int × Int × Int × Int × Int × Bool × Bool × LI × LI) → Option Ans) → Option Ans
theorem F145_40a_eq (fuel : Nat) (x0 x1 : Int) (x2 x3 : Int) (x4 x5 : Int) (x6 x7 : Bool) (x8 x9 : LI) (k : Ev.Cont) : evalFn tab (G145_40a fuel) J0 kp145_40a fuel Tryz.f145 [.c (.ptr 0 0)] [.cells 194 (i6 x0 :: .own 1 :: ctb (.int .u64 x1 :: .int .u64 x2 :: .own 2 :: i6 x3 :: .int .u64 x4 :: i6 x5 :: .bool x6 :: .bool x7 :: [])), .vec 3 (.int .i64) x8 false, .vec 5 (.int .u8) x9 false] k = F_coder_Decoder_shift_40a fuel x0 x1 x2 x3 x4 x5 x6 x7 x8 x9 (fun r => match r with | (r0, r1, r2, r3, r4, r5, r6, r7, r8, r9) => k (.tup [], [.cells 194 (i6 r0 :: .own 1 :: ctb (.int .u64 r1 :: .int .u64 r2 :: .own 2 :: i6 r3 :: .int .u64 r4 :: i6 r5 :: .bool r6 :: .bool r7 :: [])), .vec 3 (.int .i64) r8 false, .vec 5 (.int .u8) r9 false])) := by
  kernel_rfl
theorem hG145_40a (fuel : Nat) : GOK Tryz.prog (G145_40a fuel) :=
  gok_nil
def spg145_40a (F : YF145_40a) : Ev.Spec := fun args objs k => match args, objs with | [.c (.ptr q0 q1)], [.cells q2 cs0, .vec q3 (.int .i64) x8 false, .vec q4 (.int .u8) x9 false] => (match splitRun 2 ctn cs0 with | some ([i6 x0, .own q5], [.int .u64 x1, .int .u64 x2, .own q6, i6 x3, .int .u64 x4, i6 x5, .bool x6, .bool x7]) => bif qb [q0, q1, q2, q3, q4, q5, q6] [0, 0, 194, 3, 5, 1, 2] then F x0 x1 x2 x3 x4 x5 x6 x7 x8 x9 (fun r => match r with | (r0, r1, r2, r3, r4, r5, r6, r7, r8, r9) => k (.tup [], [.cells 194 (i6 r0 :: .own 1 :: ctb (.int .u64 r1 :: .int .u64 r2 :: .own 2 :: i6 r3 :: .int .u64 r4 :: i6 r5 :: .bool r6 :: .bool r7 :: [])), .vec 3 (.int .i64) r8 false, .vec 5 (.int .u8) r9 false])) else none | _ => none) | _, _ => none
theorem ok145_40a (fuel : Nat) : FnOK Tryz.prog 145 (spg145_40a (F_coder_Decoder_shift_40a fuel)) := by
  intro args objs kk r h
  unfold spg145_40a at h
  split at h
  · skip
    split at h
    rotate_left 1
    · cases h
    rename_i hsp
    have esp := splitRun_eq hsp
    subst esp
    obtain ⟨hb, h⟩ := cond_some' h
    cases qb_eq hb
    exact fo0 (hG145_40a fuel) Tryz.func145 rfl (by kernel_rfl) _ _ kk r ((F145_40a_eq fuel _ _ _ _ _ _ _ _ _ _ kk).trans h)
  · cases h
def kp118 (i : Nat) : Option (List Nat) := Ev.look i [(7, [3, 24, 25, 26]), (100000, []), (400000, [2])]
def Gg118 (f : Nat) : Option Ev.Spec := Ev.look f []
def G118 (fuel : Nat) : Nat → Option Ev.Spec := Gg118
def S_coder_Valid_0 (fuel : Nat) (v : Int × (List Int) × Int × Int) (c : (Int × (List Int) × Int × Int) → Option Ans) (B : (Bool → Option Ans) × (Unit → Option Ans)) : Option Ans := match v, B with | (x0, x1, x2, x3), (ret, b) => bif decide (x3 < x2) then bif decide ((0 : Int) ≤ x3 ∧ x3 < (↑x1.length : Int)) then bif decide (x1.getD x3.toNat (0 : Int) < (0 : Int)) then ret false else bif decide (x1.getD x3.toNat (0 : Int) ≥ x0) then ret false else c (x0, x1, x2, i64.wrap (x3 + (1 : Int))) else none else b ()
def L_coder_Valid_0 (fuel : Nat) (v : Int × (List Int) × Int × Int) (ret : (Bool → Option Ans)) (b : (Unit → Option Ans)) : Option Ans := iter (S_coder_Valid_0 fuel) fuel v (ret, b)
def T118_0 (v : Int × LI × Int × Int) : Ev.St := match v with | (x0, x1, x2, x3) => ⟨[(3, .c (i6 x0)), (24, .c (.sl (.int .i64) x1)), (25, .c (i6 x2)), (26, .c (i6 x3))], [], 0, 0⟩
def E118_0 (K : KT) : (Bool → OA) × (Unit → OA) := ((fun v => match v with | x0 => K .ret ⟨[(2, .c (.bool x0))], [], 0, 0⟩), (fun v => match v with | () => K .normal ⟨[], [], 0, 0⟩))
theorem S118_0_ok (fuel : Nat) (R : Ev.St → OA) (K : KT) (x0 : Int) (x1 : LI) (x2 x3 : Int) : evalCode tab (G118 fuel) J0 kp118 fuel (bodyOf 0 Tryz.f118) (T118_0 (x0, x1, x2, x3)) (lc kp118 7 0 R K) = S_coder_Valid_0 fuel (x0, x1, x2, x3) (fun v => R (T118_0 v)) (E118_0 K) := by
  kernel_rfl
def B118_0 (fuel : Nat) : Ev.Blk := fun st K => match canonO (kp118 7) st with | some s => (match s with | ⟨[(q0, .c (i6 x0)), (q1, .c (.sl (.int .i64) x1)), (q2, .c (i6 x2)), (q3, .c (i6 x3))], [], q4, q5⟩ => bif qb [q0, q1, q2, q3, q4, q5] [3, 24, 25, 26, 0, 0] then iter (S_coder_Valid_0 fuel) fuel (x0, x1, x2, x3) (E118_0 K) else none | _ => none) | none => none
theorem B118_0_ok (fuel : Nat) (st : Ev.St) (K : KT) (r : Ans) (h : B118_0 fuel st K = some r) : evalCode tab (G118 fuel) J0 kp118 fuel (.block 0 (.loop (bodyOf 0 Tryz.f118))) st K = some r := by
  unfold B118_0 at h
  split at h
  · rename_i s hs
    split at h
    · skip
      obtain ⟨hb, h⟩ := cond_some' h
      cases qb_eq hb
      exact blk_loop (S := T118_0) (ks := E118_0) (step := S_coder_Valid_0 fuel) (v := (_, _, _, _)) (by kernel_rfl) (by kernel_rfl) (fun R K v => by obtain ⟨x0, x1, x2, x3⟩ := v; exact S118_0_ok fuel R K x0 x1 x2 x3) hs h
    · cases h
  · cases h
def J118 (fuel : Nat) (i : Nat) : Option Ev.Blk := Ev.look i [(100000, B118_0 fuel)]
def F_coder_Valid (fuel : Nat) (x0 : Int) (x1 : (List Int)) (k0 : (Bool) → Option Ans) : Option Ans := bif x0 != 0 then bif x0 != 1 then k0 false else bif decide ((↑x1.length : Int) > 8192) then k0 false else bif x0 == 1 then (L_coder_Valid_0 fuel (65536, x1, (↑x1.length : Int), 0) (fun ret0_0 => k0 ret0_0) (fun () => k0 true)) else (L_coder_Valid_0 fuel (64, x1, (↑x1.length : Int), 0) (fun ret0_0 => k0 ret0_0) (fun () => k0 true)) else bif decide ((↑x1.length : Int) > 8192) then k0 false else bif x0 == 1 then (L_coder_Valid_0 fuel (65536, x1, (↑x1.length : Int), 0) (fun ret0_0 => k0 ret0_0) (fun () => k0 true)) else (L_coder_Valid_0 fuel (64, x1, (↑x1.length : Int), 0) (fun ret0_0 => k0 ret0_0) (fun () => k0 true))
abbrev YF118 : Type := Int → LI → (Bool → Option Ans) → Option Ans
theorem F118_eq (fuel : Nat) (x0 : Int) (x1 : LI) (k : Ev.Cont) : evalFn tab (G118 fuel) (J118 fuel) kp118 fuel Tryz.f118 [.agg [i6 x0, .sl (.int .i64) x1]] [] k = F_coder_Valid fuel x0 x1 (fun r => match r with | r0 => k (.c (.bool r0), [])) := by
  kernel_rfl
theorem hG118 (fuel : Nat) : GOK Tryz.prog (G118 fuel) :=
  gok_nil
theorem B118_0_blk (fuel : Nat) : BlkOK Tryz.prog Tryz.f118.ntmps (.block 0 (.loop (bodyOf 0 Tryz.f118))) (B118_0 fuel) := bo0 (hG118 fuel) (by kernel_rfl) (by kernel_rfl) (B118_0_ok fuel)
def spg118 (F : YF118) : Ev.Spec := fun args objs k => match args, objs with | [.agg [i6 x0, .sl (.int .i64) x1]], [] => F x0 x1 (fun r => match r with | r0 => k (.c (.bool r0), [])) | _, _ => none
theorem ok118 (fuel : Nat) : FnOK Tryz.prog 118 (spg118 (F_coder_Valid fuel)) := by
  intro args objs kk r h
  unfold spg118 at h
  split at h
  · skip
    exact fo1 (hG118 fuel) Tryz.func118 rfl (B118_0_blk fuel) (by kernel_rfl) _ _ kk r ((F118_eq fuel _ _ kk).trans h)
  · cases h
def kp205 (i : Nat) : Option (List Nat) := Ev.look i [(4, [0, 1, 2, 4]), (100000, [0, 1]), (400000, [0])]
def Gg205 (f : Nat) : Option Ev.Spec := Ev.look f []
def G205 (fuel : Nat) : Nat → Option Ev.Spec := Gg205
def F_coder_chances (fuel : Nat)  (k0 : (Unit) → Option Ans) : Option Ans := k0 ()
abbrev YF205 : Type := ((Unit) → Option Ans) → Option Ans
theorem F205_eq (fuel : Nat)  (k : Ev.Cont) : evalFn tab (G205 fuel) J0 kp205 100 Tryz.f205 [] [] k = F_coder_chances fuel  (fun r => match r with | () => k (.agg (ctb []), [])) := by
  kernel_rfl
theorem hG205 (fuel : Nat) : GOK Tryz.prog (G205 fuel) :=
  gok_nil
theorem fok205 (fuel : Nat) : FnOK Tryz.prog 205 (evalFn tab (G205 fuel) J0 kp205 100 Tryz.f205) :=
  fn_ok tab_ok (hG205 fuel) mixed Tryz.func205 (c := (Tryz.f205.body).getD .skip) rfl (fun q hq => by
    rw [(by kernel_rfl : obl J0 ((Tryz.f205.body).getD .skip) = [])] at hq
    cases hq)
def spg205 (F : YF205) : Ev.Spec := fun args objs k => match args, objs with | [], [] => F  (fun r => match r with | () => k (.agg (ctb []), [])) | _, _ => none
theorem ok205 (fuel : Nat) : FnOK Tryz.prog 205 (spg205 (F_coder_chances fuel)) := by
  intro args objs kk r h
  unfold spg205 at h
  split at h
  · skip
    exact fok205 fuel _ _ kk r ((F205_eq fuel kk).trans h)
  · cases h
def kp204 (i : Nat) : Option (List Nat) := Ev.look i [(200001, [1])]
def Gg204 (f : Nat) : Option Ev.Spec := Ev.look f []
def G204 (fuel : Nat) : Nat → Option Ev.Spec := Gg204
def F_coder_clone (fuel : Nat) (x0 : Int) (x1 : (List Int)) (k0 : (Int × (List Int)) → Option Ans) : Option Ans := bif decide (((0 : Nat) + x1.length) * (8 : Nat) ≤ (140737488355328 : Nat) ∧ (0 : Nat) + x1.length ≤ (140737488355328 : Nat)) then k0 (x0, [] ++ x1) else none
abbrev YF204 : Type := Int → LI → ((Int × LI) → Option Ans) → Option Ans
theorem F204_eq (fuel : Nat) (x0 : Int) (x1 : LI) (k : Ev.Cont) : evalFn tab (G204 fuel) J0 kp204 fuel Tryz.f204 [.agg [i6 x0, .sl (.int .i64) x1]] [] k = F_coder_clone fuel x0 x1 (fun r => match r with | (r0, r1) => k (.agg [i6 r0, .own 0], [.vec 3 (.int .i64) r1 true])) := by
  kernel_rfl
theorem hG204 (fuel : Nat) : GOK Tryz.prog (G204 fuel) :=
  gok_nil
def spg204 (F : YF204) : Ev.Spec := fun args objs k => match args, objs with | [.agg [i6 x0, .sl (.int .i64) x1]], [] => F x0 x1 (fun r => match r with | (r0, r1) => k (.agg [i6 r0, .own 0], [.vec 3 (.int .i64) r1 true])) | _, _ => none
theorem ok204 (fuel : Nat) : FnOK Tryz.prog 204 (spg204 (F_coder_clone fuel)) := by
  intro args objs kk r h
  unfold spg204 at h
  split at h
  · skip
    exact fo0 (hG204 fuel) Tryz.func204 rfl (by kernel_rfl) _ _ kk r ((F204_eq fuel _ _ kk).trans h)
  · cases h
def kp119 (i : Nat) : Option (List Nat) := Ev.look i []
def Gg119 (f204 : YF204) (f205 : YF205) (f : Nat) : Option Ev.Spec := Ev.look f [(204, spg204 f204), (205, spg205 f205)]
def G119 (fuel : Nat) : Nat → Option Ev.Spec := Gg119 (F_coder_clone fuel) (F_coder_chances fuel)
def Fg_coder_begin (fuel : Nat) (f204 : YF204) (f205 : YF205) (x0 : Int) (x1 : LI) (k0 : (Int × Int × Int × LI) → OA) : OA := (f204 x0 x1 (fun (y2_0, y2_1) => (f205 (fun y6 => k0 (y2_0, 0, 4294967295, y2_1)))))
abbrev YF119 : Type := Int → LI → ((Int × Int × Int × LI) → Option Ans) → Option Ans
def F_coder_begin (fuel : Nat) : YF119 := Fg_coder_begin fuel (F_coder_clone fuel) (F_coder_chances fuel)
theorem F119_eqg (fuel : Nat) (f204 : YF204) (f205 : YF205) (x0 : Int) (x1 : LI) (k : Ev.Cont) : evalFn tab (Gg119 f204 f205) J0 kp119 fuel Tryz.f119 [.agg [i6 x0, .sl (.int .i64) x1]] [] k = Fg_coder_begin fuel f204 f205 x0 x1 (fun r => match r with | (r0, r1, r2, r3) => k (.agg (i6 r0 :: .own 0 :: ctb (.int .u64 r1 :: .int .u64 r2 :: [])), [.vec 3 (.int .i64) r3 true])) := by
  kernel_rfl
theorem hG119 (fuel : Nat) : GOK Tryz.prog (G119 fuel) :=
  gc (ok204 fuel) Tryz.func204 (by kernel_rfl) rfl <|
  gc (ok205 fuel) Tryz.func205 (by kernel_rfl) rfl <|
  gok_nil
def spg119 (F : YF119) : Ev.Spec := fun args objs k => match args, objs with | [.agg [i6 x0, .sl (.int .i64) x1]], [] => F x0 x1 (fun r => match r with | (r0, r1, r2, r3) => k (.agg (i6 r0 :: .own 0 :: ctb (.int .u64 r1 :: .int .u64 r2 :: [])), [.vec 3 (.int .i64) r3 true])) | _, _ => none
theorem ok119 (fuel : Nat) : FnOK Tryz.prog 119 (spg119 (F_coder_begin fuel)) := by
  intro args objs kk r h
  unfold spg119 at h
  split at h
  · skip
    exact fo0 (hG119 fuel) Tryz.func119 rfl (by kernel_rfl) _ _ kk r ((F119_eqg fuel (F_coder_clone fuel) (F_coder_chances fuel) _ _ kk).trans h)
  · cases h
def kp65 (i : Nat) : Option (List Nat) := Ev.look i [(5, [6, 17]), (100000, [6]), (400000, [4, 5]), (600000, [])]
def Gg65 (f118 : YF118) (f119 : YF119) (f145_40a : YF145_40a) (f : Nat) : Option Ev.Spec := Ev.look f [(118, spg118 f118), (119, spg119 f119), (145, spg145_40a f145_40a)]
def G65 (fuel : Nat) : Nat → Option Ev.Spec := Gg65 (F_coder_Valid fuel) (F_coder_begin fuel) (F_coder_Decoder_shift_40a fuel)
abbrev V_coder_NewDecoder_0 : Type := Int × Int × Int × Int × Int × Int × Int × Bool × Bool × LI × LI
abbrev W_coder_NewDecoder_0 : Type := (Int × Int × Int × Int × Int × Int × Bool × Bool × LI × LI → OA)
def Sg_coder_NewDecoder_0 (fuel : Nat) (f118 : YF118) (f119 : YF119) (f145_40a : YF145_40a) (x0 x1 : Int) (x2 x3 : Int) (x4 x5 x6 : Int) (x7 x8 : Bool) (x9 x10 : LI) (c : V_coder_NewDecoder_0 → OA) (B : W_coder_NewDecoder_0) : OA := match B with | b => bif decide (x0 < 4) then (f145_40a x1 x2 x3 x4 x5 x6 x7 x8 x9 x10 (fun (y3_0, y3_1, y3_2, y3_3, y3_4, y3_5, y3_6, y3_7, y3_8, y3_9) => c (i64.wrap (x0 + 1), y3_0, y3_1, y3_2, y3_3, y3_4, y3_5, y3_6, y3_7, y3_8, y3_9))) else b (x1, x2, x3, x4, x5, x6, x7, x8, x9, x10)
def S_coder_NewDecoder_0 (fuel : Nat) (v : Int × Int × Int × Int × Int × Int × Int × Bool × Bool × (List Int) × (List Int)) (c : (Int × Int × Int × Int × Int × Int × Int × Bool × Bool × (List Int) × (List Int)) → Option Ans) (B : (Int × Int × Int × Int × Int × Int × Bool × Bool × (List Int) × (List Int) → Option Ans)) : Option Ans := match v with | (x0, x1, x2, x3, x4, x5, x6, x7, x8, x9, x10) => Sg_coder_NewDecoder_0 fuel (F_coder_Valid fuel) (F_coder_begin fuel) (F_coder_Decoder_shift_40a fuel) x0 x1 x2 x3 x4 x5 x6 x7 x8 x9 x10 c B
def L_coder_NewDecoder_0 (fuel : Nat) (v : V_coder_NewDecoder_0) (b : W_coder_NewDecoder_0) : Option Ans := iter (S_coder_NewDecoder_0 fuel) fuel v b
def T65_0 (v : V_coder_NewDecoder_0) : Ev.St := match v with | (x0, x1, x2, x3, x4, x5, x6, x7, x8, x9, x10) => ⟨[(6, .c (.ptr 0 0)), (17, .c (i6 x0))], [(0, .cells 194 (i6 x1 :: .own 1 :: ctb (.int .u64 x2 :: .int .u64 x3 :: .own 2 :: i6 x4 :: .int .u64 x5 :: i6 x6 :: .bool x7 :: .bool x8 :: []))), (1, .vec 3 (.int .i64) x9 true), (2, .vec 5 (.int .u8) x10 true)], 3, 0⟩
def E65_0 (K : KT) : W_coder_NewDecoder_0 := (fun v => match v with | (x0, x1, x2, x3, x4, x5, x6, x7, x8, x9) => K .normal ⟨[(6, .c (.ptr 0 0))], [(0, .cells 194 (i6 x0 :: .own 1 :: ctb (.int .u64 x1 :: .int .u64 x2 :: .own 2 :: i6 x3 :: .int .u64 x4 :: i6 x5 :: .bool x6 :: .bool x7 :: []))), (1, .vec 3 (.int .i64) x8 true), (2, .vec 5 (.int .u8) x9 true)], 3, 0⟩)
theorem S65_0_okg (fuel : Nat) (f118 : YF118) (f119 : YF119) (f145_40a : YF145_40a) (R : Ev.St → OA) (K : KT) (x0 x1 : Int) (x2 x3 : Int) (x4 x5 x6 : Int) (x7 x8 : Bool) (x9 x10 : LI) : evalCode tab (Gg65 f118 f119 f145_40a) J0 kp65 fuel (bodyOf 0 Tryz.f65) (T65_0 (x0, x1, x2, x3, x4, x5, x6, x7, x8, x9, x10)) (lc kp65 5 0 R K) = Sg_coder_NewDecoder_0 fuel f118 f119 f145_40a x0 x1 x2 x3 x4 x5 x6 x7 x8 x9 x10 (fun v => R (T65_0 v)) (E65_0 K) := by
  kernel_rfl
def B65_0 (fuel : Nat) : Ev.Blk := fun st K => match canonO (kp65 5) st with | some s => (match s with | ⟨[(q0, .c (.ptr q1 q2)), (q3, .c (i6 x0))], [(q4, .cells q5 cs0), (q6, .vec q7 (.int .i64) x9 true), (q8, .vec q9 (.int .u8) x10 true)], q10, q11⟩ => (match splitRun 2 ctn cs0 with | some ([i6 x1, .own q12], [.int .u64 x2, .int .u64 x3, .own q13, i6 x4, .int .u64 x5, i6 x6, .bool x7, .bool x8]) => bif qb [q0, q1, q2, q3, q4, q5, q6, q7, q8, q9, q10, q11, q12, q13] [6, 0, 0, 17, 0, 194, 1, 3, 2, 5, 3, 0, 1, 2] then iter (S_coder_NewDecoder_0 fuel) fuel (x0, x1, x2, x3, x4, x5, x6, x7, x8, x9, x10) (E65_0 K) else none | _ => none) | _ => none) | none => none
theorem B65_0_ok (fuel : Nat) (st : Ev.St) (K : KT) (r : Ans) (h : B65_0 fuel st K = some r) : evalCode tab (G65 fuel) J0 kp65 fuel (.block 0 (.loop (bodyOf 0 Tryz.f65))) st K = some r := by
  unfold B65_0 at h
  split at h
  · rename_i s hs
    split at h
    · skip
      split at h
      rotate_left 1
      · cases h
      rename_i hsp
      have esp := splitRun_eq hsp
      subst esp
      obtain ⟨hb, h⟩ := cond_some' h
      cases qb_eq hb
      exact blk_loop (S := T65_0) (ks := E65_0) (step := S_coder_NewDecoder_0 fuel) (v := (_, _, _, _, _, _, _, _, _, _, _)) (by kernel_rfl) (by kernel_rfl) (fun R K v => by obtain ⟨x0, x1, x2, x3, x4, x5, x6, x7, x8, x9, x10⟩ := v; exact S65_0_okg fuel (F_coder_Valid fuel) (F_coder_begin fuel) (F_coder_Decoder_shift_40a fuel) R K x0 x1 x2 x3 x4 x5 x6 x7 x8 x9 x10) hs h
    · cases h
  · cases h
def J65 (fuel : Nat) (i : Nat) : Option Ev.Blk := Ev.look i [(100000, B65_0 fuel)]
def Fg_coder_NewDecoder (fuel : Nat) (f118 : YF118) (f119 : YF119) (f145_40a : YF145_40a) (x0 : Int) (x1 x2 : LI) (k0 : (Int) → OA) (k1 : (Int × Int × Int × Int × Int × Int × Int × Bool × Bool × LI × LI) → OA) : OA := (f118 x0 x1 (fun y2 => bif !y2 then k0 (10) else (f119 x0 x1 (fun (y7_0, y7_1, y7_2, y7_3) => bif decide (((0 : Nat) + x2.length) * (1 : Nat) ≤ (140737488355328 : Nat) ∧ (0 : Nat) + x2.length ≤ (140737488355328 : Nat)) then (L_coder_NewDecoder_0 fuel ((0 : Int), y7_0, y7_1, y7_2, (0 : Int), (0 : Int), (0 : Int), false, true, y7_3, [] ++ x2) (fun (b0_0, b0_1, b0_2, b0_3, b0_4, b0_5, b0_6, b0_7, b0_8, b0_9) => k1 (0, b0_0, b0_1, b0_2, b0_3, b0_4, b0_5, b0_6, b0_7, b0_8, b0_9))) else none))))
abbrev YF65 : Type := Int → LI → LI → (Int → Option Ans) → ((Int × Int × Int × Int × Int × Int × Int × Bool × Bool × LI × LI) → Option Ans) → Option Ans
def F_coder_NewDecoder (fuel : Nat) : YF65 := Fg_coder_NewDecoder fuel (F_coder_Valid fuel) (F_coder_begin fuel) (F_coder_Decoder_shift_40a fuel)
theorem F65_eqg (fuel : Nat) (f118 : YF118) (f119 : YF119) (f145_40a : YF145_40a) (x0 : Int) (x1 x2 : LI) (k : Ev.Cont) : evalFn tab (Gg65 f118 f119 f145_40a) (J65 fuel) kp65 fuel Tryz.f65 [.agg [i6 x0, .sl (.int .i64) x1], .c (.sl (.int .u8) x2)] [] k = Fg_coder_NewDecoder fuel f118 f119 f145_40a x0 x1 x2 (fun r => match r with | r0 => k (.tup [(false, [.nilptr]), (false, [i6 r0])], [])) (fun r => match r with | (r0, r1, r2, r3, r4, r5, r6, r7, r8, r9, r10) => k (.tup [(false, [.ptr 0 0]), (false, [i6 r0])], [.cells 194 (i6 r1 :: .own 1 :: ctb (.int .u64 r2 :: .int .u64 r3 :: .own 2 :: i6 r4 :: .int .u64 r5 :: i6 r6 :: .bool r7 :: .bool r8 :: [])), .vec 3 (.int .i64) r9 true, .vec 5 (.int .u8) r10 true])) := by
  kernel_rfl
theorem hG65 (fuel : Nat) : GOK Tryz.prog (G65 fuel) :=
  gc (ok118 fuel) Tryz.func118 (by kernel_rfl) rfl <|
  gc (ok119 fuel) Tryz.func119 (by kernel_rfl) rfl <|
  gc (ok145_40a fuel) Tryz.func145 (by kernel_rfl) rfl <|
  gok_nil
theorem B65_0_blk (fuel : Nat) : BlkOK Tryz.prog Tryz.f65.ntmps (.block 0 (.loop (bodyOf 0 Tryz.f65))) (B65_0 fuel) := bo0 (hG65 fuel) (by kernel_rfl) (by kernel_rfl) (B65_0_ok fuel)
def spg65 (F : YF65) : Ev.Spec := fun args objs k => match args, objs with | [.agg [i6 x0, .sl (.int .i64) x1], .c (.sl (.int .u8) x2)], [] => F x0 x1 x2 (fun r => match r with | r0 => k (.tup [(false, [.nilptr]), (false, [i6 r0])], [])) (fun r => match r with | (r0, r1, r2, r3, r4, r5, r6, r7, r8, r9, r10) => k (.tup [(false, [.ptr 0 0]), (false, [i6 r0])], [.cells 194 (i6 r1 :: .own 1 :: ctb (.int .u64 r2 :: .int .u64 r3 :: .own 2 :: i6 r4 :: .int .u64 r5 :: i6 r6 :: .bool r7 :: .bool r8 :: [])), .vec 3 (.int .i64) r9 true, .vec 5 (.int .u8) r10 true])) | _, _ => none
theorem ok65 (fuel : Nat) : FnOK Tryz.prog 65 (spg65 (F_coder_NewDecoder fuel)) := by
  intro args objs kk r h
  unfold spg65 at h
  split at h
  · skip
    exact fo1 (hG65 fuel) Tryz.func65 rfl (B65_0_blk fuel) (by kernel_rfl) _ _ kk r ((F65_eqg fuel (F_coder_Valid fuel) (F_coder_begin fuel) (F_coder_Decoder_shift_40a fuel) _ _ _ kk).trans h)
  · cases h
def kp212 (i : Nat) : Option (List Nat) := Ev.look i []
def Gg212 (f : Nat) : Option Ev.Spec := Ev.look f []
def G212 (fuel : Nat) : Nat → Option Ev.Spec := Gg212
def F_bitmap_fits (fuel : Nat) (x0 x1 : Int) (k0 : (Bool) → Option Ans) : Option Ans := bif decide (x0 ≥ 0) then bif decide (x1 ≥ 0) then bif decide (x0 ≤ 200) then bif decide (x1 ≤ 200) then k0 (decide (i64.wrap (x0 * x1) ≤ 8192)) else k0 false else k0 false else k0 false else k0 false
abbrev YF212 : Type := Int → Int → (Bool → Option Ans) → Option Ans
theorem F212_eq (fuel : Nat) (x0 x1 : Int) (k : Ev.Cont) : evalFn tab (G212 fuel) J0 kp212 fuel Tryz.f212 [.c (i6 x0), .c (i6 x1)] [] k = F_bitmap_fits fuel x0 x1 (fun r => match r with | r0 => k (.c (.bool r0), [])) := by
  kernel_rfl
theorem hG212 (fuel : Nat) : GOK Tryz.prog (G212 fuel) :=
  gok_nil
def spg212 (F : YF212) : Ev.Spec := fun args objs k => match args, objs with | [.c (i6 x0), .c (i6 x1)], [] => F x0 x1 (fun r => match r with | r0 => k (.c (.bool r0), [])) | _, _ => none
theorem ok212 (fuel : Nat) : FnOK Tryz.prog 212 (spg212 (F_bitmap_fits fuel)) := by
  intro args objs kk r h
  unfold spg212 at h
  split at h
  · skip
    exact fo0 (hG212 fuel) Tryz.func212 rfl (by kernel_rfl) _ _ kk r ((F212_eq fuel _ _ kk).trans h)
  · cases h
def kp195 (i : Nat) : Option (List Nat) := Ev.look i []
def Gg195 (f212 : YF212) (f : Nat) : Option Ev.Spec := Ev.look f [(212, spg212 f212)]
def G195 (fuel : Nat) : Nat → Option Ev.Spec := Gg195 (F_bitmap_fits fuel)
def Fg_bitmap_blank (fuel : Nat) (f212 : YF212) (x0 x1 : Int) (k0 : (Int × Int × Int × LI) → OA) : OA := (f212 x0 x1 (fun y2 => bif !y2 then k0 (0, 0, 4, []) else bif decide (0 ≤ i64.wrap (x0 * x1) ∧ i64.wrap (x0 * x1) = i64.wrap (x0 * x1) ∧ (↑(1 : Nat) : Int) * i64.wrap (x0 * x1) ≤ 281474976710656 ∧ i64.wrap (x0 * x1) ≤ 281474976710656) then k0 (x0, x1, 0, List.replicate (i64.wrap (x0 * x1)).toNat (0 : Int)) else none))
abbrev YF195 : Type := Int → Int → ((Int × Int × Int × LI) → Option Ans) → Option Ans
def F_bitmap_blank (fuel : Nat) : YF195 := Fg_bitmap_blank fuel (F_bitmap_fits fuel)
theorem F195_eqg (fuel : Nat) (f212 : YF212) (x0 x1 : Int) (k : Ev.Cont) : evalFn tab (Gg195 f212) J0 kp195 fuel Tryz.f195 [.c (i6 x0), .c (i6 x1)] [] k = Fg_bitmap_blank fuel f212 x0 x1 (fun r => match r with | (r0, r1, r2, r3) => k (.tup [(true, [i6 r0, i6 r1, .own 0]), (false, [i6 r2])], [.vec 5 (.int .u8) r3 true])) := by
  kernel_rfl
theorem hG195 (fuel : Nat) : GOK Tryz.prog (G195 fuel) :=
  gc (ok212 fuel) Tryz.func212 (by kernel_rfl) rfl <|
  gok_nil
def spg195 (F : YF195) : Ev.Spec := fun args objs k => match args, objs with | [.c (i6 x0), .c (i6 x1)], [] => F x0 x1 (fun r => match r with | (r0, r1, r2, r3) => k (.tup [(true, [i6 r0, i6 r1, .own 0]), (false, [i6 r2])], [.vec 5 (.int .u8) r3 true])) | _, _ => none
theorem ok195 (fuel : Nat) : FnOK Tryz.prog 195 (spg195 (F_bitmap_blank fuel)) := by
  intro args objs kk r h
  unfold spg195 at h
  split at h
  · skip
    exact fo0 (hG195 fuel) Tryz.func195 rfl (by kernel_rfl) _ _ kk r ((F195_eqg fuel (F_bitmap_fits fuel) _ _ kk).trans h)
  · cases h
end
end Go.Proofs.YtipdidpalcmlhaaGreat

