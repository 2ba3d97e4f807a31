/- What the functions that TonePatterns reaches do: their typed texts, each with the proof that the machine does it. No condition. -/
import Derived.Test.YtipdidpalcmlhaaEvX
import Derived.Test.YtipdidpalcmlhaaFsTonePatterns1
set_option linter.unusedVariables false
set_option linter.unusedSimpArgs false
set_option linter.unusedVariables false
set_option linter.unusedSimpArgs false
set_option maxRecDepth 100000
set_option maxHeartbeats 2000000
namespace Go.Proofs.Ytipdidpalcmlhaa
open Go Ev
def kp167 (i : Nat) : Option (List Nat) := Ev.look i []
noncomputable def Gg167 (f : Nat) : Option Ev.Spec := Ev.look f []
noncomputable def G167 (fuel : Nat) : Nat → Option Ev.Spec := Gg167
noncomputable def J167 (fuel : Nat) (i : Nat) : Option Ev.Blk := Ev.look i []
noncomputable def F_ref07_none (fuel : Nat) (x0 x1 : Int) (x2 : (List Int)) (k0 : (Bool) → Option Ans) : Option Ans :=
  bif x0 == (0 : Int) then
  k0 (x1 == (0 : Int))
  else
  k0 false
abbrev YF167 : Type := (Int) → (Int) → ((List Int)) → ((Bool) → Option Ans) → Option Ans
theorem F167_eq (fuel : Nat) (x0 x1 : Int) (x2 : (List Int)) (k : Ev.Cont) : evalFn tab (G167 fuel) (J167 fuel) kp167 fuel Try.f167 [.agg [.int .i64 x0, .int .i64 x1, .sl (.int .u8) x2]] [] k = F_ref07_none fuel x0 x1 x2 (fun r => match r with | r0 => k (.c (.bool r0), [])) := by
  kernel_rfl
theorem hG167 (fuel : Nat) : GOK Try.prog (G167 fuel) :=
  gok_nil
theorem fok167 (fuel : Nat) : FnOK Try.prog 167 (evalFn tab (G167 fuel) (J167 fuel) kp167 fuel Try.f167) :=
  fn_ok tab_ok (hG167 fuel) mixed Try.func167 (c := (Try.f167.body).getD .skip) rfl (fun q hq => by
    rw [(by kernel_rfl : obl (J167 fuel) ((Try.f167.body).getD .skip) = [])] at hq
    cases hq)
noncomputable def spg167 (F : YF167) : Ev.Spec := fun args objs k => match args, objs with
 | [.agg [.int .i64 x0, .int .i64 x1, .sl (.int .u8) x2]], [] => bif true then F x0 x1 x2 (fun r => match r with | r0 => k (.c (.bool r0), [])) else none
 | _, _ => none
noncomputable def spec167 (fuel : Nat) : Ev.Spec := spg167 (F_ref07_none fuel)
theorem ok167 (fuel : Nat) : FnOK Try.prog 167 (spec167 fuel) := by
  intro args objs kk r h
  unfold spec167 spg167 at h
  split at h
  · skip
    obtain ⟨hb, h⟩ := cond_some' h
    simp only [Bool.and_eq_true, Nat.beq_eq, decide_eq_true_eq] at hb
    clear hb
    exact fok167 fuel _ _ kk r ((F167_eq fuel _ _ _ kk).trans h)
  · cases h
end Go.Proofs.Ytipdidpalcmlhaa

set_option linter.unusedVariables false
set_option linter.unusedSimpArgs false
set_option maxRecDepth 100000
set_option maxHeartbeats 2000000
namespace Go.Proofs.Ytipdidpalcmlhaa
open Go Ev
def kp130 (i : Nat) : Option (List Nat) := Ev.look i []
noncomputable def Gg130 (f81 : YF81) (f167 : YF167) (f : Nat) : Option Ev.Spec := Ev.look f [(81, spg81 f81), (167, spg167 f167)]
noncomputable def G130 (fuel : Nat) : Nat → Option Ev.Spec := Gg130 (F_ref07_Size fuel) (F_ref07_none fuel)
noncomputable def J130 (fuel : Nat) (i : Nat) : Option Ev.Blk := Ev.look i []
noncomputable def Fg_ref07_room (fuel : Nat) (f81 : YF81) (f167 : YF167) (x0 x1 x2 : Int) (x3 : Bool) (x4 x5 : Int) (x6 x7 : Int) (x8 x9 x10 : Int) (x11 : (List Int)) (k0 : (Int) → Option Ans) : Option Ans :=
  (f81 (x0) (x1) (x2) (x3) (x4)
  (fun (y2_0, y2_1) =>
  (f167 (x9) (x10) (x11)
  (fun y6 =>
  bif !y6 then
  bif x9 != x7 then
  k0 ((2 : Int))
  else
  bif x10 != x8 then
  k0 ((2 : Int))
  else
  bif decide (x5 < (0 : Int)) then
  k0 ((2 : Int))
  else
  bif decide (x5 > x6) then
  k0 ((2 : Int))
  else
  bif decide (y2_0 > IntKind.i64.wrap (x6 - x5)) then
  k0 ((2 : Int))
  else
  k0 ((0 : Int))
  else
  bif decide (x5 < (0 : Int)) then
  k0 ((2 : Int))
  else
  bif decide (x5 > x6) then
  k0 ((2 : Int))
  else
  bif decide (y2_0 > IntKind.i64.wrap (x6 - x5)) then
  k0 ((2 : Int))
  else
  k0 ((0 : Int))))))
noncomputable def F_ref07_room (fuel : Nat) (x0 x1 x2 : Int) (x3 : Bool) (x4 x5 : Int) (x6 x7 : Int) (x8 x9 x10 : Int) (x11 : (List Int)) (k0 : (Int) → Option Ans) : Option Ans := Fg_ref07_room fuel (F_ref07_Size fuel) (F_ref07_none fuel) x0 x1 x2 x3 x4 x5 x6 x7 x8 x9 x10 x11 k0
abbrev YF130 : Type := (Int) → (Int) → (Int) → (Bool) → (Int) → (Int) → (Int) → (Int) → (Int) → (Int) → (Int) → ((List Int)) → ((Int) → Option Ans) → Option Ans
theorem F130_eqg (fuel : Nat) (f81 : YF81) (f167 : YF167) (x0 x1 x2 : Int) (x3 : Bool) (x4 x5 : Int) (x6 x7 : Int) (x8 x9 x10 : Int) (x11 : (List Int)) (k : Ev.Cont) : evalFn tab (Gg130 f81 f167) (J130 fuel) kp130 fuel Try.f130 [.agg [.int .i64 x0, .int .i64 x1, .int .i64 x2, .bool x3, .int .i64 x4], .c (.int .i64 x5), .c (.int .i64 x6), .c (.int .i64 x7), .c (.int .i64 x8), .agg [.int .i64 x9, .int .i64 x10, .sl (.int .u8) x11]] [] k = Fg_ref07_room fuel f81 f167 x0 x1 x2 x3 x4 x5 x6 x7 x8 x9 x10 x11 (fun r => match r with | r0 => k (.c (.int .i64 r0), [])) := by
  kernel_rfl
theorem hG130 (fuel : Nat) : GOK Try.prog (G130 fuel) :=
  gok_cons ⟨ok81 fuel, enters_of Try.func81 (by kernel_rfl) rfl⟩ <|
  gok_cons ⟨ok167 fuel, enters_of Try.func167 (by kernel_rfl) rfl⟩ <|
  gok_nil
theorem fok130 (fuel : Nat) : FnOK Try.prog 130 (evalFn tab (G130 fuel) (J130 fuel) kp130 fuel Try.f130) :=
  fn_ok tab_ok (hG130 fuel) mixed Try.func130 (c := (Try.f130.body).getD .skip) rfl (fun q hq => by
    rw [(by kernel_rfl : obl (J130 fuel) ((Try.f130.body).getD .skip) = [])] at hq
    cases hq)
noncomputable def spg130 (F : YF130) : Ev.Spec := fun args objs k => match args, objs with
 | [.agg [.int .i64 x0, .int .i64 x1, .int .i64 x2, .bool x3, .int .i64 x4], .c (.int .i64 x5), .c (.int .i64 x6), .c (.int .i64 x7), .c (.int .i64 x8), .agg [.int .i64 x9, .int .i64 x10, .sl (.int .u8) x11]], [] => bif true then F x0 x1 x2 x3 x4 x5 x6 x7 x8 x9 x10 x11 (fun r => match r with | r0 => k (.c (.int .i64 r0), [])) else none
 | _, _ => none
noncomputable def spec130 (fuel : Nat) : Ev.Spec := spg130 (F_ref07_room fuel)
theorem ok130 (fuel : Nat) : FnOK Try.prog 130 (spec130 fuel) := by
  intro args objs kk r h
  unfold spec130 spg130 at h
  split at h
  · skip
    obtain ⟨hb, h⟩ := cond_some' h
    simp only [Bool.and_eq_true, Nat.beq_eq, decide_eq_true_eq] at hb
    clear hb
    exact fok130 fuel _ _ kk r ((F130_eqg fuel (F_ref07_Size fuel) (F_ref07_none fuel) _ _ _ _ _ _ _ _ _ _ _ _ kk).trans h)
  · cases h
end Go.Proofs.Ytipdidpalcmlhaa

set_option linter.unusedVariables false
set_option linter.unusedSimpArgs false
set_option maxRecDepth 100000
set_option maxHeartbeats 2000000
namespace Go.Proofs.Ytipdidpalcmlhaa
open Go Ev
def kp132 (i : Nat) : Option (List Nat) := Ev.look i [(3, [2, 3, 4, 7, 8]), (100000, [7]), (400000, [6])]
noncomputable def Gg132 (f80 : YF80) (f : Nat) : Option Ev.Spec := Ev.look f [(80, spg80 f80)]
noncomputable def G132 (fuel : Nat) : Nat → Option Ev.Spec := Gg132 (F_ref05_At fuel)
noncomputable def Sg_ref07_typical_0 (fuel : Nat) (f80 : YF80) (x0 x1 : Int) (x2 x3 : Int) (x4 : (List Int)) (x5 x6 : Int) (x7 x8 : (List Int)) (c : (Int × Int × Int × Int × (List Int) × Int × Int × (List Int) × (List Int)) → Option Ans) (B : ((List Int) → Option Ans)) : Option Ans := match B with
 | b =>
  bif decide (x1 < x2) then
  (f80 (x2) (x3) (x4) (x1) (IntKind.i64.wrap (x0 - (1 : Int)))
  (fun y3 =>
  (f80 (x5) (x6) (x7) (x1) (x0)
  (fun y7 =>
  bif y7 == (1 : Int) then
  bif decide ((x8.length + [IntKind.u8.wrap (0 : Int)].length) * (1 : Nat) ≤ (140737488355328 : Nat) ∧ x8.length + [IntKind.u8.wrap (0 : Int)].length ≤ (140737488355328 : Nat)) then
  c (x0, IntKind.i64.wrap (x1 + (1 : Int)), x2, x3, x4, x5, x6, x7, x8 ++ [IntKind.u8.wrap (0 : Int)])
  else none
  else
  bif decide ((x8.length + [IntKind.u8.wrap y3].length) * (1 : Nat) ≤ (140737488355328 : Nat) ∧ x8.length + [IntKind.u8.wrap y3].length ≤ (140737488355328 : Nat)) then
  c (x0, IntKind.i64.wrap (x1 + (1 : Int)), x2, x3, x4, x5, x6, x7, x8 ++ [IntKind.u8.wrap y3])
  else none))))
  else
  b x8
noncomputable def S_ref07_typical_0 (fuel : Nat) (v : Int × Int × Int × Int × (List Int) × Int × Int × (List Int) × (List Int)) (c : (Int × Int × Int × Int × (List Int) × Int × Int × (List Int) × (List Int)) → Option Ans) (B : ((List Int) → Option Ans)) : Option Ans := match v with
 | (x0, x1, x2, x3, x4, x5, x6, x7, x8) => Sg_ref07_typical_0 fuel (F_ref05_At fuel) x0 x1 x2 x3 x4 x5 x6 x7 x8 c B
noncomputable def L_ref07_typical_0 (fuel : Nat) (v : Int × Int × Int × Int × (List Int) × Int × Int × (List Int) × (List Int)) (b : ((List Int) → Option Ans)) : Option Ans := iter (S_ref07_typical_0 fuel) fuel v b
noncomputable def J132_0 (fuel : Nat) (i : Nat) : Option Ev.Blk := Ev.look i []
noncomputable def T132_0 (v : Int × Int × Int × Int × (List Int) × Int × Int × (List Int) × (List Int)) : Ev.St := match v with | (x0, x1, x2, x3, x4, x5, x6, x7, x8) => ⟨[(2, .c (.int .i64 x0)), (3, .c (.ptr 0 0)), (4, .c (.ptr 1 0)), (7, .c (.own 2)), (8, .c (.int .i64 x1))], [(0, .cells 35 [.int .i64 x2, .int .i64 x3, .sl (.int .u8) x4]), (1, .cells 35 [.int .i64 x5, .int .i64 x6, .sl (.int .u8) x7]), (2, .vec 5 (.int .u8) x8 true)], 3, 0⟩
noncomputable def E132_0 (K : Ev.Ex → Ev.St → Option Ans) : ((List Int) → Option Ans) := (fun v => match v with | x0 => K .normal ⟨[(7, .c (.own 0))], [(0, .vec 5 (.int .u8) x0 true)], 1, 0⟩)
theorem S132_0_okg (fuel : Nat) (f80 : YF80) (R : Ev.St → Option Ans) (K : Ev.Ex → Ev.St → Option Ans) (x0 x1 : Int) (x2 x3 : Int) (x4 : (List Int)) (x5 x6 : Int) (x7 x8 : (List Int)) : evalCode tab (Gg132 f80) (J132_0 fuel) kp132 fuel (bodyOf 0 Try.f132) (T132_0 (x0, x1, x2, x3, x4, x5, x6, x7, x8)) (lc kp132 3 0 R K) = Sg_ref07_typical_0 fuel f80 x0 x1 x2 x3 x4 x5 x6 x7 x8 (fun v => R (T132_0 v)) (E132_0 K) := by
  kernel_rfl
noncomputable def B132_0 (fuel : Nat) : Ev.Blk := fun st K => match canonO (kp132 3) st with
 | some s => (match s with
 | ⟨[(q0, .c (.int .i64 x0)), (q1, .c (.ptr q2 q3)), (q4, .c (.ptr q5 q6)), (q7, .c (.own q8)), (q9, .c (.int .i64 x1))], [(q10, .cells q11 [.int .i64 x2, .int .i64 x3, .sl (.int .u8) x4]), (q12, .cells q13 [.int .i64 x5, .int .i64 x6, .sl (.int .u8) x7]), (q14, .vec q15 (.int .u8) x8 true)], q16, q17⟩ => bif Nat.beq q0 2 && Nat.beq q1 3 && Nat.beq q2 0 && Nat.beq q3 0 && Nat.beq q4 4 && Nat.beq q5 1 && Nat.beq q6 0 && Nat.beq q7 7 && Nat.beq q8 2 && Nat.beq q9 8 && Nat.beq q10 0 && Nat.beq q11 35 && Nat.beq q12 1 && Nat.beq q13 35 && Nat.beq q14 2 && Nat.beq q15 5 && Nat.beq q16 3 && Nat.beq q17 0 then iter (S_ref07_typical_0 fuel) fuel (x0, x1, x2, x3, x4, x5, x6, x7, x8) (E132_0 K) else none
 | _ => none)
 | none => none
theorem B132_0_ok (fuel : Nat) (st : Ev.St) (K : Ev.Ex → Ev.St → Option Ans) (r : Ans) (h : B132_0 fuel st K = some r) : evalCode tab (G132 fuel) (J132_0 fuel) kp132 fuel (.block 0 (.loop (bodyOf 0 Try.f132))) st K = some r := by
  unfold B132_0 at h
  split at h
  · rename_i s hs
    split at h
    · skip
      obtain ⟨hb, h⟩ := cond_some' h
      simp only [Bool.and_eq_true, Nat.beq_eq, decide_eq_true_eq] at hb
      obtain ⟨⟨⟨⟨⟨⟨⟨⟨⟨⟨⟨⟨⟨⟨⟨⟨⟨rfl, rfl⟩, rfl⟩, rfl⟩, rfl⟩, rfl⟩, rfl⟩, rfl⟩, rfl⟩, rfl⟩, rfl⟩, rfl⟩, rfl⟩, rfl⟩, rfl⟩, rfl⟩, rfl⟩, rfl⟩ := hb
      exact blk_loop (S := T132_0) (ks := E132_0) (step := S_ref07_typical_0 fuel) (v := (_, _, _, _, _, _, _, _, _)) (by kernel_rfl) (by kernel_rfl) (fun R K v => by obtain ⟨x0, x1, x2, x3, x4, x5, x6, x7, x8⟩ := v; exact S132_0_okg fuel (F_ref05_At fuel) R K x0 x1 x2 x3 x4 x5 x6 x7 x8) hs h
    · cases h
  · cases h
noncomputable def J132 (fuel : Nat) (i : Nat) : Option Ev.Blk := Ev.look i [(100000, B132_0 fuel)]
noncomputable def Fg_ref07_typical (fuel : Nat) (f80 : YF80) (x0 x1 : Int) (x2 : (List Int)) (x3 x4 : Int) (x5 : (List Int)) (x6 : Int) (k0 : ((List Int)) → Option Ans) : Option Ans :=
  (L_ref07_typical_0 fuel (x6, (0 : Int), x0, x1, x2, x3, x4, x5, [])
  (fun b0_0 =>
  k0 b0_0))
noncomputable def F_ref07_typical (fuel : Nat) (x0 x1 : Int) (x2 : (List Int)) (x3 x4 : Int) (x5 : (List Int)) (x6 : Int) (k0 : ((List Int)) → Option Ans) : Option Ans := Fg_ref07_typical fuel (F_ref05_At fuel) x0 x1 x2 x3 x4 x5 x6 k0
abbrev YF132 : Type := (Int) → (Int) → ((List Int)) → (Int) → (Int) → ((List Int)) → (Int) → (((List Int)) → Option Ans) → Option Ans
theorem F132_eqg (fuel : Nat) (f80 : YF80) (x0 x1 : Int) (x2 : (List Int)) (x3 x4 : Int) (x5 : (List Int)) (x6 : Int) (k : Ev.Cont) : evalFn tab (Gg132 f80) (J132 fuel) kp132 fuel Try.f132 [.agg [.int .i64 x0, .int .i64 x1, .sl (.int .u8) x2], .agg [.int .i64 x3, .int .i64 x4, .sl (.int .u8) x5], .c (.int .i64 x6)] [] k = Fg_ref07_typical fuel f80 x0 x1 x2 x3 x4 x5 x6 (fun r => match r with | r0 => k (.c (.own 0), [.vec 5 (.int .u8) r0 true])) := by
  kernel_rfl
theorem hG132 (fuel : Nat) : GOK Try.prog (G132 fuel) :=
  gok_cons ⟨ok80 fuel, enters_of Try.func80 (by kernel_rfl) rfl⟩ <|
  gok_nil
theorem B132_0_blk (fuel : Nat) : BlkOK Try.prog Try.f132.ntmps (.block 0 (.loop (bodyOf 0 Try.f132))) (B132_0 fuel) :=
  blk_of (blk_of_code tab_ok (hG132 fuel) mixed (J := J132_0 fuel) (kp := kp132) (fuel := fuel) (by kernel_rfl) (fun q hq => by
    rw [(by kernel_rfl : obl (J132_0 fuel) (.block 0 (.loop (bodyOf 0 Try.f132))) = [])] at hq
    cases hq)) (B132_0_ok fuel)
theorem fok132 (fuel : Nat) : FnOK Try.prog 132 (evalFn tab (G132 fuel) (J132 fuel) kp132 fuel Try.f132) :=
  fn_ok tab_ok (hG132 fuel) mixed Try.func132 (c := (Try.f132.body).getD .skip) rfl (fun q hq => by
    rw [(by kernel_rfl : obl (J132 fuel) ((Try.f132.body).getD .skip) = [(.block 0 (.loop (bodyOf 0 Try.f132)), B132_0 fuel)])] at hq
    simp only [List.mem_cons, List.not_mem_nil, or_false] at hq
    subst hq
    · exact B132_0_blk fuel)
noncomputable def spg132 (F : YF132) : Ev.Spec := fun args objs k => match args, objs with
 | [.agg [.int .i64 x0, .int .i64 x1, .sl (.int .u8) x2], .agg [.int .i64 x3, .int .i64 x4, .sl (.int .u8) x5], .c (.int .i64 x6)], [] => bif true then F x0 x1 x2 x3 x4 x5 x6 (fun r => match r with | r0 => k (.c (.own 0), [.vec 5 (.int .u8) r0 true])) else none
 | _, _ => none
noncomputable def spec132 (fuel : Nat) : Ev.Spec := spg132 (F_ref07_typical fuel)
theorem ok132 (fuel : Nat) : FnOK Try.prog 132 (spec132 fuel) := by
  intro args objs kk r h
  unfold spec132 spg132 at h
  split at h
  · skip
    obtain ⟨hb, h⟩ := cond_some' h
    simp only [Bool.and_eq_true, Nat.beq_eq, decide_eq_true_eq] at hb
    clear hb
    exact fok132 fuel _ _ kk r ((F132_eqg fuel (F_ref05_At fuel) _ _ _ _ _ _ _ kk).trans h)
  · cases h
end Go.Proofs.Ytipdidpalcmlhaa

set_option linter.unusedVariables false
set_option linter.unusedSimpArgs false
set_option maxRecDepth 100000
set_option maxHeartbeats 2000000
namespace Go.Proofs.Ytipdidpalcmlhaa
open Go Ev
def kp84_6c1 (i : Nat) : Option (List Nat) := Ev.look i [(6, [0, 1, 7, 8, 9, 11]), (9, [0, 1, 7, 8, 9, 11, 12]), (18, [0, 1, 7, 8, 9, 14, 16, 1000002]), (27, [0, 1, 7, 8, 9, 14, 16, 18]), (100000, [0, 1, 7, 8, 9]), (100002, [0, 1, 7, 8, 9, 11]), (100004, []), (100006, [0, 1, 7, 8, 9, 14, 16]), (200013, [7, 8, 9]), (200022, [8, 9]), (200030, [7, 8]), (400000, [10]), (400002, [10]), (400004, [10]), (400006, [10]), (600000, [])]
noncomputable def Gg84_6c1 (f28 : YF28) (f73 : YF73) (f80 : YF80) (f81 : YF81) (f130 : YF130) (f131_2fe : YF131_2fe) (f132 : YF132) (f133_e89 : YF133_e89) (f134 : YF134) (f : Nat) : Option Ev.Spec := Ev.look f [(28, spg28 f28), (73, spg73 f73), (80, spg80 f80), (81, spg81 f81), (130, spg130 f130), (131, spg131_2fe f131_2fe), (132, spg132 f132), (133, spg133_e89 f133_e89), (134, spg134 f134)]
noncomputable def G84_6c1 (fuel : Nat) : Nat → Option Ev.Spec := Gg84_6c1 (F_ref07_Valid fuel) (F_ref05_Valid fuel) (F_ref05_At fuel) (F_ref07_Size fuel) (F_ref07_room fuel) (F_ref02_Encoder_Model_2fe fuel) (F_ref07_typical fuel) (F_ref02_Encoder_Put_e89 fuel) (F_ref07_context fuel)
noncomputable def Sg_ref07_Put_6c1_2 (fuel : Nat) (f28 : YF28) (f73 : YF73) (f80 : YF80) (f81 : YF81) (f130 : YF130) (f131_2fe : YF131_2fe) (f132 : YF132) (f133_e89 : YF133_e89) (f134 : YF134) (x0 x1 : Int) (x2 x3 : Int) (x4 x5 : Int) (x6 x7 : (List Int)) (x8 x9 x10 : Int) (x11 : Bool) (x12 x13 x14 : Int) (x15 : (List Int)) (x16 x17 : Int) (x18 : (List Int)) (c : (Int × Int × Int × Int × Int × Int × (List Int) × (List Int) × Int × Int × Int × Bool × Int × Int × Int × (List Int) × Int × Int × (List Int)) → Option Ans) (B : (Int × Int × Int × Int × (List Int) × (List Int) → Option Ans) × (Int × Int × Int × Int × Int × (List Int) × (List Int) × Int × Int × Int × Bool × Int × Int × Int × (List Int) × Int × Int × (List Int) → Option Ans)) : Option Ans := match B with
 | (ret, b) =>
  bif decide (x2 < x13) then
  (f80 (x13) (x14) (x15) (x2) (x1)
  (fun y3 =>
  bif y3 == (1 : Int) then
  (f80 (x16) (x17) (x18) (x2) (x1)
  (fun y8 =>
  bif y8 == (1 : Int) then
  ret ((30 : Int), x3, x4, x5, x6, x7)
  else
  c (x0, x1, IntKind.i64.wrap (x2 + (1 : Int)), x3, x4, x5, x6, x7, x8, x9, x10, x11, x12, x13, x14, x15, x16, x17, x18)))
  else
  c (x0, x1, IntKind.i64.wrap (x2 + (1 : Int)), x3, x4, x5, x6, x7, x8, x9, x10, x11, x12, x13, x14, x15, x16, x17, x18)))
  else
  b (x0, x1, x3, x4, x5, x6, x7, x8, x9, x10, x11, x12, x13, x14, x15, x16, x17, x18)
noncomputable def S_ref07_Put_6c1_2 (fuel : Nat) (v : Int × Int × Int × Int × Int × Int × (List Int) × (List Int) × Int × Int × Int × Bool × Int × Int × Int × (List Int) × Int × Int × (List Int)) (c : (Int × Int × Int × Int × Int × Int × (List Int) × (List Int) × Int × Int × Int × Bool × Int × Int × Int × (List Int) × Int × Int × (List Int)) → Option Ans) (B : (Int × Int × Int × Int × (List Int) × (List Int) → Option Ans) × (Int × Int × Int × Int × Int × (List Int) × (List Int) × Int × Int × Int × Bool × Int × Int × Int × (List Int) × Int × Int × (List Int) → Option Ans)) : Option Ans := match v with
 | (x0, x1, x2, x3, x4, x5, x6, x7, x8, x9, x10, x11, x12, x13, x14, x15, x16, x17, x18) => Sg_ref07_Put_6c1_2 fuel (F_ref07_Valid fuel) (F_ref05_Valid fuel) (F_ref05_At fuel) (F_ref07_Size fuel) (F_ref07_room fuel) (F_ref02_Encoder_Model_2fe fuel) (F_ref07_typical fuel) (F_ref02_Encoder_Put_e89 fuel) (F_ref07_context fuel) x0 x1 x2 x3 x4 x5 x6 x7 x8 x9 x10 x11 x12 x13 x14 x15 x16 x17 x18 c B
noncomputable def L_ref07_Put_6c1_2 (fuel : Nat) (v : Int × Int × Int × Int × Int × Int × (List Int) × (List Int) × Int × Int × Int × Bool × Int × Int × Int × (List Int) × Int × Int × (List Int)) (ret : (Int × Int × Int × Int × (List Int) × (List Int) → Option Ans)) (b : (Int × Int × Int × Int × Int × (List Int) × (List Int) × Int × Int × Int × Bool × Int × Int × Int × (List Int) × Int × Int × (List Int) → Option Ans)) : Option Ans := iter (S_ref07_Put_6c1_2 fuel) fuel v (ret, b)
noncomputable def J84_6c1_2 (fuel : Nat) (i : Nat) : Option Ev.Blk := Ev.look i []
noncomputable def T84_6c1_2 (v : Int × Int × Int × Int × Int × Int × (List Int) × (List Int) × Int × Int × Int × Bool × Int × Int × Int × (List Int) × Int × Int × (List Int)) : Ev.St := match v with | (x0, x1, x2, x3, x4, x5, x6, x7, x8, x9, x10, x11, x12, x13, x14, x15, x16, x17, x18) => ⟨[(0, .c (.ptr 0 0)), (1, .c (.int .i64 x0)), (7, .c (.ptr 3 0)), (8, .c (.ptr 4 0)), (9, .c (.ptr 5 0)), (11, .c (.int .i64 x1)), (12, .c (.int .i64 x2))], [(0, .cells 185 [.int .i64 x3, .own 1, .int .u64 x4, .int .u64 x5, .own 2]), (1, .vec 3 (.int .i64) x6 false), (2, .vec 5 (.int .u8) x7 false), (3, .cells 24 [.int .i64 x8, .int .i64 x9, .int .i64 x10, .bool x11, .int .i64 x12]), (4, .cells 35 [.int .i64 x13, .int .i64 x14, .sl (.int .u8) x15]), (5, .cells 35 [.int .i64 x16, .int .i64 x17, .sl (.int .u8) x18])], 6, 3⟩
noncomputable def E84_6c1_2 (K : Ev.Ex → Ev.St → Option Ans) : (Int × Int × Int × Int × (List Int) × (List Int) → Option Ans) × (Int × Int × Int × Int × Int × (List Int) × (List Int) × Int × Int × Int × Bool × Int × Int × Int × (List Int) × Int × Int × (List Int) → Option Ans) := ((fun v => match v with | (x0, x1, x2, x3, x4, x5) => K .ret ⟨[(10, .c (.int .i64 x0))], [(0, .cells 185 [.int .i64 x1, .own 1, .int .u64 x2, .int .u64 x3, .own 2]), (1, .vec 3 (.int .i64) x4 false), (2, .vec 5 (.int .u8) x5 false)], 3, 3⟩), (fun v => match v with | (x0, x1, x2, x3, x4, x5, x6, x7, x8, x9, x10, x11, x12, x13, x14, x15, x16, x17) => K .normal ⟨[(0, .c (.ptr 0 0)), (1, .c (.int .i64 x0)), (7, .c (.ptr 3 0)), (8, .c (.ptr 4 0)), (9, .c (.ptr 5 0)), (11, .c (.int .i64 x1))], [(0, .cells 185 [.int .i64 x2, .own 1, .int .u64 x3, .int .u64 x4, .own 2]), (1, .vec 3 (.int .i64) x5 false), (2, .vec 5 (.int .u8) x6 false), (3, .cells 24 [.int .i64 x7, .int .i64 x8, .int .i64 x9, .bool x10, .int .i64 x11]), (4, .cells 35 [.int .i64 x12, .int .i64 x13, .sl (.int .u8) x14]), (5, .cells 35 [.int .i64 x15, .int .i64 x16, .sl (.int .u8) x17])], 6, 3⟩))
theorem S84_6c1_2_okg (fuel : Nat) (f28 : YF28) (f73 : YF73) (f80 : YF80) (f81 : YF81) (f130 : YF130) (f131_2fe : YF131_2fe) (f132 : YF132) (f133_e89 : YF133_e89) (f134 : YF134) (R : Ev.St → Option Ans) (K : Ev.Ex → Ev.St → Option Ans) (x0 x1 : Int) (x2 x3 : Int) (x4 x5 : Int) (x6 x7 : (List Int)) (x8 x9 x10 : Int) (x11 : Bool) (x12 x13 x14 : Int) (x15 : (List Int)) (x16 x17 : Int) (x18 : (List Int)) : evalCode tab (Gg84_6c1 f28 f73 f80 f81 f130 f131_2fe f132 f133_e89 f134) (J84_6c1_2 fuel) kp84_6c1 fuel (bodyOf 2 Try.f84) (T84_6c1_2 (x0, x1, x2, x3, x4, x5, x6, x7, x8, x9, x10, x11, x12, x13, x14, x15, x16, x17, x18)) (lc kp84_6c1 9 2 R K) = Sg_ref07_Put_6c1_2 fuel f28 f73 f80 f81 f130 f131_2fe f132 f133_e89 f134 x0 x1 x2 x3 x4 x5 x6 x7 x8 x9 x10 x11 x12 x13 x14 x15 x16 x17 x18 (fun v => R (T84_6c1_2 v)) (E84_6c1_2 K) := by
  kernel_rfl
noncomputable def B84_6c1_2 (fuel : Nat) : Ev.Blk := fun st K => match canonO (kp84_6c1 9) st with
 | some s => (match s with
 | ⟨[(q0, .c (.ptr q1 q2)), (q3, .c (.int .i64 x0)), (q4, .c (.ptr q5 q6)), (q7, .c (.ptr q8 q9)), (q10, .c (.ptr q11 q12)), (q13, .c (.int .i64 x1)), (q14, .c (.int .i64 x2))], [(q15, .cells q16 [.int .i64 x3, .own q17, .int .u64 x4, .int .u64 x5, .own q18]), (q19, .vec q20 (.int .i64) x6 false), (q21, .vec q22 (.int .u8) x7 false), (q23, .cells q24 [.int .i64 x8, .int .i64 x9, .int .i64 x10, .bool x11, .int .i64 x12]), (q25, .cells q26 [.int .i64 x13, .int .i64 x14, .sl (.int .u8) x15]), (q27, .cells q28 [.int .i64 x16, .int .i64 x17, .sl (.int .u8) x18])], q29, q30⟩ => bif Nat.beq q0 0 && Nat.beq q1 0 && Nat.beq q2 0 && Nat.beq q3 1 && Nat.beq q4 7 && Nat.beq q5 3 && Nat.beq q6 0 && Nat.beq q7 8 && Nat.beq q8 4 && Nat.beq q9 0 && Nat.beq q10 9 && Nat.beq q11 5 && Nat.beq q12 0 && Nat.beq q13 11 && Nat.beq q14 12 && Nat.beq q15 0 && Nat.beq q16 185 && Nat.beq q17 1 && Nat.beq q18 2 && Nat.beq q19 1 && Nat.beq q20 3 && Nat.beq q21 2 && Nat.beq q22 5 && Nat.beq q23 3 && Nat.beq q24 24 && Nat.beq q25 4 && Nat.beq q26 35 && Nat.beq q27 5 && Nat.beq q28 35 && Nat.beq q29 6 && Nat.beq q30 3 then iter (S_ref07_Put_6c1_2 fuel) fuel (x0, x1, x2, x3, x4, x5, x6, x7, x8, x9, x10, x11, x12, x13, x14, x15, x16, x17, x18) (E84_6c1_2 K) else none
 | _ => none)
 | none => none
theorem B84_6c1_2_ok (fuel : Nat) (st : Ev.St) (K : Ev.Ex → Ev.St → Option Ans) (r : Ans) (h : B84_6c1_2 fuel st K = some r) : evalCode tab (G84_6c1 fuel) (J84_6c1_2 fuel) kp84_6c1 fuel (.block 2 (.loop (bodyOf 2 Try.f84))) st K = some r := by
  unfold B84_6c1_2 at h
  split at h
  · rename_i s hs
    split at h
    · skip
      obtain ⟨hb, h⟩ := cond_some' h
      simp only [Bool.and_eq_true, Nat.beq_eq, decide_eq_true_eq] at hb
      obtain ⟨⟨⟨⟨⟨⟨⟨⟨⟨⟨⟨⟨⟨⟨⟨⟨⟨⟨⟨⟨⟨⟨⟨⟨⟨⟨⟨⟨⟨⟨rfl, rfl⟩, rfl⟩, rfl⟩, rfl⟩, rfl⟩, rfl⟩, rfl⟩, rfl⟩, rfl⟩, rfl⟩, rfl⟩, rfl⟩, rfl⟩, rfl⟩, rfl⟩, rfl⟩, rfl⟩, rfl⟩, rfl⟩, rfl⟩, rfl⟩, rfl⟩, rfl⟩, rfl⟩, rfl⟩, rfl⟩, rfl⟩, rfl⟩, rfl⟩, rfl⟩ := hb
      exact blk_loop (S := T84_6c1_2) (ks := E84_6c1_2) (step := S_ref07_Put_6c1_2 fuel) (v := (_, _, _, _, _, _, _, _, _, _, _, _, _, _, _, _, _, _, _)) (by kernel_rfl) (by kernel_rfl) (fun R K v => by obtain ⟨x0, x1, x2, x3, x4, x5, x6, x7, x8, x9, x10, x11, x12, x13, x14, x15, x16, x17, x18⟩ := v; exact S84_6c1_2_okg fuel (F_ref07_Valid fuel) (F_ref05_Valid fuel) (F_ref05_At fuel) (F_ref07_Size fuel) (F_ref07_room fuel) (F_ref02_Encoder_Model_2fe fuel) (F_ref07_typical fuel) (F_ref02_Encoder_Put_e89 fuel) (F_ref07_context fuel) R K x0 x1 x2 x3 x4 x5 x6 x7 x8 x9 x10 x11 x12 x13 x14 x15 x16 x17 x18) hs h
    · cases h
  · cases h
noncomputable def Sg_ref07_Put_6c1_0 (fuel : Nat) (f28 : YF28) (f73 : YF73) (f80 : YF80) (f81 : YF81) (f130 : YF130) (f131_2fe : YF131_2fe) (f132 : YF132) (f133_e89 : YF133_e89) (f134 : YF134) (x0 x1 : Int) (x2 x3 x4 : Int) (x5 x6 : (List Int)) (x7 x8 x9 : Int) (x10 : Bool) (x11 x12 x13 : Int) (x14 : (List Int)) (x15 x16 : Int) (x17 : (List Int)) (c : (Int × Int × Int × Int × Int × (List Int) × (List Int) × Int × Int × Int × Bool × Int × Int × Int × (List Int) × Int × Int × (List Int)) → Option Ans) (B : (Int × Int × Int × Int × (List Int) × (List Int) → Option Ans) × (Int × Int × Int × Int × (List Int) × (List Int) × Int × Int × Int × Bool × Int × Int × Int × (List Int) × Int × Int × (List Int) → Option Ans)) : Option Ans := match B with
 | (ret, b) =>
  bif decide (x1 < x13) then
  bif x12 == x15 then
  bif x13 == x16 then
  (L_ref07_Put_6c1_2 fuel (x0, x1, (0 : Int), x2, x3, x4, x5, x6, x7, x8, x9, x10, x11, x12, x13, x14, x15, x16, x17)
  (fun (ret2_0, ret2_1, ret2_2, ret2_3, ret2_4, ret2_5) =>
  ret (ret2_0, ret2_1, ret2_2, ret2_3, ret2_4, ret2_5))
  (fun (b2_0, b2_1, b2_2, b2_3, b2_4, b2_5, b2_6, b2_7, b2_8, b2_9, b2_10, b2_11, b2_12, b2_13, b2_14, b2_15, b2_16, b2_17) =>
  c (b2_0, IntKind.i64.wrap (b2_1 + (1 : Int)), b2_2, b2_3, b2_4, b2_5, b2_6, b2_7, b2_8, b2_9, b2_10, b2_11, b2_12, b2_13, b2_14, b2_15, b2_16, b2_17)))
  else
  b (x0, x2, x3, x4, x5, x6, x7, x8, x9, x10, x11, x12, x13, x14, x15, x16, x17)
  else
  b (x0, x2, x3, x4, x5, x6, x7, x8, x9, x10, x11, x12, x13, x14, x15, x16, x17)
  else
  b (x0, x2, x3, x4, x5, x6, x7, x8, x9, x10, x11, x12, x13, x14, x15, x16, x17)
noncomputable def S_ref07_Put_6c1_0 (fuel : Nat) (v : Int × Int × Int × Int × Int × (List Int) × (List Int) × Int × Int × Int × Bool × Int × Int × Int × (List Int) × Int × Int × (List Int)) (c : (Int × Int × Int × Int × Int × (List Int) × (List Int) × Int × Int × Int × Bool × Int × Int × Int × (List Int) × Int × Int × (List Int)) → Option Ans) (B : (Int × Int × Int × Int × (List Int) × (List Int) → Option Ans) × (Int × Int × Int × Int × (List Int) × (List Int) × Int × Int × Int × Bool × Int × Int × Int × (List Int) × Int × Int × (List Int) → Option Ans)) : Option Ans := match v with
 | (x0, x1, x2, x3, x4, x5, x6, x7, x8, x9, x10, x11, x12, x13, x14, x15, x16, x17) => Sg_ref07_Put_6c1_0 fuel (F_ref07_Valid fuel) (F_ref05_Valid fuel) (F_ref05_At fuel) (F_ref07_Size fuel) (F_ref07_room fuel) (F_ref02_Encoder_Model_2fe fuel) (F_ref07_typical fuel) (F_ref02_Encoder_Put_e89 fuel) (F_ref07_context fuel) x0 x1 x2 x3 x4 x5 x6 x7 x8 x9 x10 x11 x12 x13 x14 x15 x16 x17 c B
noncomputable def L_ref07_Put_6c1_0 (fuel : Nat) (v : Int × Int × Int × Int × Int × (List Int) × (List Int) × Int × Int × Int × Bool × Int × Int × Int × (List Int) × Int × Int × (List Int)) (ret : (Int × Int × Int × Int × (List Int) × (List Int) → Option Ans)) (b : (Int × Int × Int × Int × (List Int) × (List Int) × Int × Int × Int × Bool × Int × Int × Int × (List Int) × Int × Int × (List Int) → Option Ans)) : Option Ans := iter (S_ref07_Put_6c1_0 fuel) fuel v (ret, b)
noncomputable def J84_6c1_0 (fuel : Nat) (i : Nat) : Option Ev.Blk := Ev.look i [(100002, B84_6c1_2 fuel)]
noncomputable def T84_6c1_0 (v : Int × Int × Int × Int × Int × (List Int) × (List Int) × Int × Int × Int × Bool × Int × Int × Int × (List Int) × Int × Int × (List Int)) : Ev.St := match v with | (x0, x1, x2, x3, x4, x5, x6, x7, x8, x9, x10, x11, x12, x13, x14, x15, x16, x17) => ⟨[(0, .c (.ptr 0 0)), (1, .c (.int .i64 x0)), (7, .c (.ptr 3 0)), (8, .c (.ptr 4 0)), (9, .c (.ptr 5 0)), (11, .c (.int .i64 x1))], [(0, .cells 185 [.int .i64 x2, .own 1, .int .u64 x3, .int .u64 x4, .own 2]), (1, .vec 3 (.int .i64) x5 false), (2, .vec 5 (.int .u8) x6 false), (3, .cells 24 [.int .i64 x7, .int .i64 x8, .int .i64 x9, .bool x10, .int .i64 x11]), (4, .cells 35 [.int .i64 x12, .int .i64 x13, .sl (.int .u8) x14]), (5, .cells 35 [.int .i64 x15, .int .i64 x16, .sl (.int .u8) x17])], 6, 3⟩
noncomputable def E84_6c1_0 (K : Ev.Ex → Ev.St → Option Ans) : (Int × Int × Int × Int × (List Int) × (List Int) → Option Ans) × (Int × Int × Int × Int × (List Int) × (List Int) × Int × Int × Int × Bool × Int × Int × Int × (List Int) × Int × Int × (List Int) → Option Ans) := ((fun v => match v with | (x0, x1, x2, x3, x4, x5) => K .ret ⟨[(10, .c (.int .i64 x0))], [(0, .cells 185 [.int .i64 x1, .own 1, .int .u64 x2, .int .u64 x3, .own 2]), (1, .vec 3 (.int .i64) x4 false), (2, .vec 5 (.int .u8) x5 false)], 3, 3⟩), (fun v => match v with | (x0, x1, x2, x3, x4, x5, x6, x7, x8, x9, x10, x11, x12, x13, x14, x15, x16) => K .normal ⟨[(0, .c (.ptr 0 0)), (1, .c (.int .i64 x0)), (7, .c (.ptr 3 0)), (8, .c (.ptr 4 0)), (9, .c (.ptr 5 0))], [(0, .cells 185 [.int .i64 x1, .own 1, .int .u64 x2, .int .u64 x3, .own 2]), (1, .vec 3 (.int .i64) x4 false), (2, .vec 5 (.int .u8) x5 false), (3, .cells 24 [.int .i64 x6, .int .i64 x7, .int .i64 x8, .bool x9, .int .i64 x10]), (4, .cells 35 [.int .i64 x11, .int .i64 x12, .sl (.int .u8) x13]), (5, .cells 35 [.int .i64 x14, .int .i64 x15, .sl (.int .u8) x16])], 6, 3⟩))
theorem S84_6c1_0_okg (fuel : Nat) (f28 : YF28) (f73 : YF73) (f80 : YF80) (f81 : YF81) (f130 : YF130) (f131_2fe : YF131_2fe) (f132 : YF132) (f133_e89 : YF133_e89) (f134 : YF134) (R : Ev.St → Option Ans) (K : Ev.Ex → Ev.St → Option Ans) (x0 x1 : Int) (x2 x3 x4 : Int) (x5 x6 : (List Int)) (x7 x8 x9 : Int) (x10 : Bool) (x11 x12 x13 : Int) (x14 : (List Int)) (x15 x16 : Int) (x17 : (List Int)) : evalCode tab (Gg84_6c1 f28 f73 f80 f81 f130 f131_2fe f132 f133_e89 f134) (J84_6c1_0 fuel) kp84_6c1 fuel (bodyOf 0 Try.f84) (T84_6c1_0 (x0, x1, x2, x3, x4, x5, x6, x7, x8, x9, x10, x11, x12, x13, x14, x15, x16, x17)) (lc kp84_6c1 6 0 R K) = Sg_ref07_Put_6c1_0 fuel f28 f73 f80 f81 f130 f131_2fe f132 f133_e89 f134 x0 x1 x2 x3 x4 x5 x6 x7 x8 x9 x10 x11 x12 x13 x14 x15 x16 x17 (fun v => R (T84_6c1_0 v)) (E84_6c1_0 K) := by
  kernel_rfl
noncomputable def B84_6c1_0 (fuel : Nat) : Ev.Blk := fun st K => match canonO (kp84_6c1 6) st with
 | some s => (match s with
 | ⟨[(q0, .c (.ptr q1 q2)), (q3, .c (.int .i64 x0)), (q4, .c (.ptr q5 q6)), (q7, .c (.ptr q8 q9)), (q10, .c (.ptr q11 q12)), (q13, .c (.int .i64 x1))], [(q14, .cells q15 [.int .i64 x2, .own q16, .int .u64 x3, .int .u64 x4, .own q17]), (q18, .vec q19 (.int .i64) x5 false), (q20, .vec q21 (.int .u8) x6 false), (q22, .cells q23 [.int .i64 x7, .int .i64 x8, .int .i64 x9, .bool x10, .int .i64 x11]), (q24, .cells q25 [.int .i64 x12, .int .i64 x13, .sl (.int .u8) x14]), (q26, .cells q27 [.int .i64 x15, .int .i64 x16, .sl (.int .u8) x17])], q28, q29⟩ => bif Nat.beq q0 0 && Nat.beq q1 0 && Nat.beq q2 0 && Nat.beq q3 1 && Nat.beq q4 7 && Nat.beq q5 3 && Nat.beq q6 0 && Nat.beq q7 8 && Nat.beq q8 4 && Nat.beq q9 0 && Nat.beq q10 9 && Nat.beq q11 5 && Nat.beq q12 0 && Nat.beq q13 11 && Nat.beq q14 0 && Nat.beq q15 185 && Nat.beq q16 1 && Nat.beq q17 2 && Nat.beq q18 1 && Nat.beq q19 3 && Nat.beq q20 2 && Nat.beq q21 5 && Nat.beq q22 3 && Nat.beq q23 24 && Nat.beq q24 4 && Nat.beq q25 35 && Nat.beq q26 5 && Nat.beq q27 35 && Nat.beq q28 6 && Nat.beq q29 3 then iter (S_ref07_Put_6c1_0 fuel) fuel (x0, x1, x2, x3, x4, x5, x6, x7, x8, x9, x10, x11, x12, x13, x14, x15, x16, x17) (E84_6c1_0 K) else none
 | _ => none)
 | none => none
theorem B84_6c1_0_ok (fuel : Nat) (st : Ev.St) (K : Ev.Ex → Ev.St → Option Ans) (r : Ans) (h : B84_6c1_0 fuel st K = some r) : evalCode tab (G84_6c1 fuel) (J84_6c1_0 fuel) kp84_6c1 fuel (.block 0 (.loop (bodyOf 0 Try.f84))) st K = some r := by
  unfold B84_6c1_0 at h
  split at h
  · rename_i s hs
    split at h
    · skip
      obtain ⟨hb, h⟩ := cond_some' h
      simp only [Bool.and_eq_true, Nat.beq_eq, decide_eq_true_eq] at hb
      obtain ⟨⟨⟨⟨⟨⟨⟨⟨⟨⟨⟨⟨⟨⟨⟨⟨⟨⟨⟨⟨⟨⟨⟨⟨⟨⟨⟨⟨⟨rfl, rfl⟩, rfl⟩, rfl⟩, rfl⟩, rfl⟩, rfl⟩, rfl⟩, rfl⟩, rfl⟩, rfl⟩, rfl⟩, rfl⟩, rfl⟩, rfl⟩, rfl⟩, rfl⟩, rfl⟩, rfl⟩, rfl⟩, rfl⟩, rfl⟩, rfl⟩, rfl⟩, rfl⟩, rfl⟩, rfl⟩, rfl⟩, rfl⟩, rfl⟩ := hb
      exact blk_loop (S := T84_6c1_0) (ks := E84_6c1_0) (step := S_ref07_Put_6c1_0 fuel) (v := (_, _, _, _, _, _, _, _, _, _, _, _, _, _, _, _, _, _)) (by kernel_rfl) (by kernel_rfl) (fun R K v => by obtain ⟨x0, x1, x2, x3, x4, x5, x6, x7, x8, x9, x10, x11, x12, x13, x14, x15, x16, x17⟩ := v; exact S84_6c1_0_okg fuel (F_ref07_Valid fuel) (F_ref05_Valid fuel) (F_ref05_At fuel) (F_ref07_Size fuel) (F_ref07_room fuel) (F_ref02_Encoder_Model_2fe fuel) (F_ref07_typical fuel) (F_ref02_Encoder_Put_e89 fuel) (F_ref07_context fuel) R K x0 x1 x2 x3 x4 x5 x6 x7 x8 x9 x10 x11 x12 x13 x14 x15 x16 x17) hs h
    · cases h
  · cases h
noncomputable def Sg_ref07_Put_6c1_6 (fuel : Nat) (f28 : YF28) (f73 : YF73) (f80 : YF80) (f81 : YF81) (f130 : YF130) (f131_2fe : YF131_2fe) (f132 : YF132) (f133_e89 : YF133_e89) (f134 : YF134) (x0 x1 : Int) (x2 x3 : Int) (x4 x5 x6 : Int) (x7 x8 : (List Int)) (x9 x10 x11 : Int) (x12 : Bool) (x13 x14 x15 : Int) (x16 : (List Int)) (x17 x18 : Int) (x19 : (List Int)) (c : (Int × Int × Int × Int × Int × Int × Int × (List Int) × (List Int) × Int × Int × Int × Bool × Int × Int × Int × (List Int) × Int × Int × (List Int)) → Option Ans) (B : (Int × Int × Int × Int × Int × Int × (List Int) × (List Int) × Int × Int × Int × Bool × Int × Int × Int × (List Int) × Int × Int × (List Int) → Option Ans)) : Option Ans := match B with
 | b =>
  bif decide (x3 < x14) then
  (f80 (x17) (x18) (x19) (x3) (x2)
  (fun y3 =>
  bif y3 == (0 : Int) then
  (f134 (x9) (x10) (x11) (x12) (x13) (x14) (x15) (x16) (x3) (x2)
  (fun y8 =>
  (f80 (x14) (x15) (x16) (x3) (x2)
  (fun y12 =>
  (f133_e89 (IntKind.i64.wrap (x0 + y8)) (y12) (x4) (x5) (x6) (x7) (x8)
  (fun (y16_0, y16_1, y16_2, y16_3, y16_4, y16_5) =>
  c (x0, x1, x2, IntKind.i64.wrap (x3 + (1 : Int)), y16_1, y16_2, y16_3, y16_4, y16_5, x9, x10, x11, x12, x13, x14, x15, x16, x17, x18, x19))
  (fun (y16_0, y16_1, y16_2, y16_3, y16_4, y16_5) =>
  c (x0, x1, x2, IntKind.i64.wrap (x3 + (1 : Int)), y16_1, y16_2, y16_3, y16_4, y16_5, x9, x10, x11, x12, x13, x14, x15, x16, x17, x18, x19)))))))
  else
  c (x0, x1, x2, IntKind.i64.wrap (x3 + (1 : Int)), x4, x5, x6, x7, x8, x9, x10, x11, x12, x13, x14, x15, x16, x17, x18, x19)))
  else
  b (x0, x1, x2, x4, x5, x6, x7, x8, x9, x10, x11, x12, x13, x14, x15, x16, x17, x18, x19)
noncomputable def S_ref07_Put_6c1_6 (fuel : Nat) (v : Int × Int × Int × Int × Int × Int × Int × (List Int) × (List Int) × Int × Int × Int × Bool × Int × Int × Int × (List Int) × Int × Int × (List Int)) (c : (Int × Int × Int × Int × Int × Int × Int × (List Int) × (List Int) × Int × Int × Int × Bool × Int × Int × Int × (List Int) × Int × Int × (List Int)) → Option Ans) (B : (Int × Int × Int × Int × Int × Int × (List Int) × (List Int) × Int × Int × Int × Bool × Int × Int × Int × (List Int) × Int × Int × (List Int) → Option Ans)) : Option Ans := match v with
 | (x0, x1, x2, x3, x4, x5, x6, x7, x8, x9, x10, x11, x12, x13, x14, x15, x16, x17, x18, x19) => Sg_ref07_Put_6c1_6 fuel (F_ref07_Valid fuel) (F_ref05_Valid fuel) (F_ref05_At fuel) (F_ref07_Size fuel) (F_ref07_room fuel) (F_ref02_Encoder_Model_2fe fuel) (F_ref07_typical fuel) (F_ref02_Encoder_Put_e89 fuel) (F_ref07_context fuel) x0 x1 x2 x3 x4 x5 x6 x7 x8 x9 x10 x11 x12 x13 x14 x15 x16 x17 x18 x19 c B
noncomputable def L_ref07_Put_6c1_6 (fuel : Nat) (v : Int × Int × Int × Int × Int × Int × Int × (List Int) × (List Int) × Int × Int × Int × Bool × Int × Int × Int × (List Int) × Int × Int × (List Int)) (b : (Int × Int × Int × Int × Int × Int × (List Int) × (List Int) × Int × Int × Int × Bool × Int × Int × Int × (List Int) × Int × Int × (List Int) → Option Ans)) : Option Ans := iter (S_ref07_Put_6c1_6 fuel) fuel v b
noncomputable def J84_6c1_6 (fuel : Nat) (i : Nat) : Option Ev.Blk := Ev.look i [(100002, B84_6c1_2 fuel), (100000, B84_6c1_0 fuel)]
noncomputable def T84_6c1_6 (v : Int × Int × Int × Int × Int × Int × Int × (List Int) × (List Int) × Int × Int × Int × Bool × Int × Int × Int × (List Int) × Int × Int × (List Int)) : Ev.St := match v with | (x0, x1, x2, x3, x4, x5, x6, x7, x8, x9, x10, x11, x12, x13, x14, x15, x16, x17, x18, x19) => ⟨[(0, .c (.ptr 0 0)), (1, .c (.int .i64 x0)), (7, .c (.ptr 3 0)), (8, .c (.ptr 4 0)), (9, .c (.ptr 5 0)), (14, .c (.int .i64 x1)), (16, .c (.int .i64 x2)), (18, .c (.int .i64 x3))], [(0, .cells 185 [.int .i64 x4, .own 1, .int .u64 x5, .int .u64 x6, .own 2]), (1, .vec 3 (.int .i64) x7 false), (2, .vec 5 (.int .u8) x8 true), (3, .cells 24 [.int .i64 x9, .int .i64 x10, .int .i64 x11, .bool x12, .int .i64 x13]), (4, .cells 35 [.int .i64 x14, .int .i64 x15, .sl (.int .u8) x16]), (5, .cells 35 [.int .i64 x17, .int .i64 x18, .sl (.int .u8) x19])], 6, 3⟩
noncomputable def E84_6c1_6 (K : Ev.Ex → Ev.St → Option Ans) : (Int × Int × Int × Int × Int × Int × (List Int) × (List Int) × Int × Int × Int × Bool × Int × Int × Int × (List Int) × Int × Int × (List Int) → Option Ans) := (fun v => match v with | (x0, x1, x2, x3, x4, x5, x6, x7, x8, x9, x10, x11, x12, x13, x14, x15, x16, x17, x18) => K .normal ⟨[(0, .c (.ptr 0 0)), (1, .c (.int .i64 x0)), (7, .c (.ptr 3 0)), (8, .c (.ptr 4 0)), (9, .c (.ptr 5 0)), (14, .c (.int .i64 x1)), (16, .c (.int .i64 x2))], [(0, .cells 185 [.int .i64 x3, .own 1, .int .u64 x4, .int .u64 x5, .own 2]), (1, .vec 3 (.int .i64) x6 false), (2, .vec 5 (.int .u8) x7 true), (3, .cells 24 [.int .i64 x8, .int .i64 x9, .int .i64 x10, .bool x11, .int .i64 x12]), (4, .cells 35 [.int .i64 x13, .int .i64 x14, .sl (.int .u8) x15]), (5, .cells 35 [.int .i64 x16, .int .i64 x17, .sl (.int .u8) x18])], 6, 3⟩)
theorem S84_6c1_6_okg (fuel : Nat) (f28 : YF28) (f73 : YF73) (f80 : YF80) (f81 : YF81) (f130 : YF130) (f131_2fe : YF131_2fe) (f132 : YF132) (f133_e89 : YF133_e89) (f134 : YF134) (R : Ev.St → Option Ans) (K : Ev.Ex → Ev.St → Option Ans) (x0 x1 : Int) (x2 x3 : Int) (x4 x5 x6 : Int) (x7 x8 : (List Int)) (x9 x10 x11 : Int) (x12 : Bool) (x13 x14 x15 : Int) (x16 : (List Int)) (x17 x18 : Int) (x19 : (List Int)) : evalCode tab (Gg84_6c1 f28 f73 f80 f81 f130 f131_2fe f132 f133_e89 f134) (J84_6c1_6 fuel) kp84_6c1 fuel (bodyOf 6 Try.f84) (T84_6c1_6 (x0, x1, x2, x3, x4, x5, x6, x7, x8, x9, x10, x11, x12, x13, x14, x15, x16, x17, x18, x19)) (lc kp84_6c1 27 6 R K) = Sg_ref07_Put_6c1_6 fuel f28 f73 f80 f81 f130 f131_2fe f132 f133_e89 f134 x0 x1 x2 x3 x4 x5 x6 x7 x8 x9 x10 x11 x12 x13 x14 x15 x16 x17 x18 x19 (fun v => R (T84_6c1_6 v)) (E84_6c1_6 K) := by
  kernel_rfl
noncomputable def B84_6c1_6 (fuel : Nat) : Ev.Blk := fun st K => match canonO (kp84_6c1 27) st with
 | some s => (match s with
 | ⟨[(q0, .c (.ptr q1 q2)), (q3, .c (.int .i64 x0)), (q4, .c (.ptr q5 q6)), (q7, .c (.ptr q8 q9)), (q10, .c (.ptr q11 q12)), (q13, .c (.int .i64 x1)), (q14, .c (.int .i64 x2)), (q15, .c (.int .i64 x3))], [(q16, .cells q17 [.int .i64 x4, .own q18, .int .u64 x5, .int .u64 x6, .own q19]), (q20, .vec q21 (.int .i64) x7 false), (q22, .vec q23 (.int .u8) x8 true), (q24, .cells q25 [.int .i64 x9, .int .i64 x10, .int .i64 x11, .bool x12, .int .i64 x13]), (q26, .cells q27 [.int .i64 x14, .int .i64 x15, .sl (.int .u8) x16]), (q28, .cells q29 [.int .i64 x17, .int .i64 x18, .sl (.int .u8) x19])], q30, q31⟩ => bif Nat.beq q0 0 && Nat.beq q1 0 && Nat.beq q2 0 && Nat.beq q3 1 && Nat.beq q4 7 && Nat.beq q5 3 && Nat.beq q6 0 && Nat.beq q7 8 && Nat.beq q8 4 && Nat.beq q9 0 && Nat.beq q10 9 && Nat.beq q11 5 && Nat.beq q12 0 && Nat.beq q13 14 && Nat.beq q14 16 && Nat.beq q15 18 && Nat.beq q16 0 && Nat.beq q17 185 && Nat.beq q18 1 && Nat.beq q19 2 && Nat.beq q20 1 && Nat.beq q21 3 && Nat.beq q22 2 && Nat.beq q23 5 && Nat.beq q24 3 && Nat.beq q25 24 && Nat.beq q26 4 && Nat.beq q27 35 && Nat.beq q28 5 && Nat.beq q29 35 && Nat.beq q30 6 && Nat.beq q31 3 then iter (S_ref07_Put_6c1_6 fuel) fuel (x0, x1, x2, x3, x4, x5, x6, x7, x8, x9, x10, x11, x12, x13, x14, x15, x16, x17, x18, x19) (E84_6c1_6 K) else none
 | _ => none)
 | none => none
theorem B84_6c1_6_ok (fuel : Nat) (st : Ev.St) (K : Ev.Ex → Ev.St → Option Ans) (r : Ans) (h : B84_6c1_6 fuel st K = some r) : evalCode tab (G84_6c1 fuel) (J84_6c1_6 fuel) kp84_6c1 fuel (.block 6 (.loop (bodyOf 6 Try.f84))) st K = some r := by
  unfold B84_6c1_6 at h
  split at h
  · rename_i s hs
    split at h
    · skip
      obtain ⟨hb, h⟩ := cond_some' h
      simp only [Bool.and_eq_true, Nat.beq_eq, decide_eq_true_eq] at hb
      obtain ⟨⟨⟨⟨⟨⟨⟨⟨⟨⟨⟨⟨⟨⟨⟨⟨⟨⟨⟨⟨⟨⟨⟨⟨⟨⟨⟨⟨⟨⟨⟨rfl, rfl⟩, rfl⟩, rfl⟩, rfl⟩, rfl⟩, rfl⟩, rfl⟩, rfl⟩, rfl⟩, rfl⟩, rfl⟩, rfl⟩, rfl⟩, rfl⟩, rfl⟩, rfl⟩, rfl⟩, rfl⟩, rfl⟩, rfl⟩, rfl⟩, rfl⟩, rfl⟩, rfl⟩, rfl⟩, rfl⟩, rfl⟩, rfl⟩, rfl⟩, rfl⟩, rfl⟩ := hb
      exact blk_loop (S := T84_6c1_6) (ks := E84_6c1_6) (step := S_ref07_Put_6c1_6 fuel) (v := (_, _, _, _, _, _, _, _, _, _, _, _, _, _, _, _, _, _, _, _)) (by kernel_rfl) (by kernel_rfl) (fun R K v => by obtain ⟨x0, x1, x2, x3, x4, x5, x6, x7, x8, x9, x10, x11, x12, x13, x14, x15, x16, x17, x18, x19⟩ := v; exact S84_6c1_6_okg fuel (F_ref07_Valid fuel) (F_ref05_Valid fuel) (F_ref05_At fuel) (F_ref07_Size fuel) (F_ref07_room fuel) (F_ref02_Encoder_Model_2fe fuel) (F_ref07_typical fuel) (F_ref02_Encoder_Put_e89 fuel) (F_ref07_context fuel) R K x0 x1 x2 x3 x4 x5 x6 x7 x8 x9 x10 x11 x12 x13 x14 x15 x16 x17 x18 x19) hs h
    · cases h
  · cases h
noncomputable def Sg_ref07_Put_6c1_4 (fuel : Nat) (f28 : YF28) (f73 : YF73) (f80 : YF80) (f81 : YF81) (f130 : YF130) (f131_2fe : YF131_2fe) (f132 : YF132) (f133_e89 : YF133_e89) (f134 : YF134) (x0 x1 : Int) (x2 x3 : Int) (x4 x5 : Int) (x6 x7 : (List Int)) (x8 x9 x10 : Int) (x11 : Bool) (x12 x13 x14 : Int) (x15 : (List Int)) (x16 x17 : Int) (x18 : (List Int)) (c : (Int × Int × Int × Int × Int × Int × (List Int) × (List Int) × Int × Int × Int × Bool × Int × Int × Int × (List Int) × Int × Int × (List Int)) → Option Ans) (B : (Int × Int × Int × (List Int) × (List Int) → Option Ans)) : Option Ans := match B with
 | b =>
  bif decide (x2 < x14) then
  bif x11 then
  bif decide ((0 : Int) ≤ Ev.loOf (some (IntKind.i64.wrap (x2 * x13))) ∧ Ev.loOf (some (IntKind.i64.wrap (x2 * x13))) ≤ Ev.hiOf (some (IntKind.i64.wrap (IntKind.i64.wrap (x2 + (1 : Int)) * x13))) (↑x15.length : Int) ∧ Ev.hiOf (some (IntKind.i64.wrap (IntKind.i64.wrap (x2 + (1 : Int)) * x13))) (↑x15.length : Int) ≤ (↑x15.length : Int)) then
  both ((f132 (x13) (x14) (x15) (x16) (x17) (x18) (x2)
  (fun y7 =>
  both (bif (Go.strOfNums y7).toList == (Go.strOfNums (List.take (Ev.hiOf (some (IntKind.i64.wrap (IntKind.i64.wrap (x2 + (1 : Int)) * x13))) (↑x15.length : Int) - Ev.loOf (some (IntKind.i64.wrap (x2 * x13)))).toNat (List.drop (Ev.loOf (some (IntKind.i64.wrap (x2 * x13)))).toNat x15))).toList then
  (f133_e89 (IntKind.i64.wrap (IntKind.i64.wrap (x0 + x1) - (1 : Int))) ((1 : Int)) (x3) (x4) (x5) (x6) (x7)
  (fun (y14_0, y14_1, y14_2, y14_3, y14_4, y14_5) =>
  c (x0, x1, IntKind.i64.wrap (x2 + (1 : Int)), y14_1, y14_2, y14_3, y14_4, y14_5, x8, x9, x10, x11, x12, x13, x14, x15, x16, x17, x18))
  (fun (y14_0, y14_1, y14_2, y14_3, y14_4, y14_5) =>
  c (x0, x1, IntKind.i64.wrap (x2 + (1 : Int)), y14_1, y14_2, y14_3, y14_4, y14_5, x8, x9, x10, x11, x12, x13, x14, x15, x16, x17, x18)))
  else
  (f133_e89 (IntKind.i64.wrap (IntKind.i64.wrap (x0 + x1) - (1 : Int))) ((0 : Int)) (x3) (x4) (x5) (x6) (x7)
  (fun (y14_0, y14_1, y14_2, y14_3, y14_4, y14_5) =>
  (L_ref07_Put_6c1_6 fuel (x0, x1, x2, (0 : Int), y14_1, y14_2, y14_3, y14_4, y14_5, x8, x9, x10, x11, x12, x13, x14, x15, x16, x17, x18)
  (fun (b6_0, b6_1, b6_2, b6_3, b6_4, b6_5, b6_6, b6_7, b6_8, b6_9, b6_10, b6_11, b6_12, b6_13, b6_14, b6_15, b6_16, b6_17, b6_18) =>
  c (b6_0, b6_1, IntKind.i64.wrap (b6_2 + (1 : Int)), b6_3, b6_4, b6_5, b6_6, b6_7, b6_8, b6_9, b6_10, b6_11, b6_12, b6_13, b6_14, b6_15, b6_16, b6_17, b6_18))))
  (fun (y14_0, y14_1, y14_2, y14_3, y14_4, y14_5) =>
  (L_ref07_Put_6c1_6 fuel (x0, x1, x2, (0 : Int), y14_1, y14_2, y14_3, y14_4, y14_5, x8, x9, x10, x11, x12, x13, x14, x15, x16, x17, x18)
  (fun (b6_0, b6_1, b6_2, b6_3, b6_4, b6_5, b6_6, b6_7, b6_8, b6_9, b6_10, b6_11, b6_12, b6_13, b6_14, b6_15, b6_16, b6_17, b6_18) =>
  c (b6_0, b6_1, IntKind.i64.wrap (b6_2 + (1 : Int)), b6_3, b6_4, b6_5, b6_6, b6_7, b6_8, b6_9, b6_10, b6_11, b6_12, b6_13, b6_14, b6_15, b6_16, b6_17, b6_18))))))
  (bif (Go.strOfNums y7).toList == (Go.strOfNums (List.take (Ev.hiOf (some (IntKind.i64.wrap (IntKind.i64.wrap (x2 + (1 : Int)) * x13))) (↑x15.length : Int) - Ev.loOf (some (IntKind.i64.wrap (x2 * x13)))).toNat (List.drop (Ev.loOf (some (IntKind.i64.wrap (x2 * x13)))).toNat x15))).toList then
  (f133_e89 (IntKind.i64.wrap (IntKind.i64.wrap (x0 + x1) - (1 : Int))) ((1 : Int)) (x3) (x4) (x5) (x6) (x7)
  (fun (y14_0, y14_1, y14_2, y14_3, y14_4, y14_5) =>
  c (x0, x1, IntKind.i64.wrap (x2 + (1 : Int)), y14_1, y14_2, y14_3, y14_4, y14_5, x8, x9, x10, x11, x12, x13, x14, x15, x16, x17, x18))
  (fun (y14_0, y14_1, y14_2, y14_3, y14_4, y14_5) =>
  c (x0, x1, IntKind.i64.wrap (x2 + (1 : Int)), y14_1, y14_2, y14_3, y14_4, y14_5, x8, x9, x10, x11, x12, x13, x14, x15, x16, x17, x18)))
  else
  (f133_e89 (IntKind.i64.wrap (IntKind.i64.wrap (x0 + x1) - (1 : Int))) ((0 : Int)) (x3) (x4) (x5) (x6) (x7)
  (fun (y14_0, y14_1, y14_2, y14_3, y14_4, y14_5) =>
  (L_ref07_Put_6c1_6 fuel (x0, x1, x2, (0 : Int), y14_1, y14_2, y14_3, y14_4, y14_5, x8, x9, x10, x11, x12, x13, x14, x15, x16, x17, x18)
  (fun (b6_0, b6_1, b6_2, b6_3, b6_4, b6_5, b6_6, b6_7, b6_8, b6_9, b6_10, b6_11, b6_12, b6_13, b6_14, b6_15, b6_16, b6_17, b6_18) =>
  c (b6_0, b6_1, IntKind.i64.wrap (b6_2 + (1 : Int)), b6_3, b6_4, b6_5, b6_6, b6_7, b6_8, b6_9, b6_10, b6_11, b6_12, b6_13, b6_14, b6_15, b6_16, b6_17, b6_18))))
  (fun (y14_0, y14_1, y14_2, y14_3, y14_4, y14_5) =>
  (L_ref07_Put_6c1_6 fuel (x0, x1, x2, (0 : Int), y14_1, y14_2, y14_3, y14_4, y14_5, x8, x9, x10, x11, x12, x13, x14, x15, x16, x17, x18)
  (fun (b6_0, b6_1, b6_2, b6_3, b6_4, b6_5, b6_6, b6_7, b6_8, b6_9, b6_10, b6_11, b6_12, b6_13, b6_14, b6_15, b6_16, b6_17, b6_18) =>
  c (b6_0, b6_1, IntKind.i64.wrap (b6_2 + (1 : Int)), b6_3, b6_4, b6_5, b6_6, b6_7, b6_8, b6_9, b6_10, b6_11, b6_12, b6_13, b6_14, b6_15, b6_16, b6_17, b6_18)))))))))
  ((f132 (x13) (x14) (x15) (x16) (x17) (x18) (x2)
  (fun y7 =>
  bif (Go.strOfNums y7).toList == (Go.strOfNums (List.take (Ev.hiOf (some (IntKind.i64.wrap (IntKind.i64.wrap (x2 + (1 : Int)) * x13))) (↑x15.length : Int) - Ev.loOf (some (IntKind.i64.wrap (x2 * x13)))).toNat (List.drop (Ev.loOf (some (IntKind.i64.wrap (x2 * x13)))).toNat x15))).toList then
  (f133_e89 (IntKind.i64.wrap (IntKind.i64.wrap (x0 + x1) - (1 : Int))) ((1 : Int)) (x3) (x4) (x5) (x6) (x7)
  (fun (y12_0, y12_1, y12_2, y12_3, y12_4, y12_5) =>
  c (x0, x1, IntKind.i64.wrap (x2 + (1 : Int)), y12_1, y12_2, y12_3, y12_4, y12_5, x8, x9, x10, x11, x12, x13, x14, x15, x16, x17, x18))
  (fun (y12_0, y12_1, y12_2, y12_3, y12_4, y12_5) =>
  c (x0, x1, IntKind.i64.wrap (x2 + (1 : Int)), y12_1, y12_2, y12_3, y12_4, y12_5, x8, x9, x10, x11, x12, x13, x14, x15, x16, x17, x18)))
  else
  (f133_e89 (IntKind.i64.wrap (IntKind.i64.wrap (x0 + x1) - (1 : Int))) ((0 : Int)) (x3) (x4) (x5) (x6) (x7)
  (fun (y12_0, y12_1, y12_2, y12_3, y12_4, y12_5) =>
  (L_ref07_Put_6c1_6 fuel (x0, x1, x2, (0 : Int), y12_1, y12_2, y12_3, y12_4, y12_5, x8, x9, x10, x11, x12, x13, x14, x15, x16, x17, x18)
  (fun (b6_0, b6_1, b6_2, b6_3, b6_4, b6_5, b6_6, b6_7, b6_8, b6_9, b6_10, b6_11, b6_12, b6_13, b6_14, b6_15, b6_16, b6_17, b6_18) =>
  c (b6_0, b6_1, IntKind.i64.wrap (b6_2 + (1 : Int)), b6_3, b6_4, b6_5, b6_6, b6_7, b6_8, b6_9, b6_10, b6_11, b6_12, b6_13, b6_14, b6_15, b6_16, b6_17, b6_18))))
  (fun (y12_0, y12_1, y12_2, y12_3, y12_4, y12_5) =>
  (L_ref07_Put_6c1_6 fuel (x0, x1, x2, (0 : Int), y12_1, y12_2, y12_3, y12_4, y12_5, x8, x9, x10, x11, x12, x13, x14, x15, x16, x17, x18)
  (fun (b6_0, b6_1, b6_2, b6_3, b6_4, b6_5, b6_6, b6_7, b6_8, b6_9, b6_10, b6_11, b6_12, b6_13, b6_14, b6_15, b6_16, b6_17, b6_18) =>
  c (b6_0, b6_1, IntKind.i64.wrap (b6_2 + (1 : Int)), b6_3, b6_4, b6_5, b6_6, b6_7, b6_8, b6_9, b6_10, b6_11, b6_12, b6_13, b6_14, b6_15, b6_16, b6_17, b6_18))))))))
  else none
  else
  (L_ref07_Put_6c1_6 fuel (x0, x1, x2, (0 : Int), x3, x4, x5, x6, x7, x8, x9, x10, x11, x12, x13, x14, x15, x16, x17, x18)
  (fun (b6_0, b6_1, b6_2, b6_3, b6_4, b6_5, b6_6, b6_7, b6_8, b6_9, b6_10, b6_11, b6_12, b6_13, b6_14, b6_15, b6_16, b6_17, b6_18) =>
  c (b6_0, b6_1, IntKind.i64.wrap (b6_2 + (1 : Int)), b6_3, b6_4, b6_5, b6_6, b6_7, b6_8, b6_9, b6_10, b6_11, b6_12, b6_13, b6_14, b6_15, b6_16, b6_17, b6_18)))
  else
  b (x3, x4, x5, x6, x7)
noncomputable def S_ref07_Put_6c1_4 (fuel : Nat) (v : Int × Int × Int × Int × Int × Int × (List Int) × (List Int) × Int × Int × Int × Bool × Int × Int × Int × (List Int) × Int × Int × (List Int)) (c : (Int × Int × Int × Int × Int × Int × (List Int) × (List Int) × Int × Int × Int × Bool × Int × Int × Int × (List Int) × Int × Int × (List Int)) → Option Ans) (B : (Int × Int × Int × (List Int) × (List Int) → Option Ans)) : Option Ans := match v with
 | (x0, x1, x2, x3, x4, x5, x6, x7, x8, x9, x10, x11, x12, x13, x14, x15, x16, x17, x18) => Sg_ref07_Put_6c1_4 fuel (F_ref07_Valid fuel) (F_ref05_Valid fuel) (F_ref05_At fuel) (F_ref07_Size fuel) (F_ref07_room fuel) (F_ref02_Encoder_Model_2fe fuel) (F_ref07_typical fuel) (F_ref02_Encoder_Put_e89 fuel) (F_ref07_context fuel) x0 x1 x2 x3 x4 x5 x6 x7 x8 x9 x10 x11 x12 x13 x14 x15 x16 x17 x18 c B
noncomputable def L_ref07_Put_6c1_4 (fuel : Nat) (v : Int × Int × Int × Int × Int × Int × (List Int) × (List Int) × Int × Int × Int × Bool × Int × Int × Int × (List Int) × Int × Int × (List Int)) (b : (Int × Int × Int × (List Int) × (List Int) → Option Ans)) : Option Ans := iter (S_ref07_Put_6c1_4 fuel) fuel v b
noncomputable def J84_6c1_4 (fuel : Nat) (i : Nat) : Option Ev.Blk := Ev.look i [(100002, B84_6c1_2 fuel), (100000, B84_6c1_0 fuel), (100006, B84_6c1_6 fuel)]
noncomputable def T84_6c1_4 (v : Int × Int × Int × Int × Int × Int × (List Int) × (List Int) × Int × Int × Int × Bool × Int × Int × Int × (List Int) × Int × Int × (List Int)) : Ev.St := match v with | (x0, x1, x2, x3, x4, x5, x6, x7, x8, x9, x10, x11, x12, x13, x14, x15, x16, x17, x18) => ⟨[(0, .c (.ptr 0 0)), (1, .c (.int .i64 x0)), (7, .c (.ptr 3 0)), (8, .c (.ptr 4 0)), (9, .c (.ptr 5 0)), (14, .c (.int .i64 x1)), (16, .c (.int .i64 x2))], [(0, .cells 185 [.int .i64 x3, .own 1, .int .u64 x4, .int .u64 x5, .own 2]), (1, .vec 3 (.int .i64) x6 false), (2, .vec 5 (.int .u8) x7 true), (3, .cells 24 [.int .i64 x8, .int .i64 x9, .int .i64 x10, .bool x11, .int .i64 x12]), (4, .cells 35 [.int .i64 x13, .int .i64 x14, .sl (.int .u8) x15]), (5, .cells 35 [.int .i64 x16, .int .i64 x17, .sl (.int .u8) x18])], 6, 3⟩
noncomputable def E84_6c1_4 (K : Ev.Ex → Ev.St → Option Ans) : (Int × Int × Int × (List Int) × (List Int) → Option Ans) := (fun v => match v with | (x0, x1, x2, x3, x4) => K .normal ⟨[], [(0, .cells 185 [.int .i64 x0, .own 1, .int .u64 x1, .int .u64 x2, .own 2]), (1, .vec 3 (.int .i64) x3 false), (2, .vec 5 (.int .u8) x4 true)], 3, 3⟩)
theorem S84_6c1_4_okg (fuel : Nat) (f28 : YF28) (f73 : YF73) (f80 : YF80) (f81 : YF81) (f130 : YF130) (f131_2fe : YF131_2fe) (f132 : YF132) (f133_e89 : YF133_e89) (f134 : YF134) (R : Ev.St → Option Ans) (K : Ev.Ex → Ev.St → Option Ans) (x0 x1 : Int) (x2 x3 : Int) (x4 x5 : Int) (x6 x7 : (List Int)) (x8 x9 x10 : Int) (x11 : Bool) (x12 x13 x14 : Int) (x15 : (List Int)) (x16 x17 : Int) (x18 : (List Int)) : evalCode tab (Gg84_6c1 f28 f73 f80 f81 f130 f131_2fe f132 f133_e89 f134) (J84_6c1_4 fuel) kp84_6c1 fuel (bodyOf 4 Try.f84) (T84_6c1_4 (x0, x1, x2, x3, x4, x5, x6, x7, x8, x9, x10, x11, x12, x13, x14, x15, x16, x17, x18)) (lc kp84_6c1 18 4 R K) = Sg_ref07_Put_6c1_4 fuel f28 f73 f80 f81 f130 f131_2fe f132 f133_e89 f134 x0 x1 x2 x3 x4 x5 x6 x7 x8 x9 x10 x11 x12 x13 x14 x15 x16 x17 x18 (fun v => R (T84_6c1_4 v)) (E84_6c1_4 K) := by
  kernel_rfl
noncomputable def B84_6c1_4 (fuel : Nat) : Ev.Blk := fun st K => match canonO (kp84_6c1 18) st with
 | some s => (match s with
 | ⟨[(q0, .c (.ptr q1 q2)), (q3, .c (.int .i64 x0)), (q4, .c (.ptr q5 q6)), (q7, .c (.ptr q8 q9)), (q10, .c (.ptr q11 q12)), (q13, .c (.int .i64 x1)), (q14, .c (.int .i64 x2))], [(q15, .cells q16 [.int .i64 x3, .own q17, .int .u64 x4, .int .u64 x5, .own q18]), (q19, .vec q20 (.int .i64) x6 false), (q21, .vec q22 (.int .u8) x7 true), (q23, .cells q24 [.int .i64 x8, .int .i64 x9, .int .i64 x10, .bool x11, .int .i64 x12]), (q25, .cells q26 [.int .i64 x13, .int .i64 x14, .sl (.int .u8) x15]), (q27, .cells q28 [.int .i64 x16, .int .i64 x17, .sl (.int .u8) x18])], q29, q30⟩ => bif Nat.beq q0 0 && Nat.beq q1 0 && Nat.beq q2 0 && Nat.beq q3 1 && Nat.beq q4 7 && Nat.beq q5 3 && Nat.beq q6 0 && Nat.beq q7 8 && Nat.beq q8 4 && Nat.beq q9 0 && Nat.beq q10 9 && Nat.beq q11 5 && Nat.beq q12 0 && Nat.beq q13 14 && Nat.beq q14 16 && Nat.beq q15 0 && Nat.beq q16 185 && Nat.beq q17 1 && Nat.beq q18 2 && Nat.beq q19 1 && Nat.beq q20 3 && Nat.beq q21 2 && Nat.beq q22 5 && Nat.beq q23 3 && Nat.beq q24 24 && Nat.beq q25 4 && Nat.beq q26 35 && Nat.beq q27 5 && Nat.beq q28 35 && Nat.beq q29 6 && Nat.beq q30 3 then iter (S_ref07_Put_6c1_4 fuel) fuel (x0, x1, x2, x3, x4, x5, x6, x7, x8, x9, x10, x11, x12, x13, x14, x15, x16, x17, x18) (E84_6c1_4 K) else none
 | _ => none)
 | none => none
theorem B84_6c1_4_ok (fuel : Nat) (st : Ev.St) (K : Ev.Ex → Ev.St → Option Ans) (r : Ans) (h : B84_6c1_4 fuel st K = some r) : evalCode tab (G84_6c1 fuel) (J84_6c1_4 fuel) kp84_6c1 fuel (.block 4 (.loop (bodyOf 4 Try.f84))) st K = some r := by
  unfold B84_6c1_4 at h
  split at h
  · rename_i s hs
    split at h
    · skip
      obtain ⟨hb, h⟩ := cond_some' h
      simp only [Bool.and_eq_true, Nat.beq_eq, decide_eq_true_eq] at hb
      obtain ⟨⟨⟨⟨⟨⟨⟨⟨⟨⟨⟨⟨⟨⟨⟨⟨⟨⟨⟨⟨⟨⟨⟨⟨⟨⟨⟨⟨⟨⟨rfl, rfl⟩, rfl⟩, rfl⟩, rfl⟩, rfl⟩, rfl⟩, rfl⟩, rfl⟩, rfl⟩, rfl⟩, rfl⟩, rfl⟩, rfl⟩, rfl⟩, rfl⟩, rfl⟩, rfl⟩, rfl⟩, rfl⟩, rfl⟩, rfl⟩, rfl⟩, rfl⟩, rfl⟩, rfl⟩, rfl⟩, rfl⟩, rfl⟩, rfl⟩, rfl⟩ := hb
      exact blk_loop (S := T84_6c1_4) (ks := E84_6c1_4) (step := S_ref07_Put_6c1_4 fuel) (v := (_, _, _, _, _, _, _, _, _, _, _, _, _, _, _, _, _, _, _)) (by kernel_rfl) (by kernel_rfl) (fun R K v => by obtain ⟨x0, x1, x2, x3, x4, x5, x6, x7, x8, x9, x10, x11, x12, x13, x14, x15, x16, x17, x18⟩ := v; exact S84_6c1_4_okg fuel (F_ref07_Valid fuel) (F_ref05_Valid fuel) (F_ref05_At fuel) (F_ref07_Size fuel) (F_ref07_room fuel) (F_ref02_Encoder_Model_2fe fuel) (F_ref07_typical fuel) (F_ref02_Encoder_Put_e89 fuel) (F_ref07_context fuel) R K x0 x1 x2 x3 x4 x5 x6 x7 x8 x9 x10 x11 x12 x13 x14 x15 x16 x17 x18) hs h
    · cases h
  · cases h
noncomputable def J84_6c1 (fuel : Nat) (i : Nat) : Option Ev.Blk := Ev.look i [(100002, B84_6c1_2 fuel), (100000, B84_6c1_0 fuel), (100006, B84_6c1_6 fuel), (100004, B84_6c1_4 fuel)]
noncomputable def Fg_ref07_Put_6c1 (fuel : Nat) (f28 : YF28) (f73 : YF73) (f80 : YF80) (f81 : YF81) (f130 : YF130) (f131_2fe : YF131_2fe) (f132 : YF132) (f133_e89 : YF133_e89) (f134 : YF134) (x0 x1 : Int) (x2 x3 : Int) (x4 : Bool) (x5 x6 x7 : Int) (x8 : (List Int)) (x9 x10 : Int) (x11 : (List Int)) (x12 x13 x14 : Int) (x15 x16 : (List Int)) (k0 : (Int × Int × Int × Int × (List Int) × (List Int)) → Option Ans) (k1 : (Int × Int × Int × Int × (List Int) × (List Int)) → Option Ans) : Option Ans :=
  (f28 (x1) (x2) (x3) (x4) (x5)
  (fun y2 =>
  bif !y2 then
  k0 ((2 : Int), x12, x13, x14, x15, x16)
  else
  (f73 (x6) (x7) (x8)
  (fun y7 =>
  bif !y7 then
  k0 ((30 : Int), x12, x13, x14, x15, x16)
  else
  (f73 (x9) (x10) (x11)
  (fun y12 =>
  bif !y12 then
  k0 ((30 : Int), x12, x13, x14, x15, x16)
  else
  (L_ref07_Put_6c1_0 fuel (x0, (0 : Int), x12, x13, x14, x15, x16, x1, x2, x3, x4, x5, x6, x7, x8, x9, x10, x11)
  (fun (ret0_0, ret0_1, ret0_2, ret0_3, ret0_4, ret0_5) =>
  k0 (ret0_0, ret0_1, ret0_2, ret0_3, ret0_4, ret0_5))
  (fun (b0_0, b0_1, b0_2, b0_3, b0_4, b0_5, b0_6, b0_7, b0_8, b0_9, b0_10, b0_11, b0_12, b0_13, b0_14, b0_15, b0_16) =>
  (f131_2fe (b0_1) (b0_2) (b0_3) (b0_4) (b0_5)
  (fun (y21_0, y21_1, y21_2, y21_3, y21_4, y21_5, y21_6) =>
  (f130 (b0_6) (b0_7) (b0_8) (b0_9) (b0_10) (b0_0) ((↑y21_6.length : Int)) (b0_11) (b0_12) (b0_14) (b0_15) (b0_16)
  (fun y25 =>
  bif y25 != (0 : Int) then
  k0 (y25, y21_1, y21_2, y21_3, y21_4, y21_5)
  else
  (f81 (b0_6) (b0_7) (b0_8) (b0_9) (b0_10)
  (fun (y30_0, y30_1) =>
  (L_ref07_Put_6c1_4 fuel (b0_0, y30_0, (0 : Int), y21_1, y21_2, y21_3, y21_4, y21_5, b0_6, b0_7, b0_8, b0_9, b0_10, b0_11, b0_12, b0_13, b0_14, b0_15, b0_16)
  (fun (b4_0, b4_1, b4_2, b4_3, b4_4) =>
  k1 ((0 : Int), b4_0, b4_1, b4_2, b4_3, b4_4)))))))))))))))))
noncomputable def F_ref07_Put_6c1 (fuel : Nat) (x0 x1 : Int) (x2 x3 : Int) (x4 : Bool) (x5 x6 x7 : Int) (x8 : (List Int)) (x9 x10 : Int) (x11 : (List Int)) (x12 x13 x14 : Int) (x15 x16 : (List Int)) (k0 : (Int × Int × Int × Int × (List Int) × (List Int)) → Option Ans) (k1 : (Int × Int × Int × Int × (List Int) × (List Int)) → Option Ans) : Option Ans := Fg_ref07_Put_6c1 fuel (F_ref07_Valid fuel) (F_ref05_Valid fuel) (F_ref05_At fuel) (F_ref07_Size fuel) (F_ref07_room fuel) (F_ref02_Encoder_Model_2fe fuel) (F_ref07_typical fuel) (F_ref02_Encoder_Put_e89 fuel) (F_ref07_context fuel) x0 x1 x2 x3 x4 x5 x6 x7 x8 x9 x10 x11 x12 x13 x14 x15 x16 k0 k1
abbrev YF84_6c1 : Type := (Int) → (Int) → (Int) → (Int) → (Bool) → (Int) → (Int) → (Int) → ((List Int)) → (Int) → (Int) → ((List Int)) → (Int) → (Int) → (Int) → ((List Int)) → ((List Int)) → ((Int × Int × Int × Int × (List Int) × (List Int)) → Option Ans) → ((Int × Int × Int × Int × (List Int) × (List Int)) → Option Ans) → Option Ans
theorem F84_6c1_eqg (fuel : Nat) (f28 : YF28) (f73 : YF73) (f80 : YF80) (f81 : YF81) (f130 : YF130) (f131_2fe : YF131_2fe) (f132 : YF132) (f133_e89 : YF133_e89) (f134 : YF134) (x0 x1 : Int) (x2 x3 : Int) (x4 : Bool) (x5 x6 x7 : Int) (x8 : (List Int)) (x9 x10 : Int) (x11 : (List Int)) (x12 x13 x14 : Int) (x15 x16 : (List Int)) (k : Ev.Cont) : evalFn tab (Gg84_6c1 f28 f73 f80 f81 f130 f131_2fe f132 f133_e89 f134) (J84_6c1 fuel) kp84_6c1 fuel Try.f84 [.c (.ptr 0 0), .c (.int .i64 x0), .agg [.int .i64 x1, .int .i64 x2, .int .i64 x3, .bool x4, .int .i64 x5], .agg [.int .i64 x6, .int .i64 x7, .sl (.int .u8) x8], .agg [.int .i64 x9, .int .i64 x10, .sl (.int .u8) x11]] [.cells 185 [.int .i64 x12, .own 1, .int .u64 x13, .int .u64 x14, .own 2], .vec 3 (.int .i64) x15 false, .vec 5 (.int .u8) x16 false] k = Fg_ref07_Put_6c1 fuel f28 f73 f80 f81 f130 f131_2fe f132 f133_e89 f134 x0 x1 x2 x3 x4 x5 x6 x7 x8 x9 x10 x11 x12 x13 x14 x15 x16 (fun r => match r with | (r0, r1, r2, r3, r4, r5) => k (.c (.int .i64 r0), [.cells 185 [.int .i64 r1, .own 1, .int .u64 r2, .int .u64 r3, .own 2], .vec 3 (.int .i64) r4 false, .vec 5 (.int .u8) r5 false])) (fun r => match r with | (r0, r1, r2, r3, r4, r5) => k (.c (.int .i64 r0), [.cells 185 [.int .i64 r1, .own 1, .int .u64 r2, .int .u64 r3, .own 2], .vec 3 (.int .i64) r4 false, .vec 5 (.int .u8) r5 true])) := by
  kernel_rfl
theorem hG84_6c1 (fuel : Nat) : GOK Try.prog (G84_6c1 fuel) :=
  gok_cons ⟨ok28 fuel, enters_of Try.func28 (by kernel_rfl) rfl⟩ <|
  gok_cons ⟨ok73 fuel, enters_of Try.func73 (by kernel_rfl) rfl⟩ <|
  gok_cons ⟨ok80 fuel, enters_of Try.func80 (by kernel_rfl) rfl⟩ <|
  gok_cons ⟨ok81 fuel, enters_of Try.func81 (by kernel_rfl) rfl⟩ <|
  gok_cons ⟨ok130 fuel, enters_of Try.func130 (by kernel_rfl) rfl⟩ <|
  gok_cons ⟨ok131_2fe fuel, enters_of Try.func131 (by kernel_rfl) rfl⟩ <|
  gok_cons ⟨ok132 fuel, enters_of Try.func132 (by kernel_rfl) rfl⟩ <|
  gok_cons ⟨ok133_e89 fuel, enters_of Try.func133 (by kernel_rfl) rfl⟩ <|
  gok_cons ⟨ok134 fuel, enters_of Try.func134 (by kernel_rfl) rfl⟩ <|
  gok_nil
theorem B84_6c1_2_blk (fuel : Nat) : BlkOK Try.prog Try.f84.ntmps (.block 2 (.loop (bodyOf 2 Try.f84))) (B84_6c1_2 fuel) :=
  blk_of (blk_of_code tab_ok (hG84_6c1 fuel) mixed (J := J84_6c1_2 fuel) (kp := kp84_6c1) (fuel := fuel) (by kernel_rfl) (fun q hq => by
    rw [(by kernel_rfl : obl (J84_6c1_2 fuel) (.block 2 (.loop (bodyOf 2 Try.f84))) = [])] at hq
    cases hq)) (B84_6c1_2_ok fuel)
theorem B84_6c1_0_blk (fuel : Nat) : BlkOK Try.prog Try.f84.ntmps (.block 0 (.loop (bodyOf 0 Try.f84))) (B84_6c1_0 fuel) :=
  blk_of (blk_of_code tab_ok (hG84_6c1 fuel) mixed (J := J84_6c1_0 fuel) (kp := kp84_6c1) (fuel := fuel) (by kernel_rfl) (fun q hq => by
    rw [(by kernel_rfl : obl (J84_6c1_0 fuel) (.block 0 (.loop (bodyOf 0 Try.f84))) = [(.block 2 (.loop (bodyOf 2 Try.f84)), B84_6c1_2 fuel)])] at hq
    simp only [List.mem_cons, List.not_mem_nil, or_false] at hq
    subst hq
    · exact B84_6c1_2_blk fuel)) (B84_6c1_0_ok fuel)
theorem B84_6c1_6_blk (fuel : Nat) : BlkOK Try.prog Try.f84.ntmps (.block 6 (.loop (bodyOf 6 Try.f84))) (B84_6c1_6 fuel) :=
  blk_of (blk_of_code tab_ok (hG84_6c1 fuel) mixed (J := J84_6c1_6 fuel) (kp := kp84_6c1) (fuel := fuel) (by kernel_rfl) (fun q hq => by
    rw [(by kernel_rfl : obl (J84_6c1_6 fuel) (.block 6 (.loop (bodyOf 6 Try.f84))) = [])] at hq
    cases hq)) (B84_6c1_6_ok fuel)
theorem B84_6c1_4_blk (fuel : Nat) : BlkOK Try.prog Try.f84.ntmps (.block 4 (.loop (bodyOf 4 Try.f84))) (B84_6c1_4 fuel) :=
  blk_of (blk_of_code tab_ok (hG84_6c1 fuel) mixed (J := J84_6c1_4 fuel) (kp := kp84_6c1) (fuel := fuel) (by kernel_rfl) (fun q hq => by
    rw [(by kernel_rfl : obl (J84_6c1_4 fuel) (.block 4 (.loop (bodyOf 4 Try.f84))) = [(.block 6 (.loop (bodyOf 6 Try.f84)), B84_6c1_6 fuel)])] at hq
    simp only [List.mem_cons, List.not_mem_nil, or_false] at hq
    subst hq
    · exact B84_6c1_6_blk fuel)) (B84_6c1_4_ok fuel)
theorem fok84_6c1 (fuel : Nat) : FnOK Try.prog 84 (evalFn tab (G84_6c1 fuel) (J84_6c1 fuel) kp84_6c1 fuel Try.f84) :=
  fn_ok tab_ok (hG84_6c1 fuel) mixed Try.func84 (c := (Try.f84.body).getD .skip) rfl (fun q hq => by
    rw [(by kernel_rfl : obl (J84_6c1 fuel) ((Try.f84.body).getD .skip) = [(.block 0 (.loop (bodyOf 0 Try.f84)), B84_6c1_0 fuel), (.block 4 (.loop (bodyOf 4 Try.f84)), B84_6c1_4 fuel)])] at hq
    simp only [List.mem_cons, List.not_mem_nil, or_false] at hq
    rcases hq with rfl | rfl
    · exact B84_6c1_0_blk fuel
    · exact B84_6c1_4_blk fuel)
noncomputable def spg84_6c1 (F : YF84_6c1) : Ev.Spec := fun args objs k => match args, objs with
 | [.c (.ptr q0 q1), .c (.int .i64 x0), .agg [.int .i64 x1, .int .i64 x2, .int .i64 x3, .bool x4, .int .i64 x5], .agg [.int .i64 x6, .int .i64 x7, .sl (.int .u8) x8], .agg [.int .i64 x9, .int .i64 x10, .sl (.int .u8) x11]], [.cells q2 [.int .i64 x12, .own q3, .int .u64 x13, .int .u64 x14, .own q4], .vec q5 (.int .i64) x15 false, .vec q6 (.int .u8) x16 false] => bif Nat.beq q0 0 && Nat.beq q1 0 && Nat.beq q2 185 && Nat.beq q3 1 && Nat.beq q4 2 && Nat.beq q5 3 && Nat.beq q6 5 then F x0 x1 x2 x3 x4 x5 x6 x7 x8 x9 x10 x11 x12 x13 x14 x15 x16 (fun r => match r with | (r0, r1, r2, r3, r4, r5) => k (.c (.int .i64 r0), [.cells 185 [.int .i64 r1, .own 1, .int .u64 r2, .int .u64 r3, .own 2], .vec 3 (.int .i64) r4 false, .vec 5 (.int .u8) r5 false])) (fun r => match r with | (r0, r1, r2, r3, r4, r5) => k (.c (.int .i64 r0), [.cells 185 [.int .i64 r1, .own 1, .int .u64 r2, .int .u64 r3, .own 2], .vec 3 (.int .i64) r4 false, .vec 5 (.int .u8) r5 true])) else none
 | _, _ => none
noncomputable def spec84_6c1 (fuel : Nat) : Ev.Spec := spg84_6c1 (F_ref07_Put_6c1 fuel)
theorem ok84_6c1 (fuel : Nat) : FnOK Try.prog 84 (spec84_6c1 fuel) := by
  intro args objs kk r h
  unfold spec84_6c1 spg84_6c1 at h
  split at h
  · skip
    obtain ⟨hb, h⟩ := cond_some' h
    simp only [Bool.and_eq_true, Nat.beq_eq, decide_eq_true_eq] at hb
    obtain ⟨⟨⟨⟨⟨⟨rfl, rfl⟩, rfl⟩, rfl⟩, rfl⟩, rfl⟩, rfl⟩ := hb
    exact fok84_6c1 fuel _ _ kk r ((F84_6c1_eqg fuel (F_ref07_Valid fuel) (F_ref05_Valid fuel) (F_ref05_At fuel) (F_ref07_Size fuel) (F_ref07_room fuel) (F_ref02_Encoder_Model_2fe fuel) (F_ref07_typical fuel) (F_ref02_Encoder_Put_e89 fuel) (F_ref07_context fuel) _ _ _ _ _ _ _ _ _ _ _ _ _ _ _ _ _ kk).trans h)
  · cases h
end Go.Proofs.Ytipdidpalcmlhaa

set_option linter.unusedVariables false
set_option linter.unusedSimpArgs false
set_option maxRecDepth 100000
set_option maxHeartbeats 2000000
namespace Go.Proofs.Ytipdidpalcmlhaa
open Go Ev
def kp33 (i : Nat) : Option (List Nat) := Ev.look i []
noncomputable def Gg33 (f81 : YF81) (f82 : YF82) (f83 : YF83) (f84_6c1 : YF84_6c1) (f85_2fe : YF85_2fe) (f : Nat) : Option Ev.Spec := Ev.look f [(81, spg81 f81), (82, spg82 f82), (83, spg83 f83), (84, spg84_6c1 f84_6c1), (85, spg85_2fe f85_2fe)]
noncomputable def G33 (fuel : Nat) : Nat → Option Ev.Spec := Gg33 (F_ref07_Size fuel) (F_ref02_New fuel) (F_ref02_NewEncoder fuel) (F_ref07_Put_6c1 fuel) (F_ref02_Encoder_End_2fe fuel)
noncomputable def J33 (fuel : Nat) (i : Nat) : Option Ev.Blk := Ev.look i []
noncomputable def Fg_ref07_Encode (fuel : Nat) (f81 : YF81) (f82 : YF82) (f83 : YF83) (f84_6c1 : YF84_6c1) (f85_2fe : YF85_2fe) (x0 x1 x2 : Int) (x3 : Bool) (x4 x5 x6 : Int) (x7 : (List Int)) (k0 : (Int × (List Int)) → Option Ans) : Option Ans :=
  (f81 (x0) (x1) (x2) (x3) (x4)
  (fun (y2_0, y2_1) =>
  bif y2_1 != (0 : Int) then
  k0 (y2_1, [])
  else
  (f82 (x4) (y2_0)
  (fun (y7_0, y7_1, y7_2) =>
  (f83 (y7_0) (y7_2)
  (fun y11 =>
  none)
  (fun (y11_0, y11_1, y11_2, y11_3, y11_4, y11_5) =>
  (f84_6c1 ((0 : Int)) (x0) (x1) (x2) (x3) (x4) (x5) (x6) (x7) ((0 : Int)) ((0 : Int)) ([]) (y11_1) (y11_2) (y11_3) (y11_4) (y11_5)
  (fun (y15_0, y15_1, y15_2, y15_3, y15_4, y15_5) =>
  bif y15_0 != (0 : Int) then
  k0 (y15_0, [])
  else
  (f85_2fe (y15_1) (y15_2) (y15_3) (y15_4) (y15_5)
  (fun (y20_0, y20_1, y20_2, y20_3, y20_4, y20_5) =>
  k0 ((0 : Int), y20_5))))
  (fun (y15_0, y15_1, y15_2, y15_3, y15_4, y15_5) =>
  bif y15_0 != (0 : Int) then
  k0 (y15_0, [])
  else
  (f85_2fe (y15_1) (y15_2) (y15_3) (y15_4) (y15_5)
  (fun (y20_0, y20_1, y20_2, y20_3, y20_4, y20_5) =>
  k0 ((0 : Int), y20_5)))))))))))
noncomputable def F_ref07_Encode (fuel : Nat) (x0 x1 x2 : Int) (x3 : Bool) (x4 x5 x6 : Int) (x7 : (List Int)) (k0 : (Int × (List Int)) → Option Ans) : Option Ans := Fg_ref07_Encode fuel (F_ref07_Size fuel) (F_ref02_New fuel) (F_ref02_NewEncoder fuel) (F_ref07_Put_6c1 fuel) (F_ref02_Encoder_End_2fe fuel) x0 x1 x2 x3 x4 x5 x6 x7 k0
abbrev YF33 : Type := (Int) → (Int) → (Int) → (Bool) → (Int) → (Int) → (Int) → ((List Int)) → ((Int × (List Int)) → Option Ans) → Option Ans
theorem F33_eqg (fuel : Nat) (f81 : YF81) (f82 : YF82) (f83 : YF83) (f84_6c1 : YF84_6c1) (f85_2fe : YF85_2fe) (x0 x1 x2 : Int) (x3 : Bool) (x4 x5 x6 : Int) (x7 : (List Int)) (k : Ev.Cont) : evalFn tab (Gg33 f81 f82 f83 f84_6c1 f85_2fe) (J33 fuel) kp33 fuel Try.f33 [.agg [.int .i64 x0, .int .i64 x1, .int .i64 x2, .bool x3, .int .i64 x4], .agg [.int .i64 x5, .int .i64 x6, .sl (.int .u8) x7]] [] k = Fg_ref07_Encode fuel f81 f82 f83 f84_6c1 f85_2fe x0 x1 x2 x3 x4 x5 x6 x7 (fun r => match r with | (r0, r1) => k (.tup [(false, [.own 0]), (false, [.int .i64 r0])], [.vec 5 (.int .u8) r1 true])) := by
  kernel_rfl
theorem hG33 (fuel : Nat) : GOK Try.prog (G33 fuel) :=
  gok_cons ⟨ok81 fuel, enters_of Try.func81 (by kernel_rfl) rfl⟩ <|
  gok_cons ⟨ok82 fuel, enters_of Try.func82 (by kernel_rfl) rfl⟩ <|
  gok_cons ⟨ok83 fuel, enters_of Try.func83 (by kernel_rfl) rfl⟩ <|
  gok_cons ⟨ok84_6c1 fuel, enters_of Try.func84 (by kernel_rfl) rfl⟩ <|
  gok_cons ⟨ok85_2fe fuel, enters_of Try.func85 (by kernel_rfl) rfl⟩ <|
  gok_nil
theorem fok33 (fuel : Nat) : FnOK Try.prog 33 (evalFn tab (G33 fuel) (J33 fuel) kp33 fuel Try.f33) :=
  fn_ok tab_ok (hG33 fuel) mixed Try.func33 (c := (Try.f33.body).getD .skip) rfl (fun q hq => by
    rw [(by kernel_rfl : obl (J33 fuel) ((Try.f33.body).getD .skip) = [])] at hq
    cases hq)
noncomputable def spg33 (F : YF33) : Ev.Spec := fun args objs k => match args, objs with
 | [.agg [.int .i64 x0, .int .i64 x1, .int .i64 x2, .bool x3, .int .i64 x4], .agg [.int .i64 x5, .int .i64 x6, .sl (.int .u8) x7]], [] => bif true then F x0 x1 x2 x3 x4 x5 x6 x7 (fun r => match r with | (r0, r1) => k (.tup [(false, [.own 0]), (false, [.int .i64 r0])], [.vec 5 (.int .u8) r1 true])) else none
 | _, _ => none
noncomputable def spec33 (fuel : Nat) : Ev.Spec := spg33 (F_ref07_Encode fuel)
theorem ok33 (fuel : Nat) : FnOK Try.prog 33 (spec33 fuel) := by
  intro args objs kk r h
  unfold spec33 spg33 at h
  split at h
  · skip
    obtain ⟨hb, h⟩ := cond_some' h
    simp only [Bool.and_eq_true, Nat.beq_eq, decide_eq_true_eq] at hb
    clear hb
    exact fok33 fuel _ _ kk r ((F33_eqg fuel (F_ref07_Size fuel) (F_ref02_New fuel) (F_ref02_NewEncoder fuel) (F_ref07_Put_6c1 fuel) (F_ref02_Encoder_End_2fe fuel) _ _ _ _ _ _ _ _ kk).trans h)
  · cases h
end Go.Proofs.Ytipdidpalcmlhaa

set_option linter.unusedVariables false
set_option linter.unusedSimpArgs false
set_option maxRecDepth 100000
set_option maxHeartbeats 2000000
namespace Go.Proofs.Ytipdidpalcmlhaa
open Go Ev
def kp29 (i : Nat) : Option (List Nat) := Ev.look i [(2, [0, 3]), (100000, []), (200004, [0]), (400000, [2])]
noncomputable def Gg29 (f73 : YF73) (f : Nat) : Option Ev.Spec := Ev.look f [(73, spg73 f73)]
noncomputable def G29 (fuel : Nat) : Nat → Option Ev.Spec := Gg29 (F_ref05_Valid fuel)
noncomputable def Sg_ref11_bitmaps_0 (fuel : Nat) (f73 : YF73) (x0 : (List (Int × (Int × (List Int))))) (x1 : Int) (c : ((List (Int × (Int × (List Int)))) × Int) → Option Ans) (B : (Int → Option Ans) × (Unit → Option Ans)) : Option Ans := match B with
 | (ret, b) =>
  bif decide (x1 < (↑x0.length : Int)) then
  bif decide ((0 : Int) ≤ x1 ∧ x1 < (↑x0.length : Int)) then
  (f73 ((x0.getD x1.toNat ((0 : Int), (0 : Int), [])).fst) ((x0.getD x1.toNat ((0 : Int), (0 : Int), [])).snd.fst) ((x0.getD x1.toNat ((0 : Int), (0 : Int), [])).snd.snd)
  (fun y4 =>
  bif !y4 then
  ret ((30 : Int))
  else
  bif decide ((0 : Int) ≤ x1 ∧ x1 < (↑x0.length : Int)) then
  bif decide ((0 : Int) ≤ (0 : Int) ∧ (0 : Int) < (↑x0.length : Int)) then
  bif (x0.getD x1.toNat ((0 : Int), (0 : Int), [])).fst != (x0.getD (Int.toNat (0 : Int)) ((0 : Int), (0 : Int), [])).fst then
  ret ((30 : Int))
  else
  bif decide ((0 : Int) ≤ x1 ∧ x1 < (↑x0.length : Int)) then
  bif decide ((0 : Int) ≤ (0 : Int) ∧ (0 : Int) < (↑x0.length : Int)) then
  bif (x0.getD x1.toNat ((0 : Int), (0 : Int), [])).snd.fst != (x0.getD (Int.toNat (0 : Int)) ((0 : Int), (0 : Int), [])).snd.fst then
  ret ((30 : Int))
  else
  c (x0, IntKind.i64.wrap (x1 + (1 : Int)))
  else none
  else none
  else none
  else none))
  else none
  else
  b ()
noncomputable def S_ref11_bitmaps_0 (fuel : Nat) (v : (List (Int × (Int × (List Int)))) × Int) (c : ((List (Int × (Int × (List Int)))) × Int) → Option Ans) (B : (Int → Option Ans) × (Unit → Option Ans)) : Option Ans := match v with
 | (x0, x1) => Sg_ref11_bitmaps_0 fuel (F_ref05_Valid fuel) x0 x1 c B
noncomputable def L_ref11_bitmaps_0 (fuel : Nat) (v : (List (Int × (Int × (List Int)))) × Int) (ret : (Int → Option Ans)) (b : (Unit → Option Ans)) : Option Ans := iter (S_ref11_bitmaps_0 fuel) fuel v (ret, b)
noncomputable def J29_0 (fuel : Nat) (i : Nat) : Option Ev.Blk := Ev.look i []
noncomputable def T29_0 (v : (List (Int × (Int × (List Int)))) × Int) : Ev.St := match v with | (x0, x1) => ⟨[(0, .c (.sl (.pair (.int .i64) (.pair (.int .i64) (.sl (.int .u8)))) x0)), (3, .c (.int .i64 x1))], [], 0, 0⟩
noncomputable def E29_0 (K : Ev.Ex → Ev.St → Option Ans) : (Int → Option Ans) × (Unit → Option Ans) := ((fun v => match v with | x0 => K .ret ⟨[(2, .c (.int .i64 x0))], [], 0, 0⟩), (fun v => match v with | () => K .normal ⟨[], [], 0, 0⟩))
theorem S29_0_okg (fuel : Nat) (f73 : YF73) (R : Ev.St → Option Ans) (K : Ev.Ex → Ev.St → Option Ans) (x0 : (List (Int × (Int × (List Int))))) (x1 : Int) : evalCode tab (Gg29 f73) (J29_0 fuel) kp29 fuel (bodyOf 0 Try.f29) (T29_0 (x0, x1)) (lc kp29 2 0 R K) = Sg_ref11_bitmaps_0 fuel f73 x0 x1 (fun v => R (T29_0 v)) (E29_0 K) := by
  kernel_rfl
noncomputable def B29_0 (fuel : Nat) : Ev.Blk := fun st K => match canonO (kp29 2) st with
 | some s => (match s with
 | ⟨[(q0, .c (.sl (.pair (.int .i64) (.pair (.int .i64) (.sl (.int .u8)))) x0)), (q1, .c (.int .i64 x1))], [], q2, q3⟩ => bif Nat.beq q0 0 && Nat.beq q1 3 && Nat.beq q2 0 && Nat.beq q3 0 then iter (S_ref11_bitmaps_0 fuel) fuel (x0, x1) (E29_0 K) else none
 | _ => none)
 | none => none
theorem B29_0_ok (fuel : Nat) (st : Ev.St) (K : Ev.Ex → Ev.St → Option Ans) (r : Ans) (h : B29_0 fuel st K = some r) : evalCode tab (G29 fuel) (J29_0 fuel) kp29 fuel (.block 0 (.loop (bodyOf 0 Try.f29))) st K = some r := by
  unfold B29_0 at h
  split at h
  · rename_i s hs
    split at h
    · skip
      obtain ⟨hb, h⟩ := cond_some' h
      simp only [Bool.and_eq_true, Nat.beq_eq, decide_eq_true_eq] at hb
      obtain ⟨⟨⟨rfl, rfl⟩, rfl⟩, rfl⟩ := hb
      exact blk_loop (S := T29_0) (ks := E29_0) (step := S_ref11_bitmaps_0 fuel) (v := (_, _)) (by kernel_rfl) (by kernel_rfl) (fun R K v => by obtain ⟨x0, x1⟩ := v; exact S29_0_okg fuel (F_ref05_Valid fuel) R K x0 x1) hs h
    · cases h
  · cases h
noncomputable def J29 (fuel : Nat) (i : Nat) : Option Ev.Blk := Ev.look i [(100000, B29_0 fuel)]
noncomputable def Fg_ref11_bitmaps (fuel : Nat) (f73 : YF73) (x0 : (List (Int × Int × (List Int)))) (k0 : (Int) → Option Ans) : Option Ans :=
  (L_ref11_bitmaps_0 fuel (x0, (0 : Int))
  (fun ret0_0 =>
  k0 ret0_0)
  (fun () =>
  k0 ((0 : Int))))
noncomputable def F_ref11_bitmaps (fuel : Nat) (x0 : (List (Int × Int × (List Int)))) (k0 : (Int) → Option Ans) : Option Ans := Fg_ref11_bitmaps fuel (F_ref05_Valid fuel) x0 k0
abbrev YF29 : Type := ((List (Int × Int × (List Int)))) → ((Int) → Option Ans) → Option Ans
theorem F29_eqg (fuel : Nat) (f73 : YF73) (x0 : (List (Int × Int × (List Int)))) (k : Ev.Cont) : evalFn tab (Gg29 f73) (J29 fuel) kp29 fuel Try.f29 [.c (.sl (.pair (.int .i64) (.pair (.int .i64) (.sl (.int .u8)))) x0)] [] k = Fg_ref11_bitmaps fuel f73 x0 (fun r => match r with | r0 => k (.c (.int .i64 r0), [])) := by
  kernel_rfl
theorem hG29 (fuel : Nat) : GOK Try.prog (G29 fuel) :=
  gok_cons ⟨ok73 fuel, enters_of Try.func73 (by kernel_rfl) rfl⟩ <|
  gok_nil
theorem B29_0_blk (fuel : Nat) : BlkOK Try.prog Try.f29.ntmps (.block 0 (.loop (bodyOf 0 Try.f29))) (B29_0 fuel) :=
  blk_of (blk_of_code tab_ok (hG29 fuel) mixed (J := J29_0 fuel) (kp := kp29) (fuel := fuel) (by kernel_rfl) (fun q hq => by
    rw [(by kernel_rfl : obl (J29_0 fuel) (.block 0 (.loop (bodyOf 0 Try.f29))) = [])] at hq
    cases hq)) (B29_0_ok fuel)
theorem fok29 (fuel : Nat) : FnOK Try.prog 29 (evalFn tab (G29 fuel) (J29 fuel) kp29 fuel Try.f29) :=
  fn_ok tab_ok (hG29 fuel) mixed Try.func29 (c := (Try.f29.body).getD .skip) rfl (fun q hq => by
    rw [(by kernel_rfl : obl (J29 fuel) ((Try.f29.body).getD .skip) = [(.block 0 (.loop (bodyOf 0 Try.f29)), B29_0 fuel)])] at hq
    simp only [List.mem_cons, List.not_mem_nil, or_false] at hq
    subst hq
    · exact B29_0_blk fuel)
noncomputable def spg29 (F : YF29) : Ev.Spec := fun args objs k => match args, objs with
 | [.c (.sl (.pair (.int .i64) (.pair (.int .i64) (.sl (.int .u8)))) x0)], [] => bif true then F x0 (fun r => match r with | r0 => k (.c (.int .i64 r0), [])) else none
 | _, _ => none
noncomputable def spec29 (fuel : Nat) : Ev.Spec := spg29 (F_ref11_bitmaps fuel)
theorem ok29 (fuel : Nat) : FnOK Try.prog 29 (spec29 fuel) := by
  intro args objs kk r h
  unfold spec29 spg29 at h
  split at h
  · skip
    obtain ⟨hb, h⟩ := cond_some' h
    simp only [Bool.and_eq_true, Nat.beq_eq, decide_eq_true_eq] at hb
    clear hb
    exact fok29 fuel _ _ kk r ((F29_eqg fuel (F_ref05_Valid fuel) _ kk).trans h)
  · cases h
end Go.Proofs.Ytipdidpalcmlhaa

set_option linter.unusedVariables false
set_option linter.unusedSimpArgs false
set_option maxRecDepth 100000
set_option maxHeartbeats 2000000
namespace Go.Proofs.Ytipdidpalcmlhaa
open Go Ev
def kp74 (i : Nat) : Option (List Nat) := Ev.look i []
noncomputable def Gg74 (f75 : YF75) (f : Nat) : Option Ev.Spec := Ev.look f [(75, spg75 f75)]
noncomputable def G74 (fuel : Nat) : Nat → Option Ev.Spec := Gg74 (F_ref05_Sides fuel)
noncomputable def J74 (fuel : Nat) (i : Nat) : Option Ev.Blk := Ev.look i []
noncomputable def Fg_ref11_isSides (fuel : Nat) (f75 : YF75) (x0 x1 x2 : Int) (k0 : (Bool) → Option Ans) : Option Ans :=
  bif decide (x0 ≥ (1 : Int)) then
  bif decide (x0 ≤ (64 : Int)) then
  bif decide (x1 ≥ (1 : Int)) then
  bif decide (x2 ≥ (1 : Int)) then
  bif decide (x1 ≤ (16 : Int)) then
  bif decide (x2 ≤ (16 : Int)) then
  (f75 (IntKind.i64.wrap (x0 * x1)) (x2)
  (fun y8 =>
  k0 y8))
  else
  k0 false
  else
  k0 false
  else
  k0 false
  else
  k0 false
  else
  k0 false
  else
  k0 false
noncomputable def F_ref11_isSides (fuel : Nat) (x0 x1 x2 : Int) (k0 : (Bool) → Option Ans) : Option Ans := Fg_ref11_isSides fuel (F_ref05_Sides fuel) x0 x1 x2 k0
abbrev YF74 : Type := (Int) → (Int) → (Int) → ((Bool) → Option Ans) → Option Ans
theorem F74_eqg (fuel : Nat) (f75 : YF75) (x0 x1 x2 : Int) (k : Ev.Cont) : evalFn tab (Gg74 f75) (J74 fuel) kp74 fuel Try.f74 [.c (.int .i64 x0), .c (.int .i64 x1), .c (.int .i64 x2)] [] k = Fg_ref11_isSides fuel f75 x0 x1 x2 (fun r => match r with | r0 => k (.c (.bool r0), [])) := by
  kernel_rfl
theorem hG74 (fuel : Nat) : GOK Try.prog (G74 fuel) :=
  gok_cons ⟨ok75 fuel, enters_of Try.func75 (by kernel_rfl) rfl⟩ <|
  gok_nil
theorem fok74 (fuel : Nat) : FnOK Try.prog 74 (evalFn tab (G74 fuel) (J74 fuel) kp74 fuel Try.f74) :=
  fn_ok tab_ok (hG74 fuel) mixed Try.func74 (c := (Try.f74.body).getD .skip) rfl (fun q hq => by
    rw [(by kernel_rfl : obl (J74 fuel) ((Try.f74.body).getD .skip) = [])] at hq
    cases hq)
noncomputable def spg74 (F : YF74) : Ev.Spec := fun args objs k => match args, objs with
 | [.c (.int .i64 x0), .c (.int .i64 x1), .c (.int .i64 x2)], [] => bif true then F x0 x1 x2 (fun r => match r with | r0 => k (.c (.bool r0), [])) else none
 | _, _ => none
noncomputable def spec74 (fuel : Nat) : Ev.Spec := spg74 (F_ref11_isSides fuel)
theorem ok74 (fuel : Nat) : FnOK Try.prog 74 (spec74 fuel) := by
  intro args objs kk r h
  unfold spec74 spg74 at h
  split at h
  · skip
    obtain ⟨hb, h⟩ := cond_some' h
    simp only [Bool.and_eq_true, Nat.beq_eq, decide_eq_true_eq] at hb
    clear hb
    exact fok74 fuel _ _ kk r ((F74_eqg fuel (F_ref05_Sides fuel) _ _ _ kk).trans h)
  · cases h
end Go.Proofs.Ytipdidpalcmlhaa

set_option linter.unusedVariables false
set_option linter.unusedSimpArgs false
set_option maxRecDepth 100000
set_option maxHeartbeats 2000000
namespace Go.Proofs.Ytipdidpalcmlhaa
open Go Ev
def kp30 (i : Nat) : Option (List Nat) := Ev.look i []
noncomputable def Gg30 (f74 : YF74) (f : Nat) : Option Ev.Spec := Ev.look f [(74, spg74 f74)]
noncomputable def G30 (fuel : Nat) : Nat → Option Ev.Spec := Gg30 (F_ref11_isSides fuel)
noncomputable def J30 (fuel : Nat) (i : Nat) : Option Ev.Blk := Ev.look i []
noncomputable def Fg_ref11_patterns (fuel : Nat) (f74 : YF74) (x0 : (List (Int × Int × (List Int)))) (k0 : (Int) → Option Ans) : Option Ans :=
  bif (↑x0.length : Int) == (0 : Int) then
  k0 ((2 : Int))
  else
  bif decide ((0 : Int) ≤ (0 : Int) ∧ (0 : Int) < (↑x0.length : Int)) then
  bif decide ((0 : Int) ≤ (0 : Int) ∧ (0 : Int) < (↑x0.length : Int)) then
  (f74 ((↑x0.length : Int)) ((x0.getD (Int.toNat (0 : Int)) ((0 : Int), (0 : Int), [])).fst) ((x0.getD (Int.toNat (0 : Int)) ((0 : Int), (0 : Int), [])).snd.fst)
  (fun y5 =>
  bif !y5 then
  k0 ((2 : Int))
  else
  k0 ((0 : Int))))
  else none
  else none
noncomputable def F_ref11_patterns (fuel : Nat) (x0 : (List (Int × Int × (List Int)))) (k0 : (Int) → Option Ans) : Option Ans := Fg_ref11_patterns fuel (F_ref11_isSides fuel) x0 k0
abbrev YF30 : Type := ((List (Int × Int × (List Int)))) → ((Int) → Option Ans) → Option Ans
theorem F30_eqg (fuel : Nat) (f74 : YF74) (x0 : (List (Int × Int × (List Int)))) (k : Ev.Cont) : evalFn tab (Gg30 f74) (J30 fuel) kp30 fuel Try.f30 [.c (.sl (.pair (.int .i64) (.pair (.int .i64) (.sl (.int .u8)))) x0)] [] k = Fg_ref11_patterns fuel f74 x0 (fun r => match r with | r0 => k (.c (.int .i64 r0), [])) := by
  kernel_rfl
theorem hG30 (fuel : Nat) : GOK Try.prog (G30 fuel) :=
  gok_cons ⟨ok74 fuel, enters_of Try.func74 (by kernel_rfl) rfl⟩ <|
  gok_nil
theorem fok30 (fuel : Nat) : FnOK Try.prog 30 (evalFn tab (G30 fuel) (J30 fuel) kp30 fuel Try.f30) :=
  fn_ok tab_ok (hG30 fuel) mixed Try.func30 (c := (Try.f30.body).getD .skip) rfl (fun q hq => by
    rw [(by kernel_rfl : obl (J30 fuel) ((Try.f30.body).getD .skip) = [])] at hq
    cases hq)
noncomputable def spg30 (F : YF30) : Ev.Spec := fun args objs k => match args, objs with
 | [.c (.sl (.pair (.int .i64) (.pair (.int .i64) (.sl (.int .u8)))) x0)], [] => bif true then F x0 (fun r => match r with | r0 => k (.c (.int .i64 r0), [])) else none
 | _, _ => none
noncomputable def spec30 (fuel : Nat) : Ev.Spec := spg30 (F_ref11_patterns fuel)
theorem ok30 (fuel : Nat) : FnOK Try.prog 30 (spec30 fuel) := by
  intro args objs kk r h
  unfold spec30 spg30 at h
  split at h
  · skip
    obtain ⟨hb, h⟩ := cond_some' h
    simp only [Bool.and_eq_true, Nat.beq_eq, decide_eq_true_eq] at hb
    clear hb
    exact fok30 fuel _ _ kk r ((F30_eqg fuel (F_ref11_isSides fuel) _ kk).trans h)
  · cases h
end Go.Proofs.Ytipdidpalcmlhaa

set_option linter.unusedVariables false
set_option linter.unusedSimpArgs false
set_option maxRecDepth 100000
set_option maxHeartbeats 2000000
namespace Go.Proofs.Ytipdidpalcmlhaa
open Go Ev
def kp9 (i : Nat) : Option (List Nat) := Ev.look i [(10, [1, 2, 7, 9]), (100000, [2, 7]), (200012, [1, 7]), (400000, [4, 5])]
noncomputable def Gg9 (f28 : YF28) (f29 : YF29) (f30 : YF30) (f31 : YF31) (f32_65b : YF32_65b) (f33 : YF33) (f : Nat) : Option Ev.Spec := Ev.look f [(28, spg28 f28), (29, spg29 f29), (30, spg30 f30), (31, spg31 f31), (1000032, spg32_65b f32_65b), (33, spg33 f33)]
noncomputable def G9 (fuel : Nat) : Nat → Option Ev.Spec := Gg9 (F_ref07_Valid fuel) (F_ref11_bitmaps fuel) (F_ref11_patterns fuel) (F_ref05_New fuel) (F_ref05_Lay_65b fuel) (F_ref07_Encode fuel)
noncomputable def Sg_ref11_Patterns_0 (fuel : Nat) (f28 : YF28) (f29 : YF29) (f30 : YF30) (f31 : YF31) (f32_65b : YF32_65b) (f33 : YF33) (x0 : (List (Int × (Int × (List Int))))) (x1 x2 : Int) (x3 x4 : Int) (x5 : Bool) (x6 x7 x8 : Int) (x9 : (List Int)) (c : ((List (Int × (Int × (List Int)))) × Int × Int × Int × Int × Bool × Int × Int × Int × (List Int)) → Option Ans) (B : (Int × Int × Int × Bool × Int × Int × Int × (List Int) → Option Ans)) : Option Ans := match B with
 | b =>
  bif decide (x1 < (↑x0.length : Int)) then
  bif decide ((0 : Int) ≤ x1 ∧ x1 < (↑x0.length : Int)) then
  bif decide ((0 : Int) ≤ (0 : Int) ∧ (0 : Int) < (↑x0.length : Int)) then
  (f32_65b (x7) (x8) ((x0.getD x1.toNat ((0 : Int), (0 : Int), [])).fst) ((x0.getD x1.toNat ((0 : Int), (0 : Int), [])).snd.fst) ((x0.getD x1.toNat ((0 : Int), (0 : Int), [])).snd.snd) (IntKind.i64.wrap (x1 * (x0.getD (Int.toNat (0 : Int)) ((0 : Int), (0 : Int), [])).fst)) ((0 : Int)) ((0 : Int)) (x9)
  (fun y5 =>
  c (x0, IntKind.i64.wrap (x1 + (1 : Int)), x2, x3, x4, x5, x6, x7, x8, y5)))
  else none
  else none
  else
  b (x2, x3, x4, x5, x6, x7, x8, x9)
noncomputable def S_ref11_Patterns_0 (fuel : Nat) (v : (List (Int × (Int × (List Int)))) × Int × Int × Int × Int × Bool × Int × Int × Int × (List Int)) (c : ((List (Int × (Int × (List Int)))) × Int × Int × Int × Int × Bool × Int × Int × Int × (List Int)) → Option Ans) (B : (Int × Int × Int × Bool × Int × Int × Int × (List Int) → Option Ans)) : Option Ans := match v with
 | (x0, x1, x2, x3, x4, x5, x6, x7, x8, x9) => Sg_ref11_Patterns_0 fuel (F_ref07_Valid fuel) (F_ref11_bitmaps fuel) (F_ref11_patterns fuel) (F_ref05_New fuel) (F_ref05_Lay_65b fuel) (F_ref07_Encode fuel) x0 x1 x2 x3 x4 x5 x6 x7 x8 x9 c B
noncomputable def L_ref11_Patterns_0 (fuel : Nat) (v : (List (Int × (Int × (List Int)))) × Int × Int × Int × Int × Bool × Int × Int × Int × (List Int)) (b : (Int × Int × Int × Bool × Int × Int × Int × (List Int) → Option Ans)) : Option Ans := iter (S_ref11_Patterns_0 fuel) fuel v b
noncomputable def J9_0 (fuel : Nat) (i : Nat) : Option Ev.Blk := Ev.look i []
noncomputable def T9_0 (v : (List (Int × (Int × (List Int)))) × Int × Int × Int × Int × Bool × Int × Int × Int × (List Int)) : Ev.St := match v with | (x0, x1, x2, x3, x4, x5, x6, x7, x8, x9) => ⟨[(1, .c (.sl (.pair (.int .i64) (.pair (.int .i64) (.sl (.int .u8)))) x0)), (2, .c (.ptr 0 0)), (7, .c (.ptr 1 0)), (9, .c (.int .i64 x1))], [(0, .cells 24 [.int .i64 x2, .int .i64 x3, .int .i64 x4, .bool x5, .int .i64 x6]), (1, .cells 35 [.int .i64 x7, .int .i64 x8, .own 2]), (2, .vec 5 (.int .u8) x9 true)], 3, 0⟩
noncomputable def E9_0 (K : Ev.Ex → Ev.St → Option Ans) : (Int × Int × Int × Bool × Int × Int × Int × (List Int) → Option Ans) := (fun v => match v with | (x0, x1, x2, x3, x4, x5, x6, x7) => K .normal ⟨[(2, .c (.ptr 0 0)), (7, .c (.ptr 1 0))], [(0, .cells 24 [.int .i64 x0, .int .i64 x1, .int .i64 x2, .bool x3, .int .i64 x4]), (1, .cells 35 [.int .i64 x5, .int .i64 x6, .own 2]), (2, .vec 5 (.int .u8) x7 true)], 3, 0⟩)
theorem S9_0_okg (fuel : Nat) (f28 : YF28) (f29 : YF29) (f30 : YF30) (f31 : YF31) (f32_65b : YF32_65b) (f33 : YF33) (R : Ev.St → Option Ans) (K : Ev.Ex → Ev.St → Option Ans) (x0 : (List (Int × (Int × (List Int))))) (x1 x2 : Int) (x3 x4 : Int) (x5 : Bool) (x6 x7 x8 : Int) (x9 : (List Int)) : evalCode tab (Gg9 f28 f29 f30 f31 f32_65b f33) (J9_0 fuel) kp9 fuel (bodyOf 0 Try.f9) (T9_0 (x0, x1, x2, x3, x4, x5, x6, x7, x8, x9)) (lc kp9 10 0 R K) = Sg_ref11_Patterns_0 fuel f28 f29 f30 f31 f32_65b f33 x0 x1 x2 x3 x4 x5 x6 x7 x8 x9 (fun v => R (T9_0 v)) (E9_0 K) := by
  kernel_rfl
noncomputable def B9_0 (fuel : Nat) : Ev.Blk := fun st K => match canonO (kp9 10) st with
 | some s => (match s with
 | ⟨[(q0, .c (.sl (.pair (.int .i64) (.pair (.int .i64) (.sl (.int .u8)))) x0)), (q1, .c (.ptr q2 q3)), (q4, .c (.ptr q5 q6)), (q7, .c (.int .i64 x1))], [(q8, .cells q9 [.int .i64 x2, .int .i64 x3, .int .i64 x4, .bool x5, .int .i64 x6]), (q10, .cells q11 [.int .i64 x7, .int .i64 x8, .own q12]), (q13, .vec q14 (.int .u8) x9 true)], q15, q16⟩ => bif Nat.beq q0 1 && Nat.beq q1 2 && Nat.beq q2 0 && Nat.beq q3 0 && Nat.beq q4 7 && Nat.beq q5 1 && Nat.beq q6 0 && Nat.beq q7 9 && Nat.beq q8 0 && Nat.beq q9 24 && Nat.beq q10 1 && Nat.beq q11 35 && Nat.beq q12 2 && Nat.beq q13 2 && Nat.beq q14 5 && Nat.beq q15 3 && Nat.beq q16 0 then iter (S_ref11_Patterns_0 fuel) fuel (x0, x1, x2, x3, x4, x5, x6, x7, x8, x9) (E9_0 K) else none
 | _ => none)
 | none => none
theorem B9_0_ok (fuel : Nat) (st : Ev.St) (K : Ev.Ex → Ev.St → Option Ans) (r : Ans) (h : B9_0 fuel st K = some r) : evalCode tab (G9 fuel) (J9_0 fuel) kp9 fuel (.block 0 (.loop (bodyOf 0 Try.f9))) st K = some r := by
  unfold B9_0 at h
  split at h
  · rename_i s hs
    split at h
    · skip
      obtain ⟨hb, h⟩ := cond_some' h
      simp only [Bool.and_eq_true, Nat.beq_eq, decide_eq_true_eq] at hb
      obtain ⟨⟨⟨⟨⟨⟨⟨⟨⟨⟨⟨⟨⟨⟨⟨⟨rfl, rfl⟩, rfl⟩, rfl⟩, rfl⟩, rfl⟩, rfl⟩, rfl⟩, rfl⟩, rfl⟩, rfl⟩, rfl⟩, rfl⟩, rfl⟩, rfl⟩, rfl⟩, rfl⟩ := hb
      exact blk_loop (S := T9_0) (ks := E9_0) (step := S_ref11_Patterns_0 fuel) (v := (_, _, _, _, _, _, _, _, _, _)) (by kernel_rfl) (by kernel_rfl) (fun R K v => by obtain ⟨x0, x1, x2, x3, x4, x5, x6, x7, x8, x9⟩ := v; exact S9_0_okg fuel (F_ref07_Valid fuel) (F_ref11_bitmaps fuel) (F_ref11_patterns fuel) (F_ref05_New fuel) (F_ref05_Lay_65b fuel) (F_ref07_Encode fuel) R K x0 x1 x2 x3 x4 x5 x6 x7 x8 x9) hs h
    · cases h
  · cases h
noncomputable def J9 (fuel : Nat) (i : Nat) : Option Ev.Blk := Ev.look i [(100000, B9_0 fuel)]
noncomputable def Fg_ref11_Patterns (fuel : Nat) (f28 : YF28) (f29 : YF29) (f30 : YF30) (f31 : YF31) (f32_65b : YF32_65b) (f33 : YF33) (x0 x1 x2 : Int) (x3 : Bool) (x4 : Int) (x5 : (List (Int × Int × (List Int)))) (k0 : (Int × (List Int)) → Option Ans) : Option Ans :=
  (f28 (x0) (x1) (x2) (x3) (x4)
  (fun y2 =>
  bif !y2 then
  k0 ((2 : Int), [])
  else
  bif x3 then
  k0 ((2 : Int), [])
  else
  (f29 (x5)
  (fun y8 =>
  bif y8 == (0 : Int) then
  (f30 (x5)
  (fun y13 =>
  bif y13 != (0 : Int) then
  k0 (y13, [])
  else
  bif decide ((0 : Int) ≤ (0 : Int) ∧ (0 : Int) < (↑x5.length : Int)) then
  bif decide ((0 : Int) ≤ (0 : Int) ∧ (0 : Int) < (↑x5.length : Int)) then
  both ((f31 (IntKind.i64.wrap ((↑x5.length : Int) * (x5.getD (Int.toNat (0 : Int)) ((0 : Int), (0 : Int), [])).fst)) ((x5.getD (Int.toNat (0 : Int)) ((0 : Int), (0 : Int), [])).snd.fst) ((0 : Int))
  (fun (y22_0, y22_1, y22_2, y22_3) =>
  (L_ref11_Patterns_0 fuel (x5, (0 : Int), x0, x1, x2, x3, x4, y22_0, y22_1, y22_3)
  (fun (b0_0, b0_1, b0_2, b0_3, b0_4, b0_5, b0_6, b0_7) =>
  (f33 (b0_0) (b0_1) (b0_2) (b0_3) (b0_4) (b0_5) (b0_6) (b0_7)
  (fun (y30_0, y30_1) =>
  k0 (y30_0, y30_1))))))))
  ((f31 (IntKind.i64.wrap ((↑x5.length : Int) * (x5.getD (Int.toNat (0 : Int)) ((0 : Int), (0 : Int), [])).fst)) ((x5.getD (Int.toNat (0 : Int)) ((0 : Int), (0 : Int), [])).snd.fst) ((0 : Int))
  (fun (y22_0, y22_1, y22_2, y22_3) =>
  (L_ref11_Patterns_0 fuel (x5, (0 : Int), x0, x1, x2, x3, x4, y22_0, y22_1, y22_3)
  (fun (b0_0, b0_1, b0_2, b0_3, b0_4, b0_5, b0_6, b0_7) =>
  (f33 (b0_0) (b0_1) (b0_2) (b0_3) (b0_4) (b0_5) (b0_6) (b0_7)
  (fun (y30_0, y30_1) =>
  k0 (y30_0, y30_1))))))))
  else none
  else none))
  else
  bif y8 != (0 : Int) then
  k0 (y8, [])
  else
  bif decide ((0 : Int) ≤ (0 : Int) ∧ (0 : Int) < (↑x5.length : Int)) then
  bif decide ((0 : Int) ≤ (0 : Int) ∧ (0 : Int) < (↑x5.length : Int)) then
  both ((f31 (IntKind.i64.wrap ((↑x5.length : Int) * (x5.getD (Int.toNat (0 : Int)) ((0 : Int), (0 : Int), [])).fst)) ((x5.getD (Int.toNat (0 : Int)) ((0 : Int), (0 : Int), [])).snd.fst) ((0 : Int))
  (fun (y18_0, y18_1, y18_2, y18_3) =>
  (L_ref11_Patterns_0 fuel (x5, (0 : Int), x0, x1, x2, x3, x4, y18_0, y18_1, y18_3)
  (fun (b0_0, b0_1, b0_2, b0_3, b0_4, b0_5, b0_6, b0_7) =>
  (f33 (b0_0) (b0_1) (b0_2) (b0_3) (b0_4) (b0_5) (b0_6) (b0_7)
  (fun (y26_0, y26_1) =>
  k0 (y26_0, y26_1))))))))
  ((f31 (IntKind.i64.wrap ((↑x5.length : Int) * (x5.getD (Int.toNat (0 : Int)) ((0 : Int), (0 : Int), [])).fst)) ((x5.getD (Int.toNat (0 : Int)) ((0 : Int), (0 : Int), [])).snd.fst) ((0 : Int))
  (fun (y18_0, y18_1, y18_2, y18_3) =>
  (L_ref11_Patterns_0 fuel (x5, (0 : Int), x0, x1, x2, x3, x4, y18_0, y18_1, y18_3)
  (fun (b0_0, b0_1, b0_2, b0_3, b0_4, b0_5, b0_6, b0_7) =>
  (f33 (b0_0) (b0_1) (b0_2) (b0_3) (b0_4) (b0_5) (b0_6) (b0_7)
  (fun (y26_0, y26_1) =>
  k0 (y26_0, y26_1))))))))
  else none
  else none))))
noncomputable def F_ref11_Patterns (fuel : Nat) (x0 x1 x2 : Int) (x3 : Bool) (x4 : Int) (x5 : (List (Int × Int × (List Int)))) (k0 : (Int × (List Int)) → Option Ans) : Option Ans := Fg_ref11_Patterns fuel (F_ref07_Valid fuel) (F_ref11_bitmaps fuel) (F_ref11_patterns fuel) (F_ref05_New fuel) (F_ref05_Lay_65b fuel) (F_ref07_Encode fuel) x0 x1 x2 x3 x4 x5 k0
abbrev YF9 : Type := (Int) → (Int) → (Int) → (Bool) → (Int) → ((List (Int × Int × (List Int)))) → ((Int × (List Int)) → Option Ans) → Option Ans
theorem F9_eqg (fuel : Nat) (f28 : YF28) (f29 : YF29) (f30 : YF30) (f31 : YF31) (f32_65b : YF32_65b) (f33 : YF33) (x0 x1 x2 : Int) (x3 : Bool) (x4 : Int) (x5 : (List (Int × Int × (List Int)))) (k : Ev.Cont) : evalFn tab (Gg9 f28 f29 f30 f31 f32_65b f33) (J9 fuel) kp9 fuel Try.f9 [.agg [.int .i64 x0, .int .i64 x1, .int .i64 x2, .bool x3, .int .i64 x4], .c (.sl (.pair (.int .i64) (.pair (.int .i64) (.sl (.int .u8)))) x5)] [] k = Fg_ref11_Patterns fuel f28 f29 f30 f31 f32_65b f33 x0 x1 x2 x3 x4 x5 (fun r => match r with | (r0, r1) => k (.tup [(false, [.own 0]), (false, [.int .i64 r0])], [.vec 5 (.int .u8) r1 true])) := by
  kernel_rfl
theorem hG9 (fuel : Nat) : GOK Try.prog (G9 fuel) :=
  gok_cons ⟨ok28 fuel, enters_of Try.func28 (by kernel_rfl) rfl⟩ <|
  gok_cons ⟨ok29 fuel, enters_of Try.func29 (by kernel_rfl) rfl⟩ <|
  gok_cons ⟨ok30 fuel, enters_of Try.func30 (by kernel_rfl) rfl⟩ <|
  gok_cons ⟨ok31 fuel, enters_of Try.func31 (by kernel_rfl) rfl⟩ <|
  gok_cons ⟨ok32_65b fuel, enters_of Try.func32 (by kernel_rfl) rfl⟩ <|
  gok_cons ⟨ok33 fuel, enters_of Try.func33 (by kernel_rfl) rfl⟩ <|
  gok_nil
theorem B9_0_blk (fuel : Nat) : BlkOK Try.prog Try.f9.ntmps (.block 0 (.loop (bodyOf 0 Try.f9))) (B9_0 fuel) :=
  blk_of (blk_of_code tab_ok (hG9 fuel) mixed (J := J9_0 fuel) (kp := kp9) (fuel := fuel) (by kernel_rfl) (fun q hq => by
    rw [(by kernel_rfl : obl (J9_0 fuel) (.block 0 (.loop (bodyOf 0 Try.f9))) = [])] at hq
    cases hq)) (B9_0_ok fuel)
theorem fok9 (fuel : Nat) : FnOK Try.prog 9 (evalFn tab (G9 fuel) (J9 fuel) kp9 fuel Try.f9) :=
  fn_ok tab_ok (hG9 fuel) mixed Try.func9 (c := (Try.f9.body).getD .skip) rfl (fun q hq => by
    rw [(by kernel_rfl : obl (J9 fuel) ((Try.f9.body).getD .skip) = [(.block 0 (.loop (bodyOf 0 Try.f9)), B9_0 fuel)])] at hq
    simp only [List.mem_cons, List.not_mem_nil, or_false] at hq
    subst hq
    · exact B9_0_blk fuel)
noncomputable def spg9 (F : YF9) : Ev.Spec := fun args objs k => match args, objs with
 | [.agg [.int .i64 x0, .int .i64 x1, .int .i64 x2, .bool x3, .int .i64 x4], .c (.sl (.pair (.int .i64) (.pair (.int .i64) (.sl (.int .u8)))) x5)], [] => bif true then F x0 x1 x2 x3 x4 x5 (fun r => match r with | (r0, r1) => k (.tup [(false, [.own 0]), (false, [.int .i64 r0])], [.vec 5 (.int .u8) r1 true])) else none
 | _, _ => none
noncomputable def spec9 (fuel : Nat) : Ev.Spec := spg9 (F_ref11_Patterns fuel)
theorem ok9 (fuel : Nat) : FnOK Try.prog 9 (spec9 fuel) := by
  intro args objs kk r h
  unfold spec9 spg9 at h
  split at h
  · skip
    obtain ⟨hb, h⟩ := cond_some' h
    simp only [Bool.and_eq_true, Nat.beq_eq, decide_eq_true_eq] at hb
    clear hb
    exact fok9 fuel _ _ kk r ((F9_eqg fuel (F_ref07_Valid fuel) (F_ref11_bitmaps fuel) (F_ref11_patterns fuel) (F_ref05_New fuel) (F_ref05_Lay_65b fuel) (F_ref07_Encode fuel) _ _ _ _ _ _ kk).trans h)
  · cases h
end Go.Proofs.Ytipdidpalcmlhaa

set_option linter.unusedVariables false
set_option linter.unusedSimpArgs false
set_option maxRecDepth 100000
set_option maxHeartbeats 2000000
namespace Go.Proofs.Ytipdidpalcmlhaa
open Go Ev
def kp118 (i : Nat) : Option (List Nat) := Ev.look i []
noncomputable def Gg118 (f : Nat) : Option Ev.Spec := Ev.look f []
noncomputable def G118 (fuel : Nat) : Nat → Option Ev.Spec := Gg118
noncomputable def J118 (fuel : Nat) (i : Nat) : Option Ev.Blk := Ev.look i []
noncomputable def F_bitmap_fits (fuel : Nat) (x0 x1 : Int) (k0 : (Bool) → Option Ans) : Option Ans :=
  bif decide (x0 ≥ (0 : Int)) then
  bif decide (x1 ≥ (0 : Int)) then
  bif decide (x0 ≤ (200 : Int)) then
  bif decide (x1 ≤ (200 : Int)) then
  k0 (decide (IntKind.i64.wrap (x0 * x1) ≤ (8192 : Int)))
  else
  k0 false
  else
  k0 false
  else
  k0 false
  else
  k0 false
abbrev YF118 : Type := (Int) → (Int) → ((Bool) → Option Ans) → Option Ans
theorem F118_eq (fuel : Nat) (x0 x1 : Int) (k : Ev.Cont) : evalFn tab (G118 fuel) (J118 fuel) kp118 fuel Try.f118 [.c (.int .i64 x0), .c (.int .i64 x1)] [] k = F_bitmap_fits fuel x0 x1 (fun r => match r with | r0 => k (.c (.bool r0), [])) := by
  kernel_rfl
theorem hG118 (fuel : Nat) : GOK Try.prog (G118 fuel) :=
  gok_nil
theorem fok118 (fuel : Nat) : FnOK Try.prog 118 (evalFn tab (G118 fuel) (J118 fuel) kp118 fuel Try.f118) :=
  fn_ok tab_ok (hG118 fuel) mixed Try.func118 (c := (Try.f118.body).getD .skip) rfl (fun q hq => by
    rw [(by kernel_rfl : obl (J118 fuel) ((Try.f118.body).getD .skip) = [])] at hq
    cases hq)
noncomputable def spg118 (F : YF118) : Ev.Spec := fun args objs k => match args, objs with
 | [.c (.int .i64 x0), .c (.int .i64 x1)], [] => bif true then F x0 x1 (fun r => match r with | r0 => k (.c (.bool r0), [])) else none
 | _, _ => none
noncomputable def spec118 (fuel : Nat) : Ev.Spec := spg118 (F_bitmap_fits fuel)
theorem ok118 (fuel : Nat) : FnOK Try.prog 118 (spec118 fuel) := by
  intro args objs kk r h
  unfold spec118 spg118 at h
  split at h
  · skip
    obtain ⟨hb, h⟩ := cond_some' h
    simp only [Bool.and_eq_true, Nat.beq_eq, decide_eq_true_eq] at hb
    clear hb
    exact fok118 fuel _ _ kk r ((F118_eq fuel _ _ kk).trans h)
  · cases h
end Go.Proofs.Ytipdidpalcmlhaa

set_option linter.unusedVariables false
set_option linter.unusedSimpArgs false
set_option maxRecDepth 100000
set_option maxHeartbeats 2000000
namespace Go.Proofs.Ytipdidpalcmlhaa
open Go Ev
def kp65 (i : Nat) : Option (List Nat) := Ev.look i [(4, [23, 24, 25]), (100000, []), (400000, [2])]
noncomputable def Gg65 (f118 : YF118) (f : Nat) : Option Ev.Spec := Ev.look f [(118, spg118 f118)]
noncomputable def G65 (fuel : Nat) : Nat → Option Ev.Spec := Gg65 (F_bitmap_fits fuel)
noncomputable def Sg_bitmap_Valid_0 (fuel : Nat) (f118 : YF118) (x0 : (List Int)) (x1 x2 : Int) (c : ((List Int) × Int × Int) → Option Ans) (B : (Bool → Option Ans) × (Unit → Option Ans)) : Option Ans := match B with
 | (ret, b) =>
  bif decide (x2 < x1) then
  bif decide ((0 : Int) ≤ x2 ∧ x2 < (↑x0.length : Int)) then
  bif decide (x0.getD x2.toNat (0 : Int) > (1 : Int)) then
  ret false
  else
  c (x0, x1, IntKind.i64.wrap (x2 + (1 : Int)))
  else none
  else
  b ()
noncomputable def S_bitmap_Valid_0 (fuel : Nat) (v : (List Int) × Int × Int) (c : ((List Int) × Int × Int) → Option Ans) (B : (Bool → Option Ans) × (Unit → Option Ans)) : Option Ans := match v with
 | (x0, x1, x2) => Sg_bitmap_Valid_0 fuel (F_bitmap_fits fuel) x0 x1 x2 c B
noncomputable def L_bitmap_Valid_0 (fuel : Nat) (v : (List Int) × Int × Int) (ret : (Bool → Option Ans)) (b : (Unit → Option Ans)) : Option Ans := iter (S_bitmap_Valid_0 fuel) fuel v (ret, b)
noncomputable def J65_0 (fuel : Nat) (i : Nat) : Option Ev.Blk := Ev.look i []
noncomputable def T65_0 (v : (List Int) × Int × Int) : Ev.St := match v with | (x0, x1, x2) => ⟨[(23, .c (.sl (.int .u8) x0)), (24, .c (.int .i64 x1)), (25, .c (.int .i64 x2))], [], 0, 0⟩
noncomputable def E65_0 (K : Ev.Ex → Ev.St → Option Ans) : (Bool → Option Ans) × (Unit → Option Ans) := ((fun v => match v with | x0 => K .ret ⟨[(2, .c (.bool x0))], [], 0, 0⟩), (fun v => match v with | () => K .normal ⟨[], [], 0, 0⟩))
theorem S65_0_okg (fuel : Nat) (f118 : YF118) (R : Ev.St → Option Ans) (K : Ev.Ex → Ev.St → Option Ans) (x0 : (List Int)) (x1 x2 : Int) : evalCode tab (Gg65 f118) (J65_0 fuel) kp65 fuel (bodyOf 0 Try.f65) (T65_0 (x0, x1, x2)) (lc kp65 4 0 R K) = Sg_bitmap_Valid_0 fuel f118 x0 x1 x2 (fun v => R (T65_0 v)) (E65_0 K) := by
  kernel_rfl
noncomputable def B65_0 (fuel : Nat) : Ev.Blk := fun st K => match canonO (kp65 4) st with
 | some s => (match s with
 | ⟨[(q0, .c (.sl (.int .u8) x0)), (q1, .c (.int .i64 x1)), (q2, .c (.int .i64 x2))], [], q3, q4⟩ => bif Nat.beq q0 23 && Nat.beq q1 24 && Nat.beq q2 25 && Nat.beq q3 0 && Nat.beq q4 0 then iter (S_bitmap_Valid_0 fuel) fuel (x0, x1, x2) (E65_0 K) else none
 | _ => none)
 | none => none
theorem B65_0_ok (fuel : Nat) (st : Ev.St) (K : Ev.Ex → Ev.St → Option Ans) (r : Ans) (h : B65_0 fuel st K = some r) : evalCode tab (G65 fuel) (J65_0 fuel) kp65 fuel (.block 0 (.loop (bodyOf 0 Try.f65))) st K = some r := by
  unfold B65_0 at h
  split at h
  · rename_i s hs
    split at h
    · skip
      obtain ⟨hb, h⟩ := cond_some' h
      simp only [Bool.and_eq_true, Nat.beq_eq, decide_eq_true_eq] at hb
      obtain ⟨⟨⟨⟨rfl, rfl⟩, rfl⟩, rfl⟩, rfl⟩ := hb
      exact blk_loop (S := T65_0) (ks := E65_0) (step := S_bitmap_Valid_0 fuel) (v := (_, _, _)) (by kernel_rfl) (by kernel_rfl) (fun R K v => by obtain ⟨x0, x1, x2⟩ := v; exact S65_0_okg fuel (F_bitmap_fits fuel) R K x0 x1 x2) hs h
    · cases h
  · cases h
noncomputable def J65 (fuel : Nat) (i : Nat) : Option Ev.Blk := Ev.look i [(100000, B65_0 fuel)]
noncomputable def Fg_bitmap_Valid (fuel : Nat) (f118 : YF118) (x0 x1 : Int) (x2 : (List Int)) (k0 : (Bool) → Option Ans) : Option Ans :=
  (f118 (x0) (x1)
  (fun y2 =>
  bif !y2 then
  k0 false
  else
  bif (↑x2.length : Int) != IntKind.i64.wrap (x0 * x1) then
  k0 false
  else
  (L_bitmap_Valid_0 fuel (x2, (↑x2.length : Int), (0 : Int))
  (fun ret0_0 =>
  k0 ret0_0)
  (fun () =>
  k0 true))))
noncomputable def F_bitmap_Valid (fuel : Nat) (x0 x1 : Int) (x2 : (List Int)) (k0 : (Bool) → Option Ans) : Option Ans := Fg_bitmap_Valid fuel (F_bitmap_fits fuel) x0 x1 x2 k0
abbrev YF65 : Type := (Int) → (Int) → ((List Int)) → ((Bool) → Option Ans) → Option Ans
theorem F65_eqg (fuel : Nat) (f118 : YF118) (x0 x1 : Int) (x2 : (List Int)) (k : Ev.Cont) : evalFn tab (Gg65 f118) (J65 fuel) kp65 fuel Try.f65 [.agg [.int .i64 x0, .int .i64 x1, .sl (.int .u8) x2]] [] k = Fg_bitmap_Valid fuel f118 x0 x1 x2 (fun r => match r with | r0 => k (.c (.bool r0), [])) := by
  kernel_rfl
theorem hG65 (fuel : Nat) : GOK Try.prog (G65 fuel) :=
  gok_cons ⟨ok118 fuel, enters_of Try.func118 (by kernel_rfl) rfl⟩ <|
  gok_nil
theorem B65_0_blk (fuel : Nat) : BlkOK Try.prog Try.f65.ntmps (.block 0 (.loop (bodyOf 0 Try.f65))) (B65_0 fuel) :=
  blk_of (blk_of_code tab_ok (hG65 fuel) mixed (J := J65_0 fuel) (kp := kp65) (fuel := fuel) (by kernel_rfl) (fun q hq => by
    rw [(by kernel_rfl : obl (J65_0 fuel) (.block 0 (.loop (bodyOf 0 Try.f65))) = [])] at hq
    cases hq)) (B65_0_ok fuel)
theorem fok65 (fuel : Nat) : FnOK Try.prog 65 (evalFn tab (G65 fuel) (J65 fuel) kp65 fuel Try.f65) :=
  fn_ok tab_ok (hG65 fuel) mixed Try.func65 (c := (Try.f65.body).getD .skip) rfl (fun q hq => by
    rw [(by kernel_rfl : obl (J65 fuel) ((Try.f65.body).getD .skip) = [(.block 0 (.loop (bodyOf 0 Try.f65)), B65_0 fuel)])] at hq
    simp only [List.mem_cons, List.not_mem_nil, or_false] at hq
    subst hq
    · exact B65_0_blk fuel)
noncomputable def spg65 (F : YF65) : Ev.Spec := fun args objs k => match args, objs with
 | [.agg [.int .i64 x0, .int .i64 x1, .sl (.int .u8) x2]], [] => bif true then F x0 x1 x2 (fun r => match r with | r0 => k (.c (.bool r0), [])) else none
 | _, _ => none
noncomputable def spec65 (fuel : Nat) : Ev.Spec := spg65 (F_bitmap_Valid fuel)
theorem ok65 (fuel : Nat) : FnOK Try.prog 65 (spec65 fuel) := by
  intro args objs kk r h
  unfold spec65 spg65 at h
  split at h
  · skip
    obtain ⟨hb, h⟩ := cond_some' h
    simp only [Bool.and_eq_true, Nat.beq_eq, decide_eq_true_eq] at hb
    clear hb
    exact fok65 fuel _ _ kk r ((F65_eqg fuel (F_bitmap_fits fuel) _ _ _ kk).trans h)
  · cases h
end Go.Proofs.Ytipdidpalcmlhaa

set_option linter.unusedVariables false
set_option linter.unusedSimpArgs false
set_option maxRecDepth 100000
set_option maxHeartbeats 2000000
namespace Go.Proofs.Ytipdidpalcmlhaa
open Go Ev
def kp70 (i : Nat) : Option (List Nat) := Ev.look i []
noncomputable def Gg70 (f : Nat) : Option Ev.Spec := Ev.look f []
noncomputable def G70 (fuel : Nat) : Nat → Option Ev.Spec := Gg70
noncomputable def J70 (fuel : Nat) (i : Nat) : Option Ev.Blk := Ev.look i []
noncomputable def F_bitmap_at (fuel : Nat) (x0 x1 : Int) (x2 : (List Int)) (x3 x4 : Int) (k0 : (Int) → Option Ans) : Option Ans :=
  bif decide (x3 < (0 : Int)) then
  k0 ((0 : Int))
  else
  bif decide (x4 < (0 : Int)) then
  k0 ((0 : Int))
  else
  bif decide (x3 ≥ x0) then
  k0 ((0 : Int))
  else
  bif decide (x4 ≥ x1) then
  k0 ((0 : Int))
  else
  bif decide ((0 : Int) ≤ IntKind.i64.wrap (IntKind.i64.wrap (x4 * x0) + x3) ∧ IntKind.i64.wrap (IntKind.i64.wrap (x4 * x0) + x3) < (↑x2.length : Int)) then
  k0 (x2.getD (IntKind.i64.wrap (IntKind.i64.wrap (x4 * x0) + x3)).toNat (0 : Int))
  else none
abbrev YF70 : Type := (Int) → (Int) → ((List Int)) → (Int) → (Int) → ((Int) → Option Ans) → Option Ans
theorem F70_eq (fuel : Nat) (x0 x1 : Int) (x2 : (List Int)) (x3 x4 : Int) (k : Ev.Cont) : evalFn tab (G70 fuel) (J70 fuel) kp70 fuel Try.f70 [.agg [.int .i64 x0, .int .i64 x1, .sl (.int .u8) x2], .c (.int .i64 x3), .c (.int .i64 x4)] [] k = F_bitmap_at fuel x0 x1 x2 x3 x4 (fun r => match r with | r0 => k (.c (.int .u8 r0), [])) := by
  kernel_rfl
theorem hG70 (fuel : Nat) : GOK Try.prog (G70 fuel) :=
  gok_nil
theorem fok70 (fuel : Nat) : FnOK Try.prog 70 (evalFn tab (G70 fuel) (J70 fuel) kp70 fuel Try.f70) :=
  fn_ok tab_ok (hG70 fuel) mixed Try.func70 (c := (Try.f70.body).getD .skip) rfl (fun q hq => by
    rw [(by kernel_rfl : obl (J70 fuel) ((Try.f70.body).getD .skip) = [])] at hq
    cases hq)
noncomputable def spg70 (F : YF70) : Ev.Spec := fun args objs k => match args, objs with
 | [.agg [.int .i64 x0, .int .i64 x1, .sl (.int .u8) x2], .c (.int .i64 x3), .c (.int .i64 x4)], [] => bif true then F x0 x1 x2 x3 x4 (fun r => match r with | r0 => k (.c (.int .u8 r0), [])) else none
 | _, _ => none
noncomputable def spec70 (fuel : Nat) : Ev.Spec := spg70 (F_bitmap_at fuel)
theorem ok70 (fuel : Nat) : FnOK Try.prog 70 (spec70 fuel) := by
  intro args objs kk r h
  unfold spec70 spg70 at h
  split at h
  · skip
    obtain ⟨hb, h⟩ := cond_some' h
    simp only [Bool.and_eq_true, Nat.beq_eq, decide_eq_true_eq] at hb
    clear hb
    exact fok70 fuel _ _ kk r ((F70_eq fuel _ _ _ _ _ kk).trans h)
  · cases h
end Go.Proofs.Ytipdidpalcmlhaa

set_option linter.unusedVariables false
set_option linter.unusedSimpArgs false
set_option maxRecDepth 100000
set_option maxHeartbeats 2000000
namespace Go.Proofs.Ytipdidpalcmlhaa
open Go Ev
def kp66 (i : Nat) : Option (List Nat) := Ev.look i []
noncomputable def Gg66 (f118 : YF118) (f : Nat) : Option Ev.Spec := Ev.look f [(118, spg118 f118)]
noncomputable def G66 (fuel : Nat) : Nat → Option Ev.Spec := Gg66 (F_bitmap_fits fuel)
noncomputable def J66 (fuel : Nat) (i : Nat) : Option Ev.Blk := Ev.look i []
noncomputable def Fg_bitmap_blank (fuel : Nat) (f118 : YF118) (x0 x1 : Int) (k0 : (Int × Int × Int × (List Int)) → Option Ans) : Option Ans :=
  (f118 (x0) (x1)
  (fun y2 =>
  bif !y2 then
  k0 ((0 : Int), (0 : Int), (4 : Int), [])
  else
  bif decide ((0 : Int) ≤ IntKind.i64.wrap (x0 * x1) ∧ IntKind.i64.wrap (x0 * x1) = IntKind.i64.wrap (x0 * x1) ∧ (↑(1 : Nat) : Int) * IntKind.i64.wrap (x0 * x1) ≤ (281474976710656 : Int) ∧ IntKind.i64.wrap (x0 * x1) ≤ (281474976710656 : Int)) then
  k0 (x0, x1, (0 : Int), List.replicate (IntKind.i64.wrap (x0 * x1)).toNat (0 : Int))
  else none))
noncomputable def F_bitmap_blank (fuel : Nat) (x0 x1 : Int) (k0 : (Int × Int × Int × (List Int)) → Option Ans) : Option Ans := Fg_bitmap_blank fuel (F_bitmap_fits fuel) x0 x1 k0
abbrev YF66 : Type := (Int) → (Int) → ((Int × Int × Int × (List Int)) → Option Ans) → Option Ans
theorem F66_eqg (fuel : Nat) (f118 : YF118) (x0 x1 : Int) (k : Ev.Cont) : evalFn tab (Gg66 f118) (J66 fuel) kp66 fuel Try.f66 [.c (.int .i64 x0), .c (.int .i64 x1)] [] k = Fg_bitmap_blank fuel f118 x0 x1 (fun r => match r with | (r0, r1, r2, r3) => k (.tup [(true, [.int .i64 r0, .int .i64 r1, .own 0]), (false, [.int .i64 r2])], [.vec 5 (.int .u8) r3 true])) := by
  kernel_rfl
theorem hG66 (fuel : Nat) : GOK Try.prog (G66 fuel) :=
  gok_cons ⟨ok118 fuel, enters_of Try.func118 (by kernel_rfl) rfl⟩ <|
  gok_nil
theorem fok66 (fuel : Nat) : FnOK Try.prog 66 (evalFn tab (G66 fuel) (J66 fuel) kp66 fuel Try.f66) :=
  fn_ok tab_ok (hG66 fuel) mixed Try.func66 (c := (Try.f66.body).getD .skip) rfl (fun q hq => by
    rw [(by kernel_rfl : obl (J66 fuel) ((Try.f66.body).getD .skip) = [])] at hq
    cases hq)
noncomputable def spg66 (F : YF66) : Ev.Spec := fun args objs k => match args, objs with
 | [.c (.int .i64 x0), .c (.int .i64 x1)], [] => bif true then F x0 x1 (fun r => match r with | (r0, r1, r2, r3) => k (.tup [(true, [.int .i64 r0, .int .i64 r1, .own 0]), (false, [.int .i64 r2])], [.vec 5 (.int .u8) r3 true])) else none
 | _, _ => none
noncomputable def spec66 (fuel : Nat) : Ev.Spec := spg66 (F_bitmap_blank fuel)
theorem ok66 (fuel : Nat) : FnOK Try.prog 66 (spec66 fuel) := by
  intro args objs kk r h
  unfold spec66 spg66 at h
  split at h
  · skip
    obtain ⟨hb, h⟩ := cond_some' h
    simp only [Bool.and_eq_true, Nat.beq_eq, decide_eq_true_eq] at hb
    clear hb
    exact fok66 fuel _ _ kk r ((F66_eqg fuel (F_bitmap_fits fuel) _ _ kk).trans h)
  · cases h
end Go.Proofs.Ytipdidpalcmlhaa

set_option linter.unusedVariables false
set_option linter.unusedSimpArgs false
set_option maxRecDepth 100000
set_option maxHeartbeats 2000000
namespace Go.Proofs.Ytipdidpalcmlhaa
open Go Ev
def kp67 (i : Nat) : Option (List Nat) := Ev.look i []
noncomputable def Gg67 (f : Nat) : Option Ev.Spec := Ev.look f []
noncomputable def G67 (fuel : Nat) : Nat → Option Ev.Spec := Gg67
noncomputable def J67 (fuel : Nat) (i : Nat) : Option Ev.Blk := Ev.look i []
noncomputable def F_bitmap_isShift (fuel : Nat) (x0 x1 : Int) (k0 : (Bool) → Option Ans) : Option Ans :=
  bif decide ((bif decide (x1 < x0) then x1 else x0) ≥ (-100000 : Int)) then
  k0 (decide ((bif decide (x1 > x0) then x1 else x0) ≤ (100000 : Int)))
  else
  k0 false
abbrev YF67 : Type := (Int) → (Int) → ((Bool) → Option Ans) → Option Ans
theorem F67_eq (fuel : Nat) (x0 x1 : Int) (k : Ev.Cont) : evalFn tab (G67 fuel) (J67 fuel) kp67 fuel Try.f67 [.c (.int .i64 x0), .c (.int .i64 x1)] [] k = F_bitmap_isShift fuel x0 x1 (fun r => match r with | r0 => k (.c (.bool r0), [])) := by
  kernel_rfl
theorem hG67 (fuel : Nat) : GOK Try.prog (G67 fuel) :=
  gok_nil
theorem fok67 (fuel : Nat) : FnOK Try.prog 67 (evalFn tab (G67 fuel) (J67 fuel) kp67 fuel Try.f67) :=
  fn_ok tab_ok (hG67 fuel) mixed Try.func67 (c := (Try.f67.body).getD .skip) rfl (fun q hq => by
    rw [(by kernel_rfl : obl (J67 fuel) ((Try.f67.body).getD .skip) = [])] at hq
    cases hq)
noncomputable def spg67 (F : YF67) : Ev.Spec := fun args objs k => match args, objs with
 | [.c (.int .i64 x0), .c (.int .i64 x1)], [] => bif true then F x0 x1 (fun r => match r with | r0 => k (.c (.bool r0), [])) else none
 | _, _ => none
noncomputable def spec67 (fuel : Nat) : Ev.Spec := spg67 (F_bitmap_isShift fuel)
theorem ok67 (fuel : Nat) : FnOK Try.prog 67 (spec67 fuel) := by
  intro args objs kk r h
  unfold spec67 spg67 at h
  split at h
  · skip
    obtain ⟨hb, h⟩ := cond_some' h
    simp only [Bool.and_eq_true, Nat.beq_eq, decide_eq_true_eq] at hb
    clear hb
    exact fok67 fuel _ _ kk r ((F67_eq fuel _ _ kk).trans h)
  · cases h
end Go.Proofs.Ytipdidpalcmlhaa

set_option linter.unusedVariables false
set_option linter.unusedSimpArgs false
set_option maxRecDepth 100000
set_option maxHeartbeats 2000000
namespace Go.Proofs.Ytipdidpalcmlhaa
open Go Ev
def kp36 (i : Nat) : Option (List Nat) := Ev.look i [(7, [1, 2, 3, 5, 10, 12, 13, 42, 43]), (100001, [10, 12, 13]), (200009, [5, 12]), (400001, [10, 11])]
noncomputable def Gg36 (f65 : YF65) (f66 : YF66) (f67 : YF67) (f70 : YF70) (f : Nat) : Option Ev.Spec := Ev.look f [(65, spg65 f65), (66, spg66 f66), (67, spg67 f67), (70, spg70 f70)]
noncomputable def G36 (fuel : Nat) : Nat → Option Ev.Spec := Gg36 (F_bitmap_Valid fuel) (F_bitmap_blank fuel) (F_bitmap_isShift fuel) (F_bitmap_at fuel)
noncomputable def Sg_bitmap_Cut_1 (fuel : Nat) (f65 : YF65) (f66 : YF66) (f67 : YF67) (f70 : YF70) (x0 x1 : Int) (x2 x3 : Int) (x4 x5 : Int) (x6 x7 : Int) (x8 : (List Int)) (x9 x10 : Int) (x11 x12 : Int) (x13 x14 : (List Int)) (c : (Int × Int × Int × Int × Int × Int × Int × Int × (List Int) × Int × Int × Int × Int × (List Int) × (List Int)) → Option Ans) (B : (Int × Int × Int × Int × Int × (List Int) × (List Int) → Option Ans)) : Option Ans := match B with
 | b =>
  bif decide (x5 < x4) then
  bif decide (x2 = (0 : Int)) then
  none
  else
  bif decide (x2 = (0 : Int)) then
  none
  else
  (f70 (x6) (x7) (x8) (IntKind.i64.wrap (x0 + x5.tmod x2)) (IntKind.i64.wrap (x1 + IntKind.i64.wrap (x5.tdiv x2)))
  (fun y5 =>
  bif decide ((0 : Int) ≤ x5 ∧ x5 < (↑x14.length : Int)) then
  c (x0, x1, x2, x3, x4, IntKind.i64.wrap (x5 + (1 : Int)), x6, x7, x8, x9, x10, x11, x12, x13, x14.set x5.toNat y5)
  else none))
  else
  b (x3, x9, x10, x11, x12, x13, x14)
noncomputable def S_bitmap_Cut_1 (fuel : Nat) (v : Int × Int × Int × Int × Int × Int × Int × Int × (List Int) × Int × Int × Int × Int × (List Int) × (List Int)) (c : (Int × Int × Int × Int × Int × Int × Int × Int × (List Int) × Int × Int × Int × Int × (List Int) × (List Int)) → Option Ans) (B : (Int × Int × Int × Int × Int × (List Int) × (List Int) → Option Ans)) : Option Ans := match v with
 | (x0, x1, x2, x3, x4, x5, x6, x7, x8, x9, x10, x11, x12, x13, x14) => Sg_bitmap_Cut_1 fuel (F_bitmap_Valid fuel) (F_bitmap_blank fuel) (F_bitmap_isShift fuel) (F_bitmap_at fuel) x0 x1 x2 x3 x4 x5 x6 x7 x8 x9 x10 x11 x12 x13 x14 c B
noncomputable def L_bitmap_Cut_1 (fuel : Nat) (v : Int × Int × Int × Int × Int × Int × Int × Int × (List Int) × Int × Int × Int × Int × (List Int) × (List Int)) (b : (Int × Int × Int × Int × Int × (List Int) × (List Int) → Option Ans)) : Option Ans := iter (S_bitmap_Cut_1 fuel) fuel v b
noncomputable def J36_1 (fuel : Nat) (i : Nat) : Option Ev.Blk := Ev.look i []
noncomputable def T36_1 (v : Int × Int × Int × Int × Int × Int × Int × Int × (List Int) × Int × Int × Int × Int × (List Int) × (List Int)) : Ev.St := match v with | (x0, x1, x2, x3, x4, x5, x6, x7, x8, x9, x10, x11, x12, x13, x14) => ⟨[(1, .c (.int .i64 x0)), (2, .c (.int .i64 x1)), (3, .c (.int .i64 x2)), (5, .c (.ptr 0 0)), (10, .c (.ptr 1 0)), (12, .c (.ptr 2 0)), (13, .c (.int .i64 x3)), (42, .c (.int .i64 x4)), (43, .c (.int .i64 x5))], [(0, .cells 35 [.int .i64 x6, .int .i64 x7, .sl (.int .u8) x8]), (1, .cells 35 [.int .i64 x9, .int .i64 x10, .own 3]), (2, .cells 35 [.int .i64 x11, .int .i64 x12, .own 4]), (3, .vec 5 (.int .u8) x13 true), (4, .vec 5 (.int .u8) x14 true)], 5, 0⟩
noncomputable def E36_1 (K : Ev.Ex → Ev.St → Option Ans) : (Int × Int × Int × Int × Int × (List Int) × (List Int) → Option Ans) := (fun v => match v with | (x0, x1, x2, x3, x4, x5, x6) => K .normal ⟨[(10, .c (.ptr 0 0)), (12, .c (.ptr 1 0)), (13, .c (.int .i64 x0))], [(0, .cells 35 [.int .i64 x1, .int .i64 x2, .own 2]), (1, .cells 35 [.int .i64 x3, .int .i64 x4, .own 3]), (2, .vec 5 (.int .u8) x5 true), (3, .vec 5 (.int .u8) x6 true)], 4, 0⟩)
theorem S36_1_okg (fuel : Nat) (f65 : YF65) (f66 : YF66) (f67 : YF67) (f70 : YF70) (R : Ev.St → Option Ans) (K : Ev.Ex → Ev.St → Option Ans) (x0 x1 : Int) (x2 x3 : Int) (x4 x5 : Int) (x6 x7 : Int) (x8 : (List Int)) (x9 x10 : Int) (x11 x12 : Int) (x13 x14 : (List Int)) : evalCode tab (Gg36 f65 f66 f67 f70) (J36_1 fuel) kp36 fuel (bodyOf 1 Try.f36) (T36_1 (x0, x1, x2, x3, x4, x5, x6, x7, x8, x9, x10, x11, x12, x13, x14)) (lc kp36 7 1 R K) = Sg_bitmap_Cut_1 fuel f65 f66 f67 f70 x0 x1 x2 x3 x4 x5 x6 x7 x8 x9 x10 x11 x12 x13 x14 (fun v => R (T36_1 v)) (E36_1 K) := by
  kernel_rfl
noncomputable def B36_1 (fuel : Nat) : Ev.Blk := fun st K => match canonO (kp36 7) st with
 | some s => (match s with
 | ⟨[(q0, .c (.int .i64 x0)), (q1, .c (.int .i64 x1)), (q2, .c (.int .i64 x2)), (q3, .c (.ptr q4 q5)), (q6, .c (.ptr q7 q8)), (q9, .c (.ptr q10 q11)), (q12, .c (.int .i64 x3)), (q13, .c (.int .i64 x4)), (q14, .c (.int .i64 x5))], [(q15, .cells q16 [.int .i64 x6, .int .i64 x7, .sl (.int .u8) x8]), (q17, .cells q18 [.int .i64 x9, .int .i64 x10, .own q19]), (q20, .cells q21 [.int .i64 x11, .int .i64 x12, .own q22]), (q23, .vec q24 (.int .u8) x13 true), (q25, .vec q26 (.int .u8) x14 true)], q27, q28⟩ => bif Nat.beq q0 1 && Nat.beq q1 2 && Nat.beq q2 3 && Nat.beq q3 5 && Nat.beq q4 0 && Nat.beq q5 0 && Nat.beq q6 10 && Nat.beq q7 1 && Nat.beq q8 0 && Nat.beq q9 12 && Nat.beq q10 2 && Nat.beq q11 0 && Nat.beq q12 13 && Nat.beq q13 42 && Nat.beq q14 43 && Nat.beq q15 0 && Nat.beq q16 35 && Nat.beq q17 1 && Nat.beq q18 35 && Nat.beq q19 3 && Nat.beq q20 2 && Nat.beq q21 35 && Nat.beq q22 4 && Nat.beq q23 3 && Nat.beq q24 5 && Nat.beq q25 4 && Nat.beq q26 5 && Nat.beq q27 5 && Nat.beq q28 0 then iter (S_bitmap_Cut_1 fuel) fuel (x0, x1, x2, x3, x4, x5, x6, x7, x8, x9, x10, x11, x12, x13, x14) (E36_1 K) else none
 | _ => none)
 | none => none
theorem B36_1_ok (fuel : Nat) (st : Ev.St) (K : Ev.Ex → Ev.St → Option Ans) (r : Ans) (h : B36_1 fuel st K = some r) : evalCode tab (G36 fuel) (J36_1 fuel) kp36 fuel (.block 1 (.loop (bodyOf 1 Try.f36))) st K = some r := by
  unfold B36_1 at h
  split at h
  · rename_i s hs
    split at h
    · skip
      obtain ⟨hb, h⟩ := cond_some' h
      simp only [Bool.and_eq_true, Nat.beq_eq, decide_eq_true_eq] at hb
      obtain ⟨⟨⟨⟨⟨⟨⟨⟨⟨⟨⟨⟨⟨⟨⟨⟨⟨⟨⟨⟨⟨⟨⟨⟨⟨⟨⟨⟨rfl, rfl⟩, rfl⟩, rfl⟩, rfl⟩, rfl⟩, rfl⟩, rfl⟩, rfl⟩, rfl⟩, rfl⟩, rfl⟩, rfl⟩, rfl⟩, rfl⟩, rfl⟩, rfl⟩, rfl⟩, rfl⟩, rfl⟩, rfl⟩, rfl⟩, rfl⟩, rfl⟩, rfl⟩, rfl⟩, rfl⟩, rfl⟩, rfl⟩ := hb
      exact blk_loop (S := T36_1) (ks := E36_1) (step := S_bitmap_Cut_1 fuel) (v := (_, _, _, _, _, _, _, _, _, _, _, _, _, _, _)) (by kernel_rfl) (by kernel_rfl) (fun R K v => by obtain ⟨x0, x1, x2, x3, x4, x5, x6, x7, x8, x9, x10, x11, x12, x13, x14⟩ := v; exact S36_1_okg fuel (F_bitmap_Valid fuel) (F_bitmap_blank fuel) (F_bitmap_isShift fuel) (F_bitmap_at fuel) R K x0 x1 x2 x3 x4 x5 x6 x7 x8 x9 x10 x11 x12 x13 x14) hs h
    · cases h
  · cases h
noncomputable def J36 (fuel : Nat) (i : Nat) : Option Ev.Blk := Ev.look i [(100001, B36_1 fuel)]
noncomputable def Fg_bitmap_Cut (fuel : Nat) (f65 : YF65) (f66 : YF66) (f67 : YF67) (f70 : YF70) (x0 x1 : Int) (x2 : (List Int)) (x3 x4 : Int) (x5 x6 : Int) (k0 : (Int × Int × Int × (List Int)) → Option Ans) : Option Ans :=
  (f65 (x0) (x1) (x2)
  (fun y2 =>
  bif !y2 then
  k0 ((0 : Int), (0 : Int), (30 : Int), [])
  else
  bif decide (x5 < (0 : Int)) then
  k0 ((0 : Int), (0 : Int), (2 : Int), [])
  else
  bif decide (x6 < (0 : Int)) then
  k0 ((0 : Int), (0 : Int), (2 : Int), [])
  else
  (f67 (x3) (x4)
  (fun y9 =>
  bif !y9 then
  k0 ((0 : Int), (0 : Int), (2 : Int), [])
  else
  (f66 (x5) (x6)
  (fun (y14_0, y14_1, y14_2, y14_3) =>
  (L_bitmap_Cut_1 fuel (x3, x4, x5, y14_2, (↑y14_3.length : Int), (0 : Int), x0, x1, x2, (0 : Int), (0 : Int), y14_0, y14_1, [], y14_3)
  (fun (b1_0, b1_1, b1_2, b1_3, b1_4, b1_5, b1_6) =>
  k0 (b1_3, b1_4, b1_0, b1_6)))))))))
noncomputable def F_bitmap_Cut (fuel : Nat) (x0 x1 : Int) (x2 : (List Int)) (x3 x4 : Int) (x5 x6 : Int) (k0 : (Int × Int × Int × (List Int)) → Option Ans) : Option Ans := Fg_bitmap_Cut fuel (F_bitmap_Valid fuel) (F_bitmap_blank fuel) (F_bitmap_isShift fuel) (F_bitmap_at fuel) x0 x1 x2 x3 x4 x5 x6 k0
abbrev YF36 : Type := (Int) → (Int) → ((List Int)) → (Int) → (Int) → (Int) → (Int) → ((Int × Int × Int × (List Int)) → Option Ans) → Option Ans
theorem F36_eqg (fuel : Nat) (f65 : YF65) (f66 : YF66) (f67 : YF67) (f70 : YF70) (x0 x1 : Int) (x2 : (List Int)) (x3 x4 : Int) (x5 x6 : Int) (k : Ev.Cont) : evalFn tab (Gg36 f65 f66 f67 f70) (J36 fuel) kp36 fuel Try.f36 [.agg [.int .i64 x0, .int .i64 x1, .sl (.int .u8) x2], .c (.int .i64 x3), .c (.int .i64 x4), .c (.int .i64 x5), .c (.int .i64 x6)] [] k = Fg_bitmap_Cut fuel f65 f66 f67 f70 x0 x1 x2 x3 x4 x5 x6 (fun r => match r with | (r0, r1, r2, r3) => k (.tup [(true, [.int .i64 r0, .int .i64 r1, .own 0]), (false, [.int .i64 r2])], [.vec 5 (.int .u8) r3 true])) := by
  kernel_rfl
theorem hG36 (fuel : Nat) : GOK Try.prog (G36 fuel) :=
  gok_cons ⟨ok65 fuel, enters_of Try.func65 (by kernel_rfl) rfl⟩ <|
  gok_cons ⟨ok66 fuel, enters_of Try.func66 (by kernel_rfl) rfl⟩ <|
  gok_cons ⟨ok67 fuel, enters_of Try.func67 (by kernel_rfl) rfl⟩ <|
  gok_cons ⟨ok70 fuel, enters_of Try.func70 (by kernel_rfl) rfl⟩ <|
  gok_nil
theorem B36_1_blk (fuel : Nat) : BlkOK Try.prog Try.f36.ntmps (.block 1 (.loop (bodyOf 1 Try.f36))) (B36_1 fuel) :=
  blk_of (blk_of_code tab_ok (hG36 fuel) mixed (J := J36_1 fuel) (kp := kp36) (fuel := fuel) (by kernel_rfl) (fun q hq => by
    rw [(by kernel_rfl : obl (J36_1 fuel) (.block 1 (.loop (bodyOf 1 Try.f36))) = [])] at hq
    cases hq)) (B36_1_ok fuel)
theorem fok36 (fuel : Nat) : FnOK Try.prog 36 (evalFn tab (G36 fuel) (J36 fuel) kp36 fuel Try.f36) :=
  fn_ok tab_ok (hG36 fuel) mixed Try.func36 (c := (Try.f36.body).getD .skip) rfl (fun q hq => by
    rw [(by kernel_rfl : obl (J36 fuel) ((Try.f36.body).getD .skip) = [(.block 1 (.loop (bodyOf 1 Try.f36)), B36_1 fuel)])] at hq
    simp only [List.mem_cons, List.not_mem_nil, or_false] at hq
    subst hq
    · exact B36_1_blk fuel)
noncomputable def spg36 (F : YF36) : Ev.Spec := fun args objs k => match args, objs with
 | [.agg [.int .i64 x0, .int .i64 x1, .sl (.int .u8) x2], .c (.int .i64 x3), .c (.int .i64 x4), .c (.int .i64 x5), .c (.int .i64 x6)], [] => bif true then F x0 x1 x2 x3 x4 x5 x6 (fun r => match r with | (r0, r1, r2, r3) => k (.tup [(true, [.int .i64 r0, .int .i64 r1, .own 0]), (false, [.int .i64 r2])], [.vec 5 (.int .u8) r3 true])) else none
 | _, _ => none
noncomputable def spec36 (fuel : Nat) : Ev.Spec := spg36 (F_bitmap_Cut fuel)
theorem ok36 (fuel : Nat) : FnOK Try.prog 36 (spec36 fuel) := by
  intro args objs kk r h
  unfold spec36 spg36 at h
  split at h
  · skip
    obtain ⟨hb, h⟩ := cond_some' h
    simp only [Bool.and_eq_true, Nat.beq_eq, decide_eq_true_eq] at hb
    clear hb
    exact fok36 fuel _ _ kk r ((F36_eqg fuel (F_bitmap_Valid fuel) (F_bitmap_blank fuel) (F_bitmap_isShift fuel) (F_bitmap_at fuel) _ _ _ _ _ _ _ kk).trans h)
  · cases h
end Go.Proofs.Ytipdidpalcmlhaa

set_option linter.unusedVariables false
set_option linter.unusedSimpArgs false
set_option maxRecDepth 100000
set_option maxHeartbeats 2000000
namespace Go.Proofs.Ytipdidpalcmlhaa
open Go Ev
def kp25 (i : Nat) : Option (List Nat) := Ev.look i [(5, [2, 6, 8, 9, 34, 35]), (100000, [6, 8, 9]), (400000, [6, 7])]
noncomputable def Gg25 (f66 : YF66) (f : Nat) : Option Ev.Spec := Ev.look f [(66, spg66 f66)]
noncomputable def G25 (fuel : Nat) : Nat → Option Ev.Spec := Gg25 (F_bitmap_blank fuel)
noncomputable def Sg_bitmap_New_0 (fuel : Nat) (f66 : YF66) (x0 x1 : Int) (x2 x3 : Int) (x4 x5 : Int) (x6 x7 : Int) (x8 x9 : (List Int)) (c : (Int × Int × Int × Int × Int × Int × Int × Int × (List Int) × (List Int)) → Option Ans) (B : (Int × Int × Int × Int × Int × (List Int) × (List Int) → Option Ans)) : Option Ans := match B with
 | b =>
  bif decide (x3 < x2) then
  bif decide ((0 : Int) ≤ x3 ∧ x3 < (↑x9.length : Int)) then
  c (x0, x1, x2, IntKind.i64.wrap (x3 + (1 : Int)), x4, x5, x6, x7, x8, x9.set x3.toNat (IntKind.u8.wrap x0))
  else none
  else
  b (x1, x4, x5, x6, x7, x8, x9)
noncomputable def S_bitmap_New_0 (fuel : Nat) (v : Int × Int × Int × Int × Int × Int × Int × Int × (List Int) × (List Int)) (c : (Int × Int × Int × Int × Int × Int × Int × Int × (List Int) × (List Int)) → Option Ans) (B : (Int × Int × Int × Int × Int × (List Int) × (List Int) → Option Ans)) : Option Ans := match v with
 | (x0, x1, x2, x3, x4, x5, x6, x7, x8, x9) => Sg_bitmap_New_0 fuel (F_bitmap_blank fuel) x0 x1 x2 x3 x4 x5 x6 x7 x8 x9 c B
noncomputable def L_bitmap_New_0 (fuel : Nat) (v : Int × Int × Int × Int × Int × Int × Int × Int × (List Int) × (List Int)) (b : (Int × Int × Int × Int × Int × (List Int) × (List Int) → Option Ans)) : Option Ans := iter (S_bitmap_New_0 fuel) fuel v b
noncomputable def J25_0 (fuel : Nat) (i : Nat) : Option Ev.Blk := Ev.look i []
noncomputable def T25_0 (v : Int × Int × Int × Int × Int × Int × Int × Int × (List Int) × (List Int)) : Ev.St := match v with | (x0, x1, x2, x3, x4, x5, x6, x7, x8, x9) => ⟨[(2, .c (.int .i64 x0)), (6, .c (.ptr 0 0)), (8, .c (.ptr 1 0)), (9, .c (.int .i64 x1)), (34, .c (.int .i64 x2)), (35, .c (.int .i64 x3))], [(0, .cells 35 [.int .i64 x4, .int .i64 x5, .own 2]), (1, .cells 35 [.int .i64 x6, .int .i64 x7, .own 3]), (2, .vec 5 (.int .u8) x8 true), (3, .vec 5 (.int .u8) x9 true)], 4, 0⟩
noncomputable def E25_0 (K : Ev.Ex → Ev.St → Option Ans) : (Int × Int × Int × Int × Int × (List Int) × (List Int) → Option Ans) := (fun v => match v with | (x0, x1, x2, x3, x4, x5, x6) => K .normal ⟨[(6, .c (.ptr 0 0)), (8, .c (.ptr 1 0)), (9, .c (.int .i64 x0))], [(0, .cells 35 [.int .i64 x1, .int .i64 x2, .own 2]), (1, .cells 35 [.int .i64 x3, .int .i64 x4, .own 3]), (2, .vec 5 (.int .u8) x5 true), (3, .vec 5 (.int .u8) x6 true)], 4, 0⟩)
theorem S25_0_okg (fuel : Nat) (f66 : YF66) (R : Ev.St → Option Ans) (K : Ev.Ex → Ev.St → Option Ans) (x0 x1 : Int) (x2 x3 : Int) (x4 x5 : Int) (x6 x7 : Int) (x8 x9 : (List Int)) : evalCode tab (Gg25 f66) (J25_0 fuel) kp25 fuel (bodyOf 0 Try.f25) (T25_0 (x0, x1, x2, x3, x4, x5, x6, x7, x8, x9)) (lc kp25 5 0 R K) = Sg_bitmap_New_0 fuel f66 x0 x1 x2 x3 x4 x5 x6 x7 x8 x9 (fun v => R (T25_0 v)) (E25_0 K) := by
  kernel_rfl
noncomputable def B25_0 (fuel : Nat) : Ev.Blk := fun st K => match canonO (kp25 5) st with
 | some s => (match s with
 | ⟨[(q0, .c (.int .i64 x0)), (q1, .c (.ptr q2 q3)), (q4, .c (.ptr q5 q6)), (q7, .c (.int .i64 x1)), (q8, .c (.int .i64 x2)), (q9, .c (.int .i64 x3))], [(q10, .cells q11 [.int .i64 x4, .int .i64 x5, .own q12]), (q13, .cells q14 [.int .i64 x6, .int .i64 x7, .own q15]), (q16, .vec q17 (.int .u8) x8 true), (q18, .vec q19 (.int .u8) x9 true)], q20, q21⟩ => bif Nat.beq q0 2 && Nat.beq q1 6 && Nat.beq q2 0 && Nat.beq q3 0 && Nat.beq q4 8 && Nat.beq q5 1 && Nat.beq q6 0 && Nat.beq q7 9 && Nat.beq q8 34 && Nat.beq q9 35 && Nat.beq q10 0 && Nat.beq q11 35 && Nat.beq q12 2 && Nat.beq q13 1 && Nat.beq q14 35 && Nat.beq q15 3 && Nat.beq q16 2 && Nat.beq q17 5 && Nat.beq q18 3 && Nat.beq q19 5 && Nat.beq q20 4 && Nat.beq q21 0 then iter (S_bitmap_New_0 fuel) fuel (x0, x1, x2, x3, x4, x5, x6, x7, x8, x9) (E25_0 K) else none
 | _ => none)
 | none => none
theorem B25_0_ok (fuel : Nat) (st : Ev.St) (K : Ev.Ex → Ev.St → Option Ans) (r : Ans) (h : B25_0 fuel st K = some r) : evalCode tab (G25 fuel) (J25_0 fuel) kp25 fuel (.block 0 (.loop (bodyOf 0 Try.f25))) st K = some r := by
  unfold B25_0 at h
  split at h
  · rename_i s hs
    split at h
    · skip
      obtain ⟨hb, h⟩ := cond_some' h
      simp only [Bool.and_eq_true, Nat.beq_eq, decide_eq_true_eq] at hb
      obtain ⟨⟨⟨⟨⟨⟨⟨⟨⟨⟨⟨⟨⟨⟨⟨⟨⟨⟨⟨⟨⟨rfl, rfl⟩, rfl⟩, rfl⟩, rfl⟩, rfl⟩, rfl⟩, rfl⟩, rfl⟩, rfl⟩, rfl⟩, rfl⟩, rfl⟩, rfl⟩, rfl⟩, rfl⟩, rfl⟩, rfl⟩, rfl⟩, rfl⟩, rfl⟩, rfl⟩ := hb
      exact blk_loop (S := T25_0) (ks := E25_0) (step := S_bitmap_New_0 fuel) (v := (_, _, _, _, _, _, _, _, _, _)) (by kernel_rfl) (by kernel_rfl) (fun R K v => by obtain ⟨x0, x1, x2, x3, x4, x5, x6, x7, x8, x9⟩ := v; exact S25_0_okg fuel (F_bitmap_blank fuel) R K x0 x1 x2 x3 x4 x5 x6 x7 x8 x9) hs h
    · cases h
  · cases h
noncomputable def J25 (fuel : Nat) (i : Nat) : Option Ev.Blk := Ev.look i [(100000, B25_0 fuel)]
noncomputable def Fg_bitmap_New (fuel : Nat) (f66 : YF66) (x0 x1 x2 : Int) (k0 : (Int × Int × Int × (List Int)) → Option Ans) : Option Ans :=
  bif decide (x0 < (0 : Int)) then
  k0 ((0 : Int), (0 : Int), (2 : Int), [])
  else
  bif decide (x1 < (0 : Int)) then
  k0 ((0 : Int), (0 : Int), (2 : Int), [])
  else
  bif x2 != (0 : Int) then
  bif x2 != (1 : Int) then
  k0 ((0 : Int), (0 : Int), (2 : Int), [])
  else
  (f66 (x0) (x1)
  (fun (y6_0, y6_1, y6_2, y6_3) =>
  (L_bitmap_New_0 fuel (x2, y6_2, (↑y6_3.length : Int), (0 : Int), (0 : Int), (0 : Int), y6_0, y6_1, [], y6_3)
  (fun (b0_0, b0_1, b0_2, b0_3, b0_4, b0_5, b0_6) =>
  k0 (b0_3, b0_4, b0_0, b0_6)))))
  else
  (f66 (x0) (x1)
  (fun (y5_0, y5_1, y5_2, y5_3) =>
  (L_bitmap_New_0 fuel (x2, y5_2, (↑y5_3.length : Int), (0 : Int), (0 : Int), (0 : Int), y5_0, y5_1, [], y5_3)
  (fun (b0_0, b0_1, b0_2, b0_3, b0_4, b0_5, b0_6) =>
  k0 (b0_3, b0_4, b0_0, b0_6)))))
noncomputable def F_bitmap_New (fuel : Nat) (x0 x1 x2 : Int) (k0 : (Int × Int × Int × (List Int)) → Option Ans) : Option Ans := Fg_bitmap_New fuel (F_bitmap_blank fuel) x0 x1 x2 k0
abbrev YF25 : Type := (Int) → (Int) → (Int) → ((Int × Int × Int × (List Int)) → Option Ans) → Option Ans
theorem F25_eqg (fuel : Nat) (f66 : YF66) (x0 x1 x2 : Int) (k : Ev.Cont) : evalFn tab (Gg25 f66) (J25 fuel) kp25 fuel Try.f25 [.c (.int .i64 x0), .c (.int .i64 x1), .c (.int .i64 x2)] [] k = Fg_bitmap_New fuel f66 x0 x1 x2 (fun r => match r with | (r0, r1, r2, r3) => k (.tup [(true, [.int .i64 r0, .int .i64 r1, .own 0]), (false, [.int .i64 r2])], [.vec 5 (.int .u8) r3 true])) := by
  kernel_rfl
theorem hG25 (fuel : Nat) : GOK Try.prog (G25 fuel) :=
  gok_cons ⟨ok66 fuel, enters_of Try.func66 (by kernel_rfl) rfl⟩ <|
  gok_nil
theorem B25_0_blk (fuel : Nat) : BlkOK Try.prog Try.f25.ntmps (.block 0 (.loop (bodyOf 0 Try.f25))) (B25_0 fuel) :=
  blk_of (blk_of_code tab_ok (hG25 fuel) mixed (J := J25_0 fuel) (kp := kp25) (fuel := fuel) (by kernel_rfl) (fun q hq => by
    rw [(by kernel_rfl : obl (J25_0 fuel) (.block 0 (.loop (bodyOf 0 Try.f25))) = [])] at hq
    cases hq)) (B25_0_ok fuel)
theorem fok25 (fuel : Nat) : FnOK Try.prog 25 (evalFn tab (G25 fuel) (J25 fuel) kp25 fuel Try.f25) :=
  fn_ok tab_ok (hG25 fuel) mixed Try.func25 (c := (Try.f25.body).getD .skip) rfl (fun q hq => by
    rw [(by kernel_rfl : obl (J25 fuel) ((Try.f25.body).getD .skip) = [(.block 0 (.loop (bodyOf 0 Try.f25)), B25_0 fuel)])] at hq
    simp only [List.mem_cons, List.not_mem_nil, or_false] at hq
    subst hq
    · exact B25_0_blk fuel)
noncomputable def spg25 (F : YF25) : Ev.Spec := fun args objs k => match args, objs with
 | [.c (.int .i64 x0), .c (.int .i64 x1), .c (.int .i64 x2)], [] => bif true then F x0 x1 x2 (fun r => match r with | (r0, r1, r2, r3) => k (.tup [(true, [.int .i64 r0, .int .i64 r1, .own 0]), (false, [.int .i64 r2])], [.vec 5 (.int .u8) r3 true])) else none
 | _, _ => none
noncomputable def spec25 (fuel : Nat) : Ev.Spec := spg25 (F_bitmap_New fuel)
theorem ok25 (fuel : Nat) : FnOK Try.prog 25 (spec25 fuel) := by
  intro args objs kk r h
  unfold spec25 spg25 at h
  split at h
  · skip
    obtain ⟨hb, h⟩ := cond_some' h
    simp only [Bool.and_eq_true, Nat.beq_eq, decide_eq_true_eq] at hb
    clear hb
    exact fok25 fuel _ _ kk r ((F25_eqg fuel (F_bitmap_blank fuel) _ _ _ kk).trans h)
  · cases h
end Go.Proofs.Ytipdidpalcmlhaa

set_option linter.unusedVariables false
set_option linter.unusedSimpArgs false
set_option maxRecDepth 100000
set_option maxHeartbeats 2000000
namespace Go.Proofs.Ytipdidpalcmlhaa
open Go Ev
def kp49 (i : Nat) : Option (List Nat) := Ev.look i []
noncomputable def Gg49 (f : Nat) : Option Ev.Spec := Ev.look f []
noncomputable def G49 (fuel : Nat) : Nat → Option Ev.Spec := Gg49
noncomputable def J49 (fuel : Nat) (i : Nat) : Option Ev.Blk := Ev.look i []
noncomputable def F_coder_New (fuel : Nat) (x0 x1 : Int) (k0 : (Int × Int × (List Int)) → Option Ans) : Option Ans :=
  bif x0 != (0 : Int) then
  bif x0 != (1 : Int) then
  k0 ((0 : Int), (2 : Int), [])
  else
  bif decide (x1 < (0 : Int)) then
  k0 ((0 : Int), (2 : Int), [])
  else
  bif decide (x1 > (8192 : Int)) then
  k0 ((0 : Int), (2 : Int), [])
  else
  bif decide ((0 : Int) ≤ x1 ∧ x1 = x1 ∧ (↑(8 : Nat) : Int) * x1 ≤ (281474976710656 : Int) ∧ x1 ≤ (281474976710656 : Int)) then
  k0 (x0, (0 : Int), List.replicate x1.toNat (0 : Int))
  else none
  else
  bif decide (x1 < (0 : Int)) then
  k0 ((0 : Int), (2 : Int), [])
  else
  bif decide (x1 > (8192 : Int)) then
  k0 ((0 : Int), (2 : Int), [])
  else
  bif decide ((0 : Int) ≤ x1 ∧ x1 = x1 ∧ (↑(8 : Nat) : Int) * x1 ≤ (281474976710656 : Int) ∧ x1 ≤ (281474976710656 : Int)) then
  k0 (x0, (0 : Int), List.replicate x1.toNat (0 : Int))
  else none
abbrev YF49 : Type := (Int) → (Int) → ((Int × Int × (List Int)) → Option Ans) → Option Ans
theorem F49_eq (fuel : Nat) (x0 x1 : Int) (k : Ev.Cont) : evalFn tab (G49 fuel) (J49 fuel) kp49 fuel Try.f49 [.c (.int .i64 x0), .c (.int .i64 x1)] [] k = F_coder_New fuel x0 x1 (fun r => match r with | (r0, r1, r2) => k (.tup [(true, [.int .i64 r0, .own 0]), (false, [.int .i64 r1])], [.vec 3 (.int .i64) r2 true])) := by
  kernel_rfl
theorem hG49 (fuel : Nat) : GOK Try.prog (G49 fuel) :=
  gok_nil
theorem fok49 (fuel : Nat) : FnOK Try.prog 49 (evalFn tab (G49 fuel) (J49 fuel) kp49 fuel Try.f49) :=
  fn_ok tab_ok (hG49 fuel) mixed Try.func49 (c := (Try.f49.body).getD .skip) rfl (fun q hq => by
    rw [(by kernel_rfl : obl (J49 fuel) ((Try.f49.body).getD .skip) = [])] at hq
    cases hq)
noncomputable def spg49 (F : YF49) : Ev.Spec := fun args objs k => match args, objs with
 | [.c (.int .i64 x0), .c (.int .i64 x1)], [] => bif true then F x0 x1 (fun r => match r with | (r0, r1, r2) => k (.tup [(true, [.int .i64 r0, .own 0]), (false, [.int .i64 r1])], [.vec 3 (.int .i64) r2 true])) else none
 | _, _ => none
noncomputable def spec49 (fuel : Nat) : Ev.Spec := spg49 (F_coder_New fuel)
theorem ok49 (fuel : Nat) : FnOK Try.prog 49 (spec49 fuel) := by
  intro args objs kk r h
  unfold spec49 spg49 at h
  split at h
  · skip
    obtain ⟨hb, h⟩ := cond_some' h
    simp only [Bool.and_eq_true, Nat.beq_eq, decide_eq_true_eq] at hb
    clear hb
    exact fok49 fuel _ _ kk r ((F49_eq fuel _ _ kk).trans h)
  · cases h
end Go.Proofs.Ytipdidpalcmlhaa

set_option linter.unusedVariables false
set_option linter.unusedSimpArgs false
set_option maxRecDepth 100000
set_option maxHeartbeats 2000000
namespace Go.Proofs.Ytipdidpalcmlhaa
open Go Ev
def kp112_40a (i : Nat) : Option (List Nat) := Ev.look i [(200001, [0]), (200002, [0])]
noncomputable def Gg112_40a (f : Nat) : Option Ev.Spec := Ev.look f []
noncomputable def G112_40a (fuel : Nat) : Nat → Option Ev.Spec := Gg112_40a
noncomputable def J112_40a (fuel : Nat) (i : Nat) : Option Ev.Blk := Ev.look i []
noncomputable def F_coder_Decoder_shift_40a (fuel : Nat) (x0 x1 : Int) (x2 x3 : Int) (x4 x5 : Int) (x6 x7 : Bool) (x8 x9 : (List Int)) (k0 : (Int × Int × Int × Int × Int × Int × Bool × Bool × (List Int) × (List Int)) → Option Ans) : Option Ans :=
  bif decide (x3 < (↑x9.length : Int)) then
  bif decide ((0 : Int) ≤ x3 ∧ x3 < (↑x9.length : Int)) then
  k0 (x0, x1, x2, IntKind.i64.wrap (x3 + (1 : Int)), Ev.ior IntKind.u64 (Ev.iand IntKind.u64 (Ev.ishl IntKind.u64 x4 (8 : Int)) (4294967295 : Int)) (IntKind.u64.wrap (x9.getD x3.toNat (0 : Int))), x5, x6, x7, x8, x9)
  else none
  else
  k0 (x0, x1, x2, IntKind.i64.wrap (x3 + (1 : Int)), Ev.ior IntKind.u64 (Ev.iand IntKind.u64 (Ev.ishl IntKind.u64 x4 (8 : Int)) (4294967295 : Int)) (IntKind.u64.wrap (0 : Int)), IntKind.i64.wrap (x5 + (1 : Int)), x6, x7, x8, x9)
abbrev YF112_40a : Type := (Int) → (Int) → (Int) → (Int) → (Int) → (Int) → (Bool) → (Bool) → ((List Int)) → ((List Int)) → ((Int × Int × Int × Int × Int × Int × Bool × Bool × (List Int) × (List Int)) → Option Ans) → Option Ans
theorem F112_40a_eq (fuel : Nat) (x0 x1 : Int) (x2 x3 : Int) (x4 x5 : Int) (x6 x7 : Bool) (x8 x9 : (List Int)) (k : Ev.Cont) : evalFn tab (G112_40a fuel) (J112_40a fuel) kp112_40a fuel Try.f112 [.c (.ptr 0 0)] [.cells 163 (.int .i64 x0 :: .own 1 :: ctb (.int .u64 x1 :: .int .u64 x2 :: .own 2 :: .int .i64 x3 :: .int .u64 x4 :: .int .i64 x5 :: .bool x6 :: .bool x7 :: [])), .vec 3 (.int .i64) x8 false, .vec 5 (.int .u8) x9 false] k = F_coder_Decoder_shift_40a fuel x0 x1 x2 x3 x4 x5 x6 x7 x8 x9 (fun r => match r with | (r0, r1, r2, r3, r4, r5, r6, r7, r8, r9) => k (.tup [], [.cells 163 (.int .i64 r0 :: .own 1 :: ctb (.int .u64 r1 :: .int .u64 r2 :: .own 2 :: .int .i64 r3 :: .int .u64 r4 :: .int .i64 r5 :: .bool r6 :: .bool r7 :: [])), .vec 3 (.int .i64) r8 false, .vec 5 (.int .u8) r9 false])) := by
  kernel_rfl
theorem hG112_40a (fuel : Nat) : GOK Try.prog (G112_40a fuel) :=
  gok_nil
theorem fok112_40a (fuel : Nat) : FnOK Try.prog 112 (evalFn tab (G112_40a fuel) (J112_40a fuel) kp112_40a fuel Try.f112) :=
  fn_ok tab_ok (hG112_40a fuel) mixed Try.func112 (c := (Try.f112.body).getD .skip) rfl (fun q hq => by
    rw [(by kernel_rfl : obl (J112_40a fuel) ((Try.f112.body).getD .skip) = [])] at hq
    cases hq)
noncomputable def spg112_40a (F : YF112_40a) : Ev.Spec := fun args objs k => match args, objs with
 | [.c (.ptr q0 q1)], [.cells q2 cs0, .vec q3 (.int .i64) x8 false, .vec q4 (.int .u8) x9 false] => (match splitRun 2 ctn cs0 with | some ([.int .i64 x0, .own q5], [.int .u64 x1, .int .u64 x2, .own q6, .int .i64 x3, .int .u64 x4, .int .i64 x5, .bool x6, .bool x7]) => bif Nat.beq q0 0 && Nat.beq q1 0 && Nat.beq q2 163 && Nat.beq q3 3 && Nat.beq q4 5 && Nat.beq q5 1 && Nat.beq q6 2 then F x0 x1 x2 x3 x4 x5 x6 x7 x8 x9 (fun r => match r with | (r0, r1, r2, r3, r4, r5, r6, r7, r8, r9) => k (.tup [], [.cells 163 (.int .i64 r0 :: .own 1 :: ctb (.int .u64 r1 :: .int .u64 r2 :: .own 2 :: .int .i64 r3 :: .int .u64 r4 :: .int .i64 r5 :: .bool r6 :: .bool r7 :: [])), .vec 3 (.int .i64) r8 false, .vec 5 (.int .u8) r9 false])) else none | _ => none)
 | _, _ => none
noncomputable def spec112_40a (fuel : Nat) : Ev.Spec := spg112_40a (F_coder_Decoder_shift_40a fuel)
theorem ok112_40a (fuel : Nat) : FnOK Try.prog 112 (spec112_40a fuel) := by
  intro args objs kk r h
  unfold spec112_40a spg112_40a at h
  split at h
  · skip
    split at h
    rotate_left 1
    · cases h
    rename_i hsp
    have esp := splitRun_eq hsp
    subst esp
    obtain ⟨hb, h⟩ := cond_some' h
    simp only [Bool.and_eq_true, Nat.beq_eq, decide_eq_true_eq] at hb
    obtain ⟨⟨⟨⟨⟨⟨rfl, rfl⟩, rfl⟩, rfl⟩, rfl⟩, rfl⟩, rfl⟩ := hb
    exact fok112_40a fuel _ _ kk r ((F112_40a_eq fuel _ _ _ _ _ _ _ _ _ _ kk).trans h)
  · cases h
end Go.Proofs.Ytipdidpalcmlhaa

set_option linter.unusedVariables false
set_option linter.unusedSimpArgs false
set_option maxRecDepth 100000
set_option maxHeartbeats 2000000
namespace Go.Proofs.Ytipdidpalcmlhaa
open Go Ev
def kp100 (i : Nat) : Option (List Nat) := Ev.look i [(7, [3, 24, 25, 26]), (100000, []), (400000, [2])]
noncomputable def Gg100 (f : Nat) : Option Ev.Spec := Ev.look f []
noncomputable def G100 (fuel : Nat) : Nat → Option Ev.Spec := Gg100
noncomputable def S_coder_Valid_0 (fuel : Nat) (v : Int × (List Int) × Int × Int) (c : (Int × (List Int) × Int × Int) → Option Ans) (B : (Bool → Option Ans) × (Unit → Option Ans)) : Option Ans := match v, B with
 | (x0, x1, x2, x3), (ret, b) =>
  bif decide (x3 < x2) then
  bif decide ((0 : Int) ≤ x3 ∧ x3 < (↑x1.length : Int)) then
  bif decide (x1.getD x3.toNat (0 : Int) < (0 : Int)) then
  ret false
  else
  bif decide (x1.getD x3.toNat (0 : Int) ≥ x0) then
  ret false
  else
  c (x0, x1, x2, IntKind.i64.wrap (x3 + (1 : Int)))
  else none
  else
  b ()
noncomputable def L_coder_Valid_0 (fuel : Nat) (v : Int × (List Int) × Int × Int) (ret : (Bool → Option Ans)) (b : (Unit → Option Ans)) : Option Ans := iter (S_coder_Valid_0 fuel) fuel v (ret, b)
noncomputable def J100_0 (fuel : Nat) (i : Nat) : Option Ev.Blk := Ev.look i []
noncomputable def T100_0 (v : Int × (List Int) × Int × Int) : Ev.St := match v with | (x0, x1, x2, x3) => ⟨[(3, .c (.int .i64 x0)), (24, .c (.sl (.int .i64) x1)), (25, .c (.int .i64 x2)), (26, .c (.int .i64 x3))], [], 0, 0⟩
noncomputable def E100_0 (K : Ev.Ex → Ev.St → Option Ans) : (Bool → Option Ans) × (Unit → Option Ans) := ((fun v => match v with | x0 => K .ret ⟨[(2, .c (.bool x0))], [], 0, 0⟩), (fun v => match v with | () => K .normal ⟨[], [], 0, 0⟩))
theorem S100_0_ok (fuel : Nat) (R : Ev.St → Option Ans) (K : Ev.Ex → Ev.St → Option Ans) (x0 : Int) (x1 : (List Int)) (x2 x3 : Int) : evalCode tab (G100 fuel) (J100_0 fuel) kp100 fuel (bodyOf 0 Try.f100) (T100_0 (x0, x1, x2, x3)) (lc kp100 7 0 R K) = S_coder_Valid_0 fuel (x0, x1, x2, x3) (fun v => R (T100_0 v)) (E100_0 K) := by
  kernel_rfl
noncomputable def B100_0 (fuel : Nat) : Ev.Blk := fun st K => match canonO (kp100 7) st with
 | some s => (match s with
 | ⟨[(q0, .c (.int .i64 x0)), (q1, .c (.sl (.int .i64) x1)), (q2, .c (.int .i64 x2)), (q3, .c (.int .i64 x3))], [], q4, q5⟩ => bif Nat.beq q0 3 && Nat.beq q1 24 && Nat.beq q2 25 && Nat.beq q3 26 && Nat.beq q4 0 && Nat.beq q5 0 then iter (S_coder_Valid_0 fuel) fuel (x0, x1, x2, x3) (E100_0 K) else none
 | _ => none)
 | none => none
theorem B100_0_ok (fuel : Nat) (st : Ev.St) (K : Ev.Ex → Ev.St → Option Ans) (r : Ans) (h : B100_0 fuel st K = some r) : evalCode tab (G100 fuel) (J100_0 fuel) kp100 fuel (.block 0 (.loop (bodyOf 0 Try.f100))) st K = some r := by
  unfold B100_0 at h
  split at h
  · rename_i s hs
    split at h
    · skip
      obtain ⟨hb, h⟩ := cond_some' h
      simp only [Bool.and_eq_true, Nat.beq_eq, decide_eq_true_eq] at hb
      obtain ⟨⟨⟨⟨⟨rfl, rfl⟩, rfl⟩, rfl⟩, rfl⟩, rfl⟩ := hb
      exact blk_loop (S := T100_0) (ks := E100_0) (step := S_coder_Valid_0 fuel) (v := (_, _, _, _)) (by kernel_rfl) (by kernel_rfl) (fun R K v => by obtain ⟨x0, x1, x2, x3⟩ := v; exact S100_0_ok fuel R K x0 x1 x2 x3) hs h
    · cases h
  · cases h
noncomputable def J100 (fuel : Nat) (i : Nat) : Option Ev.Blk := Ev.look i [(100000, B100_0 fuel)]
noncomputable def F_coder_Valid (fuel : Nat) (x0 : Int) (x1 : (List Int)) (k0 : (Bool) → Option Ans) : Option Ans :=
  bif x0 != (0 : Int) then
  bif x0 != (1 : Int) then
  k0 false
  else
  bif decide ((↑x1.length : Int) > (8192 : Int)) then
  k0 false
  else
  bif x0 == (1 : Int) then
  (L_coder_Valid_0 fuel ((65536 : Int), x1, (↑x1.length : Int), (0 : Int))
  (fun ret0_0 =>
  k0 ret0_0)
  (fun () =>
  k0 true))
  else
  (L_coder_Valid_0 fuel ((64 : Int), x1, (↑x1.length : Int), (0 : Int))
  (fun ret0_0 =>
  k0 ret0_0)
  (fun () =>
  k0 true))
  else
  bif decide ((↑x1.length : Int) > (8192 : Int)) then
  k0 false
  else
  bif x0 == (1 : Int) then
  (L_coder_Valid_0 fuel ((65536 : Int), x1, (↑x1.length : Int), (0 : Int))
  (fun ret0_0 =>
  k0 ret0_0)
  (fun () =>
  k0 true))
  else
  (L_coder_Valid_0 fuel ((64 : Int), x1, (↑x1.length : Int), (0 : Int))
  (fun ret0_0 =>
  k0 ret0_0)
  (fun () =>
  k0 true))
abbrev YF100 : Type := (Int) → ((List Int)) → ((Bool) → Option Ans) → Option Ans
theorem F100_eq (fuel : Nat) (x0 : Int) (x1 : (List Int)) (k : Ev.Cont) : evalFn tab (G100 fuel) (J100 fuel) kp100 fuel Try.f100 [.agg [.int .i64 x0, .sl (.int .i64) x1]] [] k = F_coder_Valid fuel x0 x1 (fun r => match r with | r0 => k (.c (.bool r0), [])) := by
  kernel_rfl
theorem hG100 (fuel : Nat) : GOK Try.prog (G100 fuel) :=
  gok_nil
theorem B100_0_blk (fuel : Nat) : BlkOK Try.prog Try.f100.ntmps (.block 0 (.loop (bodyOf 0 Try.f100))) (B100_0 fuel) :=
  blk_of (blk_of_code tab_ok (hG100 fuel) mixed (J := J100_0 fuel) (kp := kp100) (fuel := fuel) (by kernel_rfl) (fun q hq => by
    rw [(by kernel_rfl : obl (J100_0 fuel) (.block 0 (.loop (bodyOf 0 Try.f100))) = [])] at hq
    cases hq)) (B100_0_ok fuel)
theorem fok100 (fuel : Nat) : FnOK Try.prog 100 (evalFn tab (G100 fuel) (J100 fuel) kp100 fuel Try.f100) :=
  fn_ok tab_ok (hG100 fuel) mixed Try.func100 (c := (Try.f100.body).getD .skip) rfl (fun q hq => by
    rw [(by kernel_rfl : obl (J100 fuel) ((Try.f100.body).getD .skip) = [(.block 0 (.loop (bodyOf 0 Try.f100)), B100_0 fuel)])] at hq
    simp only [List.mem_cons, List.not_mem_nil, or_false] at hq
    subst hq
    · exact B100_0_blk fuel)
noncomputable def spg100 (F : YF100) : Ev.Spec := fun args objs k => match args, objs with
 | [.agg [.int .i64 x0, .sl (.int .i64) x1]], [] => bif true then F x0 x1 (fun r => match r with | r0 => k (.c (.bool r0), [])) else none
 | _, _ => none
noncomputable def spec100 (fuel : Nat) : Ev.Spec := spg100 (F_coder_Valid fuel)
theorem ok100 (fuel : Nat) : FnOK Try.prog 100 (spec100 fuel) := by
  intro args objs kk r h
  unfold spec100 spg100 at h
  split at h
  · skip
    obtain ⟨hb, h⟩ := cond_some' h
    simp only [Bool.and_eq_true, Nat.beq_eq, decide_eq_true_eq] at hb
    clear hb
    exact fok100 fuel _ _ kk r ((F100_eq fuel _ _ kk).trans h)
  · cases h
end Go.Proofs.Ytipdidpalcmlhaa

set_option linter.unusedVariables false
set_option linter.unusedSimpArgs false
set_option maxRecDepth 100000
set_option maxHeartbeats 2000000
namespace Go.Proofs.Ytipdidpalcmlhaa
open Go Ev
def kp149 (i : Nat) : Option (List Nat) := Ev.look i [(4, [0, 1, 2, 4]), (100000, [0, 1]), (400000, [0])]
noncomputable def Gg149 (f : Nat) : Option Ev.Spec := Ev.look f []
noncomputable def G149 (fuel : Nat) : Nat → Option Ev.Spec := Gg149
noncomputable def J149 (fuel : Nat) (i : Nat) : Option Ev.Blk := Ev.look i []
noncomputable def F_coder_chances (fuel : Nat)  (k0 : (Unit) → Option Ans) : Option Ans :=
  k0 ()
abbrev YF149 : Type := ((Unit) → Option Ans) → Option Ans
theorem F149_eq (fuel : Nat)  (k : Ev.Cont) : evalFn tab (G149 fuel) (J149 fuel) kp149 100 Try.f149 [] [] k = F_coder_chances fuel  (fun r => match r with | () => k (.agg (ctb []), [])) := by
  kernel_rfl
theorem hG149 (fuel : Nat) : GOK Try.prog (G149 fuel) :=
  gok_nil
theorem fok149 (fuel : Nat) : FnOK Try.prog 149 (evalFn tab (G149 fuel) (J149 fuel) kp149 100 Try.f149) :=
  fn_ok tab_ok (hG149 fuel) mixed Try.func149 (c := (Try.f149.body).getD .skip) rfl (fun q hq => by
    rw [(by kernel_rfl : obl (J149 fuel) ((Try.f149.body).getD .skip) = [])] at hq
    cases hq)
noncomputable def spg149 (F : YF149) : Ev.Spec := fun args objs k => match args, objs with
 | [], [] => bif true then F  (fun r => match r with | () => k (.agg (ctb []), [])) else none
 | _, _ => none
noncomputable def spec149 (fuel : Nat) : Ev.Spec := spg149 (F_coder_chances fuel)
theorem ok149 (fuel : Nat) : FnOK Try.prog 149 (spec149 fuel) := by
  intro args objs kk r h
  unfold spec149 spg149 at h
  split at h
  · skip
    obtain ⟨hb, h⟩ := cond_some' h
    simp only [Bool.and_eq_true, Nat.beq_eq, decide_eq_true_eq] at hb
    clear hb
    exact fok149 fuel _ _ kk r ((F149_eq fuel kk).trans h)
  · cases h
end Go.Proofs.Ytipdidpalcmlhaa

set_option linter.unusedVariables false
set_option linter.unusedSimpArgs false
set_option maxRecDepth 100000
set_option maxHeartbeats 2000000
namespace Go.Proofs.Ytipdidpalcmlhaa
open Go Ev
def kp148 (i : Nat) : Option (List Nat) := Ev.look i [(200001, [1])]
noncomputable def Gg148 (f : Nat) : Option Ev.Spec := Ev.look f []
noncomputable def G148 (fuel : Nat) : Nat → Option Ev.Spec := Gg148
noncomputable def J148 (fuel : Nat) (i : Nat) : Option Ev.Blk := Ev.look i []
noncomputable def F_coder_clone (fuel : Nat) (x0 : Int) (x1 : (List Int)) (k0 : (Int × (List Int)) → Option Ans) : Option Ans :=
  bif decide (((0 : Nat) + x1.length) * (8 : Nat) ≤ (140737488355328 : Nat) ∧ (0 : Nat) + x1.length ≤ (140737488355328 : Nat)) then
  k0 (x0, [] ++ x1)
  else none
abbrev YF148 : Type := (Int) → ((List Int)) → ((Int × (List Int)) → Option Ans) → Option Ans
theorem F148_eq (fuel : Nat) (x0 : Int) (x1 : (List Int)) (k : Ev.Cont) : evalFn tab (G148 fuel) (J148 fuel) kp148 fuel Try.f148 [.agg [.int .i64 x0, .sl (.int .i64) x1]] [] k = F_coder_clone fuel x0 x1 (fun r => match r with | (r0, r1) => k (.agg [.int .i64 r0, .own 0], [.vec 3 (.int .i64) r1 true])) := by
  kernel_rfl
theorem hG148 (fuel : Nat) : GOK Try.prog (G148 fuel) :=
  gok_nil
theorem fok148 (fuel : Nat) : FnOK Try.prog 148 (evalFn tab (G148 fuel) (J148 fuel) kp148 fuel Try.f148) :=
  fn_ok tab_ok (hG148 fuel) mixed Try.func148 (c := (Try.f148.body).getD .skip) rfl (fun q hq => by
    rw [(by kernel_rfl : obl (J148 fuel) ((Try.f148.body).getD .skip) = [])] at hq
    cases hq)
noncomputable def spg148 (F : YF148) : Ev.Spec := fun args objs k => match args, objs with
 | [.agg [.int .i64 x0, .sl (.int .i64) x1]], [] => bif true then F x0 x1 (fun r => match r with | (r0, r1) => k (.agg [.int .i64 r0, .own 0], [.vec 3 (.int .i64) r1 true])) else none
 | _, _ => none
noncomputable def spec148 (fuel : Nat) : Ev.Spec := spg148 (F_coder_clone fuel)
theorem ok148 (fuel : Nat) : FnOK Try.prog 148 (spec148 fuel) := by
  intro args objs kk r h
  unfold spec148 spg148 at h
  split at h
  · skip
    obtain ⟨hb, h⟩ := cond_some' h
    simp only [Bool.and_eq_true, Nat.beq_eq, decide_eq_true_eq] at hb
    clear hb
    exact fok148 fuel _ _ kk r ((F148_eq fuel _ _ kk).trans h)
  · cases h
end Go.Proofs.Ytipdidpalcmlhaa

set_option linter.unusedVariables false
set_option linter.unusedSimpArgs false
set_option maxRecDepth 100000
set_option maxHeartbeats 2000000
namespace Go.Proofs.Ytipdidpalcmlhaa
open Go Ev
def kp101 (i : Nat) : Option (List Nat) := Ev.look i []
noncomputable def Gg101 (f148 : YF148) (f149 : YF149) (f : Nat) : Option Ev.Spec := Ev.look f [(148, spg148 f148), (149, spg149 f149)]
noncomputable def G101 (fuel : Nat) : Nat → Option Ev.Spec := Gg101 (F_coder_clone fuel) (F_coder_chances fuel)
noncomputable def J101 (fuel : Nat) (i : Nat) : Option Ev.Blk := Ev.look i []
noncomputable def Fg_coder_begin (fuel : Nat) (f148 : YF148) (f149 : YF149) (x0 : Int) (x1 : (List Int)) (k0 : (Int × Int × Int × (List Int)) → Option Ans) : Option Ans :=
  (f148 (x0) (x1)
  (fun (y2_0, y2_1) =>
  (f149
  (fun y6 =>
  k0 (y2_0, (0 : Int), (4294967295 : Int), y2_1)))))
noncomputable def F_coder_begin (fuel : Nat) (x0 : Int) (x1 : (List Int)) (k0 : (Int × Int × Int × (List Int)) → Option Ans) : Option Ans := Fg_coder_begin fuel (F_coder_clone fuel) (F_coder_chances fuel) x0 x1 k0
abbrev YF101 : Type := (Int) → ((List Int)) → ((Int × Int × Int × (List Int)) → Option Ans) → Option Ans
theorem F101_eqg (fuel : Nat) (f148 : YF148) (f149 : YF149) (x0 : Int) (x1 : (List Int)) (k : Ev.Cont) : evalFn tab (Gg101 f148 f149) (J101 fuel) kp101 fuel Try.f101 [.agg [.int .i64 x0, .sl (.int .i64) x1]] [] k = Fg_coder_begin fuel f148 f149 x0 x1 (fun r => match r with | (r0, r1, r2, r3) => k (.agg (.int .i64 r0 :: .own 0 :: ctb (.int .u64 r1 :: .int .u64 r2 :: [])), [.vec 3 (.int .i64) r3 true])) := by
  kernel_rfl
theorem hG101 (fuel : Nat) : GOK Try.prog (G101 fuel) :=
  gok_cons ⟨ok148 fuel, enters_of Try.func148 (by kernel_rfl) rfl⟩ <|
  gok_cons ⟨ok149 fuel, enters_of Try.func149 (by kernel_rfl) rfl⟩ <|
  gok_nil
theorem fok101 (fuel : Nat) : FnOK Try.prog 101 (evalFn tab (G101 fuel) (J101 fuel) kp101 fuel Try.f101) :=
  fn_ok tab_ok (hG101 fuel) mixed Try.func101 (c := (Try.f101.body).getD .skip) rfl (fun q hq => by
    rw [(by kernel_rfl : obl (J101 fuel) ((Try.f101.body).getD .skip) = [])] at hq
    cases hq)
noncomputable def spg101 (F : YF101) : Ev.Spec := fun args objs k => match args, objs with
 | [.agg [.int .i64 x0, .sl (.int .i64) x1]], [] => bif true then F x0 x1 (fun r => match r with | (r0, r1, r2, r3) => k (.agg (.int .i64 r0 :: .own 0 :: ctb (.int .u64 r1 :: .int .u64 r2 :: [])), [.vec 3 (.int .i64) r3 true])) else none
 | _, _ => none
noncomputable def spec101 (fuel : Nat) : Ev.Spec := spg101 (F_coder_begin fuel)
theorem ok101 (fuel : Nat) : FnOK Try.prog 101 (spec101 fuel) := by
  intro args objs kk r h
  unfold spec101 spg101 at h
  split at h
  · skip
    obtain ⟨hb, h⟩ := cond_some' h
    simp only [Bool.and_eq_true, Nat.beq_eq, decide_eq_true_eq] at hb
    clear hb
    exact fok101 fuel _ _ kk r ((F101_eqg fuel (F_coder_clone fuel) (F_coder_chances fuel) _ _ kk).trans h)
  · cases h
end Go.Proofs.Ytipdidpalcmlhaa

set_option linter.unusedVariables false
set_option linter.unusedSimpArgs false
set_option maxRecDepth 100000
set_option maxHeartbeats 2000000
namespace Go.Proofs.Ytipdidpalcmlhaa
open Go Ev
def kp55 (i : Nat) : Option (List Nat) := Ev.look i [(5, [6, 17]), (100000, [6]), (400000, [4, 5]), (600000, [])]
noncomputable def Gg55 (f100 : YF100) (f101 : YF101) (f112_40a : YF112_40a) (f : Nat) : Option Ev.Spec := Ev.look f [(100, spg100 f100), (101, spg101 f101), (112, spg112_40a f112_40a)]
noncomputable def G55 (fuel : Nat) : Nat → Option Ev.Spec := Gg55 (F_coder_Valid fuel) (F_coder_begin fuel) (F_coder_Decoder_shift_40a fuel)
noncomputable def Sg_coder_NewDecoder_0 (fuel : Nat) (f100 : YF100) (f101 : YF101) (f112_40a : YF112_40a) (x0 x1 : Int) (x2 x3 : Int) (x4 x5 x6 : Int) (x7 x8 : Bool) (x9 x10 : (List Int)) (c : (Int × Int × Int × Int × Int × Int × Int × Bool × Bool × (List Int) × (List Int)) → Option Ans) (B : (Int × Int × Int × Int × Int × Int × Bool × Bool × (List Int) × (List Int) → Option Ans)) : Option Ans := match B with
 | b =>
  bif decide (x0 < (4 : Int)) then
  (f112_40a (x1) (x2) (x3) (x4) (x5) (x6) (x7) (x8) (x9) (x10)
  (fun (y3_0, y3_1, y3_2, y3_3, y3_4, y3_5, y3_6, y3_7, y3_8, y3_9) =>
  c (IntKind.i64.wrap (x0 + (1 : Int)), y3_0, y3_1, y3_2, y3_3, y3_4, y3_5, y3_6, y3_7, y3_8, y3_9)))
  else
  b (x1, x2, x3, x4, x5, x6, x7, x8, x9, x10)
noncomputable def S_coder_NewDecoder_0 (fuel : Nat) (v : Int × Int × Int × Int × Int × Int × Int × Bool × Bool × (List Int) × (List Int)) (c : (Int × Int × Int × Int × Int × Int × Int × Bool × Bool × (List Int) × (List Int)) → Option Ans) (B : (Int × Int × Int × Int × Int × Int × Bool × Bool × (List Int) × (List Int) → Option Ans)) : Option Ans := match v with
 | (x0, x1, x2, x3, x4, x5, x6, x7, x8, x9, x10) => Sg_coder_NewDecoder_0 fuel (F_coder_Valid fuel) (F_coder_begin fuel) (F_coder_Decoder_shift_40a fuel) x0 x1 x2 x3 x4 x5 x6 x7 x8 x9 x10 c B
noncomputable def L_coder_NewDecoder_0 (fuel : Nat) (v : Int × Int × Int × Int × Int × Int × Int × Bool × Bool × (List Int) × (List Int)) (b : (Int × Int × Int × Int × Int × Int × Bool × Bool × (List Int) × (List Int) → Option Ans)) : Option Ans := iter (S_coder_NewDecoder_0 fuel) fuel v b
noncomputable def J55_0 (fuel : Nat) (i : Nat) : Option Ev.Blk := Ev.look i []
noncomputable def T55_0 (v : Int × Int × Int × Int × Int × Int × Int × Bool × Bool × (List Int) × (List Int)) : Ev.St := match v with | (x0, x1, x2, x3, x4, x5, x6, x7, x8, x9, x10) => ⟨[(6, .c (.ptr 0 0)), (17, .c (.int .i64 x0))], [(0, .cells 163 (.int .i64 x1 :: .own 1 :: ctb (.int .u64 x2 :: .int .u64 x3 :: .own 2 :: .int .i64 x4 :: .int .u64 x5 :: .int .i64 x6 :: .bool x7 :: .bool x8 :: []))), (1, .vec 3 (.int .i64) x9 true), (2, .vec 5 (.int .u8) x10 true)], 3, 0⟩
noncomputable def E55_0 (K : Ev.Ex → Ev.St → Option Ans) : (Int × Int × Int × Int × Int × Int × Bool × Bool × (List Int) × (List Int) → Option Ans) := (fun v => match v with | (x0, x1, x2, x3, x4, x5, x6, x7, x8, x9) => K .normal ⟨[(6, .c (.ptr 0 0))], [(0, .cells 163 (.int .i64 x0 :: .own 1 :: ctb (.int .u64 x1 :: .int .u64 x2 :: .own 2 :: .int .i64 x3 :: .int .u64 x4 :: .int .i64 x5 :: .bool x6 :: .bool x7 :: []))), (1, .vec 3 (.int .i64) x8 true), (2, .vec 5 (.int .u8) x9 true)], 3, 0⟩)
theorem S55_0_okg (fuel : Nat) (f100 : YF100) (f101 : YF101) (f112_40a : YF112_40a) (R : Ev.St → Option Ans) (K : Ev.Ex → Ev.St → Option Ans) (x0 x1 : Int) (x2 x3 : Int) (x4 x5 x6 : Int) (x7 x8 : Bool) (x9 x10 : (List Int)) : evalCode tab (Gg55 f100 f101 f112_40a) (J55_0 fuel) kp55 fuel (bodyOf 0 Try.f55) (T55_0 (x0, x1, x2, x3, x4, x5, x6, x7, x8, x9, x10)) (lc kp55 5 0 R K) = Sg_coder_NewDecoder_0 fuel f100 f101 f112_40a x0 x1 x2 x3 x4 x5 x6 x7 x8 x9 x10 (fun v => R (T55_0 v)) (E55_0 K) := by
  kernel_rfl
noncomputable def B55_0 (fuel : Nat) : Ev.Blk := fun st K => match canonO (kp55 5) st with
 | some s => (match s with
 | ⟨[(q0, .c (.ptr q1 q2)), (q3, .c (.int .i64 x0))], [(q4, .cells q5 cs0), (q6, .vec q7 (.int .i64) x9 true), (q8, .vec q9 (.int .u8) x10 true)], q10, q11⟩ => (match splitRun 2 ctn cs0 with | some ([.int .i64 x1, .own q12], [.int .u64 x2, .int .u64 x3, .own q13, .int .i64 x4, .int .u64 x5, .int .i64 x6, .bool x7, .bool x8]) => bif Nat.beq q0 6 && Nat.beq q1 0 && Nat.beq q2 0 && Nat.beq q3 17 && Nat.beq q4 0 && Nat.beq q5 163 && Nat.beq q6 1 && Nat.beq q7 3 && Nat.beq q8 2 && Nat.beq q9 5 && Nat.beq q10 3 && Nat.beq q11 0 && Nat.beq q12 1 && Nat.beq q13 2 then iter (S_coder_NewDecoder_0 fuel) fuel (x0, x1, x2, x3, x4, x5, x6, x7, x8, x9, x10) (E55_0 K) else none | _ => none)
 | _ => none)
 | none => none
theorem B55_0_ok (fuel : Nat) (st : Ev.St) (K : Ev.Ex → Ev.St → Option Ans) (r : Ans) (h : B55_0 fuel st K = some r) : evalCode tab (G55 fuel) (J55_0 fuel) kp55 fuel (.block 0 (.loop (bodyOf 0 Try.f55))) st K = some r := by
  unfold B55_0 at h
  split at h
  · rename_i s hs
    split at h
    · skip
      split at h
      rotate_left 1
      · cases h
      rename_i hsp
      have esp := splitRun_eq hsp
      subst esp
      obtain ⟨hb, h⟩ := cond_some' h
      simp only [Bool.and_eq_true, Nat.beq_eq, decide_eq_true_eq] at hb
      obtain ⟨⟨⟨⟨⟨⟨⟨⟨⟨⟨⟨⟨⟨rfl, rfl⟩, rfl⟩, rfl⟩, rfl⟩, rfl⟩, rfl⟩, rfl⟩, rfl⟩, rfl⟩, rfl⟩, rfl⟩, rfl⟩, rfl⟩ := hb
      exact blk_loop (S := T55_0) (ks := E55_0) (step := S_coder_NewDecoder_0 fuel) (v := (_, _, _, _, _, _, _, _, _, _, _)) (by kernel_rfl) (by kernel_rfl) (fun R K v => by obtain ⟨x0, x1, x2, x3, x4, x5, x6, x7, x8, x9, x10⟩ := v; exact S55_0_okg fuel (F_coder_Valid fuel) (F_coder_begin fuel) (F_coder_Decoder_shift_40a fuel) R K x0 x1 x2 x3 x4 x5 x6 x7 x8 x9 x10) hs h
    · cases h
  · cases h
noncomputable def J55 (fuel : Nat) (i : Nat) : Option Ev.Blk := Ev.look i [(100000, B55_0 fuel)]
noncomputable def Fg_coder_NewDecoder (fuel : Nat) (f100 : YF100) (f101 : YF101) (f112_40a : YF112_40a) (x0 : Int) (x1 x2 : (List Int)) (k0 : (Int) → Option Ans) (k1 : (Int × Int × Int × Int × Int × Int × Int × Bool × Bool × (List Int) × (List Int)) → Option Ans) : Option Ans :=
  (f100 (x0) (x1)
  (fun y2 =>
  bif !y2 then
  k0 ((10 : Int))
  else
  (f101 (x0) (x1)
  (fun (y7_0, y7_1, y7_2, y7_3) =>
  bif decide (((0 : Nat) + x2.length) * (1 : Nat) ≤ (140737488355328 : Nat) ∧ (0 : Nat) + x2.length ≤ (140737488355328 : Nat)) then
  (L_coder_NewDecoder_0 fuel ((0 : Int), y7_0, y7_1, y7_2, (0 : Int), (0 : Int), (0 : Int), false, true, y7_3, [] ++ x2)
  (fun (b0_0, b0_1, b0_2, b0_3, b0_4, b0_5, b0_6, b0_7, b0_8, b0_9) =>
  k1 ((0 : Int), b0_0, b0_1, b0_2, b0_3, b0_4, b0_5, b0_6, b0_7, b0_8, b0_9)))
  else none))))
noncomputable def F_coder_NewDecoder (fuel : Nat) (x0 : Int) (x1 x2 : (List Int)) (k0 : (Int) → Option Ans) (k1 : (Int × Int × Int × Int × Int × Int × Int × Bool × Bool × (List Int) × (List Int)) → Option Ans) : Option Ans := Fg_coder_NewDecoder fuel (F_coder_Valid fuel) (F_coder_begin fuel) (F_coder_Decoder_shift_40a fuel) x0 x1 x2 k0 k1
abbrev YF55 : Type := (Int) → ((List Int)) → ((List Int)) → ((Int) → Option Ans) → ((Int × Int × Int × Int × Int × Int × Int × Bool × Bool × (List Int) × (List Int)) → Option Ans) → Option Ans
theorem F55_eqg (fuel : Nat) (f100 : YF100) (f101 : YF101) (f112_40a : YF112_40a) (x0 : Int) (x1 x2 : (List Int)) (k : Ev.Cont) : evalFn tab (Gg55 f100 f101 f112_40a) (J55 fuel) kp55 fuel Try.f55 [.agg [.int .i64 x0, .sl (.int .i64) x1], .c (.sl (.int .u8) x2)] [] k = Fg_coder_NewDecoder fuel f100 f101 f112_40a x0 x1 x2 (fun r => match r with | r0 => k (.tup [(false, [.nilptr]), (false, [.int .i64 r0])], [])) (fun r => match r with | (r0, r1, r2, r3, r4, r5, r6, r7, r8, r9, r10) => k (.tup [(false, [.ptr 0 0]), (false, [.int .i64 r0])], [.cells 163 (.int .i64 r1 :: .own 1 :: ctb (.int .u64 r2 :: .int .u64 r3 :: .own 2 :: .int .i64 r4 :: .int .u64 r5 :: .int .i64 r6 :: .bool r7 :: .bool r8 :: [])), .vec 3 (.int .i64) r9 true, .vec 5 (.int .u8) r10 true])) := by
  kernel_rfl
theorem hG55 (fuel : Nat) : GOK Try.prog (G55 fuel) :=
  gok_cons ⟨ok100 fuel, enters_of Try.func100 (by kernel_rfl) rfl⟩ <|
  gok_cons ⟨ok101 fuel, enters_of Try.func101 (by kernel_rfl) rfl⟩ <|
  gok_cons ⟨ok112_40a fuel, enters_of Try.func112 (by kernel_rfl) rfl⟩ <|
  gok_nil
theorem B55_0_blk (fuel : Nat) : BlkOK Try.prog Try.f55.ntmps (.block 0 (.loop (bodyOf 0 Try.f55))) (B55_0 fuel) :=
  blk_of (blk_of_code tab_ok (hG55 fuel) mixed (J := J55_0 fuel) (kp := kp55) (fuel := fuel) (by kernel_rfl) (fun q hq => by
    rw [(by kernel_rfl : obl (J55_0 fuel) (.block 0 (.loop (bodyOf 0 Try.f55))) = [])] at hq
    cases hq)) (B55_0_ok fuel)
theorem fok55 (fuel : Nat) : FnOK Try.prog 55 (evalFn tab (G55 fuel) (J55 fuel) kp55 fuel Try.f55) :=
  fn_ok tab_ok (hG55 fuel) mixed Try.func55 (c := (Try.f55.body).getD .skip) rfl (fun q hq => by
    rw [(by kernel_rfl : obl (J55 fuel) ((Try.f55.body).getD .skip) = [(.block 0 (.loop (bodyOf 0 Try.f55)), B55_0 fuel)])] at hq
    simp only [List.mem_cons, List.not_mem_nil, or_false] at hq
    subst hq
    · exact B55_0_blk fuel)
noncomputable def spg55 (F : YF55) : Ev.Spec := fun args objs k => match args, objs with
 | [.agg [.int .i64 x0, .sl (.int .i64) x1], .c (.sl (.int .u8) x2)], [] => bif true then F x0 x1 x2 (fun r => match r with | r0 => k (.tup [(false, [.nilptr]), (false, [.int .i64 r0])], [])) (fun r => match r with | (r0, r1, r2, r3, r4, r5, r6, r7, r8, r9, r10) => k (.tup [(false, [.ptr 0 0]), (false, [.int .i64 r0])], [.cells 163 (.int .i64 r1 :: .own 1 :: ctb (.int .u64 r2 :: .int .u64 r3 :: .own 2 :: .int .i64 r4 :: .int .u64 r5 :: .int .i64 r6 :: .bool r7 :: .bool r8 :: [])), .vec 3 (.int .i64) r9 true, .vec 5 (.int .u8) r10 true])) else none
 | _, _ => none
noncomputable def spec55 (fuel : Nat) : Ev.Spec := spg55 (F_coder_NewDecoder fuel)
theorem ok55 (fuel : Nat) : FnOK Try.prog 55 (spec55 fuel) := by
  intro args objs kk r h
  unfold spec55 spg55 at h
  split at h
  · skip
    obtain ⟨hb, h⟩ := cond_some' h
    simp only [Bool.and_eq_true, Nat.beq_eq, decide_eq_true_eq] at hb
    clear hb
    exact fok55 fuel _ _ kk r ((F55_eqg fuel (F_coder_Valid fuel) (F_coder_begin fuel) (F_coder_Decoder_shift_40a fuel) _ _ _ kk).trans h)
  · cases h
end Go.Proofs.Ytipdidpalcmlhaa

set_option linter.unusedVariables false
set_option linter.unusedSimpArgs false
set_option maxRecDepth 100000
set_option maxHeartbeats 2000000
namespace Go.Proofs.Ytipdidpalcmlhaa
open Go Ev
def kp173_40a (i : Nat) : Option (List Nat) := Ev.look i []
noncomputable def Gg173_40a (f : Nat) : Option Ev.Spec := Ev.look f []
noncomputable def G173_40a (fuel : Nat) : Nat → Option Ev.Spec := Gg173_40a
noncomputable def J173_40a (fuel : Nat) (i : Nat) : Option Ev.Blk := Ev.look i []
noncomputable def F_coder_Decoder_none_40a (fuel : Nat) (x0 x1 : Int) (x2 x3 : Int) (x4 x5 : Int) (x6 x7 : Bool) (x8 x9 : (List Int)) (k0 : (Bool × Int × Int × Int × Int × Int × Int × Bool × Bool × (List Int) × (List Int)) → Option Ans) : Option Ans :=
  k0 (!x7, x0, x1, x2, x3, x4, x5, x6, x7, x8, x9)
abbrev YF173_40a : Type := (Int) → (Int) → (Int) → (Int) → (Int) → (Int) → (Bool) → (Bool) → ((List Int)) → ((List Int)) → ((Bool × Int × Int × Int × Int × Int × Int × Bool × Bool × (List Int) × (List Int)) → Option Ans) → Option Ans
theorem F173_40a_eq (fuel : Nat) (x0 x1 : Int) (x2 x3 : Int) (x4 x5 : Int) (x6 x7 : Bool) (x8 x9 : (List Int)) (k : Ev.Cont) : evalFn tab (G173_40a fuel) (J173_40a fuel) kp173_40a fuel Try.f173 [.c (.ptr 0 0)] [.cells 163 (.int .i64 x0 :: .own 1 :: ctb (.int .u64 x1 :: .int .u64 x2 :: .own 2 :: .int .i64 x3 :: .int .u64 x4 :: .int .i64 x5 :: .bool x6 :: .bool x7 :: [])), .vec 3 (.int .i64) x8 false, .vec 5 (.int .u8) x9 false] k = F_coder_Decoder_none_40a fuel x0 x1 x2 x3 x4 x5 x6 x7 x8 x9 (fun r => match r with | (r0, r1, r2, r3, r4, r5, r6, r7, r8, r9, r10) => k (.c (.bool r0), [.cells 163 (.int .i64 r1 :: .own 1 :: ctb (.int .u64 r2 :: .int .u64 r3 :: .own 2 :: .int .i64 r4 :: .int .u64 r5 :: .int .i64 r6 :: .bool r7 :: .bool r8 :: [])), .vec 3 (.int .i64) r9 false, .vec 5 (.int .u8) r10 false])) := by
  kernel_rfl
theorem hG173_40a (fuel : Nat) : GOK Try.prog (G173_40a fuel) :=
  gok_nil
theorem fok173_40a (fuel : Nat) : FnOK Try.prog 173 (evalFn tab (G173_40a fuel) (J173_40a fuel) kp173_40a fuel Try.f173) :=
  fn_ok tab_ok (hG173_40a fuel) mixed Try.func173 (c := (Try.f173.body).getD .skip) rfl (fun q hq => by
    rw [(by kernel_rfl : obl (J173_40a fuel) ((Try.f173.body).getD .skip) = [])] at hq
    cases hq)
noncomputable def spg173_40a (F : YF173_40a) : Ev.Spec := fun args objs k => match args, objs with
 | [.c (.ptr q0 q1)], [.cells q2 cs0, .vec q3 (.int .i64) x8 false, .vec q4 (.int .u8) x9 false] => (match splitRun 2 ctn cs0 with | some ([.int .i64 x0, .own q5], [.int .u64 x1, .int .u64 x2, .own q6, .int .i64 x3, .int .u64 x4, .int .i64 x5, .bool x6, .bool x7]) => bif Nat.beq q0 0 && Nat.beq q1 0 && Nat.beq q2 163 && Nat.beq q3 3 && Nat.beq q4 5 && Nat.beq q5 1 && Nat.beq q6 2 then F x0 x1 x2 x3 x4 x5 x6 x7 x8 x9 (fun r => match r with | (r0, r1, r2, r3, r4, r5, r6, r7, r8, r9, r10) => k (.c (.bool r0), [.cells 163 (.int .i64 r1 :: .own 1 :: ctb (.int .u64 r2 :: .int .u64 r3 :: .own 2 :: .int .i64 r4 :: .int .u64 r5 :: .int .i64 r6 :: .bool r7 :: .bool r8 :: [])), .vec 3 (.int .i64) r9 false, .vec 5 (.int .u8) r10 false])) else none | _ => none)
 | _, _ => none
noncomputable def spec173_40a (fuel : Nat) : Ev.Spec := spg173_40a (F_coder_Decoder_none_40a fuel)
theorem ok173_40a (fuel : Nat) : FnOK Try.prog 173 (spec173_40a fuel) := by
  intro args objs kk r h
  unfold spec173_40a spg173_40a at h
  split at h
  · skip
    split at h
    rotate_left 1
    · cases h
    rename_i hsp
    have esp := splitRun_eq hsp
    subst esp
    obtain ⟨hb, h⟩ := cond_some' h
    simp only [Bool.and_eq_true, Nat.beq_eq, decide_eq_true_eq] at hb
    obtain ⟨⟨⟨⟨⟨⟨rfl, rfl⟩, rfl⟩, rfl⟩, rfl⟩, rfl⟩, rfl⟩ := hb
    exact fok173_40a fuel _ _ kk r ((F173_40a_eq fuel _ _ _ _ _ _ _ _ _ _ kk).trans h)
  · cases h
end Go.Proofs.Ytipdidpalcmlhaa

set_option linter.unusedVariables false
set_option linter.unusedSimpArgs false
set_option maxRecDepth 100000
set_option maxHeartbeats 2000000
namespace Go.Proofs.Ytipdidpalcmlhaa
open Go Ev
def kp153_40a (i : Nat) : Option (List Nat) := Ev.look i []
noncomputable def Gg153_40a (f : Nat) : Option Ev.Spec := Ev.look f []
noncomputable def G153_40a (fuel : Nat) : Nat → Option Ev.Spec := Gg153_40a
noncomputable def J153_40a (fuel : Nat) (i : Nat) : Option Ev.Blk := Ev.look i []
noncomputable def F_coder_interval_lose_40a (fuel : Nat) (x0 x1 : Int) (x2 x3 : Int) (x4 x5 : Int) (x6 x7 : Bool) (x8 x9 : (List Int)) (k0 : (Int × Int × Int × Int × Int × Int × Int × Bool × Bool × (List Int) × (List Int)) → Option Ans) : Option Ans :=
  k0 (IntKind.u8.wrap (Ev.ishr IntKind.u64 x1 (24 : Int)), x0, Ev.iand IntKind.u64 (Ev.ishl IntKind.u64 x1 (8 : Int)) (4294967295 : Int), Ev.ior IntKind.u64 (Ev.iand IntKind.u64 (Ev.ishl IntKind.u64 x2 (8 : Int)) (4294967295 : Int)) (255 : Int), x3, x4, x5, x6, x7, x8, x9)
abbrev YF153_40a : Type := (Int) → (Int) → (Int) → (Int) → (Int) → (Int) → (Bool) → (Bool) → ((List Int)) → ((List Int)) → ((Int × Int × Int × Int × Int × Int × Int × Bool × Bool × (List Int) × (List Int)) → Option Ans) → Option Ans
theorem F153_40a_eq (fuel : Nat) (x0 x1 : Int) (x2 x3 : Int) (x4 x5 : Int) (x6 x7 : Bool) (x8 x9 : (List Int)) (k : Ev.Cont) : evalFn tab (G153_40a fuel) (J153_40a fuel) kp153_40a fuel Try.f153 [.c (.ptr 0 0)] [.cells 163 (.int .i64 x0 :: .own 1 :: ctb (.int .u64 x1 :: .int .u64 x2 :: .own 2 :: .int .i64 x3 :: .int .u64 x4 :: .int .i64 x5 :: .bool x6 :: .bool x7 :: [])), .vec 3 (.int .i64) x8 false, .vec 5 (.int .u8) x9 false] k = F_coder_interval_lose_40a fuel x0 x1 x2 x3 x4 x5 x6 x7 x8 x9 (fun r => match r with | (r0, r1, r2, r3, r4, r5, r6, r7, r8, r9, r10) => k (.c (.int .u8 r0), [.cells 163 (.int .i64 r1 :: .own 1 :: ctb (.int .u64 r2 :: .int .u64 r3 :: .own 2 :: .int .i64 r4 :: .int .u64 r5 :: .int .i64 r6 :: .bool r7 :: .bool r8 :: [])), .vec 3 (.int .i64) r9 false, .vec 5 (.int .u8) r10 false])) := by
  kernel_rfl
theorem hG153_40a (fuel : Nat) : GOK Try.prog (G153_40a fuel) :=
  gok_nil
theorem fok153_40a (fuel : Nat) : FnOK Try.prog 153 (evalFn tab (G153_40a fuel) (J153_40a fuel) kp153_40a fuel Try.f153) :=
  fn_ok tab_ok (hG153_40a fuel) mixed Try.func153 (c := (Try.f153.body).getD .skip) rfl (fun q hq => by
    rw [(by kernel_rfl : obl (J153_40a fuel) ((Try.f153.body).getD .skip) = [])] at hq
    cases hq)
noncomputable def spg153_40a (F : YF153_40a) : Ev.Spec := fun args objs k => match args, objs with
 | [.c (.ptr q0 q1)], [.cells q2 cs0, .vec q3 (.int .i64) x8 false, .vec q4 (.int .u8) x9 false] => (match splitRun 2 ctn cs0 with | some ([.int .i64 x0, .own q5], [.int .u64 x1, .int .u64 x2, .own q6, .int .i64 x3, .int .u64 x4, .int .i64 x5, .bool x6, .bool x7]) => bif Nat.beq q0 0 && Nat.beq q1 0 && Nat.beq q2 163 && Nat.beq q3 3 && Nat.beq q4 5 && Nat.beq q5 1 && Nat.beq q6 2 then F x0 x1 x2 x3 x4 x5 x6 x7 x8 x9 (fun r => match r with | (r0, r1, r2, r3, r4, r5, r6, r7, r8, r9, r10) => k (.c (.int .u8 r0), [.cells 163 (.int .i64 r1 :: .own 1 :: ctb (.int .u64 r2 :: .int .u64 r3 :: .own 2 :: .int .i64 r4 :: .int .u64 r5 :: .int .i64 r6 :: .bool r7 :: .bool r8 :: [])), .vec 3 (.int .i64) r9 false, .vec 5 (.int .u8) r10 false])) else none | _ => none)
 | _, _ => none
noncomputable def spec153_40a (fuel : Nat) : Ev.Spec := spg153_40a (F_coder_interval_lose_40a fuel)
theorem ok153_40a (fuel : Nat) : FnOK Try.prog 153 (spec153_40a fuel) := by
  intro args objs kk r h
  unfold spec153_40a spg153_40a at h
  split at h
  · skip
    split at h
    rotate_left 1
    · cases h
    rename_i hsp
    have esp := splitRun_eq hsp
    subst esp
    obtain ⟨hb, h⟩ := cond_some' h
    simp only [Bool.and_eq_true, Nat.beq_eq, decide_eq_true_eq] at hb
    obtain ⟨⟨⟨⟨⟨⟨rfl, rfl⟩, rfl⟩, rfl⟩, rfl⟩, rfl⟩, rfl⟩ := hb
    exact fok153_40a fuel _ _ kk r ((F153_40a_eq fuel _ _ _ _ _ _ _ _ _ _ kk).trans h)
  · cases h
end Go.Proofs.Ytipdidpalcmlhaa

