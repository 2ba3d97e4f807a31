/- What the functions that TonePatterns reaches do: their typed texts, each with the proof that the machine does it. No condition. -/
import Derived.Test.YtipdidpalcmlhaaEvX
set_option linter.unusedVariables false
set_option linter.unusedSimpArgs false
namespace Go.Proofs.Ytipdidpalcmlhaa
open Go Ev
def ctb (r : List SC) : List SC := .int .i64 2048 :: .int .i64 1792 :: .int .i64 1568 :: .int .i64 1372 :: .int .i64 1201 :: .int .i64 1051 :: .int .i64 920 :: .int .i64 805 :: .int .i64 705 :: .int .i64 617 :: .int .i64 540 :: .int .i64 473 :: .int .i64 414 :: .int .i64 363 :: .int .i64 318 :: .int .i64 279 :: .int .i64 245 :: .int .i64 215 :: .int .i64 189 :: .int .i64 166 :: .int .i64 146 :: .int .i64 128 :: .int .i64 112 :: .int .i64 98 :: .int .i64 86 :: .int .i64 76 :: .int .i64 67 :: .int .i64 59 :: .int .i64 52 :: .int .i64 46 :: .int .i64 41 :: .int .i64 36 :: r
def ctn : List (IntKind × Int) := [(.i64, 2048), (.i64, 1792), (.i64, 1568), (.i64, 1372), (.i64, 1201), (.i64, 1051), (.i64, 920), (.i64, 805), (.i64, 705), (.i64, 617), (.i64, 540), (.i64, 473), (.i64, 414), (.i64, 363), (.i64, 318), (.i64, 279), (.i64, 245), (.i64, 215), (.i64, 189), (.i64, 166), (.i64, 146), (.i64, 128), (.i64, 112), (.i64, 98), (.i64, 86), (.i64, 76), (.i64, 67), (.i64, 59), (.i64, 52), (.i64, 46), (.i64, 41), (.i64, 36)]
end Go.Proofs.Ytipdidpalcmlhaa
set_option linter.unusedVariables false
set_option linter.unusedSimpArgs false
set_option maxRecDepth 100000
set_option maxHeartbeats 2000000
namespace Go.Proofs.Ytipdidpalcmlhaa
open Go Ev
def kp63_e21 (i : Nat) : Option (List Nat) := Ev.look i []
noncomputable def Gg63_e21 (f : Nat) : Option Ev.Spec := Ev.look f []
noncomputable def G63_e21 (fuel : Nat) : Nat → Option Ev.Spec := Gg63_e21
noncomputable def J63_e21 (fuel : Nat) (i : Nat) : Option Ev.Blk := Ev.look i []
noncomputable def F_tone_Planes_1_e21 (fuel : Nat) (x0 x1 : Int) (k0 : (Bool × Int) → Option Ans) : Option Ans :=
  bif decide (x0 < (0 : Int)) then
  k0 (true, x1)
  else
  bif decide (x1 < (0 : Int)) then
  none
  else
  k0 (decide (x0 ≥ Ev.ishl IntKind.i64 (1 : Int) x1), x1)
abbrev YF63_e21 : Type := (Int) → (Int) → ((Bool × Int) → Option Ans) → Option Ans
theorem F63_e21_eq (fuel : Nat) (x0 x1 : Int) (k : Ev.Cont) : evalFn tab (G63_e21 fuel) (J63_e21 fuel) kp63_e21 fuel Try.f63 [.c (.int .i64 x0), .c (.ptr 0 0)] [.cells 3 [.int .i64 x1]] k = F_tone_Planes_1_e21 fuel x0 x1 (fun r => match r with | (r0, r1) => k (.c (.bool r0), [.cells 3 [.int .i64 r1]])) := by
  kernel_rfl
theorem hG63_e21 (fuel : Nat) : GOK Try.prog (G63_e21 fuel) :=
  gok_nil
theorem fok63_e21 (fuel : Nat) : FnOK Try.prog 63 (evalFn tab (G63_e21 fuel) (J63_e21 fuel) kp63_e21 fuel Try.f63) :=
  fn_ok tab_ok (hG63_e21 fuel) mixed Try.func63 (c := (Try.f63.body).getD .skip) rfl (fun q hq => by
    rw [(by kernel_rfl : obl (J63_e21 fuel) ((Try.f63.body).getD .skip) = [])] at hq
    cases hq)
noncomputable def spg63_e21 (F : YF63_e21) : Ev.Spec := fun args objs k => match args, objs with
 | [.c (.int .i64 x0), .c (.ptr q0 q1)], [.cells q2 [.int .i64 x1]] => bif Nat.beq q0 0 && Nat.beq q1 0 && Nat.beq q2 3 then F x0 x1 (fun r => match r with | (r0, r1) => k (.c (.bool r0), [.cells 3 [.int .i64 r1]])) else none
 | _, _ => none
noncomputable def spec63_e21 (fuel : Nat) : Ev.Spec := spg63_e21 (F_tone_Planes_1_e21 fuel)
theorem ok63_e21 (fuel : Nat) : FnOK Try.prog 63 (spec63_e21 fuel) := by
  intro args objs kk r h
  unfold spec63_e21 spg63_e21 at h
  split at h
  · skip
    obtain ⟨hb, h⟩ := cond_some' h
    simp only [Bool.and_eq_true, Nat.beq_eq, decide_eq_true_eq] at hb
    obtain ⟨⟨rfl, rfl⟩, rfl⟩ := hb
    exact fok63_e21 fuel _ _ kk r ((F63_e21_eq fuel _ _ kk).trans h)
  · cases h
end Go.Proofs.Ytipdidpalcmlhaa

set_option linter.unusedVariables false
set_option linter.unusedSimpArgs false
set_option maxRecDepth 100000
set_option maxHeartbeats 2000000
namespace Go.Proofs.Ytipdidpalcmlhaa
open Go Ev
def kp117_69c (i : Nat) : Option (List Nat) := Ev.look i [(2, [0, 1, 7, 8]), (100000, []), (400000, [4])]
noncomputable def Gg117_69c (f63_e21 : YF63_e21) (f : Nat) : Option Ev.Spec := Ev.look f [(63, spg63_e21 f63_e21)]
noncomputable def G117_69c (fuel : Nat) : Nat → Option Ev.Spec := Gg117_69c (F_tone_Planes_1_e21 fuel)
noncomputable def Sg_slices_IndexFunc_int_int_69c_0 (fuel : Nat) (f63_e21 : YF63_e21) (x0 : (List Int)) (x1 x2 x3 : Int) (c : ((List Int) × Int × Int × Int) → Option Ans) (B : (Int × Int → Option Ans) × (Int → Option Ans)) : Option Ans := match B with
 | (ret, b) =>
  bif decide (x2 < x1) then
  bif decide ((0 : Int) ≤ x2 ∧ x2 < (↑x0.length : Int)) then
  (f63_e21 (x0.getD x2.toNat (0 : Int)) (x3)
  (fun (y4_0, y4_1) =>
  bif y4_0 then
  ret (x2, y4_1)
  else
  c (x0, x1, IntKind.i64.wrap (x2 + (1 : Int)), y4_1)))
  else none
  else
  b x3
noncomputable def S_slices_IndexFunc_int_int_69c_0 (fuel : Nat) (v : (List Int) × Int × Int × Int) (c : ((List Int) × Int × Int × Int) → Option Ans) (B : (Int × Int → Option Ans) × (Int → Option Ans)) : Option Ans := match v with
 | (x0, x1, x2, x3) => Sg_slices_IndexFunc_int_int_69c_0 fuel (F_tone_Planes_1_e21 fuel) x0 x1 x2 x3 c B
noncomputable def L_slices_IndexFunc_int_int_69c_0 (fuel : Nat) (v : (List Int) × Int × Int × Int) (ret : (Int × Int → Option Ans)) (b : (Int → Option Ans)) : Option Ans := iter (S_slices_IndexFunc_int_int_69c_0 fuel) fuel v (ret, b)
noncomputable def J117_69c_0 (fuel : Nat) (i : Nat) : Option Ev.Blk := Ev.look i []
noncomputable def T117_69c_0 (v : (List Int) × Int × Int × Int) : Ev.St := match v with | (x0, x1, x2, x3) => ⟨[(0, .c (.sl (.int .i64) x0)), (1, .c (.clo 63 [0])), (7, .c (.int .i64 x1)), (8, .c (.int .i64 x2))], [(0, .cells 3 [.int .i64 x3])], 1, 1⟩
noncomputable def E117_69c_0 (K : Ev.Ex → Ev.St → Option Ans) : (Int × Int → Option Ans) × (Int → Option Ans) := ((fun v => match v with | (x0, x1) => K .ret ⟨[(4, .c (.int .i64 x0))], [(0, .cells 3 [.int .i64 x1])], 1, 1⟩), (fun v => match v with | x0 => K .normal ⟨[], [(0, .cells 3 [.int .i64 x0])], 1, 1⟩))
theorem S117_69c_0_okg (fuel : Nat) (f63_e21 : YF63_e21) (R : Ev.St → Option Ans) (K : Ev.Ex → Ev.St → Option Ans) (x0 : (List Int)) (x1 x2 x3 : Int) : evalCode tab (Gg117_69c f63_e21) (J117_69c_0 fuel) kp117_69c fuel (bodyOf 0 Try.f117) (T117_69c_0 (x0, x1, x2, x3)) (lc kp117_69c 2 0 R K) = Sg_slices_IndexFunc_int_int_69c_0 fuel f63_e21 x0 x1 x2 x3 (fun v => R (T117_69c_0 v)) (E117_69c_0 K) := by
  kernel_rfl
noncomputable def B117_69c_0 (fuel : Nat) : Ev.Blk := fun st K => match canonO (kp117_69c 2) st with
 | some s => (match s with
 | ⟨[(q0, .c (.sl (.int .i64) x0)), (q1, .c (.clo q2 [q3])), (q4, .c (.int .i64 x1)), (q5, .c (.int .i64 x2))], [(q6, .cells q7 [.int .i64 x3])], q8, q9⟩ => bif Nat.beq q0 0 && Nat.beq q1 1 && Nat.beq q2 63 && Nat.beq q3 0 && Nat.beq q4 7 && Nat.beq q5 8 && Nat.beq q6 0 && Nat.beq q7 3 && Nat.beq q8 1 && Nat.beq q9 1 then iter (S_slices_IndexFunc_int_int_69c_0 fuel) fuel (x0, x1, x2, x3) (E117_69c_0 K) else none
 | _ => none)
 | none => none
theorem B117_69c_0_ok (fuel : Nat) (st : Ev.St) (K : Ev.Ex → Ev.St → Option Ans) (r : Ans) (h : B117_69c_0 fuel st K = some r) : evalCode tab (G117_69c fuel) (J117_69c_0 fuel) kp117_69c fuel (.block 0 (.loop (bodyOf 0 Try.f117))) st K = some r := by
  unfold B117_69c_0 at h
  split at h
  · rename_i s hs
    split at h
    · skip
      obtain ⟨hb, h⟩ := cond_some' h
      simp only [Bool.and_eq_true, Nat.beq_eq, decide_eq_true_eq] at hb
      obtain ⟨⟨⟨⟨⟨⟨⟨⟨⟨rfl, rfl⟩, rfl⟩, rfl⟩, rfl⟩, rfl⟩, rfl⟩, rfl⟩, rfl⟩, rfl⟩ := hb
      exact blk_loop (S := T117_69c_0) (ks := E117_69c_0) (step := S_slices_IndexFunc_int_int_69c_0 fuel) (v := (_, _, _, _)) (by kernel_rfl) (by kernel_rfl) (fun R K v => by obtain ⟨x0, x1, x2, x3⟩ := v; exact S117_69c_0_okg fuel (F_tone_Planes_1_e21 fuel) R K x0 x1 x2 x3) hs h
    · cases h
  · cases h
noncomputable def J117_69c (fuel : Nat) (i : Nat) : Option Ev.Blk := Ev.look i [(100000, B117_69c_0 fuel)]
noncomputable def Fg_slices_IndexFunc_int_int_69c (fuel : Nat) (f63_e21 : YF63_e21) (x0 : (List Int)) (x1 : Int) (k0 : (Int × Int) → Option Ans) : Option Ans :=
  (L_slices_IndexFunc_int_int_69c_0 fuel (x0, (↑x0.length : Int), (0 : Int), x1)
  (fun (ret0_0, ret0_1) =>
  k0 (ret0_0, ret0_1))
  (fun b0_0 =>
  k0 ((-1 : Int), b0_0)))
noncomputable def F_slices_IndexFunc_int_int_69c (fuel : Nat) (x0 : (List Int)) (x1 : Int) (k0 : (Int × Int) → Option Ans) : Option Ans := Fg_slices_IndexFunc_int_int_69c fuel (F_tone_Planes_1_e21 fuel) x0 x1 k0
abbrev YF117_69c : Type := ((List Int)) → (Int) → ((Int × Int) → Option Ans) → Option Ans
theorem F117_69c_eqg (fuel : Nat) (f63_e21 : YF63_e21) (x0 : (List Int)) (x1 : Int) (k : Ev.Cont) : evalFn tab (Gg117_69c f63_e21) (J117_69c fuel) kp117_69c fuel Try.f117 [.c (.sl (.int .i64) x0), .c (.clo 63 [0])] [.cells 3 [.int .i64 x1]] k = Fg_slices_IndexFunc_int_int_69c fuel f63_e21 x0 x1 (fun r => match r with | (r0, r1) => k (.c (.int .i64 r0), [.cells 3 [.int .i64 r1]])) := by
  kernel_rfl
theorem hG117_69c (fuel : Nat) : GOK Try.prog (G117_69c fuel) :=
  gok_cons ⟨ok63_e21 fuel, enters_of Try.func63 (by kernel_rfl) rfl⟩ <|
  gok_nil
theorem B117_69c_0_blk (fuel : Nat) : BlkOK Try.prog Try.f117.ntmps (.block 0 (.loop (bodyOf 0 Try.f117))) (B117_69c_0 fuel) :=
  blk_of (blk_of_code tab_ok (hG117_69c fuel) mixed (J := J117_69c_0 fuel) (kp := kp117_69c) (fuel := fuel) (by kernel_rfl) (fun q hq => by
    rw [(by kernel_rfl : obl (J117_69c_0 fuel) (.block 0 (.loop (bodyOf 0 Try.f117))) = [])] at hq
    cases hq)) (B117_69c_0_ok fuel)
theorem fok117_69c (fuel : Nat) : FnOK Try.prog 117 (evalFn tab (G117_69c fuel) (J117_69c fuel) kp117_69c fuel Try.f117) :=
  fn_ok tab_ok (hG117_69c fuel) mixed Try.func117 (c := (Try.f117.body).getD .skip) rfl (fun q hq => by
    rw [(by kernel_rfl : obl (J117_69c fuel) ((Try.f117.body).getD .skip) = [(.block 0 (.loop (bodyOf 0 Try.f117)), B117_69c_0 fuel)])] at hq
    simp only [List.mem_cons, List.not_mem_nil, or_false] at hq
    subst hq
    · exact B117_69c_0_blk fuel)
noncomputable def spg117_69c (F : YF117_69c) : Ev.Spec := fun args objs k => match args, objs with
 | [.c (.sl (.int .i64) x0), .c (.clo q0 [q1])], [.cells q2 [.int .i64 x1]] => bif Nat.beq q0 63 && Nat.beq q1 0 && Nat.beq q2 3 then F x0 x1 (fun r => match r with | (r0, r1) => k (.c (.int .i64 r0), [.cells 3 [.int .i64 r1]])) else none
 | _, _ => none
noncomputable def spec117_69c (fuel : Nat) : Ev.Spec := spg117_69c (F_slices_IndexFunc_int_int_69c fuel)
theorem ok117_69c (fuel : Nat) : FnOK Try.prog 117 (spec117_69c fuel) := by
  intro args objs kk r h
  unfold spec117_69c spg117_69c at h
  split at h
  · skip
    obtain ⟨hb, h⟩ := cond_some' h
    simp only [Bool.and_eq_true, Nat.beq_eq, decide_eq_true_eq] at hb
    obtain ⟨⟨rfl, rfl⟩, rfl⟩ := hb
    exact fok117_69c fuel _ _ kk r ((F117_69c_eqg fuel (F_tone_Planes_1_e21 fuel) _ _ kk).trans h)
  · cases h
end Go.Proofs.Ytipdidpalcmlhaa

set_option linter.unusedVariables false
set_option linter.unusedSimpArgs false
set_option maxRecDepth 100000
set_option maxHeartbeats 2000000
namespace Go.Proofs.Ytipdidpalcmlhaa
open Go Ev
def kp62_69c (i : Nat) : Option (List Nat) := Ev.look i []
noncomputable def Gg62_69c (f117_69c : YF117_69c) (f : Nat) : Option Ev.Spec := Ev.look f [(117, spg117_69c f117_69c)]
noncomputable def G62_69c (fuel : Nat) : Nat → Option Ev.Spec := Gg62_69c (F_slices_IndexFunc_int_int_69c fuel)
noncomputable def J62_69c (fuel : Nat) (i : Nat) : Option Ev.Blk := Ev.look i []
noncomputable def Fg_slices_ContainsFunc_int_int_69c (fuel : Nat) (f117_69c : YF117_69c) (x0 : (List Int)) (x1 : Int) (k0 : (Bool × Int) → Option Ans) : Option Ans :=
  (f117_69c (x0) (x1)
  (fun (y2_0, y2_1) =>
  k0 (decide (y2_0 ≥ (0 : Int)), y2_1)))
noncomputable def F_slices_ContainsFunc_int_int_69c (fuel : Nat) (x0 : (List Int)) (x1 : Int) (k0 : (Bool × Int) → Option Ans) : Option Ans := Fg_slices_ContainsFunc_int_int_69c fuel (F_slices_IndexFunc_int_int_69c fuel) x0 x1 k0
abbrev YF62_69c : Type := ((List Int)) → (Int) → ((Bool × Int) → Option Ans) → Option Ans
theorem F62_69c_eqg (fuel : Nat) (f117_69c : YF117_69c) (x0 : (List Int)) (x1 : Int) (k : Ev.Cont) : evalFn tab (Gg62_69c f117_69c) (J62_69c fuel) kp62_69c fuel Try.f62 [.c (.sl (.int .i64) x0), .c (.clo 63 [0])] [.cells 3 [.int .i64 x1]] k = Fg_slices_ContainsFunc_int_int_69c fuel f117_69c x0 x1 (fun r => match r with | (r0, r1) => k (.c (.bool r0), [.cells 3 [.int .i64 r1]])) := by
  kernel_rfl
theorem hG62_69c (fuel : Nat) : GOK Try.prog (G62_69c fuel) :=
  gok_cons ⟨ok117_69c fuel, enters_of Try.func117 (by kernel_rfl) rfl⟩ <|
  gok_nil
theorem fok62_69c (fuel : Nat) : FnOK Try.prog 62 (evalFn tab (G62_69c fuel) (J62_69c fuel) kp62_69c fuel Try.f62) :=
  fn_ok tab_ok (hG62_69c fuel) mixed Try.func62 (c := (Try.f62.body).getD .skip) rfl (fun q hq => by
    rw [(by kernel_rfl : obl (J62_69c fuel) ((Try.f62.body).getD .skip) = [])] at hq
    cases hq)
noncomputable def spg62_69c (F : YF62_69c) : Ev.Spec := fun args objs k => match args, objs with
 | [.c (.sl (.int .i64) x0), .c (.clo q0 [q1])], [.cells q2 [.int .i64 x1]] => bif Nat.beq q0 63 && Nat.beq q1 0 && Nat.beq q2 3 then F x0 x1 (fun r => match r with | (r0, r1) => k (.c (.bool r0), [.cells 3 [.int .i64 r1]])) else none
 | _, _ => none
noncomputable def spec62_69c (fuel : Nat) : Ev.Spec := spg62_69c (F_slices_ContainsFunc_int_int_69c fuel)
theorem ok62_69c (fuel : Nat) : FnOK Try.prog 62 (spec62_69c fuel) := by
  intro args objs kk r h
  unfold spec62_69c spg62_69c at h
  split at h
  · skip
    obtain ⟨hb, h⟩ := cond_some' h
    simp only [Bool.and_eq_true, Nat.beq_eq, decide_eq_true_eq] at hb
    obtain ⟨⟨rfl, rfl⟩, rfl⟩ := hb
    exact fok62_69c fuel _ _ kk r ((F62_69c_eqg fuel (F_slices_IndexFunc_int_int_69c fuel) _ _ kk).trans h)
  · cases h
end Go.Proofs.Ytipdidpalcmlhaa

set_option linter.unusedVariables false
set_option linter.unusedSimpArgs false
set_option maxRecDepth 100000
set_option maxHeartbeats 2000000
namespace Go.Proofs.Ytipdidpalcmlhaa
open Go Ev
def kp22 (i : Nat) : Option (List Nat) := Ev.look i [(5, [0, 6, 7]), (9, [0, 6, 7, 8, 28, 29, 30]), (100000, [6]), (100002, [0, 6, 7, 8]), (400000, [4, 5]), (400002, [4, 5])]
noncomputable def Gg22 (f62_69c : YF62_69c) (f : Nat) : Option Ev.Spec := Ev.look f [(62, spg62_69c f62_69c)]
noncomputable def G22 (fuel : Nat) : Nat → Option Ev.Spec := Gg22 (F_slices_ContainsFunc_int_int_69c fuel)
noncomputable def Sg_tone_Planes_2 (fuel : Nat) (f62_69c : YF62_69c) (x0 : (List Int)) (x1 : Int) (x2 : (List Int)) (x3 x4 : Int) (x5 : (List (List Int))) (x6 : (List Int)) (c : ((List Int) × Int × (List Int) × Int × Int × (List (List Int)) × (List Int)) → Option Ans) (B : ((List Int) × Int × (List (List Int)) × (List Int) → Option Ans)) : Option Ans := match B with
 | b =>
  bif decide (x4 < x3) then
  bif decide ((0 : Int) ≤ x4 ∧ x4 < (↑x2.length : Int)) then
  bif decide (x1 < (0 : Int)) then
  none
  else
  bif decide (IntKind.i64.wrap (x1 + (1 : Int)) < (0 : Int)) then
  none
  else
  bif decide ((x6.length + [IntKind.u8.wrap (Ev.iand IntKind.i64 (Ev.ixor IntKind.i64 (Ev.ishr IntKind.i64 (x2.getD x4.toNat (0 : Int)) x1) (Ev.ishr IntKind.i64 (x2.getD x4.toNat (0 : Int)) (IntKind.i64.wrap (x1 + (1 : Int))))) (1 : Int))].length) * (1 : Nat) ≤ (140737488355328 : Nat) ∧ x6.length + [IntKind.u8.wrap (Ev.iand IntKind.i64 (Ev.ixor IntKind.i64 (Ev.ishr IntKind.i64 (x2.getD x4.toNat (0 : Int)) x1) (Ev.ishr IntKind.i64 (x2.getD x4.toNat (0 : Int)) (IntKind.i64.wrap (x1 + (1 : Int))))) (1 : Int))].length ≤ (140737488355328 : Nat)) then
  c (x0, x1, x2, x3, IntKind.i64.wrap (x4 + (1 : Int)), x5, x6 ++ [IntKind.u8.wrap (Ev.iand IntKind.i64 (Ev.ixor IntKind.i64 (Ev.ishr IntKind.i64 (x2.getD x4.toNat (0 : Int)) x1) (Ev.ishr IntKind.i64 (x2.getD x4.toNat (0 : Int)) (IntKind.i64.wrap (x1 + (1 : Int))))) (1 : Int))])
  else none
  else none
  else
  b (x0, x1, x5, x6)
noncomputable def S_tone_Planes_2 (fuel : Nat) (v : (List Int) × Int × (List Int) × Int × Int × (List (List Int)) × (List Int)) (c : ((List Int) × Int × (List Int) × Int × Int × (List (List Int)) × (List Int)) → Option Ans) (B : ((List Int) × Int × (List (List Int)) × (List Int) → Option Ans)) : Option Ans := match v with
 | (x0, x1, x2, x3, x4, x5, x6) => Sg_tone_Planes_2 fuel (F_slices_ContainsFunc_int_int_69c fuel) x0 x1 x2 x3 x4 x5 x6 c B
noncomputable def L_tone_Planes_2 (fuel : Nat) (v : (List Int) × Int × (List Int) × Int × Int × (List (List Int)) × (List Int)) (b : ((List Int) × Int × (List (List Int)) × (List Int) → Option Ans)) : Option Ans := iter (S_tone_Planes_2 fuel) fuel v b
noncomputable def J22_2 (fuel : Nat) (i : Nat) : Option Ev.Blk := Ev.look i []
noncomputable def T22_2 (v : (List Int) × Int × (List Int) × Int × Int × (List (List Int)) × (List Int)) : Ev.St := match v with | (x0, x1, x2, x3, x4, x5, x6) => ⟨[(0, .c (.sl (.int .i64) x0)), (6, .c (.own 0)), (7, .c (.int .i64 x1)), (8, .c (.own 1)), (28, .c (.sl (.int .i64) x2)), (29, .c (.int .i64 x3)), (30, .c (.int .i64 x4))], [(0, .vec 28 (.sl (.int .u8)) x5 true), (1, .vec 5 (.int .u8) x6 true)], 2, 0⟩
noncomputable def E22_2 (K : Ev.Ex → Ev.St → Option Ans) : ((List Int) × Int × (List (List Int)) × (List Int) → Option Ans) := (fun v => match v with | (x0, x1, x2, x3) => K .normal ⟨[(0, .c (.sl (.int .i64) x0)), (6, .c (.own 0)), (7, .c (.int .i64 x1)), (8, .c (.own 1))], [(0, .vec 28 (.sl (.int .u8)) x2 true), (1, .vec 5 (.int .u8) x3 true)], 2, 0⟩)
theorem S22_2_okg (fuel : Nat) (f62_69c : YF62_69c) (R : Ev.St → Option Ans) (K : Ev.Ex → Ev.St → Option Ans) (x0 : (List Int)) (x1 : Int) (x2 : (List Int)) (x3 x4 : Int) (x5 : (List (List Int))) (x6 : (List Int)) : evalCode tab (Gg22 f62_69c) (J22_2 fuel) kp22 fuel (bodyOf 2 Try.f22) (T22_2 (x0, x1, x2, x3, x4, x5, x6)) (lc kp22 9 2 R K) = Sg_tone_Planes_2 fuel f62_69c x0 x1 x2 x3 x4 x5 x6 (fun v => R (T22_2 v)) (E22_2 K) := by
  kernel_rfl
noncomputable def B22_2 (fuel : Nat) : Ev.Blk := fun st K => match canonO (kp22 9) st with
 | some s => (match s with
 | ⟨[(q0, .c (.sl (.int .i64) x0)), (q1, .c (.own q2)), (q3, .c (.int .i64 x1)), (q4, .c (.own q5)), (q6, .c (.sl (.int .i64) x2)), (q7, .c (.int .i64 x3)), (q8, .c (.int .i64 x4))], [(q9, .vec q10 (.sl (.int .u8)) x5 true), (q11, .vec q12 (.int .u8) x6 true)], q13, q14⟩ => bif Nat.beq q0 0 && Nat.beq q1 6 && Nat.beq q2 0 && Nat.beq q3 7 && Nat.beq q4 8 && Nat.beq q5 1 && Nat.beq q6 28 && Nat.beq q7 29 && Nat.beq q8 30 && Nat.beq q9 0 && Nat.beq q10 28 && Nat.beq q11 1 && Nat.beq q12 5 && Nat.beq q13 2 && Nat.beq q14 0 then iter (S_tone_Planes_2 fuel) fuel (x0, x1, x2, x3, x4, x5, x6) (E22_2 K) else none
 | _ => none)
 | none => none
theorem B22_2_ok (fuel : Nat) (st : Ev.St) (K : Ev.Ex → Ev.St → Option Ans) (r : Ans) (h : B22_2 fuel st K = some r) : evalCode tab (G22 fuel) (J22_2 fuel) kp22 fuel (.block 2 (.loop (bodyOf 2 Try.f22))) st K = some r := by
  unfold B22_2 at h
  split at h
  · rename_i s hs
    split at h
    · skip
      obtain ⟨hb, h⟩ := cond_some' h
      simp only [Bool.and_eq_true, Nat.beq_eq, decide_eq_true_eq] at hb
      obtain ⟨⟨⟨⟨⟨⟨⟨⟨⟨⟨⟨⟨⟨⟨rfl, rfl⟩, rfl⟩, rfl⟩, rfl⟩, rfl⟩, rfl⟩, rfl⟩, rfl⟩, rfl⟩, rfl⟩, rfl⟩, rfl⟩, rfl⟩, rfl⟩ := hb
      exact blk_loop (S := T22_2) (ks := E22_2) (step := S_tone_Planes_2 fuel) (v := (_, _, _, _, _, _, _)) (by kernel_rfl) (by kernel_rfl) (fun R K v => by obtain ⟨x0, x1, x2, x3, x4, x5, x6⟩ := v; exact S22_2_okg fuel (F_slices_ContainsFunc_int_int_69c fuel) R K x0 x1 x2 x3 x4 x5 x6) hs h
    · cases h
  · cases h
noncomputable def Sg_tone_Planes_0 (fuel : Nat) (f62_69c : YF62_69c) (x0 : (List Int)) (x1 : Int) (x2 : (List (List Int))) (c : ((List Int) × Int × (List (List Int))) → Option Ans) (B : ((List (List Int)) → Option Ans)) : Option Ans := match B with
 | b =>
  bif decide (x1 ≥ (0 : Int)) then
  (L_tone_Planes_2 fuel (x0, x1, x0, (↑x0.length : Int), (0 : Int), x2, [])
  (fun (b2_0, b2_1, b2_2, b2_3) =>
  bif decide ((b2_2.length + [b2_3].length) * (24 : Nat) ≤ (140737488355328 : Nat) ∧ b2_2.length + [b2_3].length ≤ (140737488355328 : Nat)) then
  c (b2_0, IntKind.i64.wrap (b2_1 - (1 : Int)), b2_2 ++ [b2_3])
  else none))
  else
  b x2
noncomputable def S_tone_Planes_0 (fuel : Nat) (v : (List Int) × Int × (List (List Int))) (c : ((List Int) × Int × (List (List Int))) → Option Ans) (B : ((List (List Int)) → Option Ans)) : Option Ans := match v with
 | (x0, x1, x2) => Sg_tone_Planes_0 fuel (F_slices_ContainsFunc_int_int_69c fuel) x0 x1 x2 c B
noncomputable def L_tone_Planes_0 (fuel : Nat) (v : (List Int) × Int × (List (List Int))) (b : ((List (List Int)) → Option Ans)) : Option Ans := iter (S_tone_Planes_0 fuel) fuel v b
noncomputable def J22_0 (fuel : Nat) (i : Nat) : Option Ev.Blk := Ev.look i [(100002, B22_2 fuel)]
noncomputable def T22_0 (v : (List Int) × Int × (List (List Int))) : Ev.St := match v with | (x0, x1, x2) => ⟨[(0, .c (.sl (.int .i64) x0)), (6, .c (.own 0)), (7, .c (.int .i64 x1))], [(0, .vec 28 (.sl (.int .u8)) x2 true)], 1, 0⟩
noncomputable def E22_0 (K : Ev.Ex → Ev.St → Option Ans) : ((List (List Int)) → Option Ans) := (fun v => match v with | x0 => K .normal ⟨[(6, .c (.own 0))], [(0, .vec 28 (.sl (.int .u8)) x0 true)], 1, 0⟩)
theorem S22_0_okg (fuel : Nat) (f62_69c : YF62_69c) (R : Ev.St → Option Ans) (K : Ev.Ex → Ev.St → Option Ans) (x0 : (List Int)) (x1 : Int) (x2 : (List (List Int))) : evalCode tab (Gg22 f62_69c) (J22_0 fuel) kp22 fuel (bodyOf 0 Try.f22) (T22_0 (x0, x1, x2)) (lc kp22 5 0 R K) = Sg_tone_Planes_0 fuel f62_69c x0 x1 x2 (fun v => R (T22_0 v)) (E22_0 K) := by
  kernel_rfl
noncomputable def B22_0 (fuel : Nat) : Ev.Blk := fun st K => match canonO (kp22 5) st with
 | some s => (match s with
 | ⟨[(q0, .c (.sl (.int .i64) x0)), (q1, .c (.own q2)), (q3, .c (.int .i64 x1))], [(q4, .vec q5 (.sl (.int .u8)) x2 true)], q6, q7⟩ => bif Nat.beq q0 0 && Nat.beq q1 6 && Nat.beq q2 0 && Nat.beq q3 7 && Nat.beq q4 0 && Nat.beq q5 28 && Nat.beq q6 1 && Nat.beq q7 0 then iter (S_tone_Planes_0 fuel) fuel (x0, x1, x2) (E22_0 K) else none
 | _ => none)
 | none => none
theorem B22_0_ok (fuel : Nat) (st : Ev.St) (K : Ev.Ex → Ev.St → Option Ans) (r : Ans) (h : B22_0 fuel st K = some r) : evalCode tab (G22 fuel) (J22_0 fuel) kp22 fuel (.block 0 (.loop (bodyOf 0 Try.f22))) st K = some r := by
  unfold B22_0 at h
  split at h
  · rename_i s hs
    split at h
    · skip
      obtain ⟨hb, h⟩ := cond_some' h
      simp only [Bool.and_eq_true, Nat.beq_eq, decide_eq_true_eq] at hb
      obtain ⟨⟨⟨⟨⟨⟨⟨rfl, rfl⟩, rfl⟩, rfl⟩, rfl⟩, rfl⟩, rfl⟩, rfl⟩ := hb
      exact blk_loop (S := T22_0) (ks := E22_0) (step := S_tone_Planes_0 fuel) (v := (_, _, _)) (by kernel_rfl) (by kernel_rfl) (fun R K v => by obtain ⟨x0, x1, x2⟩ := v; exact S22_0_okg fuel (F_slices_ContainsFunc_int_int_69c fuel) R K x0 x1 x2) hs h
    · cases h
  · cases h
noncomputable def J22 (fuel : Nat) (i : Nat) : Option Ev.Blk := Ev.look i [(100002, B22_2 fuel), (100000, B22_0 fuel)]
noncomputable def Fg_tone_Planes (fuel : Nat) (f62_69c : YF62_69c) (x0 : (List Int)) (x1 : Int) (k0 : (Int × (List (List Int))) → Option Ans) : Option Ans :=
  bif decide (x1 < (0 : Int)) then
  k0 ((2 : Int), [])
  else
  bif decide (x1 > (8 : Int)) then
  k0 ((2 : Int), [])
  else
  (f62_69c (x0) (x1)
  (fun (y4_0, y4_1) =>
  bif y4_0 then
  k0 ((2 : Int), [])
  else
  (L_tone_Planes_0 fuel (x0, IntKind.i64.wrap (y4_1 - (1 : Int)), [])
  (fun b0_0 =>
  k0 ((0 : Int), b0_0)))))
noncomputable def F_tone_Planes (fuel : Nat) (x0 : (List Int)) (x1 : Int) (k0 : (Int × (List (List Int))) → Option Ans) : Option Ans := Fg_tone_Planes fuel (F_slices_ContainsFunc_int_int_69c fuel) x0 x1 k0
abbrev YF22 : Type := ((List Int)) → (Int) → ((Int × (List (List Int))) → Option Ans) → Option Ans
theorem F22_eqg (fuel : Nat) (f62_69c : YF62_69c) (x0 : (List Int)) (x1 : Int) (k : Ev.Cont) : evalFn tab (Gg22 f62_69c) (J22 fuel) kp22 fuel Try.f22 [.c (.sl (.int .i64) x0), .c (.int .i64 x1)] [] k = Fg_tone_Planes fuel f62_69c x0 x1 (fun r => match r with | (r0, r1) => k (.tup [(false, [.own 0]), (false, [.int .i64 r0])], [.vec 28 (.sl (.int .u8)) r1 true])) := by
  kernel_rfl
theorem hG22 (fuel : Nat) : GOK Try.prog (G22 fuel) :=
  gok_cons ⟨ok62_69c fuel, enters_of Try.func62 (by kernel_rfl) rfl⟩ <|
  gok_nil
theorem B22_2_blk (fuel : Nat) : BlkOK Try.prog Try.f22.ntmps (.block 2 (.loop (bodyOf 2 Try.f22))) (B22_2 fuel) :=
  blk_of (blk_of_code tab_ok (hG22 fuel) mixed (J := J22_2 fuel) (kp := kp22) (fuel := fuel) (by kernel_rfl) (fun q hq => by
    rw [(by kernel_rfl : obl (J22_2 fuel) (.block 2 (.loop (bodyOf 2 Try.f22))) = [])] at hq
    cases hq)) (B22_2_ok fuel)
theorem B22_0_blk (fuel : Nat) : BlkOK Try.prog Try.f22.ntmps (.block 0 (.loop (bodyOf 0 Try.f22))) (B22_0 fuel) :=
  blk_of (blk_of_code tab_ok (hG22 fuel) mixed (J := J22_0 fuel) (kp := kp22) (fuel := fuel) (by kernel_rfl) (fun q hq => by
    rw [(by kernel_rfl : obl (J22_0 fuel) (.block 0 (.loop (bodyOf 0 Try.f22))) = [(.block 2 (.loop (bodyOf 2 Try.f22)), B22_2 fuel)])] at hq
    simp only [List.mem_cons, List.not_mem_nil, or_false] at hq
    subst hq
    · exact B22_2_blk fuel)) (B22_0_ok fuel)
theorem fok22 (fuel : Nat) : FnOK Try.prog 22 (evalFn tab (G22 fuel) (J22 fuel) kp22 fuel Try.f22) :=
  fn_ok tab_ok (hG22 fuel) mixed Try.func22 (c := (Try.f22.body).getD .skip) rfl (fun q hq => by
    rw [(by kernel_rfl : obl (J22 fuel) ((Try.f22.body).getD .skip) = [(.block 0 (.loop (bodyOf 0 Try.f22)), B22_0 fuel)])] at hq
    simp only [List.mem_cons, List.not_mem_nil, or_false] at hq
    subst hq
    · exact B22_0_blk fuel)
noncomputable def spg22 (F : YF22) : Ev.Spec := fun args objs k => match args, objs with
 | [.c (.sl (.int .i64) x0), .c (.int .i64 x1)], [] => bif true then F x0 x1 (fun r => match r with | (r0, r1) => k (.tup [(false, [.own 0]), (false, [.int .i64 r0])], [.vec 28 (.sl (.int .u8)) r1 true])) else none
 | _, _ => none
noncomputable def spec22 (fuel : Nat) : Ev.Spec := spg22 (F_tone_Planes fuel)
theorem ok22 (fuel : Nat) : FnOK Try.prog 22 (spec22 fuel) := by
  intro args objs kk r h
  unfold spec22 spg22 at h
  split at h
  · skip
    obtain ⟨hb, h⟩ := cond_some' h
    simp only [Bool.and_eq_true, Nat.beq_eq, decide_eq_true_eq] at hb
    clear hb
    exact fok22 fuel _ _ kk r ((F22_eqg fuel (F_slices_ContainsFunc_int_int_69c fuel) _ _ kk).trans h)
  · cases h
end Go.Proofs.Ytipdidpalcmlhaa

set_option linter.unusedVariables false
set_option linter.unusedSimpArgs false
set_option maxRecDepth 100000
set_option maxHeartbeats 2000000
namespace Go.Proofs.Ytipdidpalcmlhaa
open Go Ev
def kp7 (i : Nat) : Option (List Nat) := Ev.look i []
noncomputable def Gg7 (f22 : YF22) (f : Nat) : Option Ev.Spec := Ev.look f [(22, spg22 f22)]
noncomputable def G7 (fuel : Nat) : Nat → Option Ev.Spec := Gg7 (F_tone_Planes fuel)
noncomputable def J7 (fuel : Nat) (i : Nat) : Option Ev.Blk := Ev.look i []
noncomputable def Fg_law11_Sane (fuel : Nat) (f22 : YF22)  (k0 : (Bool) → Option Ans) : Option Ans :=
  (f22 ([(0 : Int), (1 : Int), (2 : Int), (3 : Int)]) ((2 : Int))
  (fun (y2_0, y2_1) =>
  bif y2_0 == (0 : Int) then
  bif (↑y2_1.length : Int) == (2 : Int) then
  bif decide ((0 : Int) ≤ (0 : Int) ∧ (0 : Int) < (↑y2_1.length : Int)) then
  both (both (bif (Go.strOfNums (y2_1.getD (Int.toNat (0 : Int)) [])).toList == (Go.strOfNums [(0 : Int), (0 : Int), (1 : Int), (1 : Int)]).toList then
  bif decide ((0 : Int) ≤ (1 : Int) ∧ (1 : Int) < (↑y2_1.length : Int)) then
  both (both (k0 ((Go.strOfNums (y2_1.getD (Int.toNat (1 : Int)) [])).toList == (Go.strOfNums [(0 : Int), (1 : Int), (1 : Int), (0 : Int)]).toList))
  (both (k0 ((Go.strOfNums (y2_1.getD (Int.toNat (1 : Int)) [])).toList == (Go.strOfNums [(0 : Int), (1 : Int), (1 : Int), (0 : Int)]).toList))
  (k0 ((Go.strOfNums (y2_1.getD (Int.toNat (1 : Int)) [])).toList == (Go.strOfNums [(0 : Int), (1 : Int), (1 : Int), (0 : Int)]).toList))))
  (both (both (k0 ((Go.strOfNums (y2_1.getD (Int.toNat (1 : Int)) [])).toList == (Go.strOfNums [(0 : Int), (1 : Int), (1 : Int), (0 : Int)]).toList))
  (k0 ((Go.strOfNums (y2_1.getD (Int.toNat (1 : Int)) [])).toList == (Go.strOfNums [(0 : Int), (1 : Int), (1 : Int), (0 : Int)]).toList)))
  (k0 ((Go.strOfNums (y2_1.getD (Int.toNat (1 : Int)) [])).toList == (Go.strOfNums [(0 : Int), (1 : Int), (1 : Int), (0 : Int)]).toList)))
  else none
  else
  k0 false)
  (both (bif (Go.strOfNums (y2_1.getD (Int.toNat (0 : Int)) [])).toList == (Go.strOfNums [(0 : Int), (0 : Int), (1 : Int), (1 : Int)]).toList then
  bif decide ((0 : Int) ≤ (1 : Int) ∧ (1 : Int) < (↑y2_1.length : Int)) then
  both (both (k0 ((Go.strOfNums (y2_1.getD (Int.toNat (1 : Int)) [])).toList == (Go.strOfNums [(0 : Int), (1 : Int), (1 : Int), (0 : Int)]).toList))
  (both (k0 ((Go.strOfNums (y2_1.getD (Int.toNat (1 : Int)) [])).toList == (Go.strOfNums [(0 : Int), (1 : Int), (1 : Int), (0 : Int)]).toList))
  (k0 ((Go.strOfNums (y2_1.getD (Int.toNat (1 : Int)) [])).toList == (Go.strOfNums [(0 : Int), (1 : Int), (1 : Int), (0 : Int)]).toList))))
  (both (both (k0 ((Go.strOfNums (y2_1.getD (Int.toNat (1 : Int)) [])).toList == (Go.strOfNums [(0 : Int), (1 : Int), (1 : Int), (0 : Int)]).toList))
  (k0 ((Go.strOfNums (y2_1.getD (Int.toNat (1 : Int)) [])).toList == (Go.strOfNums [(0 : Int), (1 : Int), (1 : Int), (0 : Int)]).toList)))
  (k0 ((Go.strOfNums (y2_1.getD (Int.toNat (1 : Int)) [])).toList == (Go.strOfNums [(0 : Int), (1 : Int), (1 : Int), (0 : Int)]).toList)))
  else none
  else
  k0 false)
  (bif (Go.strOfNums (y2_1.getD (Int.toNat (0 : Int)) [])).toList == (Go.strOfNums [(0 : Int), (0 : Int), (1 : Int), (1 : Int)]).toList then
  bif decide ((0 : Int) ≤ (1 : Int) ∧ (1 : Int) < (↑y2_1.length : Int)) then
  both (both (k0 ((Go.strOfNums (y2_1.getD (Int.toNat (1 : Int)) [])).toList == (Go.strOfNums [(0 : Int), (1 : Int), (1 : Int), (0 : Int)]).toList))
  (both (k0 ((Go.strOfNums (y2_1.getD (Int.toNat (1 : Int)) [])).toList == (Go.strOfNums [(0 : Int), (1 : Int), (1 : Int), (0 : Int)]).toList))
  (k0 ((Go.strOfNums (y2_1.getD (Int.toNat (1 : Int)) [])).toList == (Go.strOfNums [(0 : Int), (1 : Int), (1 : Int), (0 : Int)]).toList))))
  (both (both (k0 ((Go.strOfNums (y2_1.getD (Int.toNat (1 : Int)) [])).toList == (Go.strOfNums [(0 : Int), (1 : Int), (1 : Int), (0 : Int)]).toList))
  (k0 ((Go.strOfNums (y2_1.getD (Int.toNat (1 : Int)) [])).toList == (Go.strOfNums [(0 : Int), (1 : Int), (1 : Int), (0 : Int)]).toList)))
  (k0 ((Go.strOfNums (y2_1.getD (Int.toNat (1 : Int)) [])).toList == (Go.strOfNums [(0 : Int), (1 : Int), (1 : Int), (0 : Int)]).toList)))
  else none
  else
  k0 false)))
  (both (both (bif (Go.strOfNums (y2_1.getD (Int.toNat (0 : Int)) [])).toList == (Go.strOfNums [(0 : Int), (0 : Int), (1 : Int), (1 : Int)]).toList then
  bif decide ((0 : Int) ≤ (1 : Int) ∧ (1 : Int) < (↑y2_1.length : Int)) then
  both (both (k0 ((Go.strOfNums (y2_1.getD (Int.toNat (1 : Int)) [])).toList == (Go.strOfNums [(0 : Int), (1 : Int), (1 : Int), (0 : Int)]).toList))
  (both (k0 ((Go.strOfNums (y2_1.getD (Int.toNat (1 : Int)) [])).toList == (Go.strOfNums [(0 : Int), (1 : Int), (1 : Int), (0 : Int)]).toList))
  (k0 ((Go.strOfNums (y2_1.getD (Int.toNat (1 : Int)) [])).toList == (Go.strOfNums [(0 : Int), (1 : Int), (1 : Int), (0 : Int)]).toList))))
  (both (both (k0 ((Go.strOfNums (y2_1.getD (Int.toNat (1 : Int)) [])).toList == (Go.strOfNums [(0 : Int), (1 : Int), (1 : Int), (0 : Int)]).toList))
  (k0 ((Go.strOfNums (y2_1.getD (Int.toNat (1 : Int)) [])).toList == (Go.strOfNums [(0 : Int), (1 : Int), (1 : Int), (0 : Int)]).toList)))
  (k0 ((Go.strOfNums (y2_1.getD (Int.toNat (1 : Int)) [])).toList == (Go.strOfNums [(0 : Int), (1 : Int), (1 : Int), (0 : Int)]).toList)))
  else none
  else
  k0 false)
  (bif (Go.strOfNums (y2_1.getD (Int.toNat (0 : Int)) [])).toList == (Go.strOfNums [(0 : Int), (0 : Int), (1 : Int), (1 : Int)]).toList then
  bif decide ((0 : Int) ≤ (1 : Int) ∧ (1 : Int) < (↑y2_1.length : Int)) then
  both (both (k0 ((Go.strOfNums (y2_1.getD (Int.toNat (1 : Int)) [])).toList == (Go.strOfNums [(0 : Int), (1 : Int), (1 : Int), (0 : Int)]).toList))
  (both (k0 ((Go.strOfNums (y2_1.getD (Int.toNat (1 : Int)) [])).toList == (Go.strOfNums [(0 : Int), (1 : Int), (1 : Int), (0 : Int)]).toList))
  (k0 ((Go.strOfNums (y2_1.getD (Int.toNat (1 : Int)) [])).toList == (Go.strOfNums [(0 : Int), (1 : Int), (1 : Int), (0 : Int)]).toList))))
  (both (both (k0 ((Go.strOfNums (y2_1.getD (Int.toNat (1 : Int)) [])).toList == (Go.strOfNums [(0 : Int), (1 : Int), (1 : Int), (0 : Int)]).toList))
  (k0 ((Go.strOfNums (y2_1.getD (Int.toNat (1 : Int)) [])).toList == (Go.strOfNums [(0 : Int), (1 : Int), (1 : Int), (0 : Int)]).toList)))
  (k0 ((Go.strOfNums (y2_1.getD (Int.toNat (1 : Int)) [])).toList == (Go.strOfNums [(0 : Int), (1 : Int), (1 : Int), (0 : Int)]).toList)))
  else none
  else
  k0 false))
  (bif (Go.strOfNums (y2_1.getD (Int.toNat (0 : Int)) [])).toList == (Go.strOfNums [(0 : Int), (0 : Int), (1 : Int), (1 : Int)]).toList then
  bif decide ((0 : Int) ≤ (1 : Int) ∧ (1 : Int) < (↑y2_1.length : Int)) then
  both (both (k0 ((Go.strOfNums (y2_1.getD (Int.toNat (1 : Int)) [])).toList == (Go.strOfNums [(0 : Int), (1 : Int), (1 : Int), (0 : Int)]).toList))
  (both (k0 ((Go.strOfNums (y2_1.getD (Int.toNat (1 : Int)) [])).toList == (Go.strOfNums [(0 : Int), (1 : Int), (1 : Int), (0 : Int)]).toList))
  (k0 ((Go.strOfNums (y2_1.getD (Int.toNat (1 : Int)) [])).toList == (Go.strOfNums [(0 : Int), (1 : Int), (1 : Int), (0 : Int)]).toList))))
  (both (both (k0 ((Go.strOfNums (y2_1.getD (Int.toNat (1 : Int)) [])).toList == (Go.strOfNums [(0 : Int), (1 : Int), (1 : Int), (0 : Int)]).toList))
  (k0 ((Go.strOfNums (y2_1.getD (Int.toNat (1 : Int)) [])).toList == (Go.strOfNums [(0 : Int), (1 : Int), (1 : Int), (0 : Int)]).toList)))
  (k0 ((Go.strOfNums (y2_1.getD (Int.toNat (1 : Int)) [])).toList == (Go.strOfNums [(0 : Int), (1 : Int), (1 : Int), (0 : Int)]).toList)))
  else none
  else
  k0 false))
  else none
  else
  k0 false
  else
  k0 false))
noncomputable def F_law11_Sane (fuel : Nat)  (k0 : (Bool) → Option Ans) : Option Ans := Fg_law11_Sane fuel (F_tone_Planes fuel) k0
abbrev YF7 : Type := ((Bool) → Option Ans) → Option Ans
theorem F7_eqg (fuel : Nat) (f22 : YF22)  (k : Ev.Cont) : evalFn tab (Gg7 f22) (J7 fuel) kp7 fuel Try.f7 [] [] k = Fg_law11_Sane fuel f22 (fun r => match r with | r0 => k (.c (.bool r0), [])) := by
  kernel_rfl
theorem hG7 (fuel : Nat) : GOK Try.prog (G7 fuel) :=
  gok_cons ⟨ok22 fuel, enters_of Try.func22 (by kernel_rfl) rfl⟩ <|
  gok_nil
theorem fok7 (fuel : Nat) : FnOK Try.prog 7 (evalFn tab (G7 fuel) (J7 fuel) kp7 fuel Try.f7) :=
  fn_ok tab_ok (hG7 fuel) mixed Try.func7 (c := (Try.f7.body).getD .skip) rfl (fun q hq => by
    rw [(by kernel_rfl : obl (J7 fuel) ((Try.f7.body).getD .skip) = [])] at hq
    cases hq)
noncomputable def spg7 (F : YF7) : Ev.Spec := fun args objs k => match args, objs with
 | [], [] => bif true then F  (fun r => match r with | r0 => k (.c (.bool r0), [])) else none
 | _, _ => none
noncomputable def spec7 (fuel : Nat) : Ev.Spec := spg7 (F_law11_Sane fuel)
theorem ok7 (fuel : Nat) : FnOK Try.prog 7 (spec7 fuel) := by
  intro args objs kk r h
  unfold spec7 spg7 at h
  split at h
  · skip
    obtain ⟨hb, h⟩ := cond_some' h
    simp only [Bool.and_eq_true, Nat.beq_eq, decide_eq_true_eq] at hb
    clear hb
    exact fok7 fuel _ _ kk r ((F7_eqg fuel (F_tone_Planes fuel) kk).trans h)
  · cases h
end Go.Proofs.Ytipdidpalcmlhaa

set_option linter.unusedVariables false
set_option linter.unusedSimpArgs false
set_option maxRecDepth 100000
set_option maxHeartbeats 2000000
namespace Go.Proofs.Ytipdidpalcmlhaa
open Go Ev
def kp6 (i : Nat) : Option (List Nat) := Ev.look i [(3, [0, 3, 4]), (100000, [3]), (400000, [2])]
noncomputable def Gg6 (f : Nat) : Option Ev.Spec := Ev.look f []
noncomputable def G6 (fuel : Nat) : Nat → Option Ev.Spec := Gg6
noncomputable def S_law11_many_0 (fuel : Nat) (v : (List (Int × (Int × (List Int)))) × Int × Int) (c : ((List (Int × (Int × (List Int)))) × Int × Int) → Option Ans) (B : (Int → Option Ans)) : Option Ans := match v, B with
 | (x0, x1, x2), b =>
  bif decide (x2 < (↑x0.length : Int)) then
  bif decide ((0 : Int) ≤ x2 ∧ x2 < (↑x0.length : Int)) then
  c (x0, IntKind.i64.wrap (IntKind.i64.wrap (x1 + (1 : Int)) + (↑(List.length (x0.getD x2.toNat ((0 : Int), (0 : Int), [])).snd.snd) : Int)), IntKind.i64.wrap (x2 + (1 : Int)))
  else none
  else
  b x1
noncomputable def L_law11_many_0 (fuel : Nat) (v : (List (Int × (Int × (List Int)))) × Int × Int) (b : (Int → Option Ans)) : Option Ans := iter (S_law11_many_0 fuel) fuel v b
noncomputable def J6_0 (fuel : Nat) (i : Nat) : Option Ev.Blk := Ev.look i []
noncomputable def T6_0 (v : (List (Int × (Int × (List Int)))) × Int × Int) : Ev.St := match v with | (x0, x1, x2) => ⟨[(0, .c (.sl (.pair (.int .i64) (.pair (.int .i64) (.sl (.int .u8)))) x0)), (3, .c (.int .i64 x1)), (4, .c (.int .i64 x2))], [], 0, 0⟩
noncomputable def E6_0 (K : Ev.Ex → Ev.St → Option Ans) : (Int → Option Ans) := (fun v => match v with | x0 => K .normal ⟨[(3, .c (.int .i64 x0))], [], 0, 0⟩)
theorem S6_0_ok (fuel : Nat) (R : Ev.St → Option Ans) (K : Ev.Ex → Ev.St → Option Ans) (x0 : (List (Int × (Int × (List Int))))) (x1 x2 : Int) : evalCode tab (G6 fuel) (J6_0 fuel) kp6 fuel (bodyOf 0 Try.f6) (T6_0 (x0, x1, x2)) (lc kp6 3 0 R K) = S_law11_many_0 fuel (x0, x1, x2) (fun v => R (T6_0 v)) (E6_0 K) := by
  kernel_rfl
noncomputable def B6_0 (fuel : Nat) : Ev.Blk := fun st K => match canonO (kp6 3) st with
 | some s => (match s with
 | ⟨[(q0, .c (.sl (.pair (.int .i64) (.pair (.int .i64) (.sl (.int .u8)))) x0)), (q1, .c (.int .i64 x1)), (q2, .c (.int .i64 x2))], [], q3, q4⟩ => bif Nat.beq q0 0 && Nat.beq q1 3 && Nat.beq q2 4 && Nat.beq q3 0 && Nat.beq q4 0 then iter (S_law11_many_0 fuel) fuel (x0, x1, x2) (E6_0 K) else none
 | _ => none)
 | none => none
theorem B6_0_ok (fuel : Nat) (st : Ev.St) (K : Ev.Ex → Ev.St → Option Ans) (r : Ans) (h : B6_0 fuel st K = some r) : evalCode tab (G6 fuel) (J6_0 fuel) kp6 fuel (.block 0 (.loop (bodyOf 0 Try.f6))) st K = some r := by
  unfold B6_0 at h
  split at h
  · rename_i s hs
    split at h
    · skip
      obtain ⟨hb, h⟩ := cond_some' h
      simp only [Bool.and_eq_true, Nat.beq_eq, decide_eq_true_eq] at hb
      obtain ⟨⟨⟨⟨rfl, rfl⟩, rfl⟩, rfl⟩, rfl⟩ := hb
      exact blk_loop (S := T6_0) (ks := E6_0) (step := S_law11_many_0 fuel) (v := (_, _, _)) (by kernel_rfl) (by kernel_rfl) (fun R K v => by obtain ⟨x0, x1, x2⟩ := v; exact S6_0_ok fuel R K x0 x1 x2) hs h
    · cases h
  · cases h
noncomputable def J6 (fuel : Nat) (i : Nat) : Option Ev.Blk := Ev.look i [(100000, B6_0 fuel)]
noncomputable def F_law11_many (fuel : Nat) (x0 : (List (Int × Int × (List Int)))) (k0 : (Int) → Option Ans) : Option Ans :=
  (L_law11_many_0 fuel (x0, (0 : Int), (0 : Int))
  (fun b0_0 =>
  k0 b0_0))
abbrev YF6 : Type := ((List (Int × Int × (List Int)))) → ((Int) → Option Ans) → Option Ans
theorem F6_eq (fuel : Nat) (x0 : (List (Int × Int × (List Int)))) (k : Ev.Cont) : evalFn tab (G6 fuel) (J6 fuel) kp6 fuel Try.f6 [.c (.sl (.pair (.int .i64) (.pair (.int .i64) (.sl (.int .u8)))) x0)] [] k = F_law11_many fuel x0 (fun r => match r with | r0 => k (.c (.int .i64 r0), [])) := by
  kernel_rfl
theorem hG6 (fuel : Nat) : GOK Try.prog (G6 fuel) :=
  gok_nil
theorem B6_0_blk (fuel : Nat) : BlkOK Try.prog Try.f6.ntmps (.block 0 (.loop (bodyOf 0 Try.f6))) (B6_0 fuel) :=
  blk_of (blk_of_code tab_ok (hG6 fuel) mixed (J := J6_0 fuel) (kp := kp6) (fuel := fuel) (by kernel_rfl) (fun q hq => by
    rw [(by kernel_rfl : obl (J6_0 fuel) (.block 0 (.loop (bodyOf 0 Try.f6))) = [])] at hq
    cases hq)) (B6_0_ok fuel)
theorem fok6 (fuel : Nat) : FnOK Try.prog 6 (evalFn tab (G6 fuel) (J6 fuel) kp6 fuel Try.f6) :=
  fn_ok tab_ok (hG6 fuel) mixed Try.func6 (c := (Try.f6.body).getD .skip) rfl (fun q hq => by
    rw [(by kernel_rfl : obl (J6 fuel) ((Try.f6.body).getD .skip) = [(.block 0 (.loop (bodyOf 0 Try.f6)), B6_0 fuel)])] at hq
    simp only [List.mem_cons, List.not_mem_nil, or_false] at hq
    subst hq
    · exact B6_0_blk fuel)
noncomputable def spg6 (F : YF6) : Ev.Spec := fun args objs k => match args, objs with
 | [.c (.sl (.pair (.int .i64) (.pair (.int .i64) (.sl (.int .u8)))) x0)], [] => bif true then F x0 (fun r => match r with | r0 => k (.c (.int .i64 r0), [])) else none
 | _, _ => none
noncomputable def spec6 (fuel : Nat) : Ev.Spec := spg6 (F_law11_many fuel)
theorem ok6 (fuel : Nat) : FnOK Try.prog 6 (spec6 fuel) := by
  intro args objs kk r h
  unfold spec6 spg6 at h
  split at h
  · skip
    obtain ⟨hb, h⟩ := cond_some' h
    simp only [Bool.and_eq_true, Nat.beq_eq, decide_eq_true_eq] at hb
    clear hb
    exact fok6 fuel _ _ kk r ((F6_eq fuel _ kk).trans h)
  · cases h
end Go.Proofs.Ytipdidpalcmlhaa

set_option linter.unusedVariables false
set_option linter.unusedSimpArgs false
set_option maxRecDepth 100000
set_option maxHeartbeats 2000000
namespace Go.Proofs.Ytipdidpalcmlhaa
open Go Ev
def kp37 (i : Nat) : Option (List Nat) := Ev.look i []
noncomputable def Gg37 (f : Nat) : Option Ev.Spec := Ev.look f []
noncomputable def G37 (fuel : Nat) : Nat → Option Ev.Spec := Gg37
noncomputable def J37 (fuel : Nat) (i : Nat) : Option Ev.Blk := Ev.look i []
noncomputable def F_ref05_Same (fuel : Nat) (x0 x1 : Int) (x2 : (List Int)) (x3 x4 : Int) (x5 : (List Int)) (k0 : (Bool) → Option Ans) : Option Ans :=
  bif x0 == x3 then
  bif x1 == x4 then
  k0 ((Go.strOfNums x2).toList == (Go.strOfNums x5).toList)
  else
  k0 false
  else
  k0 false
abbrev YF37 : Type := (Int) → (Int) → ((List Int)) → (Int) → (Int) → ((List Int)) → ((Bool) → Option Ans) → Option Ans
theorem F37_eq (fuel : Nat) (x0 x1 : Int) (x2 : (List Int)) (x3 x4 : Int) (x5 : (List Int)) (k : Ev.Cont) : evalFn tab (G37 fuel) (J37 fuel) kp37 fuel Try.f37 [.agg [.int .i64 x0, .int .i64 x1, .sl (.int .u8) x2], .agg [.int .i64 x3, .int .i64 x4, .sl (.int .u8) x5]] [] k = F_ref05_Same fuel x0 x1 x2 x3 x4 x5 (fun r => match r with | r0 => k (.c (.bool r0), [])) := by
  kernel_rfl
theorem hG37 (fuel : Nat) : GOK Try.prog (G37 fuel) :=
  gok_nil
theorem fok37 (fuel : Nat) : FnOK Try.prog 37 (evalFn tab (G37 fuel) (J37 fuel) kp37 fuel Try.f37) :=
  fn_ok tab_ok (hG37 fuel) mixed Try.func37 (c := (Try.f37.body).getD .skip) rfl (fun q hq => by
    rw [(by kernel_rfl : obl (J37 fuel) ((Try.f37.body).getD .skip) = [])] at hq
    cases hq)
noncomputable def spg37 (F : YF37) : Ev.Spec := fun args objs k => match args, objs with
 | [.agg [.int .i64 x0, .int .i64 x1, .sl (.int .u8) x2], .agg [.int .i64 x3, .int .i64 x4, .sl (.int .u8) x5]], [] => bif true then F x0 x1 x2 x3 x4 x5 (fun r => match r with | r0 => k (.c (.bool r0), [])) else none
 | _, _ => none
noncomputable def spec37 (fuel : Nat) : Ev.Spec := spg37 (F_ref05_Same fuel)
theorem ok37 (fuel : Nat) : FnOK Try.prog 37 (spec37 fuel) := by
  intro args objs kk r h
  unfold spec37 spg37 at h
  split at h
  · skip
    obtain ⟨hb, h⟩ := cond_some' h
    simp only [Bool.and_eq_true, Nat.beq_eq, decide_eq_true_eq] at hb
    clear hb
    exact fok37 fuel _ _ kk r ((F37_eq fuel _ _ _ _ _ _ kk).trans h)
  · cases h
end Go.Proofs.Ytipdidpalcmlhaa

set_option linter.unusedVariables false
set_option linter.unusedSimpArgs false
set_option maxRecDepth 100000
set_option maxHeartbeats 2000000
namespace Go.Proofs.Ytipdidpalcmlhaa
open Go Ev
def kp11 (i : Nat) : Option (List Nat) := Ev.look i [(4, [0, 1, 5]), (100000, []), (200006, [0, 1]), (400000, [4])]
noncomputable def Gg11 (f37 : YF37) (f : Nat) : Option Ev.Spec := Ev.look f [(37, spg37 f37)]
noncomputable def G11 (fuel : Nat) : Nat → Option Ev.Spec := Gg11 (F_ref05_Same fuel)
noncomputable def Sg_ref09_SameBitmaps_0 (fuel : Nat) (f37 : YF37) (x0 : (List (Int × (Int × (List Int))))) (x1 : (List (Int × (Int × (List Int))))) (x2 : Int) (c : ((List (Int × (Int × (List Int)))) × (List (Int × (Int × (List Int)))) × Int) → Option Ans) (B : (Bool → Option Ans) × (Unit → Option Ans)) : Option Ans := match B with
 | (ret, b) =>
  bif decide (x2 < (↑x0.length : Int)) then
  bif decide ((0 : Int) ≤ x2 ∧ x2 < (↑x0.length : Int)) then
  bif decide ((0 : Int) ≤ x2 ∧ x2 < (↑x1.length : Int)) then
  (f37 ((x0.getD x2.toNat ((0 : Int), (0 : Int), [])).fst) ((x0.getD x2.toNat ((0 : Int), (0 : Int), [])).snd.fst) ((x0.getD x2.toNat ((0 : Int), (0 : Int), [])).snd.snd) ((x1.getD x2.toNat ((0 : Int), (0 : Int), [])).fst) ((x1.getD x2.toNat ((0 : Int), (0 : Int), [])).snd.fst) ((x1.getD x2.toNat ((0 : Int), (0 : Int), [])).snd.snd)
  (fun y5 =>
  bif !y5 then
  ret false
  else
  c (x0, x1, IntKind.i64.wrap (x2 + (1 : Int)))))
  else none
  else none
  else
  b ()
noncomputable def S_ref09_SameBitmaps_0 (fuel : Nat) (v : (List (Int × (Int × (List Int)))) × (List (Int × (Int × (List Int)))) × Int) (c : ((List (Int × (Int × (List Int)))) × (List (Int × (Int × (List Int)))) × Int) → Option Ans) (B : (Bool → Option Ans) × (Unit → Option Ans)) : Option Ans := match v with
 | (x0, x1, x2) => Sg_ref09_SameBitmaps_0 fuel (F_ref05_Same fuel) x0 x1 x2 c B
noncomputable def L_ref09_SameBitmaps_0 (fuel : Nat) (v : (List (Int × (Int × (List Int)))) × (List (Int × (Int × (List Int)))) × Int) (ret : (Bool → Option Ans)) (b : (Unit → Option Ans)) : Option Ans := iter (S_ref09_SameBitmaps_0 fuel) fuel v (ret, b)
noncomputable def J11_0 (fuel : Nat) (i : Nat) : Option Ev.Blk := Ev.look i []
noncomputable def T11_0 (v : (List (Int × (Int × (List Int)))) × (List (Int × (Int × (List Int)))) × Int) : Ev.St := match v with | (x0, x1, x2) => ⟨[(0, .c (.sl (.pair (.int .i64) (.pair (.int .i64) (.sl (.int .u8)))) x0)), (1, .c (.sl (.pair (.int .i64) (.pair (.int .i64) (.sl (.int .u8)))) x1)), (5, .c (.int .i64 x2))], [], 0, 0⟩
noncomputable def E11_0 (K : Ev.Ex → Ev.St → Option Ans) : (Bool → Option Ans) × (Unit → Option Ans) := ((fun v => match v with | x0 => K .ret ⟨[(4, .c (.bool x0))], [], 0, 0⟩), (fun v => match v with | () => K .normal ⟨[], [], 0, 0⟩))
theorem S11_0_okg (fuel : Nat) (f37 : YF37) (R : Ev.St → Option Ans) (K : Ev.Ex → Ev.St → Option Ans) (x0 : (List (Int × (Int × (List Int))))) (x1 : (List (Int × (Int × (List Int))))) (x2 : Int) : evalCode tab (Gg11 f37) (J11_0 fuel) kp11 fuel (bodyOf 0 Try.f11) (T11_0 (x0, x1, x2)) (lc kp11 4 0 R K) = Sg_ref09_SameBitmaps_0 fuel f37 x0 x1 x2 (fun v => R (T11_0 v)) (E11_0 K) := by
  kernel_rfl
noncomputable def B11_0 (fuel : Nat) : Ev.Blk := fun st K => match canonO (kp11 4) st with
 | some s => (match s with
 | ⟨[(q0, .c (.sl (.pair (.int .i64) (.pair (.int .i64) (.sl (.int .u8)))) x0)), (q1, .c (.sl (.pair (.int .i64) (.pair (.int .i64) (.sl (.int .u8)))) x1)), (q2, .c (.int .i64 x2))], [], q3, q4⟩ => bif Nat.beq q0 0 && Nat.beq q1 1 && Nat.beq q2 5 && Nat.beq q3 0 && Nat.beq q4 0 then iter (S_ref09_SameBitmaps_0 fuel) fuel (x0, x1, x2) (E11_0 K) else none
 | _ => none)
 | none => none
theorem B11_0_ok (fuel : Nat) (st : Ev.St) (K : Ev.Ex → Ev.St → Option Ans) (r : Ans) (h : B11_0 fuel st K = some r) : evalCode tab (G11 fuel) (J11_0 fuel) kp11 fuel (.block 0 (.loop (bodyOf 0 Try.f11))) st K = some r := by
  unfold B11_0 at h
  split at h
  · rename_i s hs
    split at h
    · skip
      obtain ⟨hb, h⟩ := cond_some' h
      simp only [Bool.and_eq_true, Nat.beq_eq, decide_eq_true_eq] at hb
      obtain ⟨⟨⟨⟨rfl, rfl⟩, rfl⟩, rfl⟩, rfl⟩ := hb
      exact blk_loop (S := T11_0) (ks := E11_0) (step := S_ref09_SameBitmaps_0 fuel) (v := (_, _, _)) (by kernel_rfl) (by kernel_rfl) (fun R K v => by obtain ⟨x0, x1, x2⟩ := v; exact S11_0_okg fuel (F_ref05_Same fuel) R K x0 x1 x2) hs h
    · cases h
  · cases h
noncomputable def J11 (fuel : Nat) (i : Nat) : Option Ev.Blk := Ev.look i [(100000, B11_0 fuel)]
noncomputable def Fg_ref09_SameBitmaps (fuel : Nat) (f37 : YF37) (x0 : (List (Int × Int × (List Int)))) (x1 : (List (Int × Int × (List Int)))) (k0 : (Bool) → Option Ans) : Option Ans :=
  bif (↑x0.length : Int) != (↑x1.length : Int) then
  k0 false
  else
  (L_ref09_SameBitmaps_0 fuel (x0, x1, (0 : Int))
  (fun ret0_0 =>
  k0 ret0_0)
  (fun () =>
  k0 true))
noncomputable def F_ref09_SameBitmaps (fuel : Nat) (x0 : (List (Int × Int × (List Int)))) (x1 : (List (Int × Int × (List Int)))) (k0 : (Bool) → Option Ans) : Option Ans := Fg_ref09_SameBitmaps fuel (F_ref05_Same fuel) x0 x1 k0
abbrev YF11 : Type := ((List (Int × Int × (List Int)))) → ((List (Int × Int × (List Int)))) → ((Bool) → Option Ans) → Option Ans
theorem F11_eqg (fuel : Nat) (f37 : YF37) (x0 : (List (Int × Int × (List Int)))) (x1 : (List (Int × Int × (List Int)))) (k : Ev.Cont) : evalFn tab (Gg11 f37) (J11 fuel) kp11 fuel Try.f11 [.c (.sl (.pair (.int .i64) (.pair (.int .i64) (.sl (.int .u8)))) x0), .c (.sl (.pair (.int .i64) (.pair (.int .i64) (.sl (.int .u8)))) x1)] [] k = Fg_ref09_SameBitmaps fuel f37 x0 x1 (fun r => match r with | r0 => k (.c (.bool r0), [])) := by
  kernel_rfl
theorem hG11 (fuel : Nat) : GOK Try.prog (G11 fuel) :=
  gok_cons ⟨ok37 fuel, enters_of Try.func37 (by kernel_rfl) rfl⟩ <|
  gok_nil
theorem B11_0_blk (fuel : Nat) : BlkOK Try.prog Try.f11.ntmps (.block 0 (.loop (bodyOf 0 Try.f11))) (B11_0 fuel) :=
  blk_of (blk_of_code tab_ok (hG11 fuel) mixed (J := J11_0 fuel) (kp := kp11) (fuel := fuel) (by kernel_rfl) (fun q hq => by
    rw [(by kernel_rfl : obl (J11_0 fuel) (.block 0 (.loop (bodyOf 0 Try.f11))) = [])] at hq
    cases hq)) (B11_0_ok fuel)
theorem fok11 (fuel : Nat) : FnOK Try.prog 11 (evalFn tab (G11 fuel) (J11 fuel) kp11 fuel Try.f11) :=
  fn_ok tab_ok (hG11 fuel) mixed Try.func11 (c := (Try.f11.body).getD .skip) rfl (fun q hq => by
    rw [(by kernel_rfl : obl (J11 fuel) ((Try.f11.body).getD .skip) = [(.block 0 (.loop (bodyOf 0 Try.f11)), B11_0 fuel)])] at hq
    simp only [List.mem_cons, List.not_mem_nil, or_false] at hq
    subst hq
    · exact B11_0_blk fuel)
noncomputable def spg11 (F : YF11) : Ev.Spec := fun args objs k => match args, objs with
 | [.c (.sl (.pair (.int .i64) (.pair (.int .i64) (.sl (.int .u8)))) x0), .c (.sl (.pair (.int .i64) (.pair (.int .i64) (.sl (.int .u8)))) x1)], [] => bif true then F x0 x1 (fun r => match r with | r0 => k (.c (.bool r0), [])) else none
 | _, _ => none
noncomputable def spec11 (fuel : Nat) : Ev.Spec := spg11 (F_ref09_SameBitmaps fuel)
theorem ok11 (fuel : Nat) : FnOK Try.prog 11 (spec11 fuel) := by
  intro args objs kk r h
  unfold spec11 spg11 at h
  split at h
  · skip
    obtain ⟨hb, h⟩ := cond_some' h
    simp only [Bool.and_eq_true, Nat.beq_eq, decide_eq_true_eq] at hb
    clear hb
    exact fok11 fuel _ _ kk r ((F11_eqg fuel (F_ref05_Same fuel) _ _ kk).trans h)
  · cases h
end Go.Proofs.Ytipdidpalcmlhaa

set_option linter.unusedVariables false
set_option linter.unusedSimpArgs false
set_option maxRecDepth 100000
set_option maxHeartbeats 2000000
namespace Go.Proofs.Ytipdidpalcmlhaa
open Go Ev
def kp77 (i : Nat) : Option (List Nat) := Ev.look i []
noncomputable def Gg77 (f : Nat) : Option Ev.Spec := Ev.look f []
noncomputable def G77 (fuel : Nat) : Nat → Option Ev.Spec := Gg77
noncomputable def J77 (fuel : Nat) (i : Nat) : Option Ev.Blk := Ev.look i []
noncomputable def F_ref05_inside (fuel : Nat) (x0 x1 : Int) (x2 : (List Int)) (x3 x4 : Int) (k0 : (Bool) → Option Ans) : Option Ans :=
  bif decide (x3 ≥ (0 : Int)) then
  bif decide (x4 ≥ (0 : Int)) then
  bif decide (x3 < x0) then
  k0 (decide (x4 < x1))
  else
  k0 false
  else
  k0 false
  else
  k0 false
abbrev YF77 : Type := (Int) → (Int) → ((List Int)) → (Int) → (Int) → ((Bool) → Option Ans) → Option Ans
theorem F77_eq (fuel : Nat) (x0 x1 : Int) (x2 : (List Int)) (x3 x4 : Int) (k : Ev.Cont) : evalFn tab (G77 fuel) (J77 fuel) kp77 fuel Try.f77 [.agg [.int .i64 x0, .int .i64 x1, .sl (.int .u8) x2], .c (.int .i64 x3), .c (.int .i64 x4)] [] k = F_ref05_inside fuel x0 x1 x2 x3 x4 (fun r => match r with | r0 => k (.c (.bool r0), [])) := by
  kernel_rfl
theorem hG77 (fuel : Nat) : GOK Try.prog (G77 fuel) :=
  gok_nil
theorem fok77 (fuel : Nat) : FnOK Try.prog 77 (evalFn tab (G77 fuel) (J77 fuel) kp77 fuel Try.f77) :=
  fn_ok tab_ok (hG77 fuel) mixed Try.func77 (c := (Try.f77.body).getD .skip) rfl (fun q hq => by
    rw [(by kernel_rfl : obl (J77 fuel) ((Try.f77.body).getD .skip) = [])] at hq
    cases hq)
noncomputable def spg77 (F : YF77) : Ev.Spec := fun args objs k => match args, objs with
 | [.agg [.int .i64 x0, .int .i64 x1, .sl (.int .u8) x2], .c (.int .i64 x3), .c (.int .i64 x4)], [] => bif true then F x0 x1 x2 x3 x4 (fun r => match r with | r0 => k (.c (.bool r0), [])) else none
 | _, _ => none
noncomputable def spec77 (fuel : Nat) : Ev.Spec := spg77 (F_ref05_inside fuel)
theorem ok77 (fuel : Nat) : FnOK Try.prog 77 (spec77 fuel) := by
  intro args objs kk r h
  unfold spec77 spg77 at h
  split at h
  · skip
    obtain ⟨hb, h⟩ := cond_some' h
    simp only [Bool.and_eq_true, Nat.beq_eq, decide_eq_true_eq] at hb
    clear hb
    exact fok77 fuel _ _ kk r ((F77_eq fuel _ _ _ _ _ kk).trans h)
  · cases h
end Go.Proofs.Ytipdidpalcmlhaa

set_option linter.unusedVariables false
set_option linter.unusedSimpArgs false
set_option maxRecDepth 100000
set_option maxHeartbeats 2000000
namespace Go.Proofs.Ytipdidpalcmlhaa
open Go Ev
def kp80 (i : Nat) : Option (List Nat) := Ev.look i []
noncomputable def Gg80 (f77 : YF77) (f : Nat) : Option Ev.Spec := Ev.look f [(77, spg77 f77)]
noncomputable def G80 (fuel : Nat) : Nat → Option Ev.Spec := Gg80 (F_ref05_inside fuel)
noncomputable def J80 (fuel : Nat) (i : Nat) : Option Ev.Blk := Ev.look i []
noncomputable def Fg_ref05_At (fuel : Nat) (f77 : YF77) (x0 x1 : Int) (x2 : (List Int)) (x3 x4 : Int) (k0 : (Int) → Option Ans) : Option Ans :=
  (f77 (x0) (x1) (x2) (x3) (x4)
  (fun y2 =>
  bif !y2 then
  k0 ((0 : Int))
  else
  bif decide ((0 : Int) ≤ IntKind.i64.wrap (IntKind.i64.wrap (x4 * x0) + x3) ∧ IntKind.i64.wrap (IntKind.i64.wrap (x4 * x0) + x3) < (↑x2.length : Int)) then
  k0 (IntKind.i64.wrap (x2.getD (IntKind.i64.wrap (IntKind.i64.wrap (x4 * x0) + x3)).toNat (0 : Int)))
  else none))
noncomputable def F_ref05_At (fuel : Nat) (x0 x1 : Int) (x2 : (List Int)) (x3 x4 : Int) (k0 : (Int) → Option Ans) : Option Ans := Fg_ref05_At fuel (F_ref05_inside fuel) x0 x1 x2 x3 x4 k0
abbrev YF80 : Type := (Int) → (Int) → ((List Int)) → (Int) → (Int) → ((Int) → Option Ans) → Option Ans
theorem F80_eqg (fuel : Nat) (f77 : YF77) (x0 x1 : Int) (x2 : (List Int)) (x3 x4 : Int) (k : Ev.Cont) : evalFn tab (Gg80 f77) (J80 fuel) kp80 fuel Try.f80 [.agg [.int .i64 x0, .int .i64 x1, .sl (.int .u8) x2], .c (.int .i64 x3), .c (.int .i64 x4)] [] k = Fg_ref05_At fuel f77 x0 x1 x2 x3 x4 (fun r => match r with | r0 => k (.c (.int .i64 r0), [])) := by
  kernel_rfl
theorem hG80 (fuel : Nat) : GOK Try.prog (G80 fuel) :=
  gok_cons ⟨ok77 fuel, enters_of Try.func77 (by kernel_rfl) rfl⟩ <|
  gok_nil
theorem fok80 (fuel : Nat) : FnOK Try.prog 80 (evalFn tab (G80 fuel) (J80 fuel) kp80 fuel Try.f80) :=
  fn_ok tab_ok (hG80 fuel) mixed Try.func80 (c := (Try.f80.body).getD .skip) rfl (fun q hq => by
    rw [(by kernel_rfl : obl (J80 fuel) ((Try.f80.body).getD .skip) = [])] at hq
    cases hq)
noncomputable def spg80 (F : YF80) : Ev.Spec := fun args objs k => match args, objs with
 | [.agg [.int .i64 x0, .int .i64 x1, .sl (.int .u8) x2], .c (.int .i64 x3), .c (.int .i64 x4)], [] => bif true then F x0 x1 x2 x3 x4 (fun r => match r with | r0 => k (.c (.int .i64 r0), [])) else none
 | _, _ => none
noncomputable def spec80 (fuel : Nat) : Ev.Spec := spg80 (F_ref05_At fuel)
theorem ok80 (fuel : Nat) : FnOK Try.prog 80 (spec80 fuel) := by
  intro args objs kk r h
  unfold spec80 spg80 at h
  split at h
  · skip
    obtain ⟨hb, h⟩ := cond_some' h
    simp only [Bool.and_eq_true, Nat.beq_eq, decide_eq_true_eq] at hb
    clear hb
    exact fok80 fuel _ _ kk r ((F80_eqg fuel (F_ref05_inside fuel) _ _ _ _ _ kk).trans h)
  · cases h
end Go.Proofs.Ytipdidpalcmlhaa

set_option linter.unusedVariables false
set_option linter.unusedSimpArgs false
set_option maxRecDepth 100000
set_option maxHeartbeats 2000000
namespace Go.Proofs.Ytipdidpalcmlhaa
open Go Ev
def kp79 (i : Nat) : Option (List Nat) := Ev.look i []
noncomputable def Gg79 (f : Nat) : Option Ev.Spec := Ev.look f []
noncomputable def G79 (fuel : Nat) : Nat → Option Ev.Spec := Gg79
noncomputable def J79 (fuel : Nat) (i : Nat) : Option Ev.Blk := Ev.look i []
noncomputable def F_ref05_Mix (fuel : Nat) (x0 x1 x2 : Int) (k0 : (Int) → Option Ans) : Option Ans :=
  bif x0 == (0 : Int) then
  k0 x2
  else
  bif x0 == (1 : Int) then
  k0 (bif decide (x2 > x1) then x2 else x1)
  else
  bif x0 == (2 : Int) then
  k0 (bif decide (x2 < x1) then x2 else x1)
  else
  bif x0 == (3 : Int) then
  k0 ((IntKind.i64.wrap (x1 + x2)).tmod (2 : Int))
  else
  k0 ((IntKind.i64.wrap (IntKind.i64.wrap (x1 + x2) + (1 : Int))).tmod (2 : Int))
abbrev YF79 : Type := (Int) → (Int) → (Int) → ((Int) → Option Ans) → Option Ans
theorem F79_eq (fuel : Nat) (x0 x1 x2 : Int) (k : Ev.Cont) : evalFn tab (G79 fuel) (J79 fuel) kp79 fuel Try.f79 [.c (.int .i64 x0), .c (.int .i64 x1), .c (.int .i64 x2)] [] k = F_ref05_Mix fuel x0 x1 x2 (fun r => match r with | r0 => k (.c (.int .i64 r0), [])) := by
  kernel_rfl
theorem hG79 (fuel : Nat) : GOK Try.prog (G79 fuel) :=
  gok_nil
theorem fok79 (fuel : Nat) : FnOK Try.prog 79 (evalFn tab (G79 fuel) (J79 fuel) kp79 fuel Try.f79) :=
  fn_ok tab_ok (hG79 fuel) mixed Try.func79 (c := (Try.f79.body).getD .skip) rfl (fun q hq => by
    rw [(by kernel_rfl : obl (J79 fuel) ((Try.f79.body).getD .skip) = [])] at hq
    cases hq)
noncomputable def spg79 (F : YF79) : Ev.Spec := fun args objs k => match args, objs with
 | [.c (.int .i64 x0), .c (.int .i64 x1), .c (.int .i64 x2)], [] => bif true then F x0 x1 x2 (fun r => match r with | r0 => k (.c (.int .i64 r0), [])) else none
 | _, _ => none
noncomputable def spec79 (fuel : Nat) : Ev.Spec := spg79 (F_ref05_Mix fuel)
theorem ok79 (fuel : Nat) : FnOK Try.prog 79 (spec79 fuel) := by
  intro args objs kk r h
  unfold spec79 spg79 at h
  split at h
  · skip
    obtain ⟨hb, h⟩ := cond_some' h
    simp only [Bool.and_eq_true, Nat.beq_eq, decide_eq_true_eq] at hb
    clear hb
    exact fok79 fuel _ _ kk r ((F79_eq fuel _ _ _ kk).trans h)
  · cases h
end Go.Proofs.Ytipdidpalcmlhaa

set_option linter.unusedVariables false
set_option linter.unusedSimpArgs false
set_option maxRecDepth 100000
set_option maxHeartbeats 2000000
namespace Go.Proofs.Ytipdidpalcmlhaa
open Go Ev
def kp78_a2e (i : Nat) : Option (List Nat) := Ev.look i []
noncomputable def Gg78_a2e (f : Nat) : Option Ev.Spec := Ev.look f []
noncomputable def G78_a2e (fuel : Nat) : Nat → Option Ev.Spec := Gg78_a2e
noncomputable def J78_a2e (fuel : Nat) (i : Nat) : Option Ev.Blk := Ev.look i []
noncomputable def F_ref05_Put_a2e (fuel : Nat) (x0 x1 : Int) (x2 x3 x4 : Int) (x5 : (List Int)) (k0 : ((List Int)) → Option Ans) : Option Ans :=
  bif decide ((0 : Int) ≤ IntKind.i64.wrap (IntKind.i64.wrap (x3 * x0) + x2) ∧ IntKind.i64.wrap (IntKind.i64.wrap (x3 * x0) + x2) < (↑x5.length : Int)) then
  k0 (x5.set (IntKind.i64.wrap (IntKind.i64.wrap (x3 * x0) + x2)).toNat (IntKind.u8.wrap x4))
  else none
abbrev YF78_a2e : Type := (Int) → (Int) → (Int) → (Int) → (Int) → ((List Int)) → (((List Int)) → Option Ans) → Option Ans
theorem F78_a2e_eq (fuel : Nat) (x0 x1 : Int) (x2 x3 x4 : Int) (x5 : (List Int)) (k : Ev.Cont) : evalFn tab (G78_a2e fuel) (J78_a2e fuel) kp78_a2e fuel Try.f78 [.agg [.int .i64 x0, .int .i64 x1, .own 0], .c (.int .i64 x2), .c (.int .i64 x3), .c (.int .i64 x4)] [.vec 5 (.int .u8) x5 false] k = F_ref05_Put_a2e fuel x0 x1 x2 x3 x4 x5 (fun r => match r with | r0 => k (.tup [], [.vec 5 (.int .u8) r0 false])) := by
  kernel_rfl
theorem hG78_a2e (fuel : Nat) : GOK Try.prog (G78_a2e fuel) :=
  gok_nil
theorem fok78_a2e (fuel : Nat) : FnOK Try.prog 78 (evalFn tab (G78_a2e fuel) (J78_a2e fuel) kp78_a2e fuel Try.f78) :=
  fn_ok tab_ok (hG78_a2e fuel) mixed Try.func78 (c := (Try.f78.body).getD .skip) rfl (fun q hq => by
    rw [(by kernel_rfl : obl (J78_a2e fuel) ((Try.f78.body).getD .skip) = [])] at hq
    cases hq)
noncomputable def spg78_a2e (F : YF78_a2e) : Ev.Spec := fun args objs k => match args, objs with
 | [.agg [.int .i64 x0, .int .i64 x1, .own q0], .c (.int .i64 x2), .c (.int .i64 x3), .c (.int .i64 x4)], [.vec q1 (.int .u8) x5 false] => bif Nat.beq q0 0 && Nat.beq q1 5 then F x0 x1 x2 x3 x4 x5 (fun r => match r with | r0 => k (.tup [], [.vec 5 (.int .u8) r0 false])) else none
 | _, _ => none
noncomputable def spec78_a2e (fuel : Nat) : Ev.Spec := spg78_a2e (F_ref05_Put_a2e fuel)
theorem ok78_a2e (fuel : Nat) : FnOK Try.prog 78 (spec78_a2e fuel) := by
  intro args objs kk r h
  unfold spec78_a2e spg78_a2e at h
  split at h
  · skip
    obtain ⟨hb, h⟩ := cond_some' h
    simp only [Bool.and_eq_true, Nat.beq_eq, decide_eq_true_eq] at hb
    obtain ⟨rfl, rfl⟩ := hb
    exact fok78_a2e fuel _ _ kk r ((F78_a2e_eq fuel _ _ _ _ _ _ kk).trans h)
  · cases h
end Go.Proofs.Ytipdidpalcmlhaa

set_option linter.unusedVariables false
set_option linter.unusedSimpArgs false
set_option maxRecDepth 100000
set_option maxHeartbeats 2000000
namespace Go.Proofs.Ytipdidpalcmlhaa
open Go Ev
def kp32_65b (i : Nat) : Option (List Nat) := Ev.look i [(2, [2, 3, 4, 5, 6, 10]), (5, [2, 3, 4, 5, 6, 10, 11]), (100000, []), (100002, [2, 3, 4, 5, 6, 10]), (200008, [5, 6]), (400000, []), (400002, [])]
noncomputable def Gg32_65b (f77 : YF77) (f78_a2e : YF78_a2e) (f79 : YF79) (f80 : YF80) (f : Nat) : Option Ev.Spec := Ev.look f [(77, spg77 f77), (1000078, spg78_a2e f78_a2e), (79, spg79 f79), (80, spg80 f80)]
noncomputable def G32_65b (fuel : Nat) : Nat → Option Ev.Spec := Gg32_65b (F_ref05_inside fuel) (F_ref05_Put_a2e fuel) (F_ref05_Mix fuel) (F_ref05_At fuel)
noncomputable def Sg_ref05_Lay_65b_2 (fuel : Nat) (f77 : YF77) (f78_a2e : YF78_a2e) (f79 : YF79) (f80 : YF80) (x0 x1 : Int) (x2 x3 x4 : Int) (x5 : (List Int)) (x6 x7 : Int) (x8 x9 : Int) (x10 : (List Int)) (c : (Int × Int × Int × Int × Int × (List Int) × Int × Int × Int × Int × (List Int)) → Option Ans) (B : (Int × Int × Int × Int × (List Int) × Int × Int × Int × Int × (List Int) → Option Ans)) : Option Ans := match B with
 | b =>
  bif decide (x4 < x8) then
  (f77 (x6) (x7) (x5) (IntKind.i64.wrap (x0 + x4)) (IntKind.i64.wrap (x1 + x3))
  (fun y3 =>
  bif y3 then
  (f80 (x6) (x7) (x5) (IntKind.i64.wrap (x0 + x4)) (IntKind.i64.wrap (x1 + x3))
  (fun y8 =>
  (f80 (x8) (x9) (x10) (x4) (x3)
  (fun y12 =>
  (f79 (x2) (y8) (y12)
  (fun y16 =>
  (f78_a2e (x6) (x7) (IntKind.i64.wrap (x0 + x4)) (IntKind.i64.wrap (x1 + x3)) (y16) (x5)
  (fun y20 =>
  c (x0, x1, x2, x3, IntKind.i64.wrap (x4 + (1 : Int)), y20, x6, x7, x8, x9, x10)))))))))
  else
  c (x0, x1, x2, x3, IntKind.i64.wrap (x4 + (1 : Int)), x5, x6, x7, x8, x9, x10)))
  else
  b (x0, x1, x2, x3, x5, x6, x7, x8, x9, x10)
noncomputable def S_ref05_Lay_65b_2 (fuel : Nat) (v : Int × Int × Int × Int × Int × (List Int) × Int × Int × Int × Int × (List Int)) (c : (Int × Int × Int × Int × Int × (List Int) × Int × Int × Int × Int × (List Int)) → Option Ans) (B : (Int × Int × Int × Int × (List Int) × Int × Int × Int × Int × (List Int) → Option Ans)) : Option Ans := match v with
 | (x0, x1, x2, x3, x4, x5, x6, x7, x8, x9, x10) => Sg_ref05_Lay_65b_2 fuel (F_ref05_inside fuel) (F_ref05_Put_a2e fuel) (F_ref05_Mix fuel) (F_ref05_At fuel) x0 x1 x2 x3 x4 x5 x6 x7 x8 x9 x10 c B
noncomputable def L_ref05_Lay_65b_2 (fuel : Nat) (v : Int × Int × Int × Int × Int × (List Int) × Int × Int × Int × Int × (List Int)) (b : (Int × Int × Int × Int × (List Int) × Int × Int × Int × Int × (List Int) → Option Ans)) : Option Ans := iter (S_ref05_Lay_65b_2 fuel) fuel v b
noncomputable def J32_65b_2 (fuel : Nat) (i : Nat) : Option Ev.Blk := Ev.look i []
noncomputable def T32_65b_2 (v : Int × Int × Int × Int × Int × (List Int) × Int × Int × Int × Int × (List Int)) : Ev.St := match v with | (x0, x1, x2, x3, x4, x5, x6, x7, x8, x9, x10) => ⟨[(2, .c (.int .i64 x0)), (3, .c (.int .i64 x1)), (4, .c (.int .i64 x2)), (5, .c (.ptr 1 0)), (6, .c (.ptr 2 0)), (10, .c (.int .i64 x3)), (11, .c (.int .i64 x4))], [(0, .vec 5 (.int .u8) x5 false), (1, .cells 35 [.int .i64 x6, .int .i64 x7, .own 0]), (2, .cells 35 [.int .i64 x8, .int .i64 x9, .sl (.int .u8) x10])], 3, 1⟩
noncomputable def E32_65b_2 (K : Ev.Ex → Ev.St → Option Ans) : (Int × Int × Int × Int × (List Int) × Int × Int × Int × Int × (List Int) → Option Ans) := (fun v => match v with | (x0, x1, x2, x3, x4, x5, x6, x7, x8, x9) => K .normal ⟨[(2, .c (.int .i64 x0)), (3, .c (.int .i64 x1)), (4, .c (.int .i64 x2)), (5, .c (.ptr 1 0)), (6, .c (.ptr 2 0)), (10, .c (.int .i64 x3))], [(0, .vec 5 (.int .u8) x4 false), (1, .cells 35 [.int .i64 x5, .int .i64 x6, .own 0]), (2, .cells 35 [.int .i64 x7, .int .i64 x8, .sl (.int .u8) x9])], 3, 1⟩)
theorem S32_65b_2_okg (fuel : Nat) (f77 : YF77) (f78_a2e : YF78_a2e) (f79 : YF79) (f80 : YF80) (R : Ev.St → Option Ans) (K : Ev.Ex → Ev.St → Option Ans) (x0 x1 : Int) (x2 x3 x4 : Int) (x5 : (List Int)) (x6 x7 : Int) (x8 x9 : Int) (x10 : (List Int)) : evalCode tab (Gg32_65b f77 f78_a2e f79 f80) (J32_65b_2 fuel) kp32_65b fuel (bodyOf 2 Try.f32) (T32_65b_2 (x0, x1, x2, x3, x4, x5, x6, x7, x8, x9, x10)) (lc kp32_65b 5 2 R K) = Sg_ref05_Lay_65b_2 fuel f77 f78_a2e f79 f80 x0 x1 x2 x3 x4 x5 x6 x7 x8 x9 x10 (fun v => R (T32_65b_2 v)) (E32_65b_2 K) := by
  kernel_rfl
noncomputable def B32_65b_2 (fuel : Nat) : Ev.Blk := fun st K => match canonO (kp32_65b 5) st with
 | some s => (match s with
 | ⟨[(q0, .c (.int .i64 x0)), (q1, .c (.int .i64 x1)), (q2, .c (.int .i64 x2)), (q3, .c (.ptr q4 q5)), (q6, .c (.ptr q7 q8)), (q9, .c (.int .i64 x3)), (q10, .c (.int .i64 x4))], [(q11, .vec q12 (.int .u8) x5 false), (q13, .cells q14 [.int .i64 x6, .int .i64 x7, .own q15]), (q16, .cells q17 [.int .i64 x8, .int .i64 x9, .sl (.int .u8) x10])], q18, q19⟩ => bif Nat.beq q0 2 && Nat.beq q1 3 && Nat.beq q2 4 && Nat.beq q3 5 && Nat.beq q4 1 && Nat.beq q5 0 && Nat.beq q6 6 && Nat.beq q7 2 && Nat.beq q8 0 && Nat.beq q9 10 && Nat.beq q10 11 && Nat.beq q11 0 && Nat.beq q12 5 && Nat.beq q13 1 && Nat.beq q14 35 && Nat.beq q15 0 && Nat.beq q16 2 && Nat.beq q17 35 && Nat.beq q18 3 && Nat.beq q19 1 then iter (S_ref05_Lay_65b_2 fuel) fuel (x0, x1, x2, x3, x4, x5, x6, x7, x8, x9, x10) (E32_65b_2 K) else none
 | _ => none)
 | none => none
theorem B32_65b_2_ok (fuel : Nat) (st : Ev.St) (K : Ev.Ex → Ev.St → Option Ans) (r : Ans) (h : B32_65b_2 fuel st K = some r) : evalCode tab (G32_65b fuel) (J32_65b_2 fuel) kp32_65b fuel (.block 2 (.loop (bodyOf 2 Try.f32))) st K = some r := by
  unfold B32_65b_2 at h
  split at h
  · rename_i s hs
    split at h
    · skip
      obtain ⟨hb, h⟩ := cond_some' h
      simp only [Bool.and_eq_true, Nat.beq_eq, decide_eq_true_eq] at hb
      obtain ⟨⟨⟨⟨⟨⟨⟨⟨⟨⟨⟨⟨⟨⟨⟨⟨⟨⟨⟨rfl, rfl⟩, rfl⟩, rfl⟩, rfl⟩, rfl⟩, rfl⟩, rfl⟩, rfl⟩, rfl⟩, rfl⟩, rfl⟩, rfl⟩, rfl⟩, rfl⟩, rfl⟩, rfl⟩, rfl⟩, rfl⟩, rfl⟩ := hb
      exact blk_loop (S := T32_65b_2) (ks := E32_65b_2) (step := S_ref05_Lay_65b_2 fuel) (v := (_, _, _, _, _, _, _, _, _, _, _)) (by kernel_rfl) (by kernel_rfl) (fun R K v => by obtain ⟨x0, x1, x2, x3, x4, x5, x6, x7, x8, x9, x10⟩ := v; exact S32_65b_2_okg fuel (F_ref05_inside fuel) (F_ref05_Put_a2e fuel) (F_ref05_Mix fuel) (F_ref05_At fuel) R K x0 x1 x2 x3 x4 x5 x6 x7 x8 x9 x10) hs h
    · cases h
  · cases h
noncomputable def Sg_ref05_Lay_65b_0 (fuel : Nat) (f77 : YF77) (f78_a2e : YF78_a2e) (f79 : YF79) (f80 : YF80) (x0 x1 : Int) (x2 x3 : Int) (x4 : (List Int)) (x5 x6 : Int) (x7 x8 : Int) (x9 : (List Int)) (c : (Int × Int × Int × Int × (List Int) × Int × Int × Int × Int × (List Int)) → Option Ans) (B : ((List Int) → Option Ans)) : Option Ans := match B with
 | b =>
  bif decide (x3 < x8) then
  (L_ref05_Lay_65b_2 fuel (x0, x1, x2, x3, (0 : Int), x4, x5, x6, x7, x8, x9)
  (fun (b2_0, b2_1, b2_2, b2_3, b2_4, b2_5, b2_6, b2_7, b2_8, b2_9) =>
  c (b2_0, b2_1, b2_2, IntKind.i64.wrap (b2_3 + (1 : Int)), b2_4, b2_5, b2_6, b2_7, b2_8, b2_9)))
  else
  b x4
noncomputable def S_ref05_Lay_65b_0 (fuel : Nat) (v : Int × Int × Int × Int × (List Int) × Int × Int × Int × Int × (List Int)) (c : (Int × Int × Int × Int × (List Int) × Int × Int × Int × Int × (List Int)) → Option Ans) (B : ((List Int) → Option Ans)) : Option Ans := match v with
 | (x0, x1, x2, x3, x4, x5, x6, x7, x8, x9) => Sg_ref05_Lay_65b_0 fuel (F_ref05_inside fuel) (F_ref05_Put_a2e fuel) (F_ref05_Mix fuel) (F_ref05_At fuel) x0 x1 x2 x3 x4 x5 x6 x7 x8 x9 c B
noncomputable def L_ref05_Lay_65b_0 (fuel : Nat) (v : Int × Int × Int × Int × (List Int) × Int × Int × Int × Int × (List Int)) (b : ((List Int) → Option Ans)) : Option Ans := iter (S_ref05_Lay_65b_0 fuel) fuel v b
noncomputable def J32_65b_0 (fuel : Nat) (i : Nat) : Option Ev.Blk := Ev.look i [(100002, B32_65b_2 fuel)]
noncomputable def T32_65b_0 (v : Int × Int × Int × Int × (List Int) × Int × Int × Int × Int × (List Int)) : Ev.St := match v with | (x0, x1, x2, x3, x4, x5, x6, x7, x8, x9) => ⟨[(2, .c (.int .i64 x0)), (3, .c (.int .i64 x1)), (4, .c (.int .i64 x2)), (5, .c (.ptr 1 0)), (6, .c (.ptr 2 0)), (10, .c (.int .i64 x3))], [(0, .vec 5 (.int .u8) x4 false), (1, .cells 35 [.int .i64 x5, .int .i64 x6, .own 0]), (2, .cells 35 [.int .i64 x7, .int .i64 x8, .sl (.int .u8) x9])], 3, 1⟩
noncomputable def E32_65b_0 (K : Ev.Ex → Ev.St → Option Ans) : ((List Int) → Option Ans) := (fun v => match v with | x0 => K .normal ⟨[], [(0, .vec 5 (.int .u8) x0 false)], 1, 1⟩)
theorem S32_65b_0_okg (fuel : Nat) (f77 : YF77) (f78_a2e : YF78_a2e) (f79 : YF79) (f80 : YF80) (R : Ev.St → Option Ans) (K : Ev.Ex → Ev.St → Option Ans) (x0 x1 : Int) (x2 x3 : Int) (x4 : (List Int)) (x5 x6 : Int) (x7 x8 : Int) (x9 : (List Int)) : evalCode tab (Gg32_65b f77 f78_a2e f79 f80) (J32_65b_0 fuel) kp32_65b fuel (bodyOf 0 Try.f32) (T32_65b_0 (x0, x1, x2, x3, x4, x5, x6, x7, x8, x9)) (lc kp32_65b 2 0 R K) = Sg_ref05_Lay_65b_0 fuel f77 f78_a2e f79 f80 x0 x1 x2 x3 x4 x5 x6 x7 x8 x9 (fun v => R (T32_65b_0 v)) (E32_65b_0 K) := by
  kernel_rfl
noncomputable def B32_65b_0 (fuel : Nat) : Ev.Blk := fun st K => match canonO (kp32_65b 2) st with
 | some s => (match s with
 | ⟨[(q0, .c (.int .i64 x0)), (q1, .c (.int .i64 x1)), (q2, .c (.int .i64 x2)), (q3, .c (.ptr q4 q5)), (q6, .c (.ptr q7 q8)), (q9, .c (.int .i64 x3))], [(q10, .vec q11 (.int .u8) x4 false), (q12, .cells q13 [.int .i64 x5, .int .i64 x6, .own q14]), (q15, .cells q16 [.int .i64 x7, .int .i64 x8, .sl (.int .u8) x9])], q17, q18⟩ => bif Nat.beq q0 2 && Nat.beq q1 3 && Nat.beq q2 4 && Nat.beq q3 5 && Nat.beq q4 1 && Nat.beq q5 0 && Nat.beq q6 6 && Nat.beq q7 2 && Nat.beq q8 0 && Nat.beq q9 10 && Nat.beq q10 0 && Nat.beq q11 5 && Nat.beq q12 1 && Nat.beq q13 35 && Nat.beq q14 0 && Nat.beq q15 2 && Nat.beq q16 35 && Nat.beq q17 3 && Nat.beq q18 1 then iter (S_ref05_Lay_65b_0 fuel) fuel (x0, x1, x2, x3, x4, x5, x6, x7, x8, x9) (E32_65b_0 K) else none
 | _ => none)
 | none => none
theorem B32_65b_0_ok (fuel : Nat) (st : Ev.St) (K : Ev.Ex → Ev.St → Option Ans) (r : Ans) (h : B32_65b_0 fuel st K = some r) : evalCode tab (G32_65b fuel) (J32_65b_0 fuel) kp32_65b fuel (.block 0 (.loop (bodyOf 0 Try.f32))) st K = some r := by
  unfold B32_65b_0 at h
  split at h
  · rename_i s hs
    split at h
    · skip
      obtain ⟨hb, h⟩ := cond_some' h
      simp only [Bool.and_eq_true, Nat.beq_eq, decide_eq_true_eq] at hb
      obtain ⟨⟨⟨⟨⟨⟨⟨⟨⟨⟨⟨⟨⟨⟨⟨⟨⟨⟨rfl, rfl⟩, rfl⟩, rfl⟩, rfl⟩, rfl⟩, rfl⟩, rfl⟩, rfl⟩, rfl⟩, rfl⟩, rfl⟩, rfl⟩, rfl⟩, rfl⟩, rfl⟩, rfl⟩, rfl⟩, rfl⟩ := hb
      exact blk_loop (S := T32_65b_0) (ks := E32_65b_0) (step := S_ref05_Lay_65b_0 fuel) (v := (_, _, _, _, _, _, _, _, _, _)) (by kernel_rfl) (by kernel_rfl) (fun R K v => by obtain ⟨x0, x1, x2, x3, x4, x5, x6, x7, x8, x9⟩ := v; exact S32_65b_0_okg fuel (F_ref05_inside fuel) (F_ref05_Put_a2e fuel) (F_ref05_Mix fuel) (F_ref05_At fuel) R K x0 x1 x2 x3 x4 x5 x6 x7 x8 x9) hs h
    · cases h
  · cases h
noncomputable def J32_65b (fuel : Nat) (i : Nat) : Option Ev.Blk := Ev.look i [(100002, B32_65b_2 fuel), (100000, B32_65b_0 fuel)]
noncomputable def Fg_ref05_Lay_65b (fuel : Nat) (f77 : YF77) (f78_a2e : YF78_a2e) (f79 : YF79) (f80 : YF80) (x0 x1 : Int) (x2 x3 : Int) (x4 : (List Int)) (x5 x6 x7 : Int) (x8 : (List Int)) (k0 : ((List Int)) → Option Ans) : Option Ans :=
  (L_ref05_Lay_65b_0 fuel (x5, x6, x7, (0 : Int), x8, x0, x1, x2, x3, x4)
  (fun b0_0 =>
  k0 b0_0))
noncomputable def F_ref05_Lay_65b (fuel : Nat) (x0 x1 : Int) (x2 x3 : Int) (x4 : (List Int)) (x5 x6 x7 : Int) (x8 : (List Int)) (k0 : ((List Int)) → Option Ans) : Option Ans := Fg_ref05_Lay_65b fuel (F_ref05_inside fuel) (F_ref05_Put_a2e fuel) (F_ref05_Mix fuel) (F_ref05_At fuel) x0 x1 x2 x3 x4 x5 x6 x7 x8 k0
abbrev YF32_65b : Type := (Int) → (Int) → (Int) → (Int) → ((List Int)) → (Int) → (Int) → (Int) → ((List Int)) → (((List Int)) → Option Ans) → Option Ans
theorem F32_65b_eqg (fuel : Nat) (f77 : YF77) (f78_a2e : YF78_a2e) (f79 : YF79) (f80 : YF80) (x0 x1 : Int) (x2 x3 : Int) (x4 : (List Int)) (x5 x6 x7 : Int) (x8 : (List Int)) (k : Ev.Cont) : evalFn tab (Gg32_65b f77 f78_a2e f79 f80) (J32_65b fuel) kp32_65b fuel Try.f32 [.agg [.int .i64 x0, .int .i64 x1, .own 0], .agg [.int .i64 x2, .int .i64 x3, .sl (.int .u8) x4], .c (.int .i64 x5), .c (.int .i64 x6), .c (.int .i64 x7)] [.vec 5 (.int .u8) x8 false] k = Fg_ref05_Lay_65b fuel f77 f78_a2e f79 f80 x0 x1 x2 x3 x4 x5 x6 x7 x8 (fun r => match r with | r0 => k (.tup [], [.vec 5 (.int .u8) r0 false])) := by
  kernel_rfl
theorem hG32_65b (fuel : Nat) : GOK Try.prog (G32_65b fuel) :=
  gok_cons ⟨ok77 fuel, enters_of Try.func77 (by kernel_rfl) rfl⟩ <|
  gok_cons ⟨ok78_a2e fuel, enters_of Try.func78 (by kernel_rfl) rfl⟩ <|
  gok_cons ⟨ok79 fuel, enters_of Try.func79 (by kernel_rfl) rfl⟩ <|
  gok_cons ⟨ok80 fuel, enters_of Try.func80 (by kernel_rfl) rfl⟩ <|
  gok_nil
theorem B32_65b_2_blk (fuel : Nat) : BlkOK Try.prog Try.f32.ntmps (.block 2 (.loop (bodyOf 2 Try.f32))) (B32_65b_2 fuel) :=
  blk_of (blk_of_code tab_ok (hG32_65b fuel) mixed (J := J32_65b_2 fuel) (kp := kp32_65b) (fuel := fuel) (by kernel_rfl) (fun q hq => by
    rw [(by kernel_rfl : obl (J32_65b_2 fuel) (.block 2 (.loop (bodyOf 2 Try.f32))) = [])] at hq
    cases hq)) (B32_65b_2_ok fuel)
theorem B32_65b_0_blk (fuel : Nat) : BlkOK Try.prog Try.f32.ntmps (.block 0 (.loop (bodyOf 0 Try.f32))) (B32_65b_0 fuel) :=
  blk_of (blk_of_code tab_ok (hG32_65b fuel) mixed (J := J32_65b_0 fuel) (kp := kp32_65b) (fuel := fuel) (by kernel_rfl) (fun q hq => by
    rw [(by kernel_rfl : obl (J32_65b_0 fuel) (.block 0 (.loop (bodyOf 0 Try.f32))) = [(.block 2 (.loop (bodyOf 2 Try.f32)), B32_65b_2 fuel)])] at hq
    simp only [List.mem_cons, List.not_mem_nil, or_false] at hq
    subst hq
    · exact B32_65b_2_blk fuel)) (B32_65b_0_ok fuel)
theorem fok32_65b (fuel : Nat) : FnOK Try.prog 32 (evalFn tab (G32_65b fuel) (J32_65b fuel) kp32_65b fuel Try.f32) :=
  fn_ok tab_ok (hG32_65b fuel) mixed Try.func32 (c := (Try.f32.body).getD .skip) rfl (fun q hq => by
    rw [(by kernel_rfl : obl (J32_65b fuel) ((Try.f32.body).getD .skip) = [(.block 0 (.loop (bodyOf 0 Try.f32)), B32_65b_0 fuel)])] at hq
    simp only [List.mem_cons, List.not_mem_nil, or_false] at hq
    subst hq
    · exact B32_65b_0_blk fuel)
noncomputable def spg32_65b (F : YF32_65b) : Ev.Spec := fun args objs k => match args, objs with
 | [.agg [.int .i64 x0, .int .i64 x1, .own q0], .agg [.int .i64 x2, .int .i64 x3, .sl (.int .u8) x4], .c (.int .i64 x5), .c (.int .i64 x6), .c (.int .i64 x7)], [.vec q1 (.int .u8) x8 false] => bif Nat.beq q0 0 && Nat.beq q1 5 then F x0 x1 x2 x3 x4 x5 x6 x7 x8 (fun r => match r with | r0 => k (.tup [], [.vec 5 (.int .u8) r0 false])) else none
 | _, _ => none
noncomputable def spec32_65b (fuel : Nat) : Ev.Spec := spg32_65b (F_ref05_Lay_65b fuel)
theorem ok32_65b (fuel : Nat) : FnOK Try.prog 32 (spec32_65b fuel) := by
  intro args objs kk r h
  unfold spec32_65b spg32_65b at h
  split at h
  · skip
    obtain ⟨hb, h⟩ := cond_some' h
    simp only [Bool.and_eq_true, Nat.beq_eq, decide_eq_true_eq] at hb
    obtain ⟨rfl, rfl⟩ := hb
    exact fok32_65b fuel _ _ kk r ((F32_65b_eqg fuel (F_ref05_inside fuel) (F_ref05_Put_a2e fuel) (F_ref05_Mix fuel) (F_ref05_At fuel) _ _ _ _ _ _ _ _ _ kk).trans h)
  · cases h
end Go.Proofs.Ytipdidpalcmlhaa

set_option linter.unusedVariables false
set_option linter.unusedSimpArgs false
set_option maxRecDepth 100000
set_option maxHeartbeats 2000000
namespace Go.Proofs.Ytipdidpalcmlhaa
open Go Ev
def kp75 (i : Nat) : Option (List Nat) := Ev.look i []
noncomputable def Gg75 (f : Nat) : Option Ev.Spec := Ev.look f []
noncomputable def G75 (fuel : Nat) : Nat → Option Ev.Spec := Gg75
noncomputable def J75 (fuel : Nat) (i : Nat) : Option Ev.Blk := Ev.look i []
noncomputable def F_ref05_Sides (fuel : Nat) (x0 x1 : Int) (k0 : (Bool) → Option Ans) : Option Ans :=
  bif decide (x0 ≥ (0 : Int)) then
  bif decide (x1 ≥ (0 : Int)) then
  bif decide (x0 ≤ (200 : Int)) then
  bif decide (x1 ≤ (200 : Int)) then
  k0 (decide (IntKind.i64.wrap (x0 * x1) ≤ (8192 : Int)))
  else
  k0 false
  else
  k0 false
  else
  k0 false
  else
  k0 false
abbrev YF75 : Type := (Int) → (Int) → ((Bool) → Option Ans) → Option Ans
theorem F75_eq (fuel : Nat) (x0 x1 : Int) (k : Ev.Cont) : evalFn tab (G75 fuel) (J75 fuel) kp75 fuel Try.f75 [.c (.int .i64 x0), .c (.int .i64 x1)] [] k = F_ref05_Sides fuel x0 x1 (fun r => match r with | r0 => k (.c (.bool r0), [])) := by
  kernel_rfl
theorem hG75 (fuel : Nat) : GOK Try.prog (G75 fuel) :=
  gok_nil
theorem fok75 (fuel : Nat) : FnOK Try.prog 75 (evalFn tab (G75 fuel) (J75 fuel) kp75 fuel Try.f75) :=
  fn_ok tab_ok (hG75 fuel) mixed Try.func75 (c := (Try.f75.body).getD .skip) rfl (fun q hq => by
    rw [(by kernel_rfl : obl (J75 fuel) ((Try.f75.body).getD .skip) = [])] at hq
    cases hq)
noncomputable def spg75 (F : YF75) : Ev.Spec := fun args objs k => match args, objs with
 | [.c (.int .i64 x0), .c (.int .i64 x1)], [] => bif true then F x0 x1 (fun r => match r with | r0 => k (.c (.bool r0), [])) else none
 | _, _ => none
noncomputable def spec75 (fuel : Nat) : Ev.Spec := spg75 (F_ref05_Sides fuel)
theorem ok75 (fuel : Nat) : FnOK Try.prog 75 (spec75 fuel) := by
  intro args objs kk r h
  unfold spec75 spg75 at h
  split at h
  · skip
    obtain ⟨hb, h⟩ := cond_some' h
    simp only [Bool.and_eq_true, Nat.beq_eq, decide_eq_true_eq] at hb
    clear hb
    exact fok75 fuel _ _ kk r ((F75_eq fuel _ _ kk).trans h)
  · cases h
end Go.Proofs.Ytipdidpalcmlhaa

set_option linter.unusedVariables false
set_option linter.unusedSimpArgs false
set_option maxRecDepth 100000
set_option maxHeartbeats 2000000
namespace Go.Proofs.Ytipdidpalcmlhaa
open Go Ev
def kp76 (i : Nat) : Option (List Nat) := Ev.look i [(3, [0, 1, 2, 6, 7, 8]), (100000, [6, 7]), (400000, [6])]
noncomputable def Gg76 (f : Nat) : Option Ev.Spec := Ev.look f []
noncomputable def G76 (fuel : Nat) : Nat → Option Ev.Spec := Gg76
noncomputable def S_ref05_make2_0 (fuel : Nat) (v : Int × Int × Int × Int × Int × Int × Int × Int × (List Int) × (List Int)) (c : (Int × Int × Int × Int × Int × Int × Int × Int × (List Int) × (List Int)) → Option Ans) (B : (Int × Int × Int × Int × (List Int) × (List Int) → Option Ans)) : Option Ans := match v, B with
 | (x0, x1, x2, x3, x4, x5, x6, x7, x8, x9), b =>
  bif decide (x3 < IntKind.i64.wrap (x0 * x1)) then
  bif decide ((x9.length + [IntKind.u8.wrap x2].length) * (1 : Nat) ≤ (140737488355328 : Nat) ∧ x9.length + [IntKind.u8.wrap x2].length ≤ (140737488355328 : Nat)) then
  c (x0, x1, x2, IntKind.i64.wrap (x3 + (1 : Int)), x4, x5, x6, x7, x8, x9 ++ [IntKind.u8.wrap x2])
  else none
  else
  b (x4, x5, x6, x7, x8, x9)
noncomputable def L_ref05_make2_0 (fuel : Nat) (v : Int × Int × Int × Int × Int × Int × Int × Int × (List Int) × (List Int)) (b : (Int × Int × Int × Int × (List Int) × (List Int) → Option Ans)) : Option Ans := iter (S_ref05_make2_0 fuel) fuel v b
noncomputable def J76_0 (fuel : Nat) (i : Nat) : Option Ev.Blk := Ev.look i []
noncomputable def T76_0 (v : Int × Int × Int × Int × Int × Int × Int × Int × (List Int) × (List Int)) : Ev.St := match v with | (x0, x1, x2, x3, x4, x5, x6, x7, x8, x9) => ⟨[(0, .c (.int .i64 x0)), (1, .c (.int .i64 x1)), (2, .c (.int .i64 x2)), (6, .c (.ptr 0 0)), (7, .c (.ptr 1 0)), (8, .c (.int .i64 x3))], [(0, .cells 35 [.int .i64 x4, .int .i64 x5, .own 2]), (1, .cells 35 [.int .i64 x6, .int .i64 x7, .own 3]), (2, .vec 5 (.int .u8) x8 true), (3, .vec 5 (.int .u8) x9 true)], 4, 0⟩
noncomputable def E76_0 (K : Ev.Ex → Ev.St → Option Ans) : (Int × Int × Int × Int × (List Int) × (List Int) → Option Ans) := (fun v => match v with | (x0, x1, x2, x3, x4, x5) => K .normal ⟨[(6, .c (.ptr 0 0)), (7, .c (.ptr 1 0))], [(0, .cells 35 [.int .i64 x0, .int .i64 x1, .own 2]), (1, .cells 35 [.int .i64 x2, .int .i64 x3, .own 3]), (2, .vec 5 (.int .u8) x4 true), (3, .vec 5 (.int .u8) x5 true)], 4, 0⟩)
theorem S76_0_ok (fuel : Nat) (R : Ev.St → Option Ans) (K : Ev.Ex → Ev.St → Option Ans) (x0 x1 : Int) (x2 x3 : Int) (x4 x5 : Int) (x6 x7 : Int) (x8 x9 : (List Int)) : evalCode tab (G76 fuel) (J76_0 fuel) kp76 fuel (bodyOf 0 Try.f76) (T76_0 (x0, x1, x2, x3, x4, x5, x6, x7, x8, x9)) (lc kp76 3 0 R K) = S_ref05_make2_0 fuel (x0, x1, x2, x3, x4, x5, x6, x7, x8, x9) (fun v => R (T76_0 v)) (E76_0 K) := by
  kernel_rfl
noncomputable def B76_0 (fuel : Nat) : Ev.Blk := fun st K => match canonO (kp76 3) st with
 | some s => (match s with
 | ⟨[(q0, .c (.int .i64 x0)), (q1, .c (.int .i64 x1)), (q2, .c (.int .i64 x2)), (q3, .c (.ptr q4 q5)), (q6, .c (.ptr q7 q8)), (q9, .c (.int .i64 x3))], [(q10, .cells q11 [.int .i64 x4, .int .i64 x5, .own q12]), (q13, .cells q14 [.int .i64 x6, .int .i64 x7, .own q15]), (q16, .vec q17 (.int .u8) x8 true), (q18, .vec q19 (.int .u8) x9 true)], q20, q21⟩ => bif Nat.beq q0 0 && Nat.beq q1 1 && Nat.beq q2 2 && Nat.beq q3 6 && Nat.beq q4 0 && Nat.beq q5 0 && Nat.beq q6 7 && Nat.beq q7 1 && Nat.beq q8 0 && Nat.beq q9 8 && Nat.beq q10 0 && Nat.beq q11 35 && Nat.beq q12 2 && Nat.beq q13 1 && Nat.beq q14 35 && Nat.beq q15 3 && Nat.beq q16 2 && Nat.beq q17 5 && Nat.beq q18 3 && Nat.beq q19 5 && Nat.beq q20 4 && Nat.beq q21 0 then iter (S_ref05_make2_0 fuel) fuel (x0, x1, x2, x3, x4, x5, x6, x7, x8, x9) (E76_0 K) else none
 | _ => none)
 | none => none
theorem B76_0_ok (fuel : Nat) (st : Ev.St) (K : Ev.Ex → Ev.St → Option Ans) (r : Ans) (h : B76_0 fuel st K = some r) : evalCode tab (G76 fuel) (J76_0 fuel) kp76 fuel (.block 0 (.loop (bodyOf 0 Try.f76))) st K = some r := by
  unfold B76_0 at h
  split at h
  · rename_i s hs
    split at h
    · skip
      obtain ⟨hb, h⟩ := cond_some' h
      simp only [Bool.and_eq_true, Nat.beq_eq, decide_eq_true_eq] at hb
      obtain ⟨⟨⟨⟨⟨⟨⟨⟨⟨⟨⟨⟨⟨⟨⟨⟨⟨⟨⟨⟨⟨rfl, rfl⟩, rfl⟩, rfl⟩, rfl⟩, rfl⟩, rfl⟩, rfl⟩, rfl⟩, rfl⟩, rfl⟩, rfl⟩, rfl⟩, rfl⟩, rfl⟩, rfl⟩, rfl⟩, rfl⟩, rfl⟩, rfl⟩, rfl⟩, rfl⟩ := hb
      exact blk_loop (S := T76_0) (ks := E76_0) (step := S_ref05_make2_0 fuel) (v := (_, _, _, _, _, _, _, _, _, _)) (by kernel_rfl) (by kernel_rfl) (fun R K v => by obtain ⟨x0, x1, x2, x3, x4, x5, x6, x7, x8, x9⟩ := v; exact S76_0_ok fuel R K x0 x1 x2 x3 x4 x5 x6 x7 x8 x9) hs h
    · cases h
  · cases h
noncomputable def J76 (fuel : Nat) (i : Nat) : Option Ev.Blk := Ev.look i [(100000, B76_0 fuel)]
noncomputable def F_ref05_make2 (fuel : Nat) (x0 x1 x2 : Int) (k0 : (Int × Int × (List Int)) → Option Ans) : Option Ans :=
  (L_ref05_make2_0 fuel (x0, x1, x2, (0 : Int), (0 : Int), (0 : Int), x0, x1, [], [])
  (fun (b0_0, b0_1, b0_2, b0_3, b0_4, b0_5) =>
  k0 (b0_2, b0_3, b0_5)))
abbrev YF76 : Type := (Int) → (Int) → (Int) → ((Int × Int × (List Int)) → Option Ans) → Option Ans
theorem F76_eq (fuel : Nat) (x0 x1 x2 : Int) (k : Ev.Cont) : evalFn tab (G76 fuel) (J76 fuel) kp76 fuel Try.f76 [.c (.int .i64 x0), .c (.int .i64 x1), .c (.int .i64 x2)] [] k = F_ref05_make2 fuel x0 x1 x2 (fun r => match r with | (r0, r1, r2) => k (.agg [.int .i64 r0, .int .i64 r1, .own 0], [.vec 5 (.int .u8) r2 true])) := by
  kernel_rfl
theorem hG76 (fuel : Nat) : GOK Try.prog (G76 fuel) :=
  gok_nil
theorem B76_0_blk (fuel : Nat) : BlkOK Try.prog Try.f76.ntmps (.block 0 (.loop (bodyOf 0 Try.f76))) (B76_0 fuel) :=
  blk_of (blk_of_code tab_ok (hG76 fuel) mixed (J := J76_0 fuel) (kp := kp76) (fuel := fuel) (by kernel_rfl) (fun q hq => by
    rw [(by kernel_rfl : obl (J76_0 fuel) (.block 0 (.loop (bodyOf 0 Try.f76))) = [])] at hq
    cases hq)) (B76_0_ok fuel)
theorem fok76 (fuel : Nat) : FnOK Try.prog 76 (evalFn tab (G76 fuel) (J76 fuel) kp76 fuel Try.f76) :=
  fn_ok tab_ok (hG76 fuel) mixed Try.func76 (c := (Try.f76.body).getD .skip) rfl (fun q hq => by
    rw [(by kernel_rfl : obl (J76 fuel) ((Try.f76.body).getD .skip) = [(.block 0 (.loop (bodyOf 0 Try.f76)), B76_0 fuel)])] at hq
    simp only [List.mem_cons, List.not_mem_nil, or_false] at hq
    subst hq
    · exact B76_0_blk fuel)
noncomputable def spg76 (F : YF76) : Ev.Spec := fun args objs k => match args, objs with
 | [.c (.int .i64 x0), .c (.int .i64 x1), .c (.int .i64 x2)], [] => bif true then F x0 x1 x2 (fun r => match r with | (r0, r1, r2) => k (.agg [.int .i64 r0, .int .i64 r1, .own 0], [.vec 5 (.int .u8) r2 true])) else none
 | _, _ => none
noncomputable def spec76 (fuel : Nat) : Ev.Spec := spg76 (F_ref05_make2 fuel)
theorem ok76 (fuel : Nat) : FnOK Try.prog 76 (spec76 fuel) := by
  intro args objs kk r h
  unfold spec76 spg76 at h
  split at h
  · skip
    obtain ⟨hb, h⟩ := cond_some' h
    simp only [Bool.and_eq_true, Nat.beq_eq, decide_eq_true_eq] at hb
    clear hb
    exact fok76 fuel _ _ kk r ((F76_eq fuel _ _ _ kk).trans h)
  · cases h
end Go.Proofs.Ytipdidpalcmlhaa

set_option linter.unusedVariables false
set_option linter.unusedSimpArgs false
set_option maxRecDepth 100000
set_option maxHeartbeats 2000000
namespace Go.Proofs.Ytipdidpalcmlhaa
open Go Ev
def kp31 (i : Nat) : Option (List Nat) := Ev.look i []
noncomputable def Gg31 (f75 : YF75) (f76 : YF76) (f : Nat) : Option Ev.Spec := Ev.look f [(75, spg75 f75), (76, spg76 f76)]
noncomputable def G31 (fuel : Nat) : Nat → Option Ev.Spec := Gg31 (F_ref05_Sides fuel) (F_ref05_make2 fuel)
noncomputable def J31 (fuel : Nat) (i : Nat) : Option Ev.Blk := Ev.look i []
noncomputable def Fg_ref05_New (fuel : Nat) (f75 : YF75) (f76 : YF76) (x0 x1 x2 : Int) (k0 : (Int × Int × Int × (List Int)) → Option Ans) : Option Ans :=
  bif decide (x0 < (0 : Int)) then
  k0 ((0 : Int), (0 : Int), (2 : Int), [])
  else
  bif decide (x1 < (0 : Int)) then
  k0 ((0 : Int), (0 : Int), (2 : Int), [])
  else
  bif decide (x2 < (0 : Int)) then
  k0 ((0 : Int), (0 : Int), (2 : Int), [])
  else
  bif decide (x2 > (1 : Int)) then
  k0 ((0 : Int), (0 : Int), (2 : Int), [])
  else
  (f75 (x0) (x1)
  (fun y6 =>
  bif !y6 then
  k0 ((0 : Int), (0 : Int), (4 : Int), [])
  else
  (f76 (x0) (x1) (x2)
  (fun (y11_0, y11_1, y11_2) =>
  k0 (y11_0, y11_1, (0 : Int), y11_2)))))
noncomputable def F_ref05_New (fuel : Nat) (x0 x1 x2 : Int) (k0 : (Int × Int × Int × (List Int)) → Option Ans) : Option Ans := Fg_ref05_New fuel (F_ref05_Sides fuel) (F_ref05_make2 fuel) x0 x1 x2 k0
abbrev YF31 : Type := (Int) → (Int) → (Int) → ((Int × Int × Int × (List Int)) → Option Ans) → Option Ans
theorem F31_eqg (fuel : Nat) (f75 : YF75) (f76 : YF76) (x0 x1 x2 : Int) (k : Ev.Cont) : evalFn tab (Gg31 f75 f76) (J31 fuel) kp31 fuel Try.f31 [.c (.int .i64 x0), .c (.int .i64 x1), .c (.int .i64 x2)] [] k = Fg_ref05_New fuel f75 f76 x0 x1 x2 (fun r => match r with | (r0, r1, r2, r3) => k (.tup [(true, [.int .i64 r0, .int .i64 r1, .own 0]), (false, [.int .i64 r2])], [.vec 5 (.int .u8) r3 true])) := by
  kernel_rfl
theorem hG31 (fuel : Nat) : GOK Try.prog (G31 fuel) :=
  gok_cons ⟨ok75 fuel, enters_of Try.func75 (by kernel_rfl) rfl⟩ <|
  gok_cons ⟨ok76 fuel, enters_of Try.func76 (by kernel_rfl) rfl⟩ <|
  gok_nil
theorem fok31 (fuel : Nat) : FnOK Try.prog 31 (evalFn tab (G31 fuel) (J31 fuel) kp31 fuel Try.f31) :=
  fn_ok tab_ok (hG31 fuel) mixed Try.func31 (c := (Try.f31.body).getD .skip) rfl (fun q hq => by
    rw [(by kernel_rfl : obl (J31 fuel) ((Try.f31.body).getD .skip) = [])] at hq
    cases hq)
noncomputable def spg31 (F : YF31) : Ev.Spec := fun args objs k => match args, objs with
 | [.c (.int .i64 x0), .c (.int .i64 x1), .c (.int .i64 x2)], [] => bif true then F x0 x1 x2 (fun r => match r with | (r0, r1, r2, r3) => k (.tup [(true, [.int .i64 r0, .int .i64 r1, .own 0]), (false, [.int .i64 r2])], [.vec 5 (.int .u8) r3 true])) else none
 | _, _ => none
noncomputable def spec31 (fuel : Nat) : Ev.Spec := spg31 (F_ref05_New fuel)
theorem ok31 (fuel : Nat) : FnOK Try.prog 31 (spec31 fuel) := by
  intro args objs kk r h
  unfold spec31 spg31 at h
  split at h
  · skip
    obtain ⟨hb, h⟩ := cond_some' h
    simp only [Bool.and_eq_true, Nat.beq_eq, decide_eq_true_eq] at hb
    clear hb
    exact fok31 fuel _ _ kk r ((F31_eqg fuel (F_ref05_Sides fuel) (F_ref05_make2 fuel) _ _ _ kk).trans h)
  · cases h
end Go.Proofs.Ytipdidpalcmlhaa

set_option linter.unusedVariables false
set_option linter.unusedSimpArgs false
set_option maxRecDepth 100000
set_option maxHeartbeats 2000000
namespace Go.Proofs.Ytipdidpalcmlhaa
open Go Ev
def kp135 (i : Nat) : Option (List Nat) := Ev.look i [(3, [1, 3, 4]), (100000, [3]), (400000, [2])]
noncomputable def Gg135 (f : Nat) : Option Ev.Spec := Ev.look f []
noncomputable def G135 (fuel : Nat) : Nat → Option Ev.Spec := Gg135
noncomputable def S_ref02_Interval_End_0 (fuel : Nat) (v : Int × Int × Int × (List Int)) (c : (Int × Int × Int × (List Int)) → Option Ans) (B : ((List Int) → Option Ans)) : Option Ans := match v, B with
 | (x0, x1, x2, x3), b =>
  bif decide (x0 < x1) then
  bif decide (IntKind.i64.wrap ((24 : Int) - IntKind.i64.wrap ((8 : Int) * (↑x3.length : Int))) < (0 : Int)) then
  none
  else
  bif decide ((x3.length + [IntKind.u8.wrap (Ev.ishr IntKind.u64 x2 (IntKind.i64.wrap ((24 : Int) - IntKind.i64.wrap ((8 : Int) * (↑x3.length : Int)))))].length) * (1 : Nat) ≤ (140737488355328 : Nat) ∧ x3.length + [IntKind.u8.wrap (Ev.ishr IntKind.u64 x2 (IntKind.i64.wrap ((24 : Int) - IntKind.i64.wrap ((8 : Int) * (↑x3.length : Int)))))].length ≤ (140737488355328 : Nat)) then
  bif decide (IntKind.i64.wrap ((24 : Int) - IntKind.i64.wrap ((8 : Int) * (↑x3.length : Int))) < (0 : Int)) then
  none
  else
  bif decide (IntKind.i64.wrap ((24 : Int) - IntKind.i64.wrap ((8 : Int) * (↑x3.length : Int))) < (0 : Int)) then
  none
  else
  c (IntKind.u64.wrap (x0 + Ev.ishl IntKind.u64 ((Ev.ishr IntKind.u64 x2 (IntKind.i64.wrap ((24 : Int) - IntKind.i64.wrap ((8 : Int) * (↑x3.length : Int))))).tmod (256 : Int)) (IntKind.i64.wrap ((24 : Int) - IntKind.i64.wrap ((8 : Int) * (↑x3.length : Int))))), x1, x2, x3 ++ [IntKind.u8.wrap (Ev.ishr IntKind.u64 x2 (IntKind.i64.wrap ((24 : Int) - IntKind.i64.wrap ((8 : Int) * (↑x3.length : Int)))))])
  else none
  else
  b x3
noncomputable def L_ref02_Interval_End_0 (fuel : Nat) (v : Int × Int × Int × (List Int)) (b : ((List Int) → Option Ans)) : Option Ans := iter (S_ref02_Interval_End_0 fuel) fuel v b
noncomputable def J135_0 (fuel : Nat) (i : Nat) : Option Ev.Blk := Ev.look i []
noncomputable def T135_0 (v : Int × Int × Int × (List Int)) : Ev.St := match v with | (x0, x1, x2, x3) => ⟨[(1, .c (.ptr 0 0)), (3, .c (.own 1)), (4, .c (.int .u64 x0))], [(0, .cells 182 [.int .u64 x1, .int .u64 x2]), (1, .vec 5 (.int .u8) x3 true)], 2, 0⟩
noncomputable def E135_0 (K : Ev.Ex → Ev.St → Option Ans) : ((List Int) → Option Ans) := (fun v => match v with | x0 => K .normal ⟨[(3, .c (.own 0))], [(0, .vec 5 (.int .u8) x0 true)], 1, 0⟩)
theorem S135_0_ok (fuel : Nat) (R : Ev.St → Option Ans) (K : Ev.Ex → Ev.St → Option Ans) (x0 x1 x2 : Int) (x3 : (List Int)) : evalCode tab (G135 fuel) (J135_0 fuel) kp135 fuel (bodyOf 0 Try.f135) (T135_0 (x0, x1, x2, x3)) (lc kp135 3 0 R K) = S_ref02_Interval_End_0 fuel (x0, x1, x2, x3) (fun v => R (T135_0 v)) (E135_0 K) := by
  kernel_rfl
noncomputable def B135_0 (fuel : Nat) : Ev.Blk := fun st K => match canonO (kp135 3) st with
 | some s => (match s with
 | ⟨[(q0, .c (.ptr q1 q2)), (q3, .c (.own q4)), (q5, .c (.int .u64 x0))], [(q6, .cells q7 [.int .u64 x1, .int .u64 x2]), (q8, .vec q9 (.int .u8) x3 true)], q10, q11⟩ => bif Nat.beq q0 1 && Nat.beq q1 0 && Nat.beq q2 0 && Nat.beq q3 3 && Nat.beq q4 1 && Nat.beq q5 4 && Nat.beq q6 0 && Nat.beq q7 182 && Nat.beq q8 1 && Nat.beq q9 5 && Nat.beq q10 2 && Nat.beq q11 0 then iter (S_ref02_Interval_End_0 fuel) fuel (x0, x1, x2, x3) (E135_0 K) else none
 | _ => none)
 | none => none
theorem B135_0_ok (fuel : Nat) (st : Ev.St) (K : Ev.Ex → Ev.St → Option Ans) (r : Ans) (h : B135_0 fuel st K = some r) : evalCode tab (G135 fuel) (J135_0 fuel) kp135 fuel (.block 0 (.loop (bodyOf 0 Try.f135))) st K = some r := by
  unfold B135_0 at h
  split at h
  · rename_i s hs
    split at h
    · skip
      obtain ⟨hb, h⟩ := cond_some' h
      simp only [Bool.and_eq_true, Nat.beq_eq, decide_eq_true_eq] at hb
      obtain ⟨⟨⟨⟨⟨⟨⟨⟨⟨⟨⟨rfl, rfl⟩, rfl⟩, rfl⟩, rfl⟩, rfl⟩, rfl⟩, rfl⟩, rfl⟩, rfl⟩, rfl⟩, rfl⟩ := hb
      exact blk_loop (S := T135_0) (ks := E135_0) (step := S_ref02_Interval_End_0 fuel) (v := (_, _, _, _)) (by kernel_rfl) (by kernel_rfl) (fun R K v => by obtain ⟨x0, x1, x2, x3⟩ := v; exact S135_0_ok fuel R K x0 x1 x2 x3) hs h
    · cases h
  · cases h
noncomputable def J135 (fuel : Nat) (i : Nat) : Option Ev.Blk := Ev.look i [(100000, B135_0 fuel)]
noncomputable def F_ref02_Interval_End (fuel : Nat) (x0 x1 : Int) (k0 : ((List Int)) → Option Ans) : Option Ans :=
  (L_ref02_Interval_End_0 fuel ((0 : Int), x0, x1, [])
  (fun b0_0 =>
  k0 b0_0))
abbrev YF135 : Type := (Int) → (Int) → (((List Int)) → Option Ans) → Option Ans
theorem F135_eq (fuel : Nat) (x0 x1 : Int) (k : Ev.Cont) : evalFn tab (G135 fuel) (J135 fuel) kp135 fuel Try.f135 [.agg [.int .u64 x0, .int .u64 x1]] [] k = F_ref02_Interval_End fuel x0 x1 (fun r => match r with | r0 => k (.c (.own 0), [.vec 5 (.int .u8) r0 true])) := by
  kernel_rfl
theorem hG135 (fuel : Nat) : GOK Try.prog (G135 fuel) :=
  gok_nil
theorem B135_0_blk (fuel : Nat) : BlkOK Try.prog Try.f135.ntmps (.block 0 (.loop (bodyOf 0 Try.f135))) (B135_0 fuel) :=
  blk_of (blk_of_code tab_ok (hG135 fuel) mixed (J := J135_0 fuel) (kp := kp135) (fuel := fuel) (by kernel_rfl) (fun q hq => by
    rw [(by kernel_rfl : obl (J135_0 fuel) (.block 0 (.loop (bodyOf 0 Try.f135))) = [])] at hq
    cases hq)) (B135_0_ok fuel)
theorem fok135 (fuel : Nat) : FnOK Try.prog 135 (evalFn tab (G135 fuel) (J135 fuel) kp135 fuel Try.f135) :=
  fn_ok tab_ok (hG135 fuel) mixed Try.func135 (c := (Try.f135.body).getD .skip) rfl (fun q hq => by
    rw [(by kernel_rfl : obl (J135 fuel) ((Try.f135.body).getD .skip) = [(.block 0 (.loop (bodyOf 0 Try.f135)), B135_0 fuel)])] at hq
    simp only [List.mem_cons, List.not_mem_nil, or_false] at hq
    subst hq
    · exact B135_0_blk fuel)
noncomputable def spg135 (F : YF135) : Ev.Spec := fun args objs k => match args, objs with
 | [.agg [.int .u64 x0, .int .u64 x1]], [] => bif true then F x0 x1 (fun r => match r with | r0 => k (.c (.own 0), [.vec 5 (.int .u8) r0 true])) else none
 | _, _ => none
noncomputable def spec135 (fuel : Nat) : Ev.Spec := spg135 (F_ref02_Interval_End fuel)
theorem ok135 (fuel : Nat) : FnOK Try.prog 135 (spec135 fuel) := by
  intro args objs kk r h
  unfold spec135 spg135 at h
  split at h
  · skip
    obtain ⟨hb, h⟩ := cond_some' h
    simp only [Bool.and_eq_true, Nat.beq_eq, decide_eq_true_eq] at hb
    clear hb
    exact fok135 fuel _ _ kk r ((F135_eq fuel _ _ kk).trans h)
  · cases h
end Go.Proofs.Ytipdidpalcmlhaa

set_option linter.unusedVariables false
set_option linter.unusedSimpArgs false
set_option maxRecDepth 100000
set_option maxHeartbeats 2000000
namespace Go.Proofs.Ytipdidpalcmlhaa
open Go Ev
def kp85_2fe (i : Nat) : Option (List Nat) := Ev.look i [(200003, [0])]
noncomputable def Gg85_2fe (f135 : YF135) (f : Nat) : Option Ev.Spec := Ev.look f [(135, spg135 f135)]
noncomputable def G85_2fe (fuel : Nat) : Nat → Option Ev.Spec := Gg85_2fe (F_ref02_Interval_End fuel)
noncomputable def J85_2fe (fuel : Nat) (i : Nat) : Option Ev.Blk := Ev.look i []
noncomputable def Fg_ref02_Encoder_End_2fe (fuel : Nat) (f135 : YF135) (x0 x1 x2 : Int) (x3 x4 : (List Int)) (k0 : (Int × Int × Int × (List Int) × (List Int) × (List Int)) → Option Ans) : Option Ans :=
  bif decide (((0 : Nat) + x4.length) * (1 : Nat) ≤ (140737488355328 : Nat) ∧ (0 : Nat) + x4.length ≤ (140737488355328 : Nat)) then
  (f135 (x1) (x2)
  (fun y3 =>
  bif decide ((([] ++ x4).length + y3.length) * (1 : Nat) ≤ (140737488355328 : Nat) ∧ ([] ++ x4).length + y3.length ≤ (140737488355328 : Nat)) then
  k0 (x0, x1, x2, x3, x4, [] ++ x4 ++ y3)
  else none))
  else none
noncomputable def F_ref02_Encoder_End_2fe (fuel : Nat) (x0 x1 x2 : Int) (x3 x4 : (List Int)) (k0 : (Int × Int × Int × (List Int) × (List Int) × (List Int)) → Option Ans) : Option Ans := Fg_ref02_Encoder_End_2fe fuel (F_ref02_Interval_End fuel) x0 x1 x2 x3 x4 k0
abbrev YF85_2fe : Type := (Int) → (Int) → (Int) → ((List Int)) → ((List Int)) → ((Int × Int × Int × (List Int) × (List Int) × (List Int)) → Option Ans) → Option Ans
theorem F85_2fe_eqg (fuel : Nat) (f135 : YF135) (x0 x1 x2 : Int) (x3 x4 : (List Int)) (k : Ev.Cont) : evalFn tab (Gg85_2fe f135) (J85_2fe fuel) kp85_2fe fuel Try.f85 [.c (.ptr 0 0)] [.cells 185 [.int .i64 x0, .own 1, .int .u64 x1, .int .u64 x2, .own 2], .vec 3 (.int .i64) x3 false, .vec 5 (.int .u8) x4 false] k = Fg_ref02_Encoder_End_2fe fuel f135 x0 x1 x2 x3 x4 (fun r => match r with | (r0, r1, r2, r3, r4, r5) => k (.c (.own 3), [.cells 185 [.int .i64 r0, .own 1, .int .u64 r1, .int .u64 r2, .own 2], .vec 3 (.int .i64) r3 false, .vec 5 (.int .u8) r4 false, .vec 5 (.int .u8) r5 true])) := by
  kernel_rfl
theorem hG85_2fe (fuel : Nat) : GOK Try.prog (G85_2fe fuel) :=
  gok_cons ⟨ok135 fuel, enters_of Try.func135 (by kernel_rfl) rfl⟩ <|
  gok_nil
theorem fok85_2fe (fuel : Nat) : FnOK Try.prog 85 (evalFn tab (G85_2fe fuel) (J85_2fe fuel) kp85_2fe fuel Try.f85) :=
  fn_ok tab_ok (hG85_2fe fuel) mixed Try.func85 (c := (Try.f85.body).getD .skip) rfl (fun q hq => by
    rw [(by kernel_rfl : obl (J85_2fe fuel) ((Try.f85.body).getD .skip) = [])] at hq
    cases hq)
noncomputable def spg85_2fe (F : YF85_2fe) : Ev.Spec := fun args objs k => match args, objs with
 | [.c (.ptr q0 q1)], [.cells q2 [.int .i64 x0, .own q3, .int .u64 x1, .int .u64 x2, .own q4], .vec q5 (.int .i64) x3 false, .vec q6 (.int .u8) x4 false] => bif Nat.beq q0 0 && Nat.beq q1 0 && Nat.beq q2 185 && Nat.beq q3 1 && Nat.beq q4 2 && Nat.beq q5 3 && Nat.beq q6 5 then F x0 x1 x2 x3 x4 (fun r => match r with | (r0, r1, r2, r3, r4, r5) => k (.c (.own 3), [.cells 185 [.int .i64 r0, .own 1, .int .u64 r1, .int .u64 r2, .own 2], .vec 3 (.int .i64) r3 false, .vec 5 (.int .u8) r4 false, .vec 5 (.int .u8) r5 true])) else none
 | _, _ => none
noncomputable def spec85_2fe (fuel : Nat) : Ev.Spec := spg85_2fe (F_ref02_Encoder_End_2fe fuel)
theorem ok85_2fe (fuel : Nat) : FnOK Try.prog 85 (spec85_2fe fuel) := by
  intro args objs kk r h
  unfold spec85_2fe spg85_2fe at h
  split at h
  · skip
    obtain ⟨hb, h⟩ := cond_some' h
    simp only [Bool.and_eq_true, Nat.beq_eq, decide_eq_true_eq] at hb
    obtain ⟨⟨⟨⟨⟨⟨rfl, rfl⟩, rfl⟩, rfl⟩, rfl⟩, rfl⟩, rfl⟩ := hb
    exact fok85_2fe fuel _ _ kk r ((F85_2fe_eqg fuel (F_ref02_Interval_End fuel) _ _ _ _ _ kk).trans h)
  · cases h
end Go.Proofs.Ytipdidpalcmlhaa

set_option linter.unusedVariables false
set_option linter.unusedSimpArgs false
set_option maxRecDepth 100000
set_option maxHeartbeats 2000000
namespace Go.Proofs.Ytipdidpalcmlhaa
open Go Ev
def kp82 (i : Nat) : Option (List Nat) := Ev.look i []
noncomputable def Gg82 (f : Nat) : Option Ev.Spec := Ev.look f []
noncomputable def G82 (fuel : Nat) : Nat → Option Ev.Spec := Gg82
noncomputable def J82 (fuel : Nat) (i : Nat) : Option Ev.Blk := Ev.look i []
noncomputable def F_ref02_New (fuel : Nat) (x0 x1 : Int) (k0 : (Int × Int × (List Int)) → Option Ans) : Option Ans :=
  bif x0 != (0 : Int) then
  bif x0 != (1 : Int) then
  k0 ((0 : Int), (2 : Int), [])
  else
  bif decide (x1 < (0 : Int)) then
  k0 ((0 : Int), (2 : Int), [])
  else
  bif decide (x1 > (8192 : Int)) then
  k0 ((0 : Int), (2 : Int), [])
  else
  bif decide ((0 : Int) ≤ x1 ∧ x1 = x1 ∧ (↑(8 : Nat) : Int) * x1 ≤ (281474976710656 : Int) ∧ x1 ≤ (281474976710656 : Int)) then
  k0 (x0, (0 : Int), List.replicate x1.toNat (0 : Int))
  else none
  else
  bif decide (x1 < (0 : Int)) then
  k0 ((0 : Int), (2 : Int), [])
  else
  bif decide (x1 > (8192 : Int)) then
  k0 ((0 : Int), (2 : Int), [])
  else
  bif decide ((0 : Int) ≤ x1 ∧ x1 = x1 ∧ (↑(8 : Nat) : Int) * x1 ≤ (281474976710656 : Int) ∧ x1 ≤ (281474976710656 : Int)) then
  k0 (x0, (0 : Int), List.replicate x1.toNat (0 : Int))
  else none
abbrev YF82 : Type := (Int) → (Int) → ((Int × Int × (List Int)) → Option Ans) → Option Ans
theorem F82_eq (fuel : Nat) (x0 x1 : Int) (k : Ev.Cont) : evalFn tab (G82 fuel) (J82 fuel) kp82 fuel Try.f82 [.c (.int .i64 x0), .c (.int .i64 x1)] [] k = F_ref02_New fuel x0 x1 (fun r => match r with | (r0, r1, r2) => k (.tup [(true, [.int .i64 r0, .own 0]), (false, [.int .i64 r1])], [.vec 3 (.int .i64) r2 true])) := by
  kernel_rfl
theorem hG82 (fuel : Nat) : GOK Try.prog (G82 fuel) :=
  gok_nil
theorem fok82 (fuel : Nat) : FnOK Try.prog 82 (evalFn tab (G82 fuel) (J82 fuel) kp82 fuel Try.f82) :=
  fn_ok tab_ok (hG82 fuel) mixed Try.func82 (c := (Try.f82.body).getD .skip) rfl (fun q hq => by
    rw [(by kernel_rfl : obl (J82 fuel) ((Try.f82.body).getD .skip) = [])] at hq
    cases hq)
noncomputable def spg82 (F : YF82) : Ev.Spec := fun args objs k => match args, objs with
 | [.c (.int .i64 x0), .c (.int .i64 x1)], [] => bif true then F x0 x1 (fun r => match r with | (r0, r1, r2) => k (.tup [(true, [.int .i64 r0, .own 0]), (false, [.int .i64 r1])], [.vec 3 (.int .i64) r2 true])) else none
 | _, _ => none
noncomputable def spec82 (fuel : Nat) : Ev.Spec := spg82 (F_ref02_New fuel)
theorem ok82 (fuel : Nat) : FnOK Try.prog 82 (spec82 fuel) := by
  intro args objs kk r h
  unfold spec82 spg82 at h
  split at h
  · skip
    obtain ⟨hb, h⟩ := cond_some' h
    simp only [Bool.and_eq_true, Nat.beq_eq, decide_eq_true_eq] at hb
    clear hb
    exact fok82 fuel _ _ kk r ((F82_eq fuel _ _ kk).trans h)
  · cases h
end Go.Proofs.Ytipdidpalcmlhaa

set_option linter.unusedVariables false
set_option linter.unusedSimpArgs false
set_option maxRecDepth 100000
set_option maxHeartbeats 2000000
namespace Go.Proofs.Ytipdidpalcmlhaa
open Go Ev
def kp128 (i : Nat) : Option (List Nat) := Ev.look i [(200001, [1])]
noncomputable def Gg128 (f : Nat) : Option Ev.Spec := Ev.look f []
noncomputable def G128 (fuel : Nat) : Nat → Option Ev.Spec := Gg128
noncomputable def J128 (fuel : Nat) (i : Nat) : Option Ev.Blk := Ev.look i []
noncomputable def F_ref02_Copy (fuel : Nat) (x0 : Int) (x1 : (List Int)) (k0 : (Int × (List Int)) → Option Ans) : Option Ans :=
  bif decide (((0 : Nat) + x1.length) * (8 : Nat) ≤ (140737488355328 : Nat) ∧ (0 : Nat) + x1.length ≤ (140737488355328 : Nat)) then
  k0 (x0, [] ++ x1)
  else none
abbrev YF128 : Type := (Int) → ((List Int)) → ((Int × (List Int)) → Option Ans) → Option Ans
theorem F128_eq (fuel : Nat) (x0 : Int) (x1 : (List Int)) (k : Ev.Cont) : evalFn tab (G128 fuel) (J128 fuel) kp128 fuel Try.f128 [.agg [.int .i64 x0, .sl (.int .i64) x1]] [] k = F_ref02_Copy fuel x0 x1 (fun r => match r with | (r0, r1) => k (.agg [.int .i64 r0, .own 0], [.vec 3 (.int .i64) r1 true])) := by
  kernel_rfl
theorem hG128 (fuel : Nat) : GOK Try.prog (G128 fuel) :=
  gok_nil
theorem fok128 (fuel : Nat) : FnOK Try.prog 128 (evalFn tab (G128 fuel) (J128 fuel) kp128 fuel Try.f128) :=
  fn_ok tab_ok (hG128 fuel) mixed Try.func128 (c := (Try.f128.body).getD .skip) rfl (fun q hq => by
    rw [(by kernel_rfl : obl (J128 fuel) ((Try.f128.body).getD .skip) = [])] at hq
    cases hq)
noncomputable def spg128 (F : YF128) : Ev.Spec := fun args objs k => match args, objs with
 | [.agg [.int .i64 x0, .sl (.int .i64) x1]], [] => bif true then F x0 x1 (fun r => match r with | (r0, r1) => k (.agg [.int .i64 r0, .own 0], [.vec 3 (.int .i64) r1 true])) else none
 | _, _ => none
noncomputable def spec128 (fuel : Nat) : Ev.Spec := spg128 (F_ref02_Copy fuel)
theorem ok128 (fuel : Nat) : FnOK Try.prog 128 (spec128 fuel) := by
  intro args objs kk r h
  unfold spec128 spg128 at h
  split at h
  · skip
    obtain ⟨hb, h⟩ := cond_some' h
    simp only [Bool.and_eq_true, Nat.beq_eq, decide_eq_true_eq] at hb
    clear hb
    exact fok128 fuel _ _ kk r ((F128_eq fuel _ _ kk).trans h)
  · cases h
end Go.Proofs.Ytipdidpalcmlhaa

set_option linter.unusedVariables false
set_option linter.unusedSimpArgs false
set_option maxRecDepth 100000
set_option maxHeartbeats 2000000
namespace Go.Proofs.Ytipdidpalcmlhaa
open Go Ev
def kp127 (i : Nat) : Option (List Nat) := Ev.look i [(7, [3, 24, 25, 26]), (100000, []), (400000, [2])]
noncomputable def Gg127 (f : Nat) : Option Ev.Spec := Ev.look f []
noncomputable def G127 (fuel : Nat) : Nat → Option Ev.Spec := Gg127
noncomputable def S_ref02_Valid_0 (fuel : Nat) (v : Int × (List Int) × Int × Int) (c : (Int × (List Int) × Int × Int) → Option Ans) (B : (Bool → Option Ans) × (Unit → Option Ans)) : Option Ans := match v, B with
 | (x0, x1, x2, x3), (ret, b) =>
  bif decide (x3 < x2) then
  bif decide ((0 : Int) ≤ x3 ∧ x3 < (↑x1.length : Int)) then
  bif decide (x1.getD x3.toNat (0 : Int) < (0 : Int)) then
  ret false
  else
  bif decide (x1.getD x3.toNat (0 : Int) > x0) then
  ret false
  else
  c (x0, x1, x2, IntKind.i64.wrap (x3 + (1 : Int)))
  else none
  else
  b ()
noncomputable def L_ref02_Valid_0 (fuel : Nat) (v : Int × (List Int) × Int × Int) (ret : (Bool → Option Ans)) (b : (Unit → Option Ans)) : Option Ans := iter (S_ref02_Valid_0 fuel) fuel v (ret, b)
noncomputable def J127_0 (fuel : Nat) (i : Nat) : Option Ev.Blk := Ev.look i []
noncomputable def T127_0 (v : Int × (List Int) × Int × Int) : Ev.St := match v with | (x0, x1, x2, x3) => ⟨[(3, .c (.int .i64 x0)), (24, .c (.sl (.int .i64) x1)), (25, .c (.int .i64 x2)), (26, .c (.int .i64 x3))], [], 0, 0⟩
noncomputable def E127_0 (K : Ev.Ex → Ev.St → Option Ans) : (Bool → Option Ans) × (Unit → Option Ans) := ((fun v => match v with | x0 => K .ret ⟨[(2, .c (.bool x0))], [], 0, 0⟩), (fun v => match v with | () => K .normal ⟨[], [], 0, 0⟩))
theorem S127_0_ok (fuel : Nat) (R : Ev.St → Option Ans) (K : Ev.Ex → Ev.St → Option Ans) (x0 : Int) (x1 : (List Int)) (x2 x3 : Int) : evalCode tab (G127 fuel) (J127_0 fuel) kp127 fuel (bodyOf 0 Try.f127) (T127_0 (x0, x1, x2, x3)) (lc kp127 7 0 R K) = S_ref02_Valid_0 fuel (x0, x1, x2, x3) (fun v => R (T127_0 v)) (E127_0 K) := by
  kernel_rfl
noncomputable def B127_0 (fuel : Nat) : Ev.Blk := fun st K => match canonO (kp127 7) st with
 | some s => (match s with
 | ⟨[(q0, .c (.int .i64 x0)), (q1, .c (.sl (.int .i64) x1)), (q2, .c (.int .i64 x2)), (q3, .c (.int .i64 x3))], [], q4, q5⟩ => bif Nat.beq q0 3 && Nat.beq q1 24 && Nat.beq q2 25 && Nat.beq q3 26 && Nat.beq q4 0 && Nat.beq q5 0 then iter (S_ref02_Valid_0 fuel) fuel (x0, x1, x2, x3) (E127_0 K) else none
 | _ => none)
 | none => none
theorem B127_0_ok (fuel : Nat) (st : Ev.St) (K : Ev.Ex → Ev.St → Option Ans) (r : Ans) (h : B127_0 fuel st K = some r) : evalCode tab (G127 fuel) (J127_0 fuel) kp127 fuel (.block 0 (.loop (bodyOf 0 Try.f127))) st K = some r := by
  unfold B127_0 at h
  split at h
  · rename_i s hs
    split at h
    · skip
      obtain ⟨hb, h⟩ := cond_some' h
      simp only [Bool.and_eq_true, Nat.beq_eq, decide_eq_true_eq] at hb
      obtain ⟨⟨⟨⟨⟨rfl, rfl⟩, rfl⟩, rfl⟩, rfl⟩, rfl⟩ := hb
      exact blk_loop (S := T127_0) (ks := E127_0) (step := S_ref02_Valid_0 fuel) (v := (_, _, _, _)) (by kernel_rfl) (by kernel_rfl) (fun R K v => by obtain ⟨x0, x1, x2, x3⟩ := v; exact S127_0_ok fuel R K x0 x1 x2 x3) hs h
    · cases h
  · cases h
noncomputable def J127 (fuel : Nat) (i : Nat) : Option Ev.Blk := Ev.look i [(100000, B127_0 fuel)]
noncomputable def F_ref02_Valid (fuel : Nat) (x0 : Int) (x1 : (List Int)) (k0 : (Bool) → Option Ans) : Option Ans :=
  bif x0 == (1 : Int) then
  bif x0 != (0 : Int) then
  bif x0 != (1 : Int) then
  k0 false
  else
  bif decide ((↑x1.length : Int) > (8192 : Int)) then
  k0 false
  else
  (L_ref02_Valid_0 fuel ((65535 : Int), x1, (↑x1.length : Int), (0 : Int))
  (fun ret0_0 =>
  k0 ret0_0)
  (fun () =>
  k0 true))
  else
  bif decide ((↑x1.length : Int) > (8192 : Int)) then
  k0 false
  else
  (L_ref02_Valid_0 fuel ((65535 : Int), x1, (↑x1.length : Int), (0 : Int))
  (fun ret0_0 =>
  k0 ret0_0)
  (fun () =>
  k0 true))
  else
  bif x0 != (0 : Int) then
  bif x0 != (1 : Int) then
  k0 false
  else
  bif decide ((↑x1.length : Int) > (8192 : Int)) then
  k0 false
  else
  (L_ref02_Valid_0 fuel ((63 : Int), x1, (↑x1.length : Int), (0 : Int))
  (fun ret0_0 =>
  k0 ret0_0)
  (fun () =>
  k0 true))
  else
  bif decide ((↑x1.length : Int) > (8192 : Int)) then
  k0 false
  else
  (L_ref02_Valid_0 fuel ((63 : Int), x1, (↑x1.length : Int), (0 : Int))
  (fun ret0_0 =>
  k0 ret0_0)
  (fun () =>
  k0 true))
abbrev YF127 : Type := (Int) → ((List Int)) → ((Bool) → Option Ans) → Option Ans
theorem F127_eq (fuel : Nat) (x0 : Int) (x1 : (List Int)) (k : Ev.Cont) : evalFn tab (G127 fuel) (J127 fuel) kp127 fuel Try.f127 [.agg [.int .i64 x0, .sl (.int .i64) x1]] [] k = F_ref02_Valid fuel x0 x1 (fun r => match r with | r0 => k (.c (.bool r0), [])) := by
  kernel_rfl
theorem hG127 (fuel : Nat) : GOK Try.prog (G127 fuel) :=
  gok_nil
theorem B127_0_blk (fuel : Nat) : BlkOK Try.prog Try.f127.ntmps (.block 0 (.loop (bodyOf 0 Try.f127))) (B127_0 fuel) :=
  blk_of (blk_of_code tab_ok (hG127 fuel) mixed (J := J127_0 fuel) (kp := kp127) (fuel := fuel) (by kernel_rfl) (fun q hq => by
    rw [(by kernel_rfl : obl (J127_0 fuel) (.block 0 (.loop (bodyOf 0 Try.f127))) = [])] at hq
    cases hq)) (B127_0_ok fuel)
theorem fok127 (fuel : Nat) : FnOK Try.prog 127 (evalFn tab (G127 fuel) (J127 fuel) kp127 fuel Try.f127) :=
  fn_ok tab_ok (hG127 fuel) mixed Try.func127 (c := (Try.f127.body).getD .skip) rfl (fun q hq => by
    rw [(by kernel_rfl : obl (J127 fuel) ((Try.f127.body).getD .skip) = [(.block 0 (.loop (bodyOf 0 Try.f127)), B127_0 fuel)])] at hq
    simp only [List.mem_cons, List.not_mem_nil, or_false] at hq
    subst hq
    · exact B127_0_blk fuel)
noncomputable def spg127 (F : YF127) : Ev.Spec := fun args objs k => match args, objs with
 | [.agg [.int .i64 x0, .sl (.int .i64) x1]], [] => bif true then F x0 x1 (fun r => match r with | r0 => k (.c (.bool r0), [])) else none
 | _, _ => none
noncomputable def spec127 (fuel : Nat) : Ev.Spec := spg127 (F_ref02_Valid fuel)
theorem ok127 (fuel : Nat) : FnOK Try.prog 127 (spec127 fuel) := by
  intro args objs kk r h
  unfold spec127 spg127 at h
  split at h
  · skip
    obtain ⟨hb, h⟩ := cond_some' h
    simp only [Bool.and_eq_true, Nat.beq_eq, decide_eq_true_eq] at hb
    clear hb
    exact fok127 fuel _ _ kk r ((F127_eq fuel _ _ kk).trans h)
  · cases h
end Go.Proofs.Ytipdidpalcmlhaa

set_option linter.unusedVariables false
set_option linter.unusedSimpArgs false
set_option maxRecDepth 100000
set_option maxHeartbeats 2000000
namespace Go.Proofs.Ytipdidpalcmlhaa
open Go Ev
def kp129 (i : Nat) : Option (List Nat) := Ev.look i []
noncomputable def Gg129 (f : Nat) : Option Ev.Spec := Ev.look f []
noncomputable def G129 (fuel : Nat) : Nat → Option Ev.Spec := Gg129
noncomputable def J129 (fuel : Nat) (i : Nat) : Option Ev.Blk := Ev.look i []
noncomputable def F_ref02_Whole (fuel : Nat)  (k0 : (Int × Int) → Option Ans) : Option Ans :=
  k0 ((0 : Int), (4294967295 : Int))
abbrev YF129 : Type := ((Int × Int) → Option Ans) → Option Ans
theorem F129_eq (fuel : Nat)  (k : Ev.Cont) : evalFn tab (G129 fuel) (J129 fuel) kp129 fuel Try.f129 [] [] k = F_ref02_Whole fuel  (fun r => match r with | (r0, r1) => k (.agg [.int .u64 r0, .int .u64 r1], [])) := by
  kernel_rfl
theorem hG129 (fuel : Nat) : GOK Try.prog (G129 fuel) :=
  gok_nil
theorem fok129 (fuel : Nat) : FnOK Try.prog 129 (evalFn tab (G129 fuel) (J129 fuel) kp129 fuel Try.f129) :=
  fn_ok tab_ok (hG129 fuel) mixed Try.func129 (c := (Try.f129.body).getD .skip) rfl (fun q hq => by
    rw [(by kernel_rfl : obl (J129 fuel) ((Try.f129.body).getD .skip) = [])] at hq
    cases hq)
noncomputable def spg129 (F : YF129) : Ev.Spec := fun args objs k => match args, objs with
 | [], [] => bif true then F  (fun r => match r with | (r0, r1) => k (.agg [.int .u64 r0, .int .u64 r1], [])) else none
 | _, _ => none
noncomputable def spec129 (fuel : Nat) : Ev.Spec := spg129 (F_ref02_Whole fuel)
theorem ok129 (fuel : Nat) : FnOK Try.prog 129 (spec129 fuel) := by
  intro args objs kk r h
  unfold spec129 spg129 at h
  split at h
  · skip
    obtain ⟨hb, h⟩ := cond_some' h
    simp only [Bool.and_eq_true, Nat.beq_eq, decide_eq_true_eq] at hb
    clear hb
    exact fok129 fuel _ _ kk r ((F129_eq fuel kk).trans h)
  · cases h
end Go.Proofs.Ytipdidpalcmlhaa

set_option linter.unusedVariables false
set_option linter.unusedSimpArgs false
set_option maxRecDepth 100000
set_option maxHeartbeats 2000000
namespace Go.Proofs.Ytipdidpalcmlhaa
open Go Ev
def kp83 (i : Nat) : Option (List Nat) := Ev.look i [(600000, [])]
noncomputable def Gg83 (f127 : YF127) (f128 : YF128) (f129 : YF129) (f : Nat) : Option Ev.Spec := Ev.look f [(127, spg127 f127), (128, spg128 f128), (129, spg129 f129)]
noncomputable def G83 (fuel : Nat) : Nat → Option Ev.Spec := Gg83 (F_ref02_Valid fuel) (F_ref02_Copy fuel) (F_ref02_Whole fuel)
noncomputable def J83 (fuel : Nat) (i : Nat) : Option Ev.Blk := Ev.look i []
noncomputable def Fg_ref02_NewEncoder (fuel : Nat) (f127 : YF127) (f128 : YF128) (f129 : YF129) (x0 : Int) (x1 : (List Int)) (k0 : (Int) → Option Ans) (k1 : (Int × Int × Int × Int × (List Int) × (List Int)) → Option Ans) : Option Ans :=
  (f127 (x0) (x1)
  (fun y2 =>
  bif !y2 then
  k0 ((10 : Int))
  else
  (f128 (x0) (x1)
  (fun (y7_0, y7_1) =>
  (f129
  (fun (y11_0, y11_1) =>
  k1 ((0 : Int), y7_0, y11_0, y11_1, y7_1, [])))))))
noncomputable def F_ref02_NewEncoder (fuel : Nat) (x0 : Int) (x1 : (List Int)) (k0 : (Int) → Option Ans) (k1 : (Int × Int × Int × Int × (List Int) × (List Int)) → Option Ans) : Option Ans := Fg_ref02_NewEncoder fuel (F_ref02_Valid fuel) (F_ref02_Copy fuel) (F_ref02_Whole fuel) x0 x1 k0 k1
abbrev YF83 : Type := (Int) → ((List Int)) → ((Int) → Option Ans) → ((Int × Int × Int × Int × (List Int) × (List Int)) → Option Ans) → Option Ans
theorem F83_eqg (fuel : Nat) (f127 : YF127) (f128 : YF128) (f129 : YF129) (x0 : Int) (x1 : (List Int)) (k : Ev.Cont) : evalFn tab (Gg83 f127 f128 f129) (J83 fuel) kp83 fuel Try.f83 [.agg [.int .i64 x0, .sl (.int .i64) x1]] [] k = Fg_ref02_NewEncoder fuel f127 f128 f129 x0 x1 (fun r => match r with | r0 => k (.tup [(false, [.nilptr]), (false, [.int .i64 r0])], [])) (fun r => match r with | (r0, r1, r2, r3, r4, r5) => k (.tup [(false, [.ptr 0 0]), (false, [.int .i64 r0])], [.cells 185 [.int .i64 r1, .own 1, .int .u64 r2, .int .u64 r3, .own 2], .vec 3 (.int .i64) r4 true, .vec 5 (.int .u8) r5 true])) := by
  kernel_rfl
theorem hG83 (fuel : Nat) : GOK Try.prog (G83 fuel) :=
  gok_cons ⟨ok127 fuel, enters_of Try.func127 (by kernel_rfl) rfl⟩ <|
  gok_cons ⟨ok128 fuel, enters_of Try.func128 (by kernel_rfl) rfl⟩ <|
  gok_cons ⟨ok129 fuel, enters_of Try.func129 (by kernel_rfl) rfl⟩ <|
  gok_nil
theorem fok83 (fuel : Nat) : FnOK Try.prog 83 (evalFn tab (G83 fuel) (J83 fuel) kp83 fuel Try.f83) :=
  fn_ok tab_ok (hG83 fuel) mixed Try.func83 (c := (Try.f83.body).getD .skip) rfl (fun q hq => by
    rw [(by kernel_rfl : obl (J83 fuel) ((Try.f83.body).getD .skip) = [])] at hq
    cases hq)
noncomputable def spg83 (F : YF83) : Ev.Spec := fun args objs k => match args, objs with
 | [.agg [.int .i64 x0, .sl (.int .i64) x1]], [] => bif true then F x0 x1 (fun r => match r with | r0 => k (.tup [(false, [.nilptr]), (false, [.int .i64 r0])], [])) (fun r => match r with | (r0, r1, r2, r3, r4, r5) => k (.tup [(false, [.ptr 0 0]), (false, [.int .i64 r0])], [.cells 185 [.int .i64 r1, .own 1, .int .u64 r2, .int .u64 r3, .own 2], .vec 3 (.int .i64) r4 true, .vec 5 (.int .u8) r5 true])) else none
 | _, _ => none
noncomputable def spec83 (fuel : Nat) : Ev.Spec := spg83 (F_ref02_NewEncoder fuel)
theorem ok83 (fuel : Nat) : FnOK Try.prog 83 (spec83 fuel) := by
  intro args objs kk r h
  unfold spec83 spg83 at h
  split at h
  · skip
    obtain ⟨hb, h⟩ := cond_some' h
    simp only [Bool.and_eq_true, Nat.beq_eq, decide_eq_true_eq] at hb
    clear hb
    exact fok83 fuel _ _ kk r ((F83_eqg fuel (F_ref02_Valid fuel) (F_ref02_Copy fuel) (F_ref02_Whole fuel) _ _ kk).trans h)
  · cases h
end Go.Proofs.Ytipdidpalcmlhaa

set_option linter.unusedVariables false
set_option linter.unusedSimpArgs false
set_option maxRecDepth 100000
set_option maxHeartbeats 2000000
namespace Go.Proofs.Ytipdidpalcmlhaa
open Go Ev
def kp131_2fe (i : Nat) : Option (List Nat) := Ev.look i []
noncomputable def Gg131_2fe (f128 : YF128) (f : Nat) : Option Ev.Spec := Ev.look f [(128, spg128 f128)]
noncomputable def G131_2fe (fuel : Nat) : Nat → Option Ev.Spec := Gg131_2fe (F_ref02_Copy fuel)
noncomputable def J131_2fe (fuel : Nat) (i : Nat) : Option Ev.Blk := Ev.look i []
noncomputable def Fg_ref02_Encoder_Model_2fe (fuel : Nat) (f128 : YF128) (x0 x1 x2 : Int) (x3 x4 : (List Int)) (k0 : (Int × Int × Int × Int × (List Int) × (List Int) × (List Int)) → Option Ans) : Option Ans :=
  (f128 (x0) (x3)
  (fun (y2_0, y2_1) =>
  k0 (y2_0, x0, x1, x2, x3, x4, y2_1)))
noncomputable def F_ref02_Encoder_Model_2fe (fuel : Nat) (x0 x1 x2 : Int) (x3 x4 : (List Int)) (k0 : (Int × Int × Int × Int × (List Int) × (List Int) × (List Int)) → Option Ans) : Option Ans := Fg_ref02_Encoder_Model_2fe fuel (F_ref02_Copy fuel) x0 x1 x2 x3 x4 k0
abbrev YF131_2fe : Type := (Int) → (Int) → (Int) → ((List Int)) → ((List Int)) → ((Int × Int × Int × Int × (List Int) × (List Int) × (List Int)) → Option Ans) → Option Ans
theorem F131_2fe_eqg (fuel : Nat) (f128 : YF128) (x0 x1 x2 : Int) (x3 x4 : (List Int)) (k : Ev.Cont) : evalFn tab (Gg131_2fe f128) (J131_2fe fuel) kp131_2fe fuel Try.f131 [.c (.ptr 0 0)] [.cells 185 [.int .i64 x0, .own 1, .int .u64 x1, .int .u64 x2, .own 2], .vec 3 (.int .i64) x3 false, .vec 5 (.int .u8) x4 false] k = Fg_ref02_Encoder_Model_2fe fuel f128 x0 x1 x2 x3 x4 (fun r => match r with | (r0, r1, r2, r3, r4, r5, r6) => k (.agg [.int .i64 r0, .own 3], [.cells 185 [.int .i64 r1, .own 1, .int .u64 r2, .int .u64 r3, .own 2], .vec 3 (.int .i64) r4 false, .vec 5 (.int .u8) r5 false, .vec 3 (.int .i64) r6 true])) := by
  kernel_rfl
theorem hG131_2fe (fuel : Nat) : GOK Try.prog (G131_2fe fuel) :=
  gok_cons ⟨ok128 fuel, enters_of Try.func128 (by kernel_rfl) rfl⟩ <|
  gok_nil
theorem fok131_2fe (fuel : Nat) : FnOK Try.prog 131 (evalFn tab (G131_2fe fuel) (J131_2fe fuel) kp131_2fe fuel Try.f131) :=
  fn_ok tab_ok (hG131_2fe fuel) mixed Try.func131 (c := (Try.f131.body).getD .skip) rfl (fun q hq => by
    rw [(by kernel_rfl : obl (J131_2fe fuel) ((Try.f131.body).getD .skip) = [])] at hq
    cases hq)
noncomputable def spg131_2fe (F : YF131_2fe) : Ev.Spec := fun args objs k => match args, objs with
 | [.c (.ptr q0 q1)], [.cells q2 [.int .i64 x0, .own q3, .int .u64 x1, .int .u64 x2, .own q4], .vec q5 (.int .i64) x3 false, .vec q6 (.int .u8) x4 false] => bif Nat.beq q0 0 && Nat.beq q1 0 && Nat.beq q2 185 && Nat.beq q3 1 && Nat.beq q4 2 && Nat.beq q5 3 && Nat.beq q6 5 then F x0 x1 x2 x3 x4 (fun r => match r with | (r0, r1, r2, r3, r4, r5, r6) => k (.agg [.int .i64 r0, .own 3], [.cells 185 [.int .i64 r1, .own 1, .int .u64 r2, .int .u64 r3, .own 2], .vec 3 (.int .i64) r4 false, .vec 5 (.int .u8) r5 false, .vec 3 (.int .i64) r6 true])) else none
 | _, _ => none
noncomputable def spec131_2fe (fuel : Nat) : Ev.Spec := spg131_2fe (F_ref02_Encoder_Model_2fe fuel)
theorem ok131_2fe (fuel : Nat) : FnOK Try.prog 131 (spec131_2fe fuel) := by
  intro args objs kk r h
  unfold spec131_2fe spg131_2fe at h
  split at h
  · skip
    obtain ⟨hb, h⟩ := cond_some' h
    simp only [Bool.and_eq_true, Nat.beq_eq, decide_eq_true_eq] at hb
    obtain ⟨⟨⟨⟨⟨⟨rfl, rfl⟩, rfl⟩, rfl⟩, rfl⟩, rfl⟩, rfl⟩ := hb
    exact fok131_2fe fuel _ _ kk r ((F131_2fe_eqg fuel (F_ref02_Copy fuel) _ _ _ _ _ kk).trans h)
  · cases h
end Go.Proofs.Ytipdidpalcmlhaa

set_option linter.unusedVariables false
set_option linter.unusedSimpArgs false
set_option maxRecDepth 100000
set_option maxHeartbeats 2000000
namespace Go.Proofs.Ytipdidpalcmlhaa
open Go Ev
def kp170 (i : Nat) : Option (List Nat) := Ev.look i []
noncomputable def Gg170 (f : Nat) : Option Ev.Spec := Ev.look f []
noncomputable def G170 (fuel : Nat) : Nat → Option Ev.Spec := Gg170
noncomputable def J170 (fuel : Nat) (i : Nat) : Option Ev.Blk := Ev.look i []
noncomputable def F_ref02_After (fuel : Nat) (x0 x1 x2 : Int) (k0 : (Int) → Option Ans) : Option Ans :=
  bif x0 == (0 : Int) then
  bif x2 == IntKind.i64.wrap (x1.tdiv (32 : Int)) then
  k0 (IntKind.i64.wrap (IntKind.i64.wrap ((32 : Int) * IntKind.i64.wrap (x1.tdiv (32 : Int))) + bif decide ((31 : Int) < IntKind.i64.wrap (x1.tmod (32 : Int) + (1 : Int))) then (31 : Int) else IntKind.i64.wrap (x1.tmod (32 : Int) + (1 : Int))))
  else
  bif x1.tmod (32 : Int) == (0 : Int) then
  k0 (IntKind.i64.wrap ((32 : Int) * x2))
  else
  k0 (IntKind.i64.wrap (IntKind.i64.wrap (IntKind.i64.wrap (IntKind.i64.wrap ((32 : Int) * IntKind.i64.wrap (x1.tdiv (32 : Int))) + x1.tmod (32 : Int)) - (1 : Int)) - IntKind.i64.wrap ((x1.tmod (32 : Int)).tdiv (4 : Int))))
  else
  bif decide ((0 : Int) ≤ x2 ∧ x2 < (↑(2 : Nat) : Int)) then
  bif decide (x2 = (↑(0 : Nat) : Int)) then
  bif IntKind.i64.wrap (x1.tdiv (256 : Int)) == (255 : Int) then
  bif decide ((0 : Int) ≤ x2 ∧ x2 < (↑(2 : Nat) : Int)) then
  bif decide (x2 = (↑(0 : Nat) : Int)) then
  bif decide ((0 : Int) ≤ x2 ∧ x2 < (↑(2 : Nat) : Int)) then
  bif decide (x2 = (↑(0 : Nat) : Int)) then
  k0 (IntKind.i64.wrap (IntKind.i64.wrap ((256 : Int) * IntKind.i64.wrap (IntKind.i64.wrap ((IntKind.i64.wrap (x1.tdiv (256 : Int))).tdiv (2 : Int)) + (1 : Int))) + IntKind.i64.wrap ((x1.tmod (256 : Int)).tdiv (2 : Int))))
  else
  bif decide (x2 = (↑(1 : Nat) : Int)) then
  k0 (IntKind.i64.wrap (IntKind.i64.wrap ((256 : Int) * IntKind.i64.wrap ((IntKind.i64.wrap (x1.tdiv (256 : Int))).tdiv (2 : Int))) + IntKind.i64.wrap (IntKind.i64.wrap ((IntKind.i64.wrap (x1.tdiv (256 : Int))).tdiv (2 : Int)) + (1 : Int))))
  else none
  else none
  else
  bif decide (x2 = (↑(1 : Nat) : Int)) then
  bif decide ((0 : Int) ≤ x2 ∧ x2 < (↑(2 : Nat) : Int)) then
  bif decide (x2 = (↑(0 : Nat) : Int)) then
  k0 (IntKind.i64.wrap (IntKind.i64.wrap ((256 : Int) * IntKind.i64.wrap (IntKind.i64.wrap ((x1.tmod (256 : Int)).tdiv (2 : Int)) + (1 : Int))) + IntKind.i64.wrap ((x1.tmod (256 : Int)).tdiv (2 : Int))))
  else
  bif decide (x2 = (↑(1 : Nat) : Int)) then
  k0 (IntKind.i64.wrap (IntKind.i64.wrap ((256 : Int) * IntKind.i64.wrap ((IntKind.i64.wrap (x1.tdiv (256 : Int))).tdiv (2 : Int))) + IntKind.i64.wrap (IntKind.i64.wrap ((x1.tmod (256 : Int)).tdiv (2 : Int)) + (1 : Int))))
  else none
  else none
  else none
  else none
  else
  bif decide ((0 : Int) ≤ x2 ∧ x2 < (↑(2 : Nat) : Int)) then
  bif decide (x2 = (↑(0 : Nat) : Int)) then
  bif decide ((0 : Int) ≤ x2 ∧ x2 < (↑(2 : Nat) : Int)) then
  bif decide (x2 = (↑(0 : Nat) : Int)) then
  k0 (IntKind.i64.wrap (IntKind.i64.wrap ((256 : Int) * IntKind.i64.wrap (IntKind.i64.wrap (x1.tdiv (256 : Int)) + (1 : Int))) + x1.tmod (256 : Int)))
  else
  bif decide (x2 = (↑(1 : Nat) : Int)) then
  k0 (IntKind.i64.wrap (IntKind.i64.wrap ((256 : Int) * IntKind.i64.wrap (x1.tdiv (256 : Int))) + IntKind.i64.wrap (IntKind.i64.wrap (x1.tdiv (256 : Int)) + (1 : Int))))
  else none
  else none
  else
  bif decide (x2 = (↑(1 : Nat) : Int)) then
  bif decide ((0 : Int) ≤ x2 ∧ x2 < (↑(2 : Nat) : Int)) then
  bif decide (x2 = (↑(0 : Nat) : Int)) then
  k0 (IntKind.i64.wrap (IntKind.i64.wrap ((256 : Int) * IntKind.i64.wrap (x1.tmod (256 : Int) + (1 : Int))) + x1.tmod (256 : Int)))
  else
  bif decide (x2 = (↑(1 : Nat) : Int)) then
  k0 (IntKind.i64.wrap (IntKind.i64.wrap ((256 : Int) * IntKind.i64.wrap (x1.tdiv (256 : Int))) + IntKind.i64.wrap (x1.tmod (256 : Int) + (1 : Int))))
  else none
  else none
  else none
  else none
  else
  bif decide (x2 = (↑(1 : Nat) : Int)) then
  bif x1.tmod (256 : Int) == (255 : Int) then
  bif decide ((0 : Int) ≤ x2 ∧ x2 < (↑(2 : Nat) : Int)) then
  bif decide (x2 = (↑(0 : Nat) : Int)) then
  bif decide ((0 : Int) ≤ x2 ∧ x2 < (↑(2 : Nat) : Int)) then
  bif decide (x2 = (↑(0 : Nat) : Int)) then
  k0 (IntKind.i64.wrap (IntKind.i64.wrap ((256 : Int) * IntKind.i64.wrap (IntKind.i64.wrap ((IntKind.i64.wrap (x1.tdiv (256 : Int))).tdiv (2 : Int)) + (1 : Int))) + IntKind.i64.wrap ((x1.tmod (256 : Int)).tdiv (2 : Int))))
  else
  bif decide (x2 = (↑(1 : Nat) : Int)) then
  k0 (IntKind.i64.wrap (IntKind.i64.wrap ((256 : Int) * IntKind.i64.wrap ((IntKind.i64.wrap (x1.tdiv (256 : Int))).tdiv (2 : Int))) + IntKind.i64.wrap (IntKind.i64.wrap ((IntKind.i64.wrap (x1.tdiv (256 : Int))).tdiv (2 : Int)) + (1 : Int))))
  else none
  else none
  else
  bif decide (x2 = (↑(1 : Nat) : Int)) then
  bif decide ((0 : Int) ≤ x2 ∧ x2 < (↑(2 : Nat) : Int)) then
  bif decide (x2 = (↑(0 : Nat) : Int)) then
  k0 (IntKind.i64.wrap (IntKind.i64.wrap ((256 : Int) * IntKind.i64.wrap (IntKind.i64.wrap ((x1.tmod (256 : Int)).tdiv (2 : Int)) + (1 : Int))) + IntKind.i64.wrap ((x1.tmod (256 : Int)).tdiv (2 : Int))))
  else
  bif decide (x2 = (↑(1 : Nat) : Int)) then
  k0 (IntKind.i64.wrap (IntKind.i64.wrap ((256 : Int) * IntKind.i64.wrap ((IntKind.i64.wrap (x1.tdiv (256 : Int))).tdiv (2 : Int))) + IntKind.i64.wrap (IntKind.i64.wrap ((x1.tmod (256 : Int)).tdiv (2 : Int)) + (1 : Int))))
  else none
  else none
  else none
  else none
  else
  bif decide ((0 : Int) ≤ x2 ∧ x2 < (↑(2 : Nat) : Int)) then
  bif decide (x2 = (↑(0 : Nat) : Int)) then
  bif decide ((0 : Int) ≤ x2 ∧ x2 < (↑(2 : Nat) : Int)) then
  bif decide (x2 = (↑(0 : Nat) : Int)) then
  k0 (IntKind.i64.wrap (IntKind.i64.wrap ((256 : Int) * IntKind.i64.wrap (IntKind.i64.wrap (x1.tdiv (256 : Int)) + (1 : Int))) + x1.tmod (256 : Int)))
  else
  bif decide (x2 = (↑(1 : Nat) : Int)) then
  k0 (IntKind.i64.wrap (IntKind.i64.wrap ((256 : Int) * IntKind.i64.wrap (x1.tdiv (256 : Int))) + IntKind.i64.wrap (IntKind.i64.wrap (x1.tdiv (256 : Int)) + (1 : Int))))
  else none
  else none
  else
  bif decide (x2 = (↑(1 : Nat) : Int)) then
  bif decide ((0 : Int) ≤ x2 ∧ x2 < (↑(2 : Nat) : Int)) then
  bif decide (x2 = (↑(0 : Nat) : Int)) then
  k0 (IntKind.i64.wrap (IntKind.i64.wrap ((256 : Int) * IntKind.i64.wrap (x1.tmod (256 : Int) + (1 : Int))) + x1.tmod (256 : Int)))
  else
  bif decide (x2 = (↑(1 : Nat) : Int)) then
  k0 (IntKind.i64.wrap (IntKind.i64.wrap ((256 : Int) * IntKind.i64.wrap (x1.tdiv (256 : Int))) + IntKind.i64.wrap (x1.tmod (256 : Int) + (1 : Int))))
  else none
  else none
  else none
  else none
  else none
  else none
abbrev YF170 : Type := (Int) → (Int) → (Int) → ((Int) → Option Ans) → Option Ans
theorem F170_eq (fuel : Nat) (x0 x1 x2 : Int) (k : Ev.Cont) : evalFn tab (G170 fuel) (J170 fuel) kp170 fuel Try.f170 [.c (.int .i64 x0), .c (.int .i64 x1), .c (.int .i64 x2)] [] k = F_ref02_After fuel x0 x1 x2 (fun r => match r with | r0 => k (.c (.int .i64 r0), [])) := by
  kernel_rfl
theorem hG170 (fuel : Nat) : GOK Try.prog (G170 fuel) :=
  gok_nil
theorem fok170 (fuel : Nat) : FnOK Try.prog 170 (evalFn tab (G170 fuel) (J170 fuel) kp170 fuel Try.f170) :=
  fn_ok tab_ok (hG170 fuel) mixed Try.func170 (c := (Try.f170.body).getD .skip) rfl (fun q hq => by
    rw [(by kernel_rfl : obl (J170 fuel) ((Try.f170.body).getD .skip) = [])] at hq
    cases hq)
noncomputable def spg170 (F : YF170) : Ev.Spec := fun args objs k => match args, objs with
 | [.c (.int .i64 x0), .c (.int .i64 x1), .c (.int .i64 x2)], [] => bif true then F x0 x1 x2 (fun r => match r with | r0 => k (.c (.int .i64 r0), [])) else none
 | _, _ => none
noncomputable def spec170 (fuel : Nat) : Ev.Spec := spg170 (F_ref02_After fuel)
theorem ok170 (fuel : Nat) : FnOK Try.prog 170 (spec170 fuel) := by
  intro args objs kk r h
  unfold spec170 spg170 at h
  split at h
  · skip
    obtain ⟨hb, h⟩ := cond_some' h
    simp only [Bool.and_eq_true, Nat.beq_eq, decide_eq_true_eq] at hb
    clear hb
    exact fok170 fuel _ _ kk r ((F170_eq fuel _ _ _ kk).trans h)
  · cases h
end Go.Proofs.Ytipdidpalcmlhaa

set_option linter.unusedVariables false
set_option linter.unusedSimpArgs false
set_option maxRecDepth 100000
set_option maxHeartbeats 2000000
namespace Go.Proofs.Ytipdidpalcmlhaa
open Go Ev
def kp171 (i : Nat) : Option (List Nat) := Ev.look i []
noncomputable def Gg171 (f : Nat) : Option Ev.Spec := Ev.look f []
noncomputable def G171 (fuel : Nat) : Nat → Option Ev.Spec := Gg171
noncomputable def J171 (fuel : Nat) (i : Nat) : Option Ev.Blk := Ev.look i []
noncomputable def F_ref02_Interval_Fixed (fuel : Nat) (x0 x1 : Int) (k0 : (Bool) → Option Ans) : Option Ans :=
  k0 (Ev.ishr IntKind.u64 x0 (24 : Int) == Ev.ishr IntKind.u64 x1 (24 : Int))
abbrev YF171 : Type := (Int) → (Int) → ((Bool) → Option Ans) → Option Ans
theorem F171_eq (fuel : Nat) (x0 x1 : Int) (k : Ev.Cont) : evalFn tab (G171 fuel) (J171 fuel) kp171 fuel Try.f171 [.agg [.int .u64 x0, .int .u64 x1]] [] k = F_ref02_Interval_Fixed fuel x0 x1 (fun r => match r with | r0 => k (.c (.bool r0), [])) := by
  kernel_rfl
theorem hG171 (fuel : Nat) : GOK Try.prog (G171 fuel) :=
  gok_nil
theorem fok171 (fuel : Nat) : FnOK Try.prog 171 (evalFn tab (G171 fuel) (J171 fuel) kp171 fuel Try.f171) :=
  fn_ok tab_ok (hG171 fuel) mixed Try.func171 (c := (Try.f171.body).getD .skip) rfl (fun q hq => by
    rw [(by kernel_rfl : obl (J171 fuel) ((Try.f171.body).getD .skip) = [])] at hq
    cases hq)
noncomputable def spg171 (F : YF171) : Ev.Spec := fun args objs k => match args, objs with
 | [.agg [.int .u64 x0, .int .u64 x1]], [] => bif true then F x0 x1 (fun r => match r with | r0 => k (.c (.bool r0), [])) else none
 | _, _ => none
noncomputable def spec171 (fuel : Nat) : Ev.Spec := spg171 (F_ref02_Interval_Fixed fuel)
theorem ok171 (fuel : Nat) : FnOK Try.prog 171 (spec171 fuel) := by
  intro args objs kk r h
  unfold spec171 spg171 at h
  split at h
  · skip
    obtain ⟨hb, h⟩ := cond_some' h
    simp only [Bool.and_eq_true, Nat.beq_eq, decide_eq_true_eq] at hb
    clear hb
    exact fok171 fuel _ _ kk r ((F171_eq fuel _ _ kk).trans h)
  · cases h
end Go.Proofs.Ytipdidpalcmlhaa

set_option linter.unusedVariables false
set_option linter.unusedSimpArgs false
set_option maxRecDepth 100000
set_option maxHeartbeats 2000000
namespace Go.Proofs.Ytipdidpalcmlhaa
open Go Ev
def kp184 (i : Nat) : Option (List Nat) := Ev.look i []
noncomputable def Gg184 (f : Nat) : Option Ev.Spec := Ev.look f []
noncomputable def G184 (fuel : Nat) : Nat → Option Ev.Spec := Gg184
noncomputable def J184 (fuel : Nat) (i : Nat) : Option Ev.Blk := Ev.look i []
noncomputable def F_ref02_Interval_Mid (fuel : Nat) (x0 x1 x2 : Int) (k0 : (Int) → Option Ans) : Option Ans :=
  k0 (IntKind.u64.wrap (IntKind.u64.wrap (x0 + IntKind.u64.wrap (IntKind.u64.wrap ((IntKind.u64.wrap (x1 - x0)).tdiv (4096 : Int)) * IntKind.u64.wrap x2)) + IntKind.u64.wrap ((IntKind.u64.wrap ((IntKind.u64.wrap (x1 - x0)).tmod (4096 : Int) * IntKind.u64.wrap x2)).tdiv (4096 : Int))))
abbrev YF184 : Type := (Int) → (Int) → (Int) → ((Int) → Option Ans) → Option Ans
theorem F184_eq (fuel : Nat) (x0 x1 x2 : Int) (k : Ev.Cont) : evalFn tab (G184 fuel) (J184 fuel) kp184 fuel Try.f184 [.agg [.int .u64 x0, .int .u64 x1], .c (.int .i64 x2)] [] k = F_ref02_Interval_Mid fuel x0 x1 x2 (fun r => match r with | r0 => k (.c (.int .u64 r0), [])) := by
  kernel_rfl
theorem hG184 (fuel : Nat) : GOK Try.prog (G184 fuel) :=
  gok_nil
theorem fok184 (fuel : Nat) : FnOK Try.prog 184 (evalFn tab (G184 fuel) (J184 fuel) kp184 fuel Try.f184) :=
  fn_ok tab_ok (hG184 fuel) mixed Try.func184 (c := (Try.f184.body).getD .skip) rfl (fun q hq => by
    rw [(by kernel_rfl : obl (J184 fuel) ((Try.f184.body).getD .skip) = [])] at hq
    cases hq)
noncomputable def spg184 (F : YF184) : Ev.Spec := fun args objs k => match args, objs with
 | [.agg [.int .u64 x0, .int .u64 x1], .c (.int .i64 x2)], [] => bif true then F x0 x1 x2 (fun r => match r with | r0 => k (.c (.int .u64 r0), [])) else none
 | _, _ => none
noncomputable def spec184 (fuel : Nat) : Ev.Spec := spg184 (F_ref02_Interval_Mid fuel)
theorem ok184 (fuel : Nat) : FnOK Try.prog 184 (spec184 fuel) := by
  intro args objs kk r h
  unfold spec184 spg184 at h
  split at h
  · skip
    obtain ⟨hb, h⟩ := cond_some' h
    simp only [Bool.and_eq_true, Nat.beq_eq, decide_eq_true_eq] at hb
    clear hb
    exact fok184 fuel _ _ kk r ((F184_eq fuel _ _ _ kk).trans h)
  · cases h
end Go.Proofs.Ytipdidpalcmlhaa

set_option linter.unusedVariables false
set_option linter.unusedSimpArgs false
set_option maxRecDepth 100000
set_option maxHeartbeats 2000000
namespace Go.Proofs.Ytipdidpalcmlhaa
open Go Ev
def kp169 (i : Nat) : Option (List Nat) := Ev.look i [(200002, [3]), (200003, [3])]
noncomputable def Gg169 (f184 : YF184) (f : Nat) : Option Ev.Spec := Ev.look f [(184, spg184 f184)]
noncomputable def G169 (fuel : Nat) : Nat → Option Ev.Spec := Gg169 (F_ref02_Interval_Mid fuel)
noncomputable def J169 (fuel : Nat) (i : Nat) : Option Ev.Blk := Ev.look i []
noncomputable def Fg_ref02_Interval_Part (fuel : Nat) (f184 : YF184) (x0 x1 : Int) (x2 x3 : Int) (k0 : (Int × Int) → Option Ans) : Option Ans :=
  bif x3 == (1 : Int) then
  (f184 (x0) (x1) (x2)
  (fun y3 =>
  k0 (x0, y3)))
  else
  (f184 (x0) (x1) (x2)
  (fun y3 =>
  k0 (IntKind.u64.wrap (y3 + (1 : Int)), x1)))
noncomputable def F_ref02_Interval_Part (fuel : Nat) (x0 x1 : Int) (x2 x3 : Int) (k0 : (Int × Int) → Option Ans) : Option Ans := Fg_ref02_Interval_Part fuel (F_ref02_Interval_Mid fuel) x0 x1 x2 x3 k0
abbrev YF169 : Type := (Int) → (Int) → (Int) → (Int) → ((Int × Int) → Option Ans) → Option Ans
theorem F169_eqg (fuel : Nat) (f184 : YF184) (x0 x1 : Int) (x2 x3 : Int) (k : Ev.Cont) : evalFn tab (Gg169 f184) (J169 fuel) kp169 fuel Try.f169 [.agg [.int .u64 x0, .int .u64 x1], .c (.int .i64 x2), .c (.int .i64 x3)] [] k = Fg_ref02_Interval_Part fuel f184 x0 x1 x2 x3 (fun r => match r with | (r0, r1) => k (.agg [.int .u64 r0, .int .u64 r1], [])) := by
  kernel_rfl
theorem hG169 (fuel : Nat) : GOK Try.prog (G169 fuel) :=
  gok_cons ⟨ok184 fuel, enters_of Try.func184 (by kernel_rfl) rfl⟩ <|
  gok_nil
theorem fok169 (fuel : Nat) : FnOK Try.prog 169 (evalFn tab (G169 fuel) (J169 fuel) kp169 fuel Try.f169) :=
  fn_ok tab_ok (hG169 fuel) mixed Try.func169 (c := (Try.f169.body).getD .skip) rfl (fun q hq => by
    rw [(by kernel_rfl : obl (J169 fuel) ((Try.f169.body).getD .skip) = [])] at hq
    cases hq)
noncomputable def spg169 (F : YF169) : Ev.Spec := fun args objs k => match args, objs with
 | [.agg [.int .u64 x0, .int .u64 x1], .c (.int .i64 x2), .c (.int .i64 x3)], [] => bif true then F x0 x1 x2 x3 (fun r => match r with | (r0, r1) => k (.agg [.int .u64 r0, .int .u64 r1], [])) else none
 | _, _ => none
noncomputable def spec169 (fuel : Nat) : Ev.Spec := spg169 (F_ref02_Interval_Part fuel)
theorem ok169 (fuel : Nat) : FnOK Try.prog 169 (spec169 fuel) := by
  intro args objs kk r h
  unfold spec169 spg169 at h
  split at h
  · skip
    obtain ⟨hb, h⟩ := cond_some' h
    simp only [Bool.and_eq_true, Nat.beq_eq, decide_eq_true_eq] at hb
    clear hb
    exact fok169 fuel _ _ kk r ((F169_eqg fuel (F_ref02_Interval_Mid fuel) _ _ _ _ kk).trans h)
  · cases h
end Go.Proofs.Ytipdidpalcmlhaa

set_option linter.unusedVariables false
set_option linter.unusedSimpArgs false
set_option maxRecDepth 100000
set_option maxHeartbeats 2000000
namespace Go.Proofs.Ytipdidpalcmlhaa
open Go Ev
def kp172 (i : Nat) : Option (List Nat) := Ev.look i []
noncomputable def Gg172 (f : Nat) : Option Ev.Spec := Ev.look f []
noncomputable def G172 (fuel : Nat) : Nat → Option Ev.Spec := Gg172
noncomputable def J172 (fuel : Nat) (i : Nat) : Option Ev.Blk := Ev.look i []
noncomputable def F_ref02_Interval_Shifted (fuel : Nat) (x0 x1 : Int) (k0 : (Int × Int) → Option Ans) : Option Ans :=
  k0 (IntKind.u64.wrap (x0.tmod (16777216 : Int) * (256 : Int)), IntKind.u64.wrap (IntKind.u64.wrap (x1.tmod (16777216 : Int) * (256 : Int)) + (255 : Int)))
abbrev YF172 : Type := (Int) → (Int) → ((Int × Int) → Option Ans) → Option Ans
theorem F172_eq (fuel : Nat) (x0 x1 : Int) (k : Ev.Cont) : evalFn tab (G172 fuel) (J172 fuel) kp172 fuel Try.f172 [.agg [.int .u64 x0, .int .u64 x1]] [] k = F_ref02_Interval_Shifted fuel x0 x1 (fun r => match r with | (r0, r1) => k (.agg [.int .u64 r0, .int .u64 r1], [])) := by
  kernel_rfl
theorem hG172 (fuel : Nat) : GOK Try.prog (G172 fuel) :=
  gok_nil
theorem fok172 (fuel : Nat) : FnOK Try.prog 172 (evalFn tab (G172 fuel) (J172 fuel) kp172 fuel Try.f172) :=
  fn_ok tab_ok (hG172 fuel) mixed Try.func172 (c := (Try.f172.body).getD .skip) rfl (fun q hq => by
    rw [(by kernel_rfl : obl (J172 fuel) ((Try.f172.body).getD .skip) = [])] at hq
    cases hq)
noncomputable def spg172 (F : YF172) : Ev.Spec := fun args objs k => match args, objs with
 | [.agg [.int .u64 x0, .int .u64 x1]], [] => bif true then F x0 x1 (fun r => match r with | (r0, r1) => k (.agg [.int .u64 r0, .int .u64 r1], [])) else none
 | _, _ => none
noncomputable def spec172 (fuel : Nat) : Ev.Spec := spg172 (F_ref02_Interval_Shifted fuel)
theorem ok172 (fuel : Nat) : FnOK Try.prog 172 (spec172 fuel) := by
  intro args objs kk r h
  unfold spec172 spg172 at h
  split at h
  · skip
    obtain ⟨hb, h⟩ := cond_some' h
    simp only [Bool.and_eq_true, Nat.beq_eq, decide_eq_true_eq] at hb
    clear hb
    exact fok172 fuel _ _ kk r ((F172_eq fuel _ _ kk).trans h)
  · cases h
end Go.Proofs.Ytipdidpalcmlhaa

set_option linter.unusedVariables false
set_option linter.unusedSimpArgs false
set_option maxRecDepth 100000
set_option maxHeartbeats 2000000
namespace Go.Proofs.Ytipdidpalcmlhaa
open Go Ev
def kp183 (i : Nat) : Option (List Nat) := Ev.look i [(3, [0, 3, 4]), (100000, [3]), (400000, [2])]
noncomputable def Gg183 (f : Nat) : Option Ev.Spec := Ev.look f []
noncomputable def G183 (fuel : Nat) : Nat → Option Ev.Spec := Gg183
noncomputable def S_ref02_unlikely_0 (fuel : Nat) (v : Int × Int × Int) (c : (Int × Int × Int) → Option Ans) (B : (Int → Option Ans)) : Option Ans := match v, B with
 | (x0, x1, x2), b =>
  bif decide (x2 < x0) then
  c (x0, IntKind.i64.wrap (x1 - IntKind.i64.wrap (x1.tdiv (8 : Int))), IntKind.i64.wrap (x2 + (1 : Int)))
  else
  b x1
noncomputable def L_ref02_unlikely_0 (fuel : Nat) (v : Int × Int × Int) (b : (Int → Option Ans)) : Option Ans := iter (S_ref02_unlikely_0 fuel) fuel v b
noncomputable def J183_0 (fuel : Nat) (i : Nat) : Option Ev.Blk := Ev.look i []
noncomputable def T183_0 (v : Int × Int × Int) : Ev.St := match v with | (x0, x1, x2) => ⟨[(0, .c (.int .i64 x0)), (3, .c (.int .i64 x1)), (4, .c (.int .i64 x2))], [], 0, 0⟩
noncomputable def E183_0 (K : Ev.Ex → Ev.St → Option Ans) : (Int → Option Ans) := (fun v => match v with | x0 => K .normal ⟨[(3, .c (.int .i64 x0))], [], 0, 0⟩)
theorem S183_0_ok (fuel : Nat) (R : Ev.St → Option Ans) (K : Ev.Ex → Ev.St → Option Ans) (x0 x1 x2 : Int) : evalCode tab (G183 fuel) (J183_0 fuel) kp183 fuel (bodyOf 0 Try.f183) (T183_0 (x0, x1, x2)) (lc kp183 3 0 R K) = S_ref02_unlikely_0 fuel (x0, x1, x2) (fun v => R (T183_0 v)) (E183_0 K) := by
  kernel_rfl
noncomputable def B183_0 (fuel : Nat) : Ev.Blk := fun st K => match canonO (kp183 3) st with
 | some s => (match s with
 | ⟨[(q0, .c (.int .i64 x0)), (q1, .c (.int .i64 x1)), (q2, .c (.int .i64 x2))], [], q3, q4⟩ => bif Nat.beq q0 0 && Nat.beq q1 3 && Nat.beq q2 4 && Nat.beq q3 0 && Nat.beq q4 0 then iter (S_ref02_unlikely_0 fuel) fuel (x0, x1, x2) (E183_0 K) else none
 | _ => none)
 | none => none
theorem B183_0_ok (fuel : Nat) (st : Ev.St) (K : Ev.Ex → Ev.St → Option Ans) (r : Ans) (h : B183_0 fuel st K = some r) : evalCode tab (G183 fuel) (J183_0 fuel) kp183 fuel (.block 0 (.loop (bodyOf 0 Try.f183))) st K = some r := by
  unfold B183_0 at h
  split at h
  · rename_i s hs
    split at h
    · skip
      obtain ⟨hb, h⟩ := cond_some' h
      simp only [Bool.and_eq_true, Nat.beq_eq, decide_eq_true_eq] at hb
      obtain ⟨⟨⟨⟨rfl, rfl⟩, rfl⟩, rfl⟩, rfl⟩ := hb
      exact blk_loop (S := T183_0) (ks := E183_0) (step := S_ref02_unlikely_0 fuel) (v := (_, _, _)) (by kernel_rfl) (by kernel_rfl) (fun R K v => by obtain ⟨x0, x1, x2⟩ := v; exact S183_0_ok fuel R K x0 x1 x2) hs h
    · cases h
  · cases h
noncomputable def J183 (fuel : Nat) (i : Nat) : Option Ev.Blk := Ev.look i [(100000, B183_0 fuel)]
noncomputable def F_ref02_unlikely (fuel : Nat) (x0 : Int) (k0 : (Int) → Option Ans) : Option Ans :=
  (L_ref02_unlikely_0 fuel (x0, (2048 : Int), (0 : Int))
  (fun b0_0 =>
  k0 b0_0))
abbrev YF183 : Type := (Int) → ((Int) → Option Ans) → Option Ans
theorem F183_eq (fuel : Nat) (x0 : Int) (k : Ev.Cont) : evalFn tab (G183 fuel) (J183 fuel) kp183 fuel Try.f183 [.c (.int .i64 x0)] [] k = F_ref02_unlikely fuel x0 (fun r => match r with | r0 => k (.c (.int .i64 r0), [])) := by
  kernel_rfl
theorem hG183 (fuel : Nat) : GOK Try.prog (G183 fuel) :=
  gok_nil
theorem B183_0_blk (fuel : Nat) : BlkOK Try.prog Try.f183.ntmps (.block 0 (.loop (bodyOf 0 Try.f183))) (B183_0 fuel) :=
  blk_of (blk_of_code tab_ok (hG183 fuel) mixed (J := J183_0 fuel) (kp := kp183) (fuel := fuel) (by kernel_rfl) (fun q hq => by
    rw [(by kernel_rfl : obl (J183_0 fuel) (.block 0 (.loop (bodyOf 0 Try.f183))) = [])] at hq
    cases hq)) (B183_0_ok fuel)
theorem fok183 (fuel : Nat) : FnOK Try.prog 183 (evalFn tab (G183 fuel) (J183 fuel) kp183 fuel Try.f183) :=
  fn_ok tab_ok (hG183 fuel) mixed Try.func183 (c := (Try.f183.body).getD .skip) rfl (fun q hq => by
    rw [(by kernel_rfl : obl (J183 fuel) ((Try.f183.body).getD .skip) = [(.block 0 (.loop (bodyOf 0 Try.f183)), B183_0 fuel)])] at hq
    simp only [List.mem_cons, List.not_mem_nil, or_false] at hq
    subst hq
    · exact B183_0_blk fuel)
noncomputable def spg183 (F : YF183) : Ev.Spec := fun args objs k => match args, objs with
 | [.c (.int .i64 x0)], [] => bif true then F x0 (fun r => match r with | r0 => k (.c (.int .i64 r0), [])) else none
 | _, _ => none
noncomputable def spec183 (fuel : Nat) : Ev.Spec := spg183 (F_ref02_unlikely fuel)
theorem ok183 (fuel : Nat) : FnOK Try.prog 183 (spec183 fuel) := by
  intro args objs kk r h
  unfold spec183 spg183 at h
  split at h
  · skip
    obtain ⟨hb, h⟩ := cond_some' h
    simp only [Bool.and_eq_true, Nat.beq_eq, decide_eq_true_eq] at hb
    clear hb
    exact fok183 fuel _ _ kk r ((F183_eq fuel _ kk).trans h)
  · cases h
end Go.Proofs.Ytipdidpalcmlhaa

set_option linter.unusedVariables false
set_option linter.unusedSimpArgs false
set_option maxRecDepth 100000
set_option maxHeartbeats 2000000
namespace Go.Proofs.Ytipdidpalcmlhaa
open Go Ev
def kp168 (i : Nat) : Option (List Nat) := Ev.look i []
noncomputable def Gg168 (f183 : YF183) (f : Nat) : Option Ev.Spec := Ev.look f [(183, spg183 f183)]
noncomputable def G168 (fuel : Nat) : Nat → Option Ev.Spec := Gg168 (F_ref02_unlikely fuel)
noncomputable def J168 (fuel : Nat) (i : Nat) : Option Ev.Blk := Ev.look i []
noncomputable def Fg_ref02_Likely (fuel : Nat) (f183 : YF183) (x0 x1 : Int) (k0 : (Int) → Option Ans) : Option Ans :=
  bif x0 == (0 : Int) then
  (f183 (x1.tmod (32 : Int))
  (fun y3 =>
  bif decide (x1 < (32 : Int)) then
  k0 y3
  else
  (f183 (x1.tmod (32 : Int))
  (fun y8 =>
  k0 (IntKind.i64.wrap ((4096 : Int) - y8))))))
  else
  bif decide (IntKind.i64.wrap (IntKind.i64.wrap (IntKind.i64.wrap ((2 : Int) * IntKind.i64.wrap (x1.tdiv (256 : Int))) + IntKind.i64.wrap ((2 : Int) * x1.tmod (256 : Int))) + (2 : Int)) = (0 : Int)) then
  none
  else
  k0 (bif decide ((4095 : Int) < bif decide ((1 : Int) > IntKind.i64.wrap ((IntKind.i64.wrap (IntKind.i64.wrap (IntKind.i64.wrap ((2 : Int) * x1.tmod (256 : Int)) + (1 : Int)) * (4096 : Int))).tdiv (IntKind.i64.wrap (IntKind.i64.wrap (IntKind.i64.wrap ((2 : Int) * IntKind.i64.wrap (x1.tdiv (256 : Int))) + IntKind.i64.wrap ((2 : Int) * x1.tmod (256 : Int))) + (2 : Int))))) then (1 : Int) else IntKind.i64.wrap ((IntKind.i64.wrap (IntKind.i64.wrap (IntKind.i64.wrap ((2 : Int) * x1.tmod (256 : Int)) + (1 : Int)) * (4096 : Int))).tdiv (IntKind.i64.wrap (IntKind.i64.wrap (IntKind.i64.wrap ((2 : Int) * IntKind.i64.wrap (x1.tdiv (256 : Int))) + IntKind.i64.wrap ((2 : Int) * x1.tmod (256 : Int))) + (2 : Int))))) then (4095 : Int) else bif decide ((1 : Int) > IntKind.i64.wrap ((IntKind.i64.wrap (IntKind.i64.wrap (IntKind.i64.wrap ((2 : Int) * x1.tmod (256 : Int)) + (1 : Int)) * (4096 : Int))).tdiv (IntKind.i64.wrap (IntKind.i64.wrap (IntKind.i64.wrap ((2 : Int) * IntKind.i64.wrap (x1.tdiv (256 : Int))) + IntKind.i64.wrap ((2 : Int) * x1.tmod (256 : Int))) + (2 : Int))))) then (1 : Int) else IntKind.i64.wrap ((IntKind.i64.wrap (IntKind.i64.wrap (IntKind.i64.wrap ((2 : Int) * x1.tmod (256 : Int)) + (1 : Int)) * (4096 : Int))).tdiv (IntKind.i64.wrap (IntKind.i64.wrap (IntKind.i64.wrap ((2 : Int) * IntKind.i64.wrap (x1.tdiv (256 : Int))) + IntKind.i64.wrap ((2 : Int) * x1.tmod (256 : Int))) + (2 : Int)))))
noncomputable def F_ref02_Likely (fuel : Nat) (x0 x1 : Int) (k0 : (Int) → Option Ans) : Option Ans := Fg_ref02_Likely fuel (F_ref02_unlikely fuel) x0 x1 k0
abbrev YF168 : Type := (Int) → (Int) → ((Int) → Option Ans) → Option Ans
theorem F168_eqg (fuel : Nat) (f183 : YF183) (x0 x1 : Int) (k : Ev.Cont) : evalFn tab (Gg168 f183) (J168 fuel) kp168 fuel Try.f168 [.c (.int .i64 x0), .c (.int .i64 x1)] [] k = Fg_ref02_Likely fuel f183 x0 x1 (fun r => match r with | r0 => k (.c (.int .i64 r0), [])) := by
  kernel_rfl
theorem hG168 (fuel : Nat) : GOK Try.prog (G168 fuel) :=
  gok_cons ⟨ok183 fuel, enters_of Try.func183 (by kernel_rfl) rfl⟩ <|
  gok_nil
theorem fok168 (fuel : Nat) : FnOK Try.prog 168 (evalFn tab (G168 fuel) (J168 fuel) kp168 fuel Try.f168) :=
  fn_ok tab_ok (hG168 fuel) mixed Try.func168 (c := (Try.f168.body).getD .skip) rfl (fun q hq => by
    rw [(by kernel_rfl : obl (J168 fuel) ((Try.f168.body).getD .skip) = [])] at hq
    cases hq)
noncomputable def spg168 (F : YF168) : Ev.Spec := fun args objs k => match args, objs with
 | [.c (.int .i64 x0), .c (.int .i64 x1)], [] => bif true then F x0 x1 (fun r => match r with | r0 => k (.c (.int .i64 r0), [])) else none
 | _, _ => none
noncomputable def spec168 (fuel : Nat) : Ev.Spec := spg168 (F_ref02_Likely fuel)
theorem ok168 (fuel : Nat) : FnOK Try.prog 168 (spec168 fuel) := by
  intro args objs kk r h
  unfold spec168 spg168 at h
  split at h
  · skip
    obtain ⟨hb, h⟩ := cond_some' h
    simp only [Bool.and_eq_true, Nat.beq_eq, decide_eq_true_eq] at hb
    clear hb
    exact fok168 fuel _ _ kk r ((F168_eqg fuel (F_ref02_unlikely fuel) _ _ kk).trans h)
  · cases h
end Go.Proofs.Ytipdidpalcmlhaa

set_option linter.unusedVariables false
set_option linter.unusedSimpArgs false
set_option maxRecDepth 100000
set_option maxHeartbeats 2000000
namespace Go.Proofs.Ytipdidpalcmlhaa
open Go Ev
def kp133_e89 (i : Nat) : Option (List Nat) := Ev.look i [(8, [0, 1000002]), (100000, []), (200005, [0]), (200007, [0]), (400000, [6]), (600000, [])]
noncomputable def Gg133_e89 (f168 : YF168) (f169 : YF169) (f170 : YF170) (f171 : YF171) (f172 : YF172) (f : Nat) : Option Ev.Spec := Ev.look f [(168, spg168 f168), (169, spg169 f169), (170, spg170 f170), (171, spg171 f171), (172, spg172 f172)]
noncomputable def G133_e89 (fuel : Nat) : Nat → Option Ev.Spec := Gg133_e89 (F_ref02_Likely fuel) (F_ref02_Interval_Part fuel) (F_ref02_After fuel) (F_ref02_Interval_Fixed fuel) (F_ref02_Interval_Shifted fuel)
noncomputable def Sg_ref02_Encoder_Put_e89_0 (fuel : Nat) (f168 : YF168) (f169 : YF169) (f170 : YF170) (f171 : YF171) (f172 : YF172) (x0 x1 x2 : Int) (x3 x4 : (List Int)) (c : (Int × Int × Int × (List Int) × (List Int)) → Option Ans) (B : (Int × Int × Int × (List Int) × (List Int) → Option Ans)) : Option Ans := match B with
 | b =>
  (f171 (x1) (x2)
  (fun y2 =>
  bif y2 then
  both (bif decide ((x4.length + [IntKind.u8.wrap (Ev.ishr IntKind.u64 x2 (24 : Int))].length) * (1 : Nat) ≤ (140737488355328 : Nat) ∧ x4.length + [IntKind.u8.wrap (Ev.ishr IntKind.u64 x2 (24 : Int))].length ≤ (140737488355328 : Nat)) then
  (f172 (x1) (x2)
  (fun (y10_0, y10_1) =>
  c (x0, y10_0, y10_1, x3, x4 ++ [IntKind.u8.wrap (Ev.ishr IntKind.u64 x2 (24 : Int))])))
  else none)
  (both (bif decide ((x4.length + [IntKind.u8.wrap (Ev.ishr IntKind.u64 x2 (24 : Int))].length) * (1 : Nat) ≤ (140737488355328 : Nat) ∧ x4.length + [IntKind.u8.wrap (Ev.ishr IntKind.u64 x2 (24 : Int))].length ≤ (140737488355328 : Nat)) then
  (f172 (x1) (x2)
  (fun (y12_0, y12_1) =>
  c (x0, y12_0, y12_1, x3, x4 ++ [IntKind.u8.wrap (Ev.ishr IntKind.u64 x2 (24 : Int))])))
  else none)
  (bif decide ((x4.length + [IntKind.u8.wrap (Ev.ishr IntKind.u64 x2 (24 : Int))].length) * (1 : Nat) ≤ (140737488355328 : Nat) ∧ x4.length + [IntKind.u8.wrap (Ev.ishr IntKind.u64 x2 (24 : Int))].length ≤ (140737488355328 : Nat)) then
  (f172 (x1) (x2)
  (fun (y12_0, y12_1) =>
  c (x0, y12_0, y12_1, x3, x4 ++ [IntKind.u8.wrap (Ev.ishr IntKind.u64 x2 (24 : Int))])))
  else none))
  else
  b (x0, x1, x2, x3, x4)))
noncomputable def S_ref02_Encoder_Put_e89_0 (fuel : Nat) (v : Int × Int × Int × (List Int) × (List Int)) (c : (Int × Int × Int × (List Int) × (List Int)) → Option Ans) (B : (Int × Int × Int × (List Int) × (List Int) → Option Ans)) : Option Ans := match v with
 | (x0, x1, x2, x3, x4) => Sg_ref02_Encoder_Put_e89_0 fuel (F_ref02_Likely fuel) (F_ref02_Interval_Part fuel) (F_ref02_After fuel) (F_ref02_Interval_Fixed fuel) (F_ref02_Interval_Shifted fuel) x0 x1 x2 x3 x4 c B
noncomputable def L_ref02_Encoder_Put_e89_0 (fuel : Nat) (v : Int × Int × Int × (List Int) × (List Int)) (b : (Int × Int × Int × (List Int) × (List Int) → Option Ans)) : Option Ans := iter (S_ref02_Encoder_Put_e89_0 fuel) fuel v b
noncomputable def J133_e89_0 (fuel : Nat) (i : Nat) : Option Ev.Blk := Ev.look i []
noncomputable def T133_e89_0 (v : Int × Int × Int × (List Int) × (List Int)) : Ev.St := match v with | (x0, x1, x2, x3, x4) => ⟨[(0, .c (.ptr 0 0))], [(0, .cells 185 [.int .i64 x0, .own 1, .int .u64 x1, .int .u64 x2, .own 2]), (1, .vec 3 (.int .i64) x3 false), (2, .vec 5 (.int .u8) x4 true)], 3, 3⟩
noncomputable def E133_e89_0 (K : Ev.Ex → Ev.St → Option Ans) : (Int × Int × Int × (List Int) × (List Int) → Option Ans) := (fun v => match v with | (x0, x1, x2, x3, x4) => K .normal ⟨[], [(0, .cells 185 [.int .i64 x0, .own 1, .int .u64 x1, .int .u64 x2, .own 2]), (1, .vec 3 (.int .i64) x3 false), (2, .vec 5 (.int .u8) x4 true)], 3, 3⟩)
theorem S133_e89_0_okg (fuel : Nat) (f168 : YF168) (f169 : YF169) (f170 : YF170) (f171 : YF171) (f172 : YF172) (R : Ev.St → Option Ans) (K : Ev.Ex → Ev.St → Option Ans) (x0 x1 x2 : Int) (x3 x4 : (List Int)) : evalCode tab (Gg133_e89 f168 f169 f170 f171 f172) (J133_e89_0 fuel) kp133_e89 fuel (bodyOf 0 Try.f133) (T133_e89_0 (x0, x1, x2, x3, x4)) (lc kp133_e89 8 0 R K) = Sg_ref02_Encoder_Put_e89_0 fuel f168 f169 f170 f171 f172 x0 x1 x2 x3 x4 (fun v => R (T133_e89_0 v)) (E133_e89_0 K) := by
  kernel_rfl
noncomputable def B133_e89_0 (fuel : Nat) : Ev.Blk := fun st K => match canonO (kp133_e89 8) st with
 | some s => (match s with
 | ⟨[(q0, .c (.ptr q1 q2))], [(q3, .cells q4 [.int .i64 x0, .own q5, .int .u64 x1, .int .u64 x2, .own q6]), (q7, .vec q8 (.int .i64) x3 false), (q9, .vec q10 (.int .u8) x4 true)], q11, q12⟩ => bif Nat.beq q0 0 && Nat.beq q1 0 && Nat.beq q2 0 && Nat.beq q3 0 && Nat.beq q4 185 && Nat.beq q5 1 && Nat.beq q6 2 && Nat.beq q7 1 && Nat.beq q8 3 && Nat.beq q9 2 && Nat.beq q10 5 && Nat.beq q11 3 && Nat.beq q12 3 then iter (S_ref02_Encoder_Put_e89_0 fuel) fuel (x0, x1, x2, x3, x4) (E133_e89_0 K) else none
 | _ => none)
 | none => none
theorem B133_e89_0_ok (fuel : Nat) (st : Ev.St) (K : Ev.Ex → Ev.St → Option Ans) (r : Ans) (h : B133_e89_0 fuel st K = some r) : evalCode tab (G133_e89 fuel) (J133_e89_0 fuel) kp133_e89 fuel (.block 0 (.loop (bodyOf 0 Try.f133))) st K = some r := by
  unfold B133_e89_0 at h
  split at h
  · rename_i s hs
    split at h
    · skip
      obtain ⟨hb, h⟩ := cond_some' h
      simp only [Bool.and_eq_true, Nat.beq_eq, decide_eq_true_eq] at hb
      obtain ⟨⟨⟨⟨⟨⟨⟨⟨⟨⟨⟨⟨rfl, rfl⟩, rfl⟩, rfl⟩, rfl⟩, rfl⟩, rfl⟩, rfl⟩, rfl⟩, rfl⟩, rfl⟩, rfl⟩, rfl⟩ := hb
      exact blk_loop (S := T133_e89_0) (ks := E133_e89_0) (step := S_ref02_Encoder_Put_e89_0 fuel) (v := (_, _, _, _, _)) (by kernel_rfl) (by kernel_rfl) (fun R K v => by obtain ⟨x0, x1, x2, x3, x4⟩ := v; exact S133_e89_0_okg fuel (F_ref02_Likely fuel) (F_ref02_Interval_Part fuel) (F_ref02_After fuel) (F_ref02_Interval_Fixed fuel) (F_ref02_Interval_Shifted fuel) R K x0 x1 x2 x3 x4) hs h
    · cases h
  · cases h
noncomputable def J133_e89 (fuel : Nat) (i : Nat) : Option Ev.Blk := Ev.look i [(100000, B133_e89_0 fuel)]
noncomputable def Fg_ref02_Encoder_Put_e89 (fuel : Nat) (f168 : YF168) (f169 : YF169) (f170 : YF170) (f171 : YF171) (f172 : YF172) (x0 x1 : Int) (x2 x3 x4 : Int) (x5 x6 : (List Int)) (k0 : (Int × Int × Int × Int × (List Int) × (List Int)) → Option Ans) (k1 : (Int × Int × Int × Int × (List Int) × (List Int)) → Option Ans) : Option Ans :=
  bif decide (x0 < (0 : Int)) then
  k0 ((2 : Int), x2, x3, x4, x5, x6)
  else
  bif decide (x0 ≥ (↑x5.length : Int)) then
  k0 ((2 : Int), x2, x3, x4, x5, x6)
  else
  bif x1 != (0 : Int) then
  bif x1 != (1 : Int) then
  k0 ((2 : Int), x2, x3, x4, x5, x6)
  else
  bif decide ((0 : Int) ≤ x0 ∧ x0 < (↑x5.length : Int)) then
  (f168 (x2) (x5.getD x0.toNat (0 : Int))
  (fun y7 =>
  (f169 (x3) (x4) (y7) (x1)
  (fun (y11_0, y11_1) =>
  bif decide ((0 : Int) ≤ x0 ∧ x0 < (↑x5.length : Int)) then
  (f170 (x2) (x5.getD x0.toNat (0 : Int)) (x1)
  (fun y16 =>
  bif decide ((0 : Int) ≤ x0 ∧ x0 < (↑x5.length : Int)) then
  (L_ref02_Encoder_Put_e89_0 fuel (x2, y11_0, y11_1, x5.set x0.toNat y16, x6)
  (fun (b0_0, b0_1, b0_2, b0_3, b0_4) =>
  k1 ((0 : Int), b0_0, b0_1, b0_2, b0_3, b0_4)))
  else none))
  else none))))
  else none
  else
  bif decide ((0 : Int) ≤ x0 ∧ x0 < (↑x5.length : Int)) then
  (f168 (x2) (x5.getD x0.toNat (0 : Int))
  (fun y6 =>
  (f169 (x3) (x4) (y6) (x1)
  (fun (y10_0, y10_1) =>
  bif decide ((0 : Int) ≤ x0 ∧ x0 < (↑x5.length : Int)) then
  (f170 (x2) (x5.getD x0.toNat (0 : Int)) (x1)
  (fun y15 =>
  bif decide ((0 : Int) ≤ x0 ∧ x0 < (↑x5.length : Int)) then
  (L_ref02_Encoder_Put_e89_0 fuel (x2, y10_0, y10_1, x5.set x0.toNat y15, x6)
  (fun (b0_0, b0_1, b0_2, b0_3, b0_4) =>
  k1 ((0 : Int), b0_0, b0_1, b0_2, b0_3, b0_4)))
  else none))
  else none))))
  else none
noncomputable def F_ref02_Encoder_Put_e89 (fuel : Nat) (x0 x1 : Int) (x2 x3 x4 : Int) (x5 x6 : (List Int)) (k0 : (Int × Int × Int × Int × (List Int) × (List Int)) → Option Ans) (k1 : (Int × Int × Int × Int × (List Int) × (List Int)) → Option Ans) : Option Ans := Fg_ref02_Encoder_Put_e89 fuel (F_ref02_Likely fuel) (F_ref02_Interval_Part fuel) (F_ref02_After fuel) (F_ref02_Interval_Fixed fuel) (F_ref02_Interval_Shifted fuel) x0 x1 x2 x3 x4 x5 x6 k0 k1
abbrev YF133_e89 : Type := (Int) → (Int) → (Int) → (Int) → (Int) → ((List Int)) → ((List Int)) → ((Int × Int × Int × Int × (List Int) × (List Int)) → Option Ans) → ((Int × Int × Int × Int × (List Int) × (List Int)) → Option Ans) → Option Ans
theorem F133_e89_eqg (fuel : Nat) (f168 : YF168) (f169 : YF169) (f170 : YF170) (f171 : YF171) (f172 : YF172) (x0 x1 : Int) (x2 x3 x4 : Int) (x5 x6 : (List Int)) (k : Ev.Cont) : evalFn tab (Gg133_e89 f168 f169 f170 f171 f172) (J133_e89 fuel) kp133_e89 fuel Try.f133 [.c (.ptr 0 0), .c (.int .i64 x0), .c (.int .i64 x1)] [.cells 185 [.int .i64 x2, .own 1, .int .u64 x3, .int .u64 x4, .own 2], .vec 3 (.int .i64) x5 false, .vec 5 (.int .u8) x6 false] k = Fg_ref02_Encoder_Put_e89 fuel f168 f169 f170 f171 f172 x0 x1 x2 x3 x4 x5 x6 (fun r => match r with | (r0, r1, r2, r3, r4, r5) => k (.c (.int .i64 r0), [.cells 185 [.int .i64 r1, .own 1, .int .u64 r2, .int .u64 r3, .own 2], .vec 3 (.int .i64) r4 false, .vec 5 (.int .u8) r5 false])) (fun r => match r with | (r0, r1, r2, r3, r4, r5) => k (.c (.int .i64 r0), [.cells 185 [.int .i64 r1, .own 1, .int .u64 r2, .int .u64 r3, .own 2], .vec 3 (.int .i64) r4 false, .vec 5 (.int .u8) r5 true])) := by
  kernel_rfl
theorem hG133_e89 (fuel : Nat) : GOK Try.prog (G133_e89 fuel) :=
  gok_cons ⟨ok168 fuel, enters_of Try.func168 (by kernel_rfl) rfl⟩ <|
  gok_cons ⟨ok169 fuel, enters_of Try.func169 (by kernel_rfl) rfl⟩ <|
  gok_cons ⟨ok170 fuel, enters_of Try.func170 (by kernel_rfl) rfl⟩ <|
  gok_cons ⟨ok171 fuel, enters_of Try.func171 (by kernel_rfl) rfl⟩ <|
  gok_cons ⟨ok172 fuel, enters_of Try.func172 (by kernel_rfl) rfl⟩ <|
  gok_nil
theorem B133_e89_0_blk (fuel : Nat) : BlkOK Try.prog Try.f133.ntmps (.block 0 (.loop (bodyOf 0 Try.f133))) (B133_e89_0 fuel) :=
  blk_of (blk_of_code tab_ok (hG133_e89 fuel) mixed (J := J133_e89_0 fuel) (kp := kp133_e89) (fuel := fuel) (by kernel_rfl) (fun q hq => by
    rw [(by kernel_rfl : obl (J133_e89_0 fuel) (.block 0 (.loop (bodyOf 0 Try.f133))) = [])] at hq
    cases hq)) (B133_e89_0_ok fuel)
theorem fok133_e89 (fuel : Nat) : FnOK Try.prog 133 (evalFn tab (G133_e89 fuel) (J133_e89 fuel) kp133_e89 fuel Try.f133) :=
  fn_ok tab_ok (hG133_e89 fuel) mixed Try.func133 (c := (Try.f133.body).getD .skip) rfl (fun q hq => by
    rw [(by kernel_rfl : obl (J133_e89 fuel) ((Try.f133.body).getD .skip) = [(.block 0 (.loop (bodyOf 0 Try.f133)), B133_e89_0 fuel)])] at hq
    simp only [List.mem_cons, List.not_mem_nil, or_false] at hq
    subst hq
    · exact B133_e89_0_blk fuel)
noncomputable def spg133_e89 (F : YF133_e89) : Ev.Spec := fun args objs k => match args, objs with
 | [.c (.ptr q0 q1), .c (.int .i64 x0), .c (.int .i64 x1)], [.cells q2 [.int .i64 x2, .own q3, .int .u64 x3, .int .u64 x4, .own q4], .vec q5 (.int .i64) x5 false, .vec q6 (.int .u8) x6 false] => bif Nat.beq q0 0 && Nat.beq q1 0 && Nat.beq q2 185 && Nat.beq q3 1 && Nat.beq q4 2 && Nat.beq q5 3 && Nat.beq q6 5 then F x0 x1 x2 x3 x4 x5 x6 (fun r => match r with | (r0, r1, r2, r3, r4, r5) => k (.c (.int .i64 r0), [.cells 185 [.int .i64 r1, .own 1, .int .u64 r2, .int .u64 r3, .own 2], .vec 3 (.int .i64) r4 false, .vec 5 (.int .u8) r5 false])) (fun r => match r with | (r0, r1, r2, r3, r4, r5) => k (.c (.int .i64 r0), [.cells 185 [.int .i64 r1, .own 1, .int .u64 r2, .int .u64 r3, .own 2], .vec 3 (.int .i64) r4 false, .vec 5 (.int .u8) r5 true])) else none
 | _, _ => none
noncomputable def spec133_e89 (fuel : Nat) : Ev.Spec := spg133_e89 (F_ref02_Encoder_Put_e89 fuel)
theorem ok133_e89 (fuel : Nat) : FnOK Try.prog 133 (spec133_e89 fuel) := by
  intro args objs kk r h
  unfold spec133_e89 spg133_e89 at h
  split at h
  · skip
    obtain ⟨hb, h⟩ := cond_some' h
    simp only [Bool.and_eq_true, Nat.beq_eq, decide_eq_true_eq] at hb
    obtain ⟨⟨⟨⟨⟨⟨rfl, rfl⟩, rfl⟩, rfl⟩, rfl⟩, rfl⟩, rfl⟩ := hb
    exact fok133_e89 fuel _ _ kk r ((F133_e89_eqg fuel (F_ref02_Likely fuel) (F_ref02_Interval_Part fuel) (F_ref02_After fuel) (F_ref02_Interval_Fixed fuel) (F_ref02_Interval_Shifted fuel) _ _ _ _ _ _ _ kk).trans h)
  · cases h
end Go.Proofs.Ytipdidpalcmlhaa

set_option linter.unusedVariables false
set_option linter.unusedSimpArgs false
set_option maxRecDepth 100000
set_option maxHeartbeats 2000000
namespace Go.Proofs.Ytipdidpalcmlhaa
open Go Ev
def kp73 (i : Nat) : Option (List Nat) := Ev.look i [(4, [1, 3]), (100000, []), (400000, [2])]
noncomputable def Gg73 (f75 : YF75) (f : Nat) : Option Ev.Spec := Ev.look f [(75, spg75 f75)]
noncomputable def G73 (fuel : Nat) : Nat → Option Ev.Spec := Gg73 (F_ref05_Sides fuel)
noncomputable def Sg_ref05_Valid_0 (fuel : Nat) (f75 : YF75) (x0 x1 x2 : Int) (x3 : (List Int)) (c : (Int × Int × Int × (List Int)) → Option Ans) (B : (Bool → Option Ans) × (Unit → Option Ans)) : Option Ans := match B with
 | (ret, b) =>
  bif decide (x0 < (↑x3.length : Int)) then
  bif decide ((0 : Int) ≤ x0 ∧ x0 < (↑x3.length : Int)) then
  bif decide (x3.getD x0.toNat (0 : Int) > (1 : Int)) then
  ret false
  else
  c (IntKind.i64.wrap (x0 + (1 : Int)), x1, x2, x3)
  else none
  else
  b ()
noncomputable def S_ref05_Valid_0 (fuel : Nat) (v : Int × Int × Int × (List Int)) (c : (Int × Int × Int × (List Int)) → Option Ans) (B : (Bool → Option Ans) × (Unit → Option Ans)) : Option Ans := match v with
 | (x0, x1, x2, x3) => Sg_ref05_Valid_0 fuel (F_ref05_Sides fuel) x0 x1 x2 x3 c B
noncomputable def L_ref05_Valid_0 (fuel : Nat) (v : Int × Int × Int × (List Int)) (ret : (Bool → Option Ans)) (b : (Unit → Option Ans)) : Option Ans := iter (S_ref05_Valid_0 fuel) fuel v (ret, b)
noncomputable def J73_0 (fuel : Nat) (i : Nat) : Option Ev.Blk := Ev.look i []
noncomputable def T73_0 (v : Int × Int × Int × (List Int)) : Ev.St := match v with | (x0, x1, x2, x3) => ⟨[(1, .c (.ptr 0 0)), (3, .c (.int .i64 x0))], [(0, .cells 35 [.int .i64 x1, .int .i64 x2, .sl (.int .u8) x3])], 1, 0⟩
noncomputable def E73_0 (K : Ev.Ex → Ev.St → Option Ans) : (Bool → Option Ans) × (Unit → Option Ans) := ((fun v => match v with | x0 => K .ret ⟨[(2, .c (.bool x0))], [], 0, 0⟩), (fun v => match v with | () => K .normal ⟨[], [], 0, 0⟩))
theorem S73_0_okg (fuel : Nat) (f75 : YF75) (R : Ev.St → Option Ans) (K : Ev.Ex → Ev.St → Option Ans) (x0 x1 x2 : Int) (x3 : (List Int)) : evalCode tab (Gg73 f75) (J73_0 fuel) kp73 fuel (bodyOf 0 Try.f73) (T73_0 (x0, x1, x2, x3)) (lc kp73 4 0 R K) = Sg_ref05_Valid_0 fuel f75 x0 x1 x2 x3 (fun v => R (T73_0 v)) (E73_0 K) := by
  kernel_rfl
noncomputable def B73_0 (fuel : Nat) : Ev.Blk := fun st K => match canonO (kp73 4) st with
 | some s => (match s with
 | ⟨[(q0, .c (.ptr q1 q2)), (q3, .c (.int .i64 x0))], [(q4, .cells q5 [.int .i64 x1, .int .i64 x2, .sl (.int .u8) x3])], q6, q7⟩ => bif Nat.beq q0 1 && Nat.beq q1 0 && Nat.beq q2 0 && Nat.beq q3 3 && Nat.beq q4 0 && Nat.beq q5 35 && Nat.beq q6 1 && Nat.beq q7 0 then iter (S_ref05_Valid_0 fuel) fuel (x0, x1, x2, x3) (E73_0 K) else none
 | _ => none)
 | none => none
theorem B73_0_ok (fuel : Nat) (st : Ev.St) (K : Ev.Ex → Ev.St → Option Ans) (r : Ans) (h : B73_0 fuel st K = some r) : evalCode tab (G73 fuel) (J73_0 fuel) kp73 fuel (.block 0 (.loop (bodyOf 0 Try.f73))) st K = some r := by
  unfold B73_0 at h
  split at h
  · rename_i s hs
    split at h
    · skip
      obtain ⟨hb, h⟩ := cond_some' h
      simp only [Bool.and_eq_true, Nat.beq_eq, decide_eq_true_eq] at hb
      obtain ⟨⟨⟨⟨⟨⟨⟨rfl, rfl⟩, rfl⟩, rfl⟩, rfl⟩, rfl⟩, rfl⟩, rfl⟩ := hb
      exact blk_loop (S := T73_0) (ks := E73_0) (step := S_ref05_Valid_0 fuel) (v := (_, _, _, _)) (by kernel_rfl) (by kernel_rfl) (fun R K v => by obtain ⟨x0, x1, x2, x3⟩ := v; exact S73_0_okg fuel (F_ref05_Sides fuel) R K x0 x1 x2 x3) hs h
    · cases h
  · cases h
noncomputable def J73 (fuel : Nat) (i : Nat) : Option Ev.Blk := Ev.look i [(100000, B73_0 fuel)]
noncomputable def Fg_ref05_Valid (fuel : Nat) (f75 : YF75) (x0 x1 : Int) (x2 : (List Int)) (k0 : (Bool) → Option Ans) : Option Ans :=
  (f75 (x0) (x1)
  (fun y2 =>
  bif !y2 then
  k0 false
  else
  bif (↑x2.length : Int) != IntKind.i64.wrap (x0 * x1) then
  k0 false
  else
  (L_ref05_Valid_0 fuel ((0 : Int), x0, x1, x2)
  (fun ret0_0 =>
  k0 ret0_0)
  (fun () =>
  k0 true))))
noncomputable def F_ref05_Valid (fuel : Nat) (x0 x1 : Int) (x2 : (List Int)) (k0 : (Bool) → Option Ans) : Option Ans := Fg_ref05_Valid fuel (F_ref05_Sides fuel) x0 x1 x2 k0
abbrev YF73 : Type := (Int) → (Int) → ((List Int)) → ((Bool) → Option Ans) → Option Ans
theorem F73_eqg (fuel : Nat) (f75 : YF75) (x0 x1 : Int) (x2 : (List Int)) (k : Ev.Cont) : evalFn tab (Gg73 f75) (J73 fuel) kp73 fuel Try.f73 [.agg [.int .i64 x0, .int .i64 x1, .sl (.int .u8) x2]] [] k = Fg_ref05_Valid fuel f75 x0 x1 x2 (fun r => match r with | r0 => k (.c (.bool r0), [])) := by
  kernel_rfl
theorem hG73 (fuel : Nat) : GOK Try.prog (G73 fuel) :=
  gok_cons ⟨ok75 fuel, enters_of Try.func75 (by kernel_rfl) rfl⟩ <|
  gok_nil
theorem B73_0_blk (fuel : Nat) : BlkOK Try.prog Try.f73.ntmps (.block 0 (.loop (bodyOf 0 Try.f73))) (B73_0 fuel) :=
  blk_of (blk_of_code tab_ok (hG73 fuel) mixed (J := J73_0 fuel) (kp := kp73) (fuel := fuel) (by kernel_rfl) (fun q hq => by
    rw [(by kernel_rfl : obl (J73_0 fuel) (.block 0 (.loop (bodyOf 0 Try.f73))) = [])] at hq
    cases hq)) (B73_0_ok fuel)
theorem fok73 (fuel : Nat) : FnOK Try.prog 73 (evalFn tab (G73 fuel) (J73 fuel) kp73 fuel Try.f73) :=
  fn_ok tab_ok (hG73 fuel) mixed Try.func73 (c := (Try.f73.body).getD .skip) rfl (fun q hq => by
    rw [(by kernel_rfl : obl (J73 fuel) ((Try.f73.body).getD .skip) = [(.block 0 (.loop (bodyOf 0 Try.f73)), B73_0 fuel)])] at hq
    simp only [List.mem_cons, List.not_mem_nil, or_false] at hq
    subst hq
    · exact B73_0_blk fuel)
noncomputable def spg73 (F : YF73) : Ev.Spec := fun args objs k => match args, objs with
 | [.agg [.int .i64 x0, .int .i64 x1, .sl (.int .u8) x2]], [] => bif true then F x0 x1 x2 (fun r => match r with | r0 => k (.c (.bool r0), [])) else none
 | _, _ => none
noncomputable def spec73 (fuel : Nat) : Ev.Spec := spg73 (F_ref05_Valid fuel)
theorem ok73 (fuel : Nat) : FnOK Try.prog 73 (spec73 fuel) := by
  intro args objs kk r h
  unfold spec73 spg73 at h
  split at h
  · skip
    obtain ⟨hb, h⟩ := cond_some' h
    simp only [Bool.and_eq_true, Nat.beq_eq, decide_eq_true_eq] at hb
    clear hb
    exact fok73 fuel _ _ kk r ((F73_eqg fuel (F_ref05_Sides fuel) _ _ _ kk).trans h)
  · cases h
end Go.Proofs.Ytipdidpalcmlhaa

set_option linter.unusedVariables false
set_option linter.unusedSimpArgs false
set_option maxRecDepth 100000
set_option maxHeartbeats 2000000
namespace Go.Proofs.Ytipdidpalcmlhaa
open Go Ev
def kp28 (i : Nat) : Option (List Nat) := Ev.look i []
noncomputable def Gg28 (f : Nat) : Option Ev.Spec := Ev.look f []
noncomputable def G28 (fuel : Nat) : Nat → Option Ev.Spec := Gg28
noncomputable def J28 (fuel : Nat) (i : Nat) : Option Ev.Blk := Ev.look i []
noncomputable def F_ref07_Valid (fuel : Nat) (x0 x1 x2 : Int) (x3 : Bool) (x4 : Int) (k0 : (Bool) → Option Ans) : Option Ans :=
  bif decide (x0 < (0 : Int)) then
  k0 false
  else
  bif decide (x0 > (3 : Int)) then
  k0 false
  else
  bif decide (x4 < (0 : Int)) then
  k0 false
  else
  bif decide (x4 > (1 : Int)) then
  k0 false
  else
  bif decide (x1 < (-8 : Int)) then
  k0 false
  else
  bif decide (x1 > (8 : Int)) then
  k0 false
  else
  bif decide (x2 < (-8 : Int)) then
  k0 false
  else
  bif decide (x2 > (0 : Int)) then
  k0 false
  else
  bif decide (x2 < (0 : Int)) then
  k0 true
  else
  k0 (decide (x1 < (0 : Int)))
abbrev YF28 : Type := (Int) → (Int) → (Int) → (Bool) → (Int) → ((Bool) → Option Ans) → Option Ans
theorem F28_eq (fuel : Nat) (x0 x1 x2 : Int) (x3 : Bool) (x4 : Int) (k : Ev.Cont) : evalFn tab (G28 fuel) (J28 fuel) kp28 fuel Try.f28 [.agg [.int .i64 x0, .int .i64 x1, .int .i64 x2, .bool x3, .int .i64 x4]] [] k = F_ref07_Valid fuel x0 x1 x2 x3 x4 (fun r => match r with | r0 => k (.c (.bool r0), [])) := by
  kernel_rfl
theorem hG28 (fuel : Nat) : GOK Try.prog (G28 fuel) :=
  gok_nil
theorem fok28 (fuel : Nat) : FnOK Try.prog 28 (evalFn tab (G28 fuel) (J28 fuel) kp28 fuel Try.f28) :=
  fn_ok tab_ok (hG28 fuel) mixed Try.func28 (c := (Try.f28.body).getD .skip) rfl (fun q hq => by
    rw [(by kernel_rfl : obl (J28 fuel) ((Try.f28.body).getD .skip) = [])] at hq
    cases hq)
noncomputable def spg28 (F : YF28) : Ev.Spec := fun args objs k => match args, objs with
 | [.agg [.int .i64 x0, .int .i64 x1, .int .i64 x2, .bool x3, .int .i64 x4]], [] => bif true then F x0 x1 x2 x3 x4 (fun r => match r with | r0 => k (.c (.bool r0), [])) else none
 | _, _ => none
noncomputable def spec28 (fuel : Nat) : Ev.Spec := spg28 (F_ref07_Valid fuel)
theorem ok28 (fuel : Nat) : FnOK Try.prog 28 (spec28 fuel) := by
  intro args objs kk r h
  unfold spec28 spg28 at h
  split at h
  · skip
    obtain ⟨hb, h⟩ := cond_some' h
    simp only [Bool.and_eq_true, Nat.beq_eq, decide_eq_true_eq] at hb
    clear hb
    exact fok28 fuel _ _ kk r ((F28_eq fuel _ _ _ _ _ kk).trans h)
  · cases h
end Go.Proofs.Ytipdidpalcmlhaa

set_option linter.unusedVariables false
set_option linter.unusedSimpArgs false
set_option maxRecDepth 100000
set_option maxHeartbeats 2000000
namespace Go.Proofs.Ytipdidpalcmlhaa
open Go Ev
def kp166 (i : Nat) : Option (List Nat) := Ev.look i []
noncomputable def Gg166 (f : Nat) : Option Ev.Spec := Ev.look f []
noncomputable def G166 (fuel : Nat) : Nat → Option Ev.Spec := Gg166
noncomputable def J166 (fuel : Nat) (i : Nat) : Option Ev.Blk := Ev.look i []
noncomputable def F_ref07_template (fuel : Nat) (x0 : Int) (k0 : ((List (Int × Int))) → Option Ans) : Option Ans :=
  bif x0 == (0 : Int) then
  k0 ([((-1 : Int), (-2 : Int)), ((0 : Int), (-2 : Int)), ((1 : Int), (-2 : Int)), ((-2 : Int), (-1 : Int)), ((-1 : Int), (-1 : Int)), ((0 : Int), (-1 : Int)), ((1 : Int), (-1 : Int)), ((2 : Int), (-1 : Int)), ((-2 : Int), (0 : Int)), ((-1 : Int), (0 : Int))])
  else
  bif x0 == (1 : Int) then
  k0 ([((-1 : Int), (-2 : Int)), ((0 : Int), (-2 : Int)), ((-1 : Int), (-1 : Int)), ((0 : Int), (-1 : Int)), ((1 : Int), (-1 : Int)), ((-2 : Int), (0 : Int)), ((-1 : Int), (0 : Int))])
  else
  bif x0 == (2 : Int) then
  k0 ([((-2 : Int), (-1 : Int)), ((-1 : Int), (-1 : Int)), ((0 : Int), (-1 : Int)), ((1 : Int), (-1 : Int)), ((2 : Int), (-1 : Int)), ((-2 : Int), (0 : Int)), ((-1 : Int), (0 : Int))])
  else
  k0 ([((-1 : Int), (-1 : Int)), ((0 : Int), (-1 : Int)), ((1 : Int), (-1 : Int)), ((-1 : Int), (0 : Int))])
abbrev YF166 : Type := (Int) → (((List (Int × Int))) → Option Ans) → Option Ans
theorem F166_eq (fuel : Nat) (x0 : Int) (k : Ev.Cont) : evalFn tab (G166 fuel) (J166 fuel) kp166 fuel Try.f166 [.c (.int .i64 x0)] [] k = F_ref07_template fuel x0 (fun r => match r with | r0 => k (.c (.own 0), [.vec 222 (.pair (.int .i64) (.int .i64)) r0 true])) := by
  kernel_rfl
theorem hG166 (fuel : Nat) : GOK Try.prog (G166 fuel) :=
  gok_nil
theorem fok166 (fuel : Nat) : FnOK Try.prog 166 (evalFn tab (G166 fuel) (J166 fuel) kp166 fuel Try.f166) :=
  fn_ok tab_ok (hG166 fuel) mixed Try.func166 (c := (Try.f166.body).getD .skip) rfl (fun q hq => by
    rw [(by kernel_rfl : obl (J166 fuel) ((Try.f166.body).getD .skip) = [])] at hq
    cases hq)
noncomputable def spg166 (F : YF166) : Ev.Spec := fun args objs k => match args, objs with
 | [.c (.int .i64 x0)], [] => bif true then F x0 (fun r => match r with | r0 => k (.c (.own 0), [.vec 222 (.pair (.int .i64) (.int .i64)) r0 true])) else none
 | _, _ => none
noncomputable def spec166 (fuel : Nat) : Ev.Spec := spg166 (F_ref07_template fuel)
theorem ok166 (fuel : Nat) : FnOK Try.prog 166 (spec166 fuel) := by
  intro args objs kk r h
  unfold spec166 spg166 at h
  split at h
  · skip
    obtain ⟨hb, h⟩ := cond_some' h
    simp only [Bool.and_eq_true, Nat.beq_eq, decide_eq_true_eq] at hb
    clear hb
    exact fok166 fuel _ _ kk r ((F166_eq fuel _ kk).trans h)
  · cases h
end Go.Proofs.Ytipdidpalcmlhaa

set_option linter.unusedVariables false
set_option linter.unusedSimpArgs false
set_option maxRecDepth 100000
set_option maxHeartbeats 2000000
namespace Go.Proofs.Ytipdidpalcmlhaa
open Go Ev
def kp126 (i : Nat) : Option (List Nat) := Ev.look i [(200001, [1])]
noncomputable def Gg126 (f166 : YF166) (f : Nat) : Option Ev.Spec := Ev.look f [(166, spg166 f166)]
noncomputable def G126 (fuel : Nat) : Nat → Option Ev.Spec := Gg126 (F_ref07_template fuel)
noncomputable def J126 (fuel : Nat) (i : Nat) : Option Ev.Blk := Ev.look i []
noncomputable def Fg_ref07_pixels (fuel : Nat) (f166 : YF166) (x0 x1 x2 : Int) (x3 : Bool) (x4 : Int) (k0 : ((List (Int × Int))) → Option Ans) : Option Ans :=
  both ((f166 (x0)
  (fun y4 =>
  bif decide ((y4.length + [(x1, x2)].length) * (16 : Nat) ≤ (140737488355328 : Nat) ∧ y4.length + [(x1, x2)].length ≤ (140737488355328 : Nat)) then
  k0 (y4 ++ [(x1, x2)])
  else none)))
  (both ((f166 (x0)
  (fun y6 =>
  bif decide ((y6.length + [(x1, x2)].length) * (16 : Nat) ≤ (140737488355328 : Nat) ∧ y6.length + [(x1, x2)].length ≤ (140737488355328 : Nat)) then
  k0 (y6 ++ [(x1, x2)])
  else none)))
  ((f166 (x0)
  (fun y6 =>
  bif decide ((y6.length + [(x1, x2)].length) * (16 : Nat) ≤ (140737488355328 : Nat) ∧ y6.length + [(x1, x2)].length ≤ (140737488355328 : Nat)) then
  k0 (y6 ++ [(x1, x2)])
  else none))))
noncomputable def F_ref07_pixels (fuel : Nat) (x0 x1 x2 : Int) (x3 : Bool) (x4 : Int) (k0 : ((List (Int × Int))) → Option Ans) : Option Ans := Fg_ref07_pixels fuel (F_ref07_template fuel) x0 x1 x2 x3 x4 k0
abbrev YF126 : Type := (Int) → (Int) → (Int) → (Bool) → (Int) → (((List (Int × Int))) → Option Ans) → Option Ans
theorem F126_eqg (fuel : Nat) (f166 : YF166) (x0 x1 x2 : Int) (x3 : Bool) (x4 : Int) (k : Ev.Cont) : evalFn tab (Gg126 f166) (J126 fuel) kp126 fuel Try.f126 [.agg [.int .i64 x0, .int .i64 x1, .int .i64 x2, .bool x3, .int .i64 x4]] [] k = Fg_ref07_pixels fuel f166 x0 x1 x2 x3 x4 (fun r => match r with | r0 => k (.c (.own 0), [.vec 222 (.pair (.int .i64) (.int .i64)) r0 true])) := by
  kernel_rfl
theorem hG126 (fuel : Nat) : GOK Try.prog (G126 fuel) :=
  gok_cons ⟨ok166 fuel, enters_of Try.func166 (by kernel_rfl) rfl⟩ <|
  gok_nil
theorem fok126 (fuel : Nat) : FnOK Try.prog 126 (evalFn tab (G126 fuel) (J126 fuel) kp126 fuel Try.f126) :=
  fn_ok tab_ok (hG126 fuel) mixed Try.func126 (c := (Try.f126.body).getD .skip) rfl (fun q hq => by
    rw [(by kernel_rfl : obl (J126 fuel) ((Try.f126.body).getD .skip) = [])] at hq
    cases hq)
noncomputable def spg126 (F : YF126) : Ev.Spec := fun args objs k => match args, objs with
 | [.agg [.int .i64 x0, .int .i64 x1, .int .i64 x2, .bool x3, .int .i64 x4]], [] => bif true then F x0 x1 x2 x3 x4 (fun r => match r with | r0 => k (.c (.own 0), [.vec 222 (.pair (.int .i64) (.int .i64)) r0 true])) else none
 | _, _ => none
noncomputable def spec126 (fuel : Nat) : Ev.Spec := spg126 (F_ref07_pixels fuel)
theorem ok126 (fuel : Nat) : FnOK Try.prog 126 (spec126 fuel) := by
  intro args objs kk r h
  unfold spec126 spg126 at h
  split at h
  · skip
    obtain ⟨hb, h⟩ := cond_some' h
    simp only [Bool.and_eq_true, Nat.beq_eq, decide_eq_true_eq] at hb
    clear hb
    exact fok126 fuel _ _ kk r ((F126_eqg fuel (F_ref07_template fuel) _ _ _ _ _ kk).trans h)
  · cases h
end Go.Proofs.Ytipdidpalcmlhaa

set_option linter.unusedVariables false
set_option linter.unusedSimpArgs false
set_option maxRecDepth 100000
set_option maxHeartbeats 2000000
namespace Go.Proofs.Ytipdidpalcmlhaa
open Go Ev
def kp81 (i : Nat) : Option (List Nat) := Ev.look i []
noncomputable def Gg81 (f28 : YF28) (f126 : YF126) (f : Nat) : Option Ev.Spec := Ev.look f [(28, spg28 f28), (126, spg126 f126)]
noncomputable def G81 (fuel : Nat) : Nat → Option Ev.Spec := Gg81 (F_ref07_Valid fuel) (F_ref07_pixels fuel)
noncomputable def J81 (fuel : Nat) (i : Nat) : Option Ev.Blk := Ev.look i []
noncomputable def Fg_ref07_Size (fuel : Nat) (f28 : YF28) (f126 : YF126) (x0 x1 x2 : Int) (x3 : Bool) (x4 : Int) (k0 : (Int × Int) → Option Ans) : Option Ans :=
  (f28 (x0) (x1) (x2) (x3) (x4)
  (fun y2 =>
  bif !y2 then
  k0 ((0 : Int), (2 : Int))
  else
  (f126 (x0) (x1) (x2) (x3) (x4)
  (fun y7 =>
  k0 (IntKind.i64.wrap (Ev.ishl IntKind.i64 (1 : Int) (↑y7.length : Int) + (1 : Int)), (0 : Int))))))
noncomputable def F_ref07_Size (fuel : Nat) (x0 x1 x2 : Int) (x3 : Bool) (x4 : Int) (k0 : (Int × Int) → Option Ans) : Option Ans := Fg_ref07_Size fuel (F_ref07_Valid fuel) (F_ref07_pixels fuel) x0 x1 x2 x3 x4 k0
abbrev YF81 : Type := (Int) → (Int) → (Int) → (Bool) → (Int) → ((Int × Int) → Option Ans) → Option Ans
theorem F81_eqg (fuel : Nat) (f28 : YF28) (f126 : YF126) (x0 x1 x2 : Int) (x3 : Bool) (x4 : Int) (k : Ev.Cont) : evalFn tab (Gg81 f28 f126) (J81 fuel) kp81 fuel Try.f81 [.agg [.int .i64 x0, .int .i64 x1, .int .i64 x2, .bool x3, .int .i64 x4]] [] k = Fg_ref07_Size fuel f28 f126 x0 x1 x2 x3 x4 (fun r => match r with | (r0, r1) => k (.tup [(false, [.int .i64 r0]), (false, [.int .i64 r1])], [])) := by
  kernel_rfl
theorem hG81 (fuel : Nat) : GOK Try.prog (G81 fuel) :=
  gok_cons ⟨ok28 fuel, enters_of Try.func28 (by kernel_rfl) rfl⟩ <|
  gok_cons ⟨ok126 fuel, enters_of Try.func126 (by kernel_rfl) rfl⟩ <|
  gok_nil
theorem fok81 (fuel : Nat) : FnOK Try.prog 81 (evalFn tab (G81 fuel) (J81 fuel) kp81 fuel Try.f81) :=
  fn_ok tab_ok (hG81 fuel) mixed Try.func81 (c := (Try.f81.body).getD .skip) rfl (fun q hq => by
    rw [(by kernel_rfl : obl (J81 fuel) ((Try.f81.body).getD .skip) = [])] at hq
    cases hq)
noncomputable def spg81 (F : YF81) : Ev.Spec := fun args objs k => match args, objs with
 | [.agg [.int .i64 x0, .int .i64 x1, .int .i64 x2, .bool x3, .int .i64 x4]], [] => bif true then F x0 x1 x2 x3 x4 (fun r => match r with | (r0, r1) => k (.tup [(false, [.int .i64 r0]), (false, [.int .i64 r1])], [])) else none
 | _, _ => none
noncomputable def spec81 (fuel : Nat) : Ev.Spec := spg81 (F_ref07_Size fuel)
theorem ok81 (fuel : Nat) : FnOK Try.prog 81 (spec81 fuel) := by
  intro args objs kk r h
  unfold spec81 spg81 at h
  split at h
  · skip
    obtain ⟨hb, h⟩ := cond_some' h
    simp only [Bool.and_eq_true, Nat.beq_eq, decide_eq_true_eq] at hb
    clear hb
    exact fok81 fuel _ _ kk r ((F81_eqg fuel (F_ref07_Valid fuel) (F_ref07_pixels fuel) _ _ _ _ _ kk).trans h)
  · cases h
end Go.Proofs.Ytipdidpalcmlhaa

set_option linter.unusedVariables false
set_option linter.unusedSimpArgs false
set_option maxRecDepth 100000
set_option maxHeartbeats 2000000
namespace Go.Proofs.Ytipdidpalcmlhaa
open Go Ev
def kp134 (i : Nat) : Option (List Nat) := Ev.look i [(4, [2, 3, 5, 9, 10, 11]), (100000, [10]), (200006, [5, 9]), (400000, [8])]
noncomputable def Gg134 (f80 : YF80) (f126 : YF126) (f : Nat) : Option Ev.Spec := Ev.look f [(80, spg80 f80), (126, spg126 f126)]
noncomputable def G134 (fuel : Nat) : Nat → Option Ev.Spec := Gg134 (F_ref05_At fuel) (F_ref07_pixels fuel)
noncomputable def Sg_ref07_context_0 (fuel : Nat) (f80 : YF80) (f126 : YF126) (x0 x1 : Int) (x2 x3 : Int) (x4 x5 : Int) (x6 : (List Int)) (x7 : (List (Int × Int))) (c : (Int × Int × Int × Int × Int × Int × (List Int) × (List (Int × Int))) → Option Ans) (B : (Int → Option Ans)) : Option Ans := match B with
 | b =>
  bif decide (x3 < (↑x7.length : Int)) then
  bif decide ((0 : Int) ≤ x3 ∧ x3 < (↑x7.length : Int)) then
  bif decide ((0 : Int) ≤ x3 ∧ x3 < (↑x7.length : Int)) then
  both ((f80 (x4) (x5) (x6) (IntKind.i64.wrap (x0 + (x7.getD x3.toNat ((0 : Int), (0 : Int))).fst)) (IntKind.i64.wrap (x1 + (x7.getD x3.toNat ((0 : Int), (0 : Int))).snd))
  (fun y7 =>
  c (x0, x1, IntKind.i64.wrap (IntKind.i64.wrap ((2 : Int) * x2) + y7), IntKind.i64.wrap (x3 + (1 : Int)), x4, x5, x6, x7))))
  ((f80 (x4) (x5) (x6) (IntKind.i64.wrap (x0 + (x7.getD x3.toNat ((0 : Int), (0 : Int))).fst)) (IntKind.i64.wrap (x1 + (x7.getD x3.toNat ((0 : Int), (0 : Int))).snd))
  (fun y7 =>
  c (x0, x1, IntKind.i64.wrap (IntKind.i64.wrap ((2 : Int) * x2) + y7), IntKind.i64.wrap (x3 + (1 : Int)), x4, x5, x6, x7))))
  else none
  else none
  else
  b x2
noncomputable def S_ref07_context_0 (fuel : Nat) (v : Int × Int × Int × Int × Int × Int × (List Int) × (List (Int × Int))) (c : (Int × Int × Int × Int × Int × Int × (List Int) × (List (Int × Int))) → Option Ans) (B : (Int → Option Ans)) : Option Ans := match v with
 | (x0, x1, x2, x3, x4, x5, x6, x7) => Sg_ref07_context_0 fuel (F_ref05_At fuel) (F_ref07_pixels fuel) x0 x1 x2 x3 x4 x5 x6 x7 c B
noncomputable def L_ref07_context_0 (fuel : Nat) (v : Int × Int × Int × Int × Int × Int × (List Int) × (List (Int × Int))) (b : (Int → Option Ans)) : Option Ans := iter (S_ref07_context_0 fuel) fuel v b
noncomputable def J134_0 (fuel : Nat) (i : Nat) : Option Ev.Blk := Ev.look i []
noncomputable def T134_0 (v : Int × Int × Int × Int × Int × Int × (List Int) × (List (Int × Int))) : Ev.St := match v with | (x0, x1, x2, x3, x4, x5, x6, x7) => ⟨[(2, .c (.int .i64 x0)), (3, .c (.int .i64 x1)), (5, .c (.ptr 0 0)), (9, .c (.own 1)), (10, .c (.int .i64 x2)), (11, .c (.int .i64 x3))], [(0, .cells 35 [.int .i64 x4, .int .i64 x5, .sl (.int .u8) x6]), (1, .vec 222 (.pair (.int .i64) (.int .i64)) x7 true)], 2, 0⟩
noncomputable def E134_0 (K : Ev.Ex → Ev.St → Option Ans) : (Int → Option Ans) := (fun v => match v with | x0 => K .normal ⟨[(10, .c (.int .i64 x0))], [], 0, 0⟩)
theorem S134_0_okg (fuel : Nat) (f80 : YF80) (f126 : YF126) (R : Ev.St → Option Ans) (K : Ev.Ex → Ev.St → Option Ans) (x0 x1 : Int) (x2 x3 : Int) (x4 x5 : Int) (x6 : (List Int)) (x7 : (List (Int × Int))) : evalCode tab (Gg134 f80 f126) (J134_0 fuel) kp134 fuel (bodyOf 0 Try.f134) (T134_0 (x0, x1, x2, x3, x4, x5, x6, x7)) (lc kp134 4 0 R K) = Sg_ref07_context_0 fuel f80 f126 x0 x1 x2 x3 x4 x5 x6 x7 (fun v => R (T134_0 v)) (E134_0 K) := by
  kernel_rfl
noncomputable def B134_0 (fuel : Nat) : Ev.Blk := fun st K => match canonO (kp134 4) st with
 | some s => (match s with
 | ⟨[(q0, .c (.int .i64 x0)), (q1, .c (.int .i64 x1)), (q2, .c (.ptr q3 q4)), (q5, .c (.own q6)), (q7, .c (.int .i64 x2)), (q8, .c (.int .i64 x3))], [(q9, .cells q10 [.int .i64 x4, .int .i64 x5, .sl (.int .u8) x6]), (q11, .vec q12 (.pair (.int .i64) (.int .i64)) x7 true)], q13, q14⟩ => bif Nat.beq q0 2 && Nat.beq q1 3 && Nat.beq q2 5 && Nat.beq q3 0 && Nat.beq q4 0 && Nat.beq q5 9 && Nat.beq q6 1 && Nat.beq q7 10 && Nat.beq q8 11 && Nat.beq q9 0 && Nat.beq q10 35 && Nat.beq q11 1 && Nat.beq q12 222 && Nat.beq q13 2 && Nat.beq q14 0 then iter (S_ref07_context_0 fuel) fuel (x0, x1, x2, x3, x4, x5, x6, x7) (E134_0 K) else none
 | _ => none)
 | none => none
theorem B134_0_ok (fuel : Nat) (st : Ev.St) (K : Ev.Ex → Ev.St → Option Ans) (r : Ans) (h : B134_0 fuel st K = some r) : evalCode tab (G134 fuel) (J134_0 fuel) kp134 fuel (.block 0 (.loop (bodyOf 0 Try.f134))) st K = some r := by
  unfold B134_0 at h
  split at h
  · rename_i s hs
    split at h
    · skip
      obtain ⟨hb, h⟩ := cond_some' h
      simp only [Bool.and_eq_true, Nat.beq_eq, decide_eq_true_eq] at hb
      obtain ⟨⟨⟨⟨⟨⟨⟨⟨⟨⟨⟨⟨⟨⟨rfl, rfl⟩, rfl⟩, rfl⟩, rfl⟩, rfl⟩, rfl⟩, rfl⟩, rfl⟩, rfl⟩, rfl⟩, rfl⟩, rfl⟩, rfl⟩, rfl⟩ := hb
      exact blk_loop (S := T134_0) (ks := E134_0) (step := S_ref07_context_0 fuel) (v := (_, _, _, _, _, _, _, _)) (by kernel_rfl) (by kernel_rfl) (fun R K v => by obtain ⟨x0, x1, x2, x3, x4, x5, x6, x7⟩ := v; exact S134_0_okg fuel (F_ref05_At fuel) (F_ref07_pixels fuel) R K x0 x1 x2 x3 x4 x5 x6 x7) hs h
    · cases h
  · cases h
noncomputable def J134 (fuel : Nat) (i : Nat) : Option Ev.Blk := Ev.look i [(100000, B134_0 fuel)]
noncomputable def Fg_ref07_context (fuel : Nat) (f80 : YF80) (f126 : YF126) (x0 x1 x2 : Int) (x3 : Bool) (x4 x5 x6 : Int) (x7 : (List Int)) (x8 x9 : Int) (k0 : (Int) → Option Ans) : Option Ans :=
  (f126 (x0) (x1) (x2) (x3) (x4)
  (fun y2 =>
  (L_ref07_context_0 fuel (x8, x9, (0 : Int), (0 : Int), x5, x6, x7, y2)
  (fun b0_0 =>
  k0 b0_0))))
noncomputable def F_ref07_context (fuel : Nat) (x0 x1 x2 : Int) (x3 : Bool) (x4 x5 x6 : Int) (x7 : (List Int)) (x8 x9 : Int) (k0 : (Int) → Option Ans) : Option Ans := Fg_ref07_context fuel (F_ref05_At fuel) (F_ref07_pixels fuel) x0 x1 x2 x3 x4 x5 x6 x7 x8 x9 k0
abbrev YF134 : Type := (Int) → (Int) → (Int) → (Bool) → (Int) → (Int) → (Int) → ((List Int)) → (Int) → (Int) → ((Int) → Option Ans) → Option Ans
theorem F134_eqg (fuel : Nat) (f80 : YF80) (f126 : YF126) (x0 x1 x2 : Int) (x3 : Bool) (x4 x5 x6 : Int) (x7 : (List Int)) (x8 x9 : Int) (k : Ev.Cont) : evalFn tab (Gg134 f80 f126) (J134 fuel) kp134 fuel Try.f134 [.agg [.int .i64 x0, .int .i64 x1, .int .i64 x2, .bool x3, .int .i64 x4], .agg [.int .i64 x5, .int .i64 x6, .sl (.int .u8) x7], .c (.int .i64 x8), .c (.int .i64 x9)] [] k = Fg_ref07_context fuel f80 f126 x0 x1 x2 x3 x4 x5 x6 x7 x8 x9 (fun r => match r with | r0 => k (.c (.int .i64 r0), [])) := by
  kernel_rfl
theorem hG134 (fuel : Nat) : GOK Try.prog (G134 fuel) :=
  gok_cons ⟨ok80 fuel, enters_of Try.func80 (by kernel_rfl) rfl⟩ <|
  gok_cons ⟨ok126 fuel, enters_of Try.func126 (by kernel_rfl) rfl⟩ <|
  gok_nil
theorem B134_0_blk (fuel : Nat) : BlkOK Try.prog Try.f134.ntmps (.block 0 (.loop (bodyOf 0 Try.f134))) (B134_0 fuel) :=
  blk_of (blk_of_code tab_ok (hG134 fuel) mixed (J := J134_0 fuel) (kp := kp134) (fuel := fuel) (by kernel_rfl) (fun q hq => by
    rw [(by kernel_rfl : obl (J134_0 fuel) (.block 0 (.loop (bodyOf 0 Try.f134))) = [])] at hq
    cases hq)) (B134_0_ok fuel)
theorem fok134 (fuel : Nat) : FnOK Try.prog 134 (evalFn tab (G134 fuel) (J134 fuel) kp134 fuel Try.f134) :=
  fn_ok tab_ok (hG134 fuel) mixed Try.func134 (c := (Try.f134.body).getD .skip) rfl (fun q hq => by
    rw [(by kernel_rfl : obl (J134 fuel) ((Try.f134.body).getD .skip) = [(.block 0 (.loop (bodyOf 0 Try.f134)), B134_0 fuel)])] at hq
    simp only [List.mem_cons, List.not_mem_nil, or_false] at hq
    subst hq
    · exact B134_0_blk fuel)
noncomputable def spg134 (F : YF134) : Ev.Spec := fun args objs k => match args, objs with
 | [.agg [.int .i64 x0, .int .i64 x1, .int .i64 x2, .bool x3, .int .i64 x4], .agg [.int .i64 x5, .int .i64 x6, .sl (.int .u8) x7], .c (.int .i64 x8), .c (.int .i64 x9)], [] => bif true then F x0 x1 x2 x3 x4 x5 x6 x7 x8 x9 (fun r => match r with | r0 => k (.c (.int .i64 r0), [])) else none
 | _, _ => none
noncomputable def spec134 (fuel : Nat) : Ev.Spec := spg134 (F_ref07_context fuel)
theorem ok134 (fuel : Nat) : FnOK Try.prog 134 (spec134 fuel) := by
  intro args objs kk r h
  unfold spec134 spg134 at h
  split at h
  · skip
    obtain ⟨hb, h⟩ := cond_some' h
    simp only [Bool.and_eq_true, Nat.beq_eq, decide_eq_true_eq] at hb
    clear hb
    exact fok134 fuel _ _ kk r ((F134_eqg fuel (F_ref05_At fuel) (F_ref07_pixels fuel) _ _ _ _ _ _ _ _ _ _ kk).trans h)
  · cases h
end Go.Proofs.Ytipdidpalcmlhaa

