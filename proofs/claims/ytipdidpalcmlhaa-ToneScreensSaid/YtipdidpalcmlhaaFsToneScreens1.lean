/- What the functions that ToneScreens reaches do: their typed texts, each with the proof that the machine does it. No condition. -/
import Derived.Test.YtipdidpalcmlhaaEvX
set_option linter.unusedVariables false
set_option linter.unusedSimpArgs false
set_option linter.unusedVariables false
set_option linter.unusedSimpArgs false
set_option maxRecDepth 100000
set_option maxHeartbeats 2000000
namespace Go.Proofs.Ytipdidpalcmlhaa
open Go Ev
def kp63_e21 (i : Nat) : Option (List Nat) := Ev.look i []
noncomputable def Gg63_e21 (f : Nat) : Option Ev.Spec := Ev.look f []
noncomputable def G63_e21 (fuel : Nat) : Nat → Option Ev.Spec := Gg63_e21
noncomputable def J63_e21 (fuel : Nat) (i : Nat) : Option Ev.Blk := Ev.look i []
noncomputable def F_tone_Planes_1_e21 (fuel : Nat) (x0 : Int) (x1 : Int) (k0 : (Bool × Int) → Option Ans) : Option Ans :=
  bif Decidable.decide (x0 < (0 : Int)) then
   k0 (Bool.true, x1)
  else
   bif Decidable.decide (x1 < (0 : Int)) then
    none
   else
    k0 (Decidable.decide (x0 ≥ Ev.ishl Go.IntKind.i64 (1 : Int) x1), x1)
abbrev YF63_e21 : Type := (Int) → (Int) → ((Bool × Int) → Option Ans) → Option Ans
theorem F63_e21_eq (fuel : Nat) (x0 : Int) (x1 : Int) (k : Ev.Cont) : evalFn tab (G63_e21 fuel) (J63_e21 fuel) kp63_e21 fuel Try.f63 [.c (.int .i64 x0), .c (.ptr 0 0)] [.cells 3 [.int .i64 x1]] k = F_tone_Planes_1_e21 fuel x0 x1 (fun r => match r with | (r0, r1) => k (.c (.bool r0), [.cells 3 [.int .i64 r1]])) := by
  kernel_rfl
theorem hG63_e21 (fuel : Nat) : GOK Try.prog (G63_e21 fuel) :=
  gok_nil
theorem fok63_e21 (fuel : Nat) : FnOK Try.prog 63 (evalFn tab (G63_e21 fuel) (J63_e21 fuel) kp63_e21 fuel Try.f63) :=
  fn_ok tab_ok (hG63_e21 fuel) mixed Try.func63 (c := (Try.f63.body).getD .skip) rfl (fun q hq => by
    rw [(by kernel_rfl : obl (J63_e21 fuel) ((Try.f63.body).getD .skip) = [])] at hq
    cases hq)
noncomputable def mt63_e21 : List Ev.SV → List Ev.Ob → Bool := fun args objs => match args, objs with
  | [.c (.int .i64 _), .c (.ptr q0 q1)], [.cells q2 [.int .i64 _]] => Nat.beq q0 0 && Nat.beq q1 0 && Nat.beq q2 3
  | _, _ => false
noncomputable def spg63_e21 (F : YF63_e21) : Ev.Spec := fun args objs k => match args, objs with
  | [.c (.int .i64 x0), .c (.ptr q0 q1)], [.cells q2 [.int .i64 x1]] => bif Nat.beq q0 0 && Nat.beq q1 0 && Nat.beq q2 3 then F x0 x1 (fun r => match r with | (r0, r1) => k (.c (.bool r0), [.cells 3 [.int .i64 r1]])) else none
  | _, _ => none
noncomputable def spec63_e21 (fuel : Nat) : Ev.Spec := spg63_e21 (F_tone_Planes_1_e21 fuel)
theorem ok63_e21 (fuel : Nat) : FnOK Try.prog 63 (spec63_e21 fuel) := by
  intro args objs kk r h
  unfold spec63_e21 spg63_e21 at h
  split at h
  · skip
    obtain ⟨hb, h⟩ := cond_some' h
    simp only [Bool.and_eq_true, Nat.beq_eq, decide_eq_true_eq] at hb
    obtain ⟨⟨rfl, rfl⟩, rfl⟩ := hb
    exact fok63_e21 fuel _ _ kk r ((F63_e21_eq fuel _ _ kk).trans h)
  · cases h
end Go.Proofs.Ytipdidpalcmlhaa

set_option linter.unusedVariables false
set_option linter.unusedSimpArgs false
set_option maxRecDepth 100000
set_option maxHeartbeats 2000000
namespace Go.Proofs.Ytipdidpalcmlhaa
open Go Ev
def kp117_69c (i : Nat) : Option (List Nat) := Ev.look i [(2, [0, 1, 7, 8]), (100000, []), (400000, [4])]
noncomputable def Gg117_69c (f63_e21 : YF63_e21) (f : Nat) : Option Ev.Spec := Ev.look f [(63, spg63_e21 f63_e21)]
noncomputable def G117_69c (fuel : Nat) : Nat → Option Ev.Spec := Gg117_69c (F_tone_Planes_1_e21 fuel)
noncomputable def S_slices_IndexFunc_int_int_69c_0 (fuel : Nat) (v : (List Int) × Int × Int × Int) (c : ((List Int) × Int × Int × Int) → Option Ans) (B : (Int × Int → Option Ans) × (Int → Option Ans)) : Option Ans := match v, B with
  | (x0, x1, x2, x3), (ret, b) =>
   bif Decidable.decide (x2 < x1) then
      bif Decidable.decide ((0 : Int) ≤ x2 ∧ x2 < (↑x0.length : Int)) then
      (F_tone_Planes_1_e21 fuel (x0.getD x2.toNat (0 : Int)) (x3)
         (fun (y4_0, y4_1) =>
           bif y4_0 then
            ret (x2, y4_1)
           else
            c (x0, x1, Go.IntKind.i64.wrap (x2 + (1 : Int)), y4_1)))
      else none
     else
      b x3
noncomputable def L_slices_IndexFunc_int_int_69c_0 (fuel : Nat) (v : (List Int) × Int × Int × Int) (ret : (Int × Int → Option Ans)) (b : (Int → Option Ans)) : Option Ans := iter (S_slices_IndexFunc_int_int_69c_0 fuel) fuel v (ret, b)
noncomputable def J117_69c_0 (fuel : Nat) (i : Nat) : Option Ev.Blk := Ev.look i []
noncomputable def T117_69c_0 (v : (List Int) × Int × Int × Int) : Ev.St := match v with | (x0, x1, x2, x3) => ⟨[(0, .c (.sl (.int .i64) x0)), (1, .c (.clo 63 [0])), (7, .c (.int .i64 x1)), (8, .c (.int .i64 x2))], [(0, .cells 3 [.int .i64 x3])], 1, 1⟩
noncomputable def E117_69c_0 (K : Ev.Ex → Ev.St → Option Ans) : (Int × Int → Option Ans) × (Int → Option Ans) := ((fun v => match v with | (x0, x1) => K .ret ⟨[(4, .c (.int .i64 x0))], [(0, .cells 3 [.int .i64 x1])], 1, 1⟩), (fun v => match v with | x0 => K .normal ⟨[], [(0, .cells 3 [.int .i64 x0])], 1, 1⟩))
theorem S117_69c_0_okg (fuel : Nat) (f63_e21 : YF63_e21) (R : Ev.St → Option Ans) (K : Ev.Ex → Ev.St → Option Ans) (x0 : (List Int)) (x1 : Int) (x2 : Int) (x3 : Int) : evalCode tab (Gg117_69c f63_e21) (J117_69c_0 fuel) kp117_69c fuel (bodyOf 0 Try.f117) (T117_69c_0 (x0, x1, x2, x3)) (lc kp117_69c 2 0 R K) = (fun (c : ((List Int) × Int × Int × Int) → Option Ans) (B : (Int × Int → Option Ans) × (Int → Option Ans)) => match B with
  | (ret, b) =>
   bif Decidable.decide (x2 < x1) then
      bif Decidable.decide ((0 : Int) ≤ x2 ∧ x2 < (↑x0.length : Int)) then
      (f63_e21 (x0.getD x2.toNat (0 : Int)) (x3)
         (fun (y4_0, y4_1) =>
           bif y4_0 then
            ret (x2, y4_1)
           else
            c (x0, x1, Go.IntKind.i64.wrap (x2 + (1 : Int)), y4_1)))
      else none
     else
      b x3) (fun v => R (T117_69c_0 v)) (E117_69c_0 K) := by
  kernel_rfl
theorem S117_69c_0_ok (fuel : Nat) (R : Ev.St → Option Ans) (K : Ev.Ex → Ev.St → Option Ans) (x0 : (List Int)) (x1 : Int) (x2 : Int) (x3 : Int) : evalCode tab (G117_69c fuel) (J117_69c_0 fuel) kp117_69c fuel (bodyOf 0 Try.f117) (T117_69c_0 (x0, x1, x2, x3)) (lc kp117_69c 2 0 R K) = S_slices_IndexFunc_int_int_69c_0 fuel (x0, x1, x2, x3) (fun v => R (T117_69c_0 v)) (E117_69c_0 K) :=
  S117_69c_0_okg fuel (F_tone_Planes_1_e21 fuel) R K x0 x1 x2 x3
noncomputable def B117_69c_0 (fuel : Nat) : Ev.Blk := fun st K => match canonO (kp117_69c 2) st with
  | some s => (match s with
    | ⟨[(q0, .c (.sl (.int .i64) x0)), (q1, .c (.clo q2 [q3])), (q4, .c (.int .i64 x1)), (q5, .c (.int .i64 x2))], [(q6, .cells q7 [.int .i64 x3])], q8, q9⟩ => bif Nat.beq q0 0 && Nat.beq q1 1 && Nat.beq q2 63 && Nat.beq q3 0 && Nat.beq q4 7 && Nat.beq q5 8 && Nat.beq q6 0 && Nat.beq q7 3 && Nat.beq q8 1 && Nat.beq q9 1 then iter (S_slices_IndexFunc_int_int_69c_0 fuel) fuel (x0, x1, x2, x3) (E117_69c_0 K) else none
    | _ => none)
  | none => none
theorem B117_69c_0_ok (fuel : Nat) (st : Ev.St) (K : Ev.Ex → Ev.St → Option Ans) (r : Ans) (h : B117_69c_0 fuel st K = some r) : evalCode tab (G117_69c fuel) (J117_69c_0 fuel) kp117_69c fuel (.block 0 (.loop (bodyOf 0 Try.f117))) st K = some r := by
  unfold B117_69c_0 at h
  split at h
  · rename_i s hs
    split at h
    · skip
      obtain ⟨hb, h⟩ := cond_some' h
      simp only [Bool.and_eq_true, Nat.beq_eq, decide_eq_true_eq] at hb
      obtain ⟨⟨⟨⟨⟨⟨⟨⟨⟨rfl, rfl⟩, rfl⟩, rfl⟩, rfl⟩, rfl⟩, rfl⟩, rfl⟩, rfl⟩, rfl⟩ := hb
      exact blk_loop (S := T117_69c_0) (ks := E117_69c_0) (step := S_slices_IndexFunc_int_int_69c_0 fuel) (v := (_, _, _, _)) (by kernel_rfl) (by kernel_rfl) (fun R K v => by obtain ⟨x0, x1, x2, x3⟩ := v; exact S117_69c_0_ok fuel R K x0 x1 x2 x3) hs h
    · cases h
  · cases h
noncomputable def J117_69c (fuel : Nat) (i : Nat) : Option Ev.Blk := Ev.look i [(100000, B117_69c_0 fuel)]
noncomputable def F_slices_IndexFunc_int_int_69c (fuel : Nat) (x0 : (List Int)) (x1 : Int) (k0 : (Int × Int) → Option Ans) : Option Ans :=
  (L_slices_IndexFunc_int_int_69c_0 fuel (x0, (↑x0.length : Int), (0 : Int), x1)
    (fun (ret0_0, ret0_1) =>
      k0 (ret0_0, ret0_1))
    (fun b0_0 =>
      k0 ((-1 : Int), b0_0)))
abbrev YF117_69c : Type := ((List Int)) → (Int) → ((Int × Int) → Option Ans) → Option Ans
theorem F117_69c_eqg (fuel : Nat) (f63_e21 : YF63_e21) (x0 : (List Int)) (x1 : Int) (k : Ev.Cont) : evalFn tab (Gg117_69c f63_e21) (J117_69c fuel) kp117_69c fuel Try.f117 [.c (.sl (.int .i64) x0), .c (.clo 63 [0])] [.cells 3 [.int .i64 x1]] k = (fun  (k0 : (Int × Int) → Option Ans) =>
  (L_slices_IndexFunc_int_int_69c_0 fuel (x0, (↑x0.length : Int), (0 : Int), x1)
    (fun (ret0_0, ret0_1) =>
      k0 (ret0_0, ret0_1))
    (fun b0_0 =>
      k0 ((-1 : Int), b0_0)))) (fun r => match r with | (r0, r1) => k (.c (.int .i64 r0), [.cells 3 [.int .i64 r1]])) := by
  kernel_rfl
theorem F117_69c_eq (fuel : Nat) (x0 : (List Int)) (x1 : Int) (k : Ev.Cont) : evalFn tab (G117_69c fuel) (J117_69c fuel) kp117_69c fuel Try.f117 [.c (.sl (.int .i64) x0), .c (.clo 63 [0])] [.cells 3 [.int .i64 x1]] k = F_slices_IndexFunc_int_int_69c fuel x0 x1 (fun r => match r with | (r0, r1) => k (.c (.int .i64 r0), [.cells 3 [.int .i64 r1]])) :=
  F117_69c_eqg fuel (F_tone_Planes_1_e21 fuel) x0 x1 k
theorem hG117_69c (fuel : Nat) : GOK Try.prog (G117_69c fuel) :=
  gok_cons ⟨ok63_e21 fuel, enters_of Try.func63 (by kernel_rfl) rfl⟩ <|
  gok_nil
theorem B117_69c_0_blk (fuel : Nat) : BlkOK Try.prog Try.f117.ntmps (.block 0 (.loop (bodyOf 0 Try.f117))) (B117_69c_0 fuel) :=
  blk_of (blk_of_code tab_ok (hG117_69c fuel) mixed (J := J117_69c_0 fuel) (kp := kp117_69c) (fuel := fuel) (by kernel_rfl) (fun q hq => by
    rw [(by kernel_rfl : obl (J117_69c_0 fuel) (.block 0 (.loop (bodyOf 0 Try.f117))) = [])] at hq
    cases hq)) (B117_69c_0_ok fuel)
theorem fok117_69c (fuel : Nat) : FnOK Try.prog 117 (evalFn tab (G117_69c fuel) (J117_69c fuel) kp117_69c fuel Try.f117) :=
  fn_ok tab_ok (hG117_69c fuel) mixed Try.func117 (c := (Try.f117.body).getD .skip) rfl (fun q hq => by
    rw [(by kernel_rfl : obl (J117_69c fuel) ((Try.f117.body).getD .skip) = [(.block 0 (.loop (bodyOf 0 Try.f117)), B117_69c_0 fuel)])] at hq
    simp only [List.mem_cons, List.not_mem_nil, or_false] at hq
    subst hq
    · exact B117_69c_0_blk fuel)
noncomputable def mt117_69c : List Ev.SV → List Ev.Ob → Bool := fun args objs => match args, objs with
  | [.c (.sl (.int .i64) _), .c (.clo q0 [q1])], [.cells q2 [.int .i64 _]] => Nat.beq q0 63 && Nat.beq q1 0 && Nat.beq q2 3
  | _, _ => false
noncomputable def spg117_69c (F : YF117_69c) : Ev.Spec := fun args objs k => match args, objs with
  | [.c (.sl (.int .i64) x0), .c (.clo q0 [q1])], [.cells q2 [.int .i64 x1]] => bif Nat.beq q0 63 && Nat.beq q1 0 && Nat.beq q2 3 then F x0 x1 (fun r => match r with | (r0, r1) => k (.c (.int .i64 r0), [.cells 3 [.int .i64 r1]])) else none
  | _, _ => none
noncomputable def spec117_69c (fuel : Nat) : Ev.Spec := spg117_69c (F_slices_IndexFunc_int_int_69c fuel)
theorem ok117_69c (fuel : Nat) : FnOK Try.prog 117 (spec117_69c fuel) := by
  intro args objs kk r h
  unfold spec117_69c spg117_69c at h
  split at h
  · skip
    obtain ⟨hb, h⟩ := cond_some' h
    simp only [Bool.and_eq_true, Nat.beq_eq, decide_eq_true_eq] at hb
    obtain ⟨⟨rfl, rfl⟩, rfl⟩ := hb
    exact fok117_69c fuel _ _ kk r ((F117_69c_eq fuel _ _ kk).trans h)
  · cases h
end Go.Proofs.Ytipdidpalcmlhaa

set_option linter.unusedVariables false
set_option linter.unusedSimpArgs false
set_option maxRecDepth 100000
set_option maxHeartbeats 2000000
namespace Go.Proofs.Ytipdidpalcmlhaa
open Go Ev
def kp62_69c (i : Nat) : Option (List Nat) := Ev.look i []
noncomputable def Gg62_69c (f117_69c : YF117_69c) (f : Nat) : Option Ev.Spec := Ev.look f [(117, spg117_69c f117_69c)]
noncomputable def G62_69c (fuel : Nat) : Nat → Option Ev.Spec := Gg62_69c (F_slices_IndexFunc_int_int_69c fuel)
noncomputable def J62_69c (fuel : Nat) (i : Nat) : Option Ev.Blk := Ev.look i []
noncomputable def F_slices_ContainsFunc_int_int_69c (fuel : Nat) (x0 : (List Int)) (x1 : Int) (k0 : (Bool × Int) → Option Ans) : Option Ans :=
  (F_slices_IndexFunc_int_int_69c fuel (x0) (x1)
    (fun (y2_0, y2_1) =>
      k0 (Decidable.decide (y2_0 ≥ (0 : Int)), y2_1)))
abbrev YF62_69c : Type := ((List Int)) → (Int) → ((Bool × Int) → Option Ans) → Option Ans
theorem F62_69c_eqg (fuel : Nat) (f117_69c : YF117_69c) (x0 : (List Int)) (x1 : Int) (k : Ev.Cont) : evalFn tab (Gg62_69c f117_69c) (J62_69c fuel) kp62_69c fuel Try.f62 [.c (.sl (.int .i64) x0), .c (.clo 63 [0])] [.cells 3 [.int .i64 x1]] k = (fun  (k0 : (Bool × Int) → Option Ans) =>
  (f117_69c (x0) (x1)
    (fun (y2_0, y2_1) =>
      k0 (Decidable.decide (y2_0 ≥ (0 : Int)), y2_1)))) (fun r => match r with | (r0, r1) => k (.c (.bool r0), [.cells 3 [.int .i64 r1]])) := by
  kernel_rfl
theorem F62_69c_eq (fuel : Nat) (x0 : (List Int)) (x1 : Int) (k : Ev.Cont) : evalFn tab (G62_69c fuel) (J62_69c fuel) kp62_69c fuel Try.f62 [.c (.sl (.int .i64) x0), .c (.clo 63 [0])] [.cells 3 [.int .i64 x1]] k = F_slices_ContainsFunc_int_int_69c fuel x0 x1 (fun r => match r with | (r0, r1) => k (.c (.bool r0), [.cells 3 [.int .i64 r1]])) :=
  F62_69c_eqg fuel (F_slices_IndexFunc_int_int_69c fuel) x0 x1 k
theorem hG62_69c (fuel : Nat) : GOK Try.prog (G62_69c fuel) :=
  gok_cons ⟨ok117_69c fuel, enters_of Try.func117 (by kernel_rfl) rfl⟩ <|
  gok_nil
theorem fok62_69c (fuel : Nat) : FnOK Try.prog 62 (evalFn tab (G62_69c fuel) (J62_69c fuel) kp62_69c fuel Try.f62) :=
  fn_ok tab_ok (hG62_69c fuel) mixed Try.func62 (c := (Try.f62.body).getD .skip) rfl (fun q hq => by
    rw [(by kernel_rfl : obl (J62_69c fuel) ((Try.f62.body).getD .skip) = [])] at hq
    cases hq)
noncomputable def mt62_69c : List Ev.SV → List Ev.Ob → Bool := fun args objs => match args, objs with
  | [.c (.sl (.int .i64) _), .c (.clo q0 [q1])], [.cells q2 [.int .i64 _]] => Nat.beq q0 63 && Nat.beq q1 0 && Nat.beq q2 3
  | _, _ => false
noncomputable def spg62_69c (F : YF62_69c) : Ev.Spec := fun args objs k => match args, objs with
  | [.c (.sl (.int .i64) x0), .c (.clo q0 [q1])], [.cells q2 [.int .i64 x1]] => bif Nat.beq q0 63 && Nat.beq q1 0 && Nat.beq q2 3 then F x0 x1 (fun r => match r with | (r0, r1) => k (.c (.bool r0), [.cells 3 [.int .i64 r1]])) else none
  | _, _ => none
noncomputable def spec62_69c (fuel : Nat) : Ev.Spec := spg62_69c (F_slices_ContainsFunc_int_int_69c fuel)
theorem ok62_69c (fuel : Nat) : FnOK Try.prog 62 (spec62_69c fuel) := by
  intro args objs kk r h
  unfold spec62_69c spg62_69c at h
  split at h
  · skip
    obtain ⟨hb, h⟩ := cond_some' h
    simp only [Bool.and_eq_true, Nat.beq_eq, decide_eq_true_eq] at hb
    obtain ⟨⟨rfl, rfl⟩, rfl⟩ := hb
    exact fok62_69c fuel _ _ kk r ((F62_69c_eq fuel _ _ kk).trans h)
  · cases h
end Go.Proofs.Ytipdidpalcmlhaa

set_option linter.unusedVariables false
set_option linter.unusedSimpArgs false
set_option maxRecDepth 100000
set_option maxHeartbeats 2000000
namespace Go.Proofs.Ytipdidpalcmlhaa
open Go Ev
def kp22 (i : Nat) : Option (List Nat) := Ev.look i [(5, [0, 6, 7]), (9, [0, 6, 7, 8, 28, 29, 30]), (100000, [6]), (100002, [0, 6, 7, 8]), (400000, [4, 5]), (400002, [4, 5])]
noncomputable def Gg22 (f62_69c : YF62_69c) (f : Nat) : Option Ev.Spec := Ev.look f [(62, spg62_69c f62_69c)]
noncomputable def G22 (fuel : Nat) : Nat → Option Ev.Spec := Gg22 (F_slices_ContainsFunc_int_int_69c fuel)
noncomputable def S_tone_Planes_2 (fuel : Nat) (v : (List Int) × Int × (List Int) × Int × Int × (List (List Int)) × (List Int)) (c : ((List Int) × Int × (List Int) × Int × Int × (List (List Int)) × (List Int)) → Option Ans) (B : ((List Int) × Int × (List (List Int)) × (List Int) → Option Ans)) : Option Ans := match v, B with
  | (x0, x1, x2, x3, x4, x5, x6), b =>
   bif Decidable.decide (x4 < x3) then
      bif Decidable.decide ((0 : Int) ≤ x4 ∧ x4 < (↑x2.length : Int)) then
      bif Decidable.decide (x1 < (0 : Int)) then
        none
       else
        bif Decidable.decide (Go.IntKind.i64.wrap (x1 + (1 : Int)) < (0 : Int)) then
         none
        else
         bif Decidable.decide ((x6.length + [Go.IntKind.u8.wrap (Ev.iand Go.IntKind.i64 (Ev.ixor Go.IntKind.i64 (Ev.ishr Go.IntKind.i64 (x2.getD x4.toNat (0 : Int)) x1) (Ev.ishr Go.IntKind.i64 (x2.getD x4.toNat (0 : Int)) (Go.IntKind.i64.wrap (x1 + (1 : Int))))) (1 : Int))].length) * (1 : Nat) ≤ (140737488355328 : Nat) ∧ x6.length + [Go.IntKind.u8.wrap (Ev.iand Go.IntKind.i64 (Ev.ixor Go.IntKind.i64 (Ev.ishr Go.IntKind.i64 (x2.getD x4.toNat (0 : Int)) x1) (Ev.ishr Go.IntKind.i64 (x2.getD x4.toNat (0 : Int)) (Go.IntKind.i64.wrap (x1 + (1 : Int))))) (1 : Int))].length ≤ (140737488355328 : Nat)) then
         c (x0, x1, x2, x3, Go.IntKind.i64.wrap (x4 + (1 : Int)), x5, x6 ++ [Go.IntKind.u8.wrap (Ev.iand Go.IntKind.i64 (Ev.ixor Go.IntKind.i64 (Ev.ishr Go.IntKind.i64 (x2.getD x4.toNat (0 : Int)) x1) (Ev.ishr Go.IntKind.i64 (x2.getD x4.toNat (0 : Int)) (Go.IntKind.i64.wrap (x1 + (1 : Int))))) (1 : Int))])
         else none
      else none
     else
      b (x0, x1, x5, x6)
noncomputable def L_tone_Planes_2 (fuel : Nat) (v : (List Int) × Int × (List Int) × Int × Int × (List (List Int)) × (List Int)) (b : ((List Int) × Int × (List (List Int)) × (List Int) → Option Ans)) : Option Ans := iter (S_tone_Planes_2 fuel) fuel v b
noncomputable def J22_2 (fuel : Nat) (i : Nat) : Option Ev.Blk := Ev.look i []
noncomputable def T22_2 (v : (List Int) × Int × (List Int) × Int × Int × (List (List Int)) × (List Int)) : Ev.St := match v with | (x0, x1, x2, x3, x4, x5, x6) => ⟨[(0, .c (.sl (.int .i64) x0)), (6, .c (.own 0)), (7, .c (.int .i64 x1)), (8, .c (.own 1)), (28, .c (.sl (.int .i64) x2)), (29, .c (.int .i64 x3)), (30, .c (.int .i64 x4))], [(0, .vec 28 (.sl (.int .u8)) x5 true), (1, .vec 5 (.int .u8) x6 true)], 2, 0⟩
noncomputable def E22_2 (K : Ev.Ex → Ev.St → Option Ans) : ((List Int) × Int × (List (List Int)) × (List Int) → Option Ans) := (fun v => match v with | (x0, x1, x2, x3) => K .normal ⟨[(0, .c (.sl (.int .i64) x0)), (6, .c (.own 0)), (7, .c (.int .i64 x1)), (8, .c (.own 1))], [(0, .vec 28 (.sl (.int .u8)) x2 true), (1, .vec 5 (.int .u8) x3 true)], 2, 0⟩)
theorem S22_2_okg (fuel : Nat) (f62_69c : YF62_69c) (R : Ev.St → Option Ans) (K : Ev.Ex → Ev.St → Option Ans) (x0 : (List Int)) (x1 : Int) (x2 : (List Int)) (x3 : Int) (x4 : Int) (x5 : (List (List Int))) (x6 : (List Int)) : evalCode tab (Gg22 f62_69c) (J22_2 fuel) kp22 fuel (bodyOf 2 Try.f22) (T22_2 (x0, x1, x2, x3, x4, x5, x6)) (lc kp22 9 2 R K) = (fun (c : ((List Int) × Int × (List Int) × Int × Int × (List (List Int)) × (List Int)) → Option Ans) (B : ((List Int) × Int × (List (List Int)) × (List Int) → Option Ans)) => match B with
  | b =>
   bif Decidable.decide (x4 < x3) then
      bif Decidable.decide ((0 : Int) ≤ x4 ∧ x4 < (↑x2.length : Int)) then
      bif Decidable.decide (x1 < (0 : Int)) then
        none
       else
        bif Decidable.decide (Go.IntKind.i64.wrap (x1 + (1 : Int)) < (0 : Int)) then
         none
        else
         bif Decidable.decide ((x6.length + [Go.IntKind.u8.wrap (Ev.iand Go.IntKind.i64 (Ev.ixor Go.IntKind.i64 (Ev.ishr Go.IntKind.i64 (x2.getD x4.toNat (0 : Int)) x1) (Ev.ishr Go.IntKind.i64 (x2.getD x4.toNat (0 : Int)) (Go.IntKind.i64.wrap (x1 + (1 : Int))))) (1 : Int))].length) * (1 : Nat) ≤ (140737488355328 : Nat) ∧ x6.length + [Go.IntKind.u8.wrap (Ev.iand Go.IntKind.i64 (Ev.ixor Go.IntKind.i64 (Ev.ishr Go.IntKind.i64 (x2.getD x4.toNat (0 : Int)) x1) (Ev.ishr Go.IntKind.i64 (x2.getD x4.toNat (0 : Int)) (Go.IntKind.i64.wrap (x1 + (1 : Int))))) (1 : Int))].length ≤ (140737488355328 : Nat)) then
         c (x0, x1, x2, x3, Go.IntKind.i64.wrap (x4 + (1 : Int)), x5, x6 ++ [Go.IntKind.u8.wrap (Ev.iand Go.IntKind.i64 (Ev.ixor Go.IntKind.i64 (Ev.ishr Go.IntKind.i64 (x2.getD x4.toNat (0 : Int)) x1) (Ev.ishr Go.IntKind.i64 (x2.getD x4.toNat (0 : Int)) (Go.IntKind.i64.wrap (x1 + (1 : Int))))) (1 : Int))])
         else none
      else none
     else
      b (x0, x1, x5, x6)) (fun v => R (T22_2 v)) (E22_2 K) := by
  kernel_rfl
theorem S22_2_ok (fuel : Nat) (R : Ev.St → Option Ans) (K : Ev.Ex → Ev.St → Option Ans) (x0 : (List Int)) (x1 : Int) (x2 : (List Int)) (x3 : Int) (x4 : Int) (x5 : (List (List Int))) (x6 : (List Int)) : evalCode tab (G22 fuel) (J22_2 fuel) kp22 fuel (bodyOf 2 Try.f22) (T22_2 (x0, x1, x2, x3, x4, x5, x6)) (lc kp22 9 2 R K) = S_tone_Planes_2 fuel (x0, x1, x2, x3, x4, x5, x6) (fun v => R (T22_2 v)) (E22_2 K) :=
  S22_2_okg fuel (F_slices_ContainsFunc_int_int_69c fuel) R K x0 x1 x2 x3 x4 x5 x6
noncomputable def B22_2 (fuel : Nat) : Ev.Blk := fun st K => match canonO (kp22 9) st with
  | some s => (match s with
    | ⟨[(q0, .c (.sl (.int .i64) x0)), (q1, .c (.own q2)), (q3, .c (.int .i64 x1)), (q4, .c (.own q5)), (q6, .c (.sl (.int .i64) x2)), (q7, .c (.int .i64 x3)), (q8, .c (.int .i64 x4))], [(q9, .vec q10 (.sl (.int .u8)) x5 true), (q11, .vec q12 (.int .u8) x6 true)], q13, q14⟩ => bif Nat.beq q0 0 && Nat.beq q1 6 && Nat.beq q2 0 && Nat.beq q3 7 && Nat.beq q4 8 && Nat.beq q5 1 && Nat.beq q6 28 && Nat.beq q7 29 && Nat.beq q8 30 && Nat.beq q9 0 && Nat.beq q10 28 && Nat.beq q11 1 && Nat.beq q12 5 && Nat.beq q13 2 && Nat.beq q14 0 then iter (S_tone_Planes_2 fuel) fuel (x0, x1, x2, x3, x4, x5, x6) (E22_2 K) else none
    | _ => none)
  | none => none
theorem B22_2_ok (fuel : Nat) (st : Ev.St) (K : Ev.Ex → Ev.St → Option Ans) (r : Ans) (h : B22_2 fuel st K = some r) : evalCode tab (G22 fuel) (J22_2 fuel) kp22 fuel (.block 2 (.loop (bodyOf 2 Try.f22))) st K = some r := by
  unfold B22_2 at h
  split at h
  · rename_i s hs
    split at h
    · skip
      obtain ⟨hb, h⟩ := cond_some' h
      simp only [Bool.and_eq_true, Nat.beq_eq, decide_eq_true_eq] at hb
      obtain ⟨⟨⟨⟨⟨⟨⟨⟨⟨⟨⟨⟨⟨⟨rfl, rfl⟩, rfl⟩, rfl⟩, rfl⟩, rfl⟩, rfl⟩, rfl⟩, rfl⟩, rfl⟩, rfl⟩, rfl⟩, rfl⟩, rfl⟩, rfl⟩ := hb
      exact blk_loop (S := T22_2) (ks := E22_2) (step := S_tone_Planes_2 fuel) (v := (_, _, _, _, _, _, _)) (by kernel_rfl) (by kernel_rfl) (fun R K v => by obtain ⟨x0, x1, x2, x3, x4, x5, x6⟩ := v; exact S22_2_ok fuel R K x0 x1 x2 x3 x4 x5 x6) hs h
    · cases h
  · cases h
noncomputable def S_tone_Planes_0 (fuel : Nat) (v : (List Int) × Int × (List (List Int))) (c : ((List Int) × Int × (List (List Int))) → Option Ans) (B : ((List (List Int)) → Option Ans)) : Option Ans := match v, B with
  | (x0, x1, x2), b =>
   bif Decidable.decide (x1 ≥ (0 : Int)) then
      (L_tone_Planes_2 fuel (x0, x1, x0, (↑x0.length : Int), (0 : Int), x2, [])
        (fun (b2_0, b2_1, b2_2, b2_3) =>
          bif Decidable.decide ((b2_2.length + [b2_3].length) * (24 : Nat) ≤ (140737488355328 : Nat) ∧ b2_2.length + [b2_3].length ≤ (140737488355328 : Nat)) then
          c (b2_0, Go.IntKind.i64.wrap (b2_1 - (1 : Int)), b2_2 ++ [b2_3])
          else none))
     else
      b x2
noncomputable def L_tone_Planes_0 (fuel : Nat) (v : (List Int) × Int × (List (List Int))) (b : ((List (List Int)) → Option Ans)) : Option Ans := iter (S_tone_Planes_0 fuel) fuel v b
noncomputable def J22_0 (fuel : Nat) (i : Nat) : Option Ev.Blk := Ev.look i [(100002, B22_2 fuel)]
noncomputable def T22_0 (v : (List Int) × Int × (List (List Int))) : Ev.St := match v with | (x0, x1, x2) => ⟨[(0, .c (.sl (.int .i64) x0)), (6, .c (.own 0)), (7, .c (.int .i64 x1))], [(0, .vec 28 (.sl (.int .u8)) x2 true)], 1, 0⟩
noncomputable def E22_0 (K : Ev.Ex → Ev.St → Option Ans) : ((List (List Int)) → Option Ans) := (fun v => match v with | x0 => K .normal ⟨[(6, .c (.own 0))], [(0, .vec 28 (.sl (.int .u8)) x0 true)], 1, 0⟩)
theorem S22_0_okg (fuel : Nat) (f62_69c : YF62_69c) (R : Ev.St → Option Ans) (K : Ev.Ex → Ev.St → Option Ans) (x0 : (List Int)) (x1 : Int) (x2 : (List (List Int))) : evalCode tab (Gg22 f62_69c) (J22_0 fuel) kp22 fuel (bodyOf 0 Try.f22) (T22_0 (x0, x1, x2)) (lc kp22 5 0 R K) = (fun (c : ((List Int) × Int × (List (List Int))) → Option Ans) (B : ((List (List Int)) → Option Ans)) => match B with
  | b =>
   bif Decidable.decide (x1 ≥ (0 : Int)) then
      (L_tone_Planes_2 fuel (x0, x1, x0, (↑x0.length : Int), (0 : Int), x2, [])
        (fun (b2_0, b2_1, b2_2, b2_3) =>
          bif Decidable.decide ((b2_2.length + [b2_3].length) * (24 : Nat) ≤ (140737488355328 : Nat) ∧ b2_2.length + [b2_3].length ≤ (140737488355328 : Nat)) then
          c (b2_0, Go.IntKind.i64.wrap (b2_1 - (1 : Int)), b2_2 ++ [b2_3])
          else none))
     else
      b x2) (fun v => R (T22_0 v)) (E22_0 K) := by
  kernel_rfl
theorem S22_0_ok (fuel : Nat) (R : Ev.St → Option Ans) (K : Ev.Ex → Ev.St → Option Ans) (x0 : (List Int)) (x1 : Int) (x2 : (List (List Int))) : evalCode tab (G22 fuel) (J22_0 fuel) kp22 fuel (bodyOf 0 Try.f22) (T22_0 (x0, x1, x2)) (lc kp22 5 0 R K) = S_tone_Planes_0 fuel (x0, x1, x2) (fun v => R (T22_0 v)) (E22_0 K) :=
  S22_0_okg fuel (F_slices_ContainsFunc_int_int_69c fuel) R K x0 x1 x2
noncomputable def B22_0 (fuel : Nat) : Ev.Blk := fun st K => match canonO (kp22 5) st with
  | some s => (match s with
    | ⟨[(q0, .c (.sl (.int .i64) x0)), (q1, .c (.own q2)), (q3, .c (.int .i64 x1))], [(q4, .vec q5 (.sl (.int .u8)) x2 true)], q6, q7⟩ => bif Nat.beq q0 0 && Nat.beq q1 6 && Nat.beq q2 0 && Nat.beq q3 7 && Nat.beq q4 0 && Nat.beq q5 28 && Nat.beq q6 1 && Nat.beq q7 0 then iter (S_tone_Planes_0 fuel) fuel (x0, x1, x2) (E22_0 K) else none
    | _ => none)
  | none => none
theorem B22_0_ok (fuel : Nat) (st : Ev.St) (K : Ev.Ex → Ev.St → Option Ans) (r : Ans) (h : B22_0 fuel st K = some r) : evalCode tab (G22 fuel) (J22_0 fuel) kp22 fuel (.block 0 (.loop (bodyOf 0 Try.f22))) st K = some r := by
  unfold B22_0 at h
  split at h
  · rename_i s hs
    split at h
    · skip
      obtain ⟨hb, h⟩ := cond_some' h
      simp only [Bool.and_eq_true, Nat.beq_eq, decide_eq_true_eq] at hb
      obtain ⟨⟨⟨⟨⟨⟨⟨rfl, rfl⟩, rfl⟩, rfl⟩, rfl⟩, rfl⟩, rfl⟩, rfl⟩ := hb
      exact blk_loop (S := T22_0) (ks := E22_0) (step := S_tone_Planes_0 fuel) (v := (_, _, _)) (by kernel_rfl) (by kernel_rfl) (fun R K v => by obtain ⟨x0, x1, x2⟩ := v; exact S22_0_ok fuel R K x0 x1 x2) hs h
    · cases h
  · cases h
noncomputable def J22 (fuel : Nat) (i : Nat) : Option Ev.Blk := Ev.look i [(100002, B22_2 fuel), (100000, B22_0 fuel)]
noncomputable def F_tone_Planes (fuel : Nat) (x0 : (List Int)) (x1 : Int) (k0 : (Int × (List (List Int))) → Option Ans) : Option Ans :=
  bif Decidable.decide (x1 < (0 : Int)) then
   k0 ((2 : Int), [])
  else
   bif Decidable.decide (x1 > (8 : Int)) then
    k0 ((2 : Int), [])
   else
    (F_slices_ContainsFunc_int_int_69c fuel (x0) (x1)
      (fun (y4_0, y4_1) =>
        bif y4_0 then
         k0 ((2 : Int), [])
        else
         (L_tone_Planes_0 fuel (x0, Go.IntKind.i64.wrap (y4_1 - (1 : Int)), [])
           (fun b0_0 =>
             k0 ((0 : Int), b0_0)))))
abbrev YF22 : Type := ((List Int)) → (Int) → ((Int × (List (List Int))) → Option Ans) → Option Ans
theorem F22_eqg (fuel : Nat) (f62_69c : YF62_69c) (x0 : (List Int)) (x1 : Int) (k : Ev.Cont) : evalFn tab (Gg22 f62_69c) (J22 fuel) kp22 fuel Try.f22 [.c (.sl (.int .i64) x0), .c (.int .i64 x1)] [] k = (fun  (k0 : (Int × (List (List Int))) → Option Ans) =>
  bif Decidable.decide (x1 < (0 : Int)) then
   k0 ((2 : Int), [])
  else
   bif Decidable.decide (x1 > (8 : Int)) then
    k0 ((2 : Int), [])
   else
    (f62_69c (x0) (x1)
      (fun (y4_0, y4_1) =>
        bif y4_0 then
         k0 ((2 : Int), [])
        else
         (L_tone_Planes_0 fuel (x0, Go.IntKind.i64.wrap (y4_1 - (1 : Int)), [])
           (fun b0_0 =>
             k0 ((0 : Int), b0_0)))))) (fun r => match r with | (r0, r1) => k (.tup [(false, [.own 0]), (false, [.int .i64 r0])], [.vec 28 (.sl (.int .u8)) r1 true])) := by
  kernel_rfl
theorem F22_eq (fuel : Nat) (x0 : (List Int)) (x1 : Int) (k : Ev.Cont) : evalFn tab (G22 fuel) (J22 fuel) kp22 fuel Try.f22 [.c (.sl (.int .i64) x0), .c (.int .i64 x1)] [] k = F_tone_Planes fuel x0 x1 (fun r => match r with | (r0, r1) => k (.tup [(false, [.own 0]), (false, [.int .i64 r0])], [.vec 28 (.sl (.int .u8)) r1 true])) :=
  F22_eqg fuel (F_slices_ContainsFunc_int_int_69c fuel) x0 x1 k
theorem hG22 (fuel : Nat) : GOK Try.prog (G22 fuel) :=
  gok_cons ⟨ok62_69c fuel, enters_of Try.func62 (by kernel_rfl) rfl⟩ <|
  gok_nil
theorem B22_2_blk (fuel : Nat) : BlkOK Try.prog Try.f22.ntmps (.block 2 (.loop (bodyOf 2 Try.f22))) (B22_2 fuel) :=
  blk_of (blk_of_code tab_ok (hG22 fuel) mixed (J := J22_2 fuel) (kp := kp22) (fuel := fuel) (by kernel_rfl) (fun q hq => by
    rw [(by kernel_rfl : obl (J22_2 fuel) (.block 2 (.loop (bodyOf 2 Try.f22))) = [])] at hq
    cases hq)) (B22_2_ok fuel)
theorem B22_0_blk (fuel : Nat) : BlkOK Try.prog Try.f22.ntmps (.block 0 (.loop (bodyOf 0 Try.f22))) (B22_0 fuel) :=
  blk_of (blk_of_code tab_ok (hG22 fuel) mixed (J := J22_0 fuel) (kp := kp22) (fuel := fuel) (by kernel_rfl) (fun q hq => by
    rw [(by kernel_rfl : obl (J22_0 fuel) (.block 0 (.loop (bodyOf 0 Try.f22))) = [(.block 2 (.loop (bodyOf 2 Try.f22)), B22_2 fuel)])] at hq
    simp only [List.mem_cons, List.not_mem_nil, or_false] at hq
    subst hq
    · exact B22_2_blk fuel)) (B22_0_ok fuel)
theorem fok22 (fuel : Nat) : FnOK Try.prog 22 (evalFn tab (G22 fuel) (J22 fuel) kp22 fuel Try.f22) :=
  fn_ok tab_ok (hG22 fuel) mixed Try.func22 (c := (Try.f22.body).getD .skip) rfl (fun q hq => by
    rw [(by kernel_rfl : obl (J22 fuel) ((Try.f22.body).getD .skip) = [(.block 0 (.loop (bodyOf 0 Try.f22)), B22_0 fuel)])] at hq
    simp only [List.mem_cons, List.not_mem_nil, or_false] at hq
    subst hq
    · exact B22_0_blk fuel)
noncomputable def mt22 : List Ev.SV → List Ev.Ob → Bool := fun args objs => match args, objs with
  | [.c (.sl (.int .i64) _), .c (.int .i64 _)], [] => true
  | _, _ => false
noncomputable def spg22 (F : YF22) : Ev.Spec := fun args objs k => match args, objs with
  | [.c (.sl (.int .i64) x0), .c (.int .i64 x1)], [] => bif true then F x0 x1 (fun r => match r with | (r0, r1) => k (.tup [(false, [.own 0]), (false, [.int .i64 r0])], [.vec 28 (.sl (.int .u8)) r1 true])) else none
  | _, _ => none
noncomputable def spec22 (fuel : Nat) : Ev.Spec := spg22 (F_tone_Planes fuel)
theorem ok22 (fuel : Nat) : FnOK Try.prog 22 (spec22 fuel) := by
  intro args objs kk r h
  unfold spec22 spg22 at h
  split at h
  · skip
    obtain ⟨hb, h⟩ := cond_some' h
    simp only [Bool.and_eq_true, Nat.beq_eq, decide_eq_true_eq] at hb
    clear hb
    exact fok22 fuel _ _ kk r ((F22_eq fuel _ _ kk).trans h)
  · cases h
end Go.Proofs.Ytipdidpalcmlhaa

set_option linter.unusedVariables false
set_option linter.unusedSimpArgs false
set_option maxRecDepth 100000
set_option maxHeartbeats 2000000
namespace Go.Proofs.Ytipdidpalcmlhaa
open Go Ev
def kp7 (i : Nat) : Option (List Nat) := Ev.look i []
noncomputable def Gg7 (f22 : YF22) (f : Nat) : Option Ev.Spec := Ev.look f [(22, spg22 f22)]
noncomputable def G7 (fuel : Nat) : Nat → Option Ev.Spec := Gg7 (F_tone_Planes fuel)
noncomputable def J7 (fuel : Nat) (i : Nat) : Option Ev.Blk := Ev.look i []
noncomputable def F_law11_Sane (fuel : Nat)  (k0 : (Bool) → Option Ans) : Option Ans :=
  (F_tone_Planes fuel ([(0 : Int), (1 : Int), (2 : Int), (3 : Int)]) ((2 : Int))
    (fun (y2_0, y2_1) =>
      bif y2_0 == (0 : Int) then
       bif (↑y2_1.length : Int) == (2 : Int) then
        bif Decidable.decide ((0 : Int) ≤ (0 : Int) ∧ (0 : Int) < (↑y2_1.length : Int)) then
        both (both (bif (Go.strOfNums (y2_1.getD (Int.toNat (0 : Int)) [])).toList == (Go.strOfNums [(0 : Int), (0 : Int), (1 : Int), (1 : Int)]).toList then
              bif Decidable.decide ((0 : Int) ≤ (1 : Int) ∧ (1 : Int) < (↑y2_1.length : Int)) then
              both (both (k0 ((Go.strOfNums (y2_1.getD (Int.toNat (1 : Int)) [])).toList == (Go.strOfNums [(0 : Int), (1 : Int), (1 : Int), (0 : Int)]).toList))
                  (both (k0 ((Go.strOfNums (y2_1.getD (Int.toNat (1 : Int)) [])).toList == (Go.strOfNums [(0 : Int), (1 : Int), (1 : Int), (0 : Int)]).toList))
                    (k0 ((Go.strOfNums (y2_1.getD (Int.toNat (1 : Int)) [])).toList == (Go.strOfNums [(0 : Int), (1 : Int), (1 : Int), (0 : Int)]).toList))))
                (both (both (k0 ((Go.strOfNums (y2_1.getD (Int.toNat (1 : Int)) [])).toList == (Go.strOfNums [(0 : Int), (1 : Int), (1 : Int), (0 : Int)]).toList))
                    (k0 ((Go.strOfNums (y2_1.getD (Int.toNat (1 : Int)) [])).toList == (Go.strOfNums [(0 : Int), (1 : Int), (1 : Int), (0 : Int)]).toList)))
                  (k0 ((Go.strOfNums (y2_1.getD (Int.toNat (1 : Int)) [])).toList == (Go.strOfNums [(0 : Int), (1 : Int), (1 : Int), (0 : Int)]).toList)))
              else none
             else
              k0 Bool.false)
            (both (bif (Go.strOfNums (y2_1.getD (Int.toNat (0 : Int)) [])).toList == (Go.strOfNums [(0 : Int), (0 : Int), (1 : Int), (1 : Int)]).toList then
                bif Decidable.decide ((0 : Int) ≤ (1 : Int) ∧ (1 : Int) < (↑y2_1.length : Int)) then
                both (both (k0 ((Go.strOfNums (y2_1.getD (Int.toNat (1 : Int)) [])).toList == (Go.strOfNums [(0 : Int), (1 : Int), (1 : Int), (0 : Int)]).toList))
                    (both (k0 ((Go.strOfNums (y2_1.getD (Int.toNat (1 : Int)) [])).toList == (Go.strOfNums [(0 : Int), (1 : Int), (1 : Int), (0 : Int)]).toList))
                      (k0 ((Go.strOfNums (y2_1.getD (Int.toNat (1 : Int)) [])).toList == (Go.strOfNums [(0 : Int), (1 : Int), (1 : Int), (0 : Int)]).toList))))
                  (both (both (k0 ((Go.strOfNums (y2_1.getD (Int.toNat (1 : Int)) [])).toList == (Go.strOfNums [(0 : Int), (1 : Int), (1 : Int), (0 : Int)]).toList))
                      (k0 ((Go.strOfNums (y2_1.getD (Int.toNat (1 : Int)) [])).toList == (Go.strOfNums [(0 : Int), (1 : Int), (1 : Int), (0 : Int)]).toList)))
                    (k0 ((Go.strOfNums (y2_1.getD (Int.toNat (1 : Int)) [])).toList == (Go.strOfNums [(0 : Int), (1 : Int), (1 : Int), (0 : Int)]).toList)))
                else none
               else
                k0 Bool.false)
              (bif (Go.strOfNums (y2_1.getD (Int.toNat (0 : Int)) [])).toList == (Go.strOfNums [(0 : Int), (0 : Int), (1 : Int), (1 : Int)]).toList then
                bif Decidable.decide ((0 : Int) ≤ (1 : Int) ∧ (1 : Int) < (↑y2_1.length : Int)) then
                both (both (k0 ((Go.strOfNums (y2_1.getD (Int.toNat (1 : Int)) [])).toList == (Go.strOfNums [(0 : Int), (1 : Int), (1 : Int), (0 : Int)]).toList))
                    (both (k0 ((Go.strOfNums (y2_1.getD (Int.toNat (1 : Int)) [])).toList == (Go.strOfNums [(0 : Int), (1 : Int), (1 : Int), (0 : Int)]).toList))
                      (k0 ((Go.strOfNums (y2_1.getD (Int.toNat (1 : Int)) [])).toList == (Go.strOfNums [(0 : Int), (1 : Int), (1 : Int), (0 : Int)]).toList))))
                  (both (both (k0 ((Go.strOfNums (y2_1.getD (Int.toNat (1 : Int)) [])).toList == (Go.strOfNums [(0 : Int), (1 : Int), (1 : Int), (0 : Int)]).toList))
                      (k0 ((Go.strOfNums (y2_1.getD (Int.toNat (1 : Int)) [])).toList == (Go.strOfNums [(0 : Int), (1 : Int), (1 : Int), (0 : Int)]).toList)))
                    (k0 ((Go.strOfNums (y2_1.getD (Int.toNat (1 : Int)) [])).toList == (Go.strOfNums [(0 : Int), (1 : Int), (1 : Int), (0 : Int)]).toList)))
                else none
               else
                k0 Bool.false)))
          (both (both (bif (Go.strOfNums (y2_1.getD (Int.toNat (0 : Int)) [])).toList == (Go.strOfNums [(0 : Int), (0 : Int), (1 : Int), (1 : Int)]).toList then
                bif Decidable.decide ((0 : Int) ≤ (1 : Int) ∧ (1 : Int) < (↑y2_1.length : Int)) then
                both (both (k0 ((Go.strOfNums (y2_1.getD (Int.toNat (1 : Int)) [])).toList == (Go.strOfNums [(0 : Int), (1 : Int), (1 : Int), (0 : Int)]).toList))
                    (both (k0 ((Go.strOfNums (y2_1.getD (Int.toNat (1 : Int)) [])).toList == (Go.strOfNums [(0 : Int), (1 : Int), (1 : Int), (0 : Int)]).toList))
                      (k0 ((Go.strOfNums (y2_1.getD (Int.toNat (1 : Int)) [])).toList == (Go.strOfNums [(0 : Int), (1 : Int), (1 : Int), (0 : Int)]).toList))))
                  (both (both (k0 ((Go.strOfNums (y2_1.getD (Int.toNat (1 : Int)) [])).toList == (Go.strOfNums [(0 : Int), (1 : Int), (1 : Int), (0 : Int)]).toList))
                      (k0 ((Go.strOfNums (y2_1.getD (Int.toNat (1 : Int)) [])).toList == (Go.strOfNums [(0 : Int), (1 : Int), (1 : Int), (0 : Int)]).toList)))
                    (k0 ((Go.strOfNums (y2_1.getD (Int.toNat (1 : Int)) [])).toList == (Go.strOfNums [(0 : Int), (1 : Int), (1 : Int), (0 : Int)]).toList)))
                else none
               else
                k0 Bool.false)
              (bif (Go.strOfNums (y2_1.getD (Int.toNat (0 : Int)) [])).toList == (Go.strOfNums [(0 : Int), (0 : Int), (1 : Int), (1 : Int)]).toList then
                bif Decidable.decide ((0 : Int) ≤ (1 : Int) ∧ (1 : Int) < (↑y2_1.length : Int)) then
                both (both (k0 ((Go.strOfNums (y2_1.getD (Int.toNat (1 : Int)) [])).toList == (Go.strOfNums [(0 : Int), (1 : Int), (1 : Int), (0 : Int)]).toList))
                    (both (k0 ((Go.strOfNums (y2_1.getD (Int.toNat (1 : Int)) [])).toList == (Go.strOfNums [(0 : Int), (1 : Int), (1 : Int), (0 : Int)]).toList))
                      (k0 ((Go.strOfNums (y2_1.getD (Int.toNat (1 : Int)) [])).toList == (Go.strOfNums [(0 : Int), (1 : Int), (1 : Int), (0 : Int)]).toList))))
                  (both (both (k0 ((Go.strOfNums (y2_1.getD (Int.toNat (1 : Int)) [])).toList == (Go.strOfNums [(0 : Int), (1 : Int), (1 : Int), (0 : Int)]).toList))
                      (k0 ((Go.strOfNums (y2_1.getD (Int.toNat (1 : Int)) [])).toList == (Go.strOfNums [(0 : Int), (1 : Int), (1 : Int), (0 : Int)]).toList)))
                    (k0 ((Go.strOfNums (y2_1.getD (Int.toNat (1 : Int)) [])).toList == (Go.strOfNums [(0 : Int), (1 : Int), (1 : Int), (0 : Int)]).toList)))
                else none
               else
                k0 Bool.false))
            (bif (Go.strOfNums (y2_1.getD (Int.toNat (0 : Int)) [])).toList == (Go.strOfNums [(0 : Int), (0 : Int), (1 : Int), (1 : Int)]).toList then
              bif Decidable.decide ((0 : Int) ≤ (1 : Int) ∧ (1 : Int) < (↑y2_1.length : Int)) then
              both (both (k0 ((Go.strOfNums (y2_1.getD (Int.toNat (1 : Int)) [])).toList == (Go.strOfNums [(0 : Int), (1 : Int), (1 : Int), (0 : Int)]).toList))
                  (both (k0 ((Go.strOfNums (y2_1.getD (Int.toNat (1 : Int)) [])).toList == (Go.strOfNums [(0 : Int), (1 : Int), (1 : Int), (0 : Int)]).toList))
                    (k0 ((Go.strOfNums (y2_1.getD (Int.toNat (1 : Int)) [])).toList == (Go.strOfNums [(0 : Int), (1 : Int), (1 : Int), (0 : Int)]).toList))))
                (both (both (k0 ((Go.strOfNums (y2_1.getD (Int.toNat (1 : Int)) [])).toList == (Go.strOfNums [(0 : Int), (1 : Int), (1 : Int), (0 : Int)]).toList))
                    (k0 ((Go.strOfNums (y2_1.getD (Int.toNat (1 : Int)) [])).toList == (Go.strOfNums [(0 : Int), (1 : Int), (1 : Int), (0 : Int)]).toList)))
                  (k0 ((Go.strOfNums (y2_1.getD (Int.toNat (1 : Int)) [])).toList == (Go.strOfNums [(0 : Int), (1 : Int), (1 : Int), (0 : Int)]).toList)))
              else none
             else
              k0 Bool.false))
        else none
       else
        k0 Bool.false
      else
       k0 Bool.false))
abbrev YF7 : Type := ((Bool) → Option Ans) → Option Ans
theorem F7_eqg (fuel : Nat) (f22 : YF22)  (k : Ev.Cont) : evalFn tab (Gg7 f22) (J7 fuel) kp7 fuel Try.f7 [] [] k = (fun  (k0 : (Bool) → Option Ans) =>
  (f22 ([(0 : Int), (1 : Int), (2 : Int), (3 : Int)]) ((2 : Int))
    (fun (y2_0, y2_1) =>
      bif y2_0 == (0 : Int) then
       bif (↑y2_1.length : Int) == (2 : Int) then
        bif Decidable.decide ((0 : Int) ≤ (0 : Int) ∧ (0 : Int) < (↑y2_1.length : Int)) then
        both (both (bif (Go.strOfNums (y2_1.getD (Int.toNat (0 : Int)) [])).toList == (Go.strOfNums [(0 : Int), (0 : Int), (1 : Int), (1 : Int)]).toList then
              bif Decidable.decide ((0 : Int) ≤ (1 : Int) ∧ (1 : Int) < (↑y2_1.length : Int)) then
              both (both (k0 ((Go.strOfNums (y2_1.getD (Int.toNat (1 : Int)) [])).toList == (Go.strOfNums [(0 : Int), (1 : Int), (1 : Int), (0 : Int)]).toList))
                  (both (k0 ((Go.strOfNums (y2_1.getD (Int.toNat (1 : Int)) [])).toList == (Go.strOfNums [(0 : Int), (1 : Int), (1 : Int), (0 : Int)]).toList))
                    (k0 ((Go.strOfNums (y2_1.getD (Int.toNat (1 : Int)) [])).toList == (Go.strOfNums [(0 : Int), (1 : Int), (1 : Int), (0 : Int)]).toList))))
                (both (both (k0 ((Go.strOfNums (y2_1.getD (Int.toNat (1 : Int)) [])).toList == (Go.strOfNums [(0 : Int), (1 : Int), (1 : Int), (0 : Int)]).toList))
                    (k0 ((Go.strOfNums (y2_1.getD (Int.toNat (1 : Int)) [])).toList == (Go.strOfNums [(0 : Int), (1 : Int), (1 : Int), (0 : Int)]).toList)))
                  (k0 ((Go.strOfNums (y2_1.getD (Int.toNat (1 : Int)) [])).toList == (Go.strOfNums [(0 : Int), (1 : Int), (1 : Int), (0 : Int)]).toList)))
              else none
             else
              k0 Bool.false)
            (both (bif (Go.strOfNums (y2_1.getD (Int.toNat (0 : Int)) [])).toList == (Go.strOfNums [(0 : Int), (0 : Int), (1 : Int), (1 : Int)]).toList then
                bif Decidable.decide ((0 : Int) ≤ (1 : Int) ∧ (1 : Int) < (↑y2_1.length : Int)) then
                both (both (k0 ((Go.strOfNums (y2_1.getD (Int.toNat (1 : Int)) [])).toList == (Go.strOfNums [(0 : Int), (1 : Int), (1 : Int), (0 : Int)]).toList))
                    (both (k0 ((Go.strOfNums (y2_1.getD (Int.toNat (1 : Int)) [])).toList == (Go.strOfNums [(0 : Int), (1 : Int), (1 : Int), (0 : Int)]).toList))
                      (k0 ((Go.strOfNums (y2_1.getD (Int.toNat (1 : Int)) [])).toList == (Go.strOfNums [(0 : Int), (1 : Int), (1 : Int), (0 : Int)]).toList))))
                  (both (both (k0 ((Go.strOfNums (y2_1.getD (Int.toNat (1 : Int)) [])).toList == (Go.strOfNums [(0 : Int), (1 : Int), (1 : Int), (0 : Int)]).toList))
                      (k0 ((Go.strOfNums (y2_1.getD (Int.toNat (1 : Int)) [])).toList == (Go.strOfNums [(0 : Int), (1 : Int), (1 : Int), (0 : Int)]).toList)))
                    (k0 ((Go.strOfNums (y2_1.getD (Int.toNat (1 : Int)) [])).toList == (Go.strOfNums [(0 : Int), (1 : Int), (1 : Int), (0 : Int)]).toList)))
                else none
               else
                k0 Bool.false)
              (bif (Go.strOfNums (y2_1.getD (Int.toNat (0 : Int)) [])).toList == (Go.strOfNums [(0 : Int), (0 : Int), (1 : Int), (1 : Int)]).toList then
                bif Decidable.decide ((0 : Int) ≤ (1 : Int) ∧ (1 : Int) < (↑y2_1.length : Int)) then
                both (both (k0 ((Go.strOfNums (y2_1.getD (Int.toNat (1 : Int)) [])).toList == (Go.strOfNums [(0 : Int), (1 : Int), (1 : Int), (0 : Int)]).toList))
                    (both (k0 ((Go.strOfNums (y2_1.getD (Int.toNat (1 : Int)) [])).toList == (Go.strOfNums [(0 : Int), (1 : Int), (1 : Int), (0 : Int)]).toList))
                      (k0 ((Go.strOfNums (y2_1.getD (Int.toNat (1 : Int)) [])).toList == (Go.strOfNums [(0 : Int), (1 : Int), (1 : Int), (0 : Int)]).toList))))
                  (both (both (k0 ((Go.strOfNums (y2_1.getD (Int.toNat (1 : Int)) [])).toList == (Go.strOfNums [(0 : Int), (1 : Int), (1 : Int), (0 : Int)]).toList))
                      (k0 ((Go.strOfNums (y2_1.getD (Int.toNat (1 : Int)) [])).toList == (Go.strOfNums [(0 : Int), (1 : Int), (1 : Int), (0 : Int)]).toList)))
                    (k0 ((Go.strOfNums (y2_1.getD (Int.toNat (1 : Int)) [])).toList == (Go.strOfNums [(0 : Int), (1 : Int), (1 : Int), (0 : Int)]).toList)))
                else none
               else
                k0 Bool.false)))
          (both (both (bif (Go.strOfNums (y2_1.getD (Int.toNat (0 : Int)) [])).toList == (Go.strOfNums [(0 : Int), (0 : Int), (1 : Int), (1 : Int)]).toList then
                bif Decidable.decide ((0 : Int) ≤ (1 : Int) ∧ (1 : Int) < (↑y2_1.length : Int)) then
                both (both (k0 ((Go.strOfNums (y2_1.getD (Int.toNat (1 : Int)) [])).toList == (Go.strOfNums [(0 : Int), (1 : Int), (1 : Int), (0 : Int)]).toList))
                    (both (k0 ((Go.strOfNums (y2_1.getD (Int.toNat (1 : Int)) [])).toList == (Go.strOfNums [(0 : Int), (1 : Int), (1 : Int), (0 : Int)]).toList))
                      (k0 ((Go.strOfNums (y2_1.getD (Int.toNat (1 : Int)) [])).toList == (Go.strOfNums [(0 : Int), (1 : Int), (1 : Int), (0 : Int)]).toList))))
                  (both (both (k0 ((Go.strOfNums (y2_1.getD (Int.toNat (1 : Int)) [])).toList == (Go.strOfNums [(0 : Int), (1 : Int), (1 : Int), (0 : Int)]).toList))
                      (k0 ((Go.strOfNums (y2_1.getD (Int.toNat (1 : Int)) [])).toList == (Go.strOfNums [(0 : Int), (1 : Int), (1 : Int), (0 : Int)]).toList)))
                    (k0 ((Go.strOfNums (y2_1.getD (Int.toNat (1 : Int)) [])).toList == (Go.strOfNums [(0 : Int), (1 : Int), (1 : Int), (0 : Int)]).toList)))
                else none
               else
                k0 Bool.false)
              (bif (Go.strOfNums (y2_1.getD (Int.toNat (0 : Int)) [])).toList == (Go.strOfNums [(0 : Int), (0 : Int), (1 : Int), (1 : Int)]).toList then
                bif Decidable.decide ((0 : Int) ≤ (1 : Int) ∧ (1 : Int) < (↑y2_1.length : Int)) then
                both (both (k0 ((Go.strOfNums (y2_1.getD (Int.toNat (1 : Int)) [])).toList == (Go.strOfNums [(0 : Int), (1 : Int), (1 : Int), (0 : Int)]).toList))
                    (both (k0 ((Go.strOfNums (y2_1.getD (Int.toNat (1 : Int)) [])).toList == (Go.strOfNums [(0 : Int), (1 : Int), (1 : Int), (0 : Int)]).toList))
                      (k0 ((Go.strOfNums (y2_1.getD (Int.toNat (1 : Int)) [])).toList == (Go.strOfNums [(0 : Int), (1 : Int), (1 : Int), (0 : Int)]).toList))))
                  (both (both (k0 ((Go.strOfNums (y2_1.getD (Int.toNat (1 : Int)) [])).toList == (Go.strOfNums [(0 : Int), (1 : Int), (1 : Int), (0 : Int)]).toList))
                      (k0 ((Go.strOfNums (y2_1.getD (Int.toNat (1 : Int)) [])).toList == (Go.strOfNums [(0 : Int), (1 : Int), (1 : Int), (0 : Int)]).toList)))
                    (k0 ((Go.strOfNums (y2_1.getD (Int.toNat (1 : Int)) [])).toList == (Go.strOfNums [(0 : Int), (1 : Int), (1 : Int), (0 : Int)]).toList)))
                else none
               else
                k0 Bool.false))
            (bif (Go.strOfNums (y2_1.getD (Int.toNat (0 : Int)) [])).toList == (Go.strOfNums [(0 : Int), (0 : Int), (1 : Int), (1 : Int)]).toList then
              bif Decidable.decide ((0 : Int) ≤ (1 : Int) ∧ (1 : Int) < (↑y2_1.length : Int)) then
              both (both (k0 ((Go.strOfNums (y2_1.getD (Int.toNat (1 : Int)) [])).toList == (Go.strOfNums [(0 : Int), (1 : Int), (1 : Int), (0 : Int)]).toList))
                  (both (k0 ((Go.strOfNums (y2_1.getD (Int.toNat (1 : Int)) [])).toList == (Go.strOfNums [(0 : Int), (1 : Int), (1 : Int), (0 : Int)]).toList))
                    (k0 ((Go.strOfNums (y2_1.getD (Int.toNat (1 : Int)) [])).toList == (Go.strOfNums [(0 : Int), (1 : Int), (1 : Int), (0 : Int)]).toList))))
                (both (both (k0 ((Go.strOfNums (y2_1.getD (Int.toNat (1 : Int)) [])).toList == (Go.strOfNums [(0 : Int), (1 : Int), (1 : Int), (0 : Int)]).toList))
                    (k0 ((Go.strOfNums (y2_1.getD (Int.toNat (1 : Int)) [])).toList == (Go.strOfNums [(0 : Int), (1 : Int), (1 : Int), (0 : Int)]).toList)))
                  (k0 ((Go.strOfNums (y2_1.getD (Int.toNat (1 : Int)) [])).toList == (Go.strOfNums [(0 : Int), (1 : Int), (1 : Int), (0 : Int)]).toList)))
              else none
             else
              k0 Bool.false))
        else none
       else
        k0 Bool.false
      else
       k0 Bool.false))) (fun r => match r with | r0 => k (.c (.bool r0), [])) := by
  kernel_rfl
theorem F7_eq (fuel : Nat)  (k : Ev.Cont) : evalFn tab (G7 fuel) (J7 fuel) kp7 fuel Try.f7 [] [] k = F_law11_Sane fuel  (fun r => match r with | r0 => k (.c (.bool r0), [])) :=
  F7_eqg fuel (F_tone_Planes fuel)  k
theorem hG7 (fuel : Nat) : GOK Try.prog (G7 fuel) :=
  gok_cons ⟨ok22 fuel, enters_of Try.func22 (by kernel_rfl) rfl⟩ <|
  gok_nil
theorem fok7 (fuel : Nat) : FnOK Try.prog 7 (evalFn tab (G7 fuel) (J7 fuel) kp7 fuel Try.f7) :=
  fn_ok tab_ok (hG7 fuel) mixed Try.func7 (c := (Try.f7.body).getD .skip) rfl (fun q hq => by
    rw [(by kernel_rfl : obl (J7 fuel) ((Try.f7.body).getD .skip) = [])] at hq
    cases hq)
noncomputable def mt7 : List Ev.SV → List Ev.Ob → Bool := fun args objs => match args, objs with
  | [], [] => true
  | _, _ => false
noncomputable def spg7 (F : YF7) : Ev.Spec := fun args objs k => match args, objs with
  | [], [] => bif true then F  (fun r => match r with | r0 => k (.c (.bool r0), [])) else none
  | _, _ => none
noncomputable def spec7 (fuel : Nat) : Ev.Spec := spg7 (F_law11_Sane fuel)
theorem ok7 (fuel : Nat) : FnOK Try.prog 7 (spec7 fuel) := by
  intro args objs kk r h
  unfold spec7 spg7 at h
  split at h
  · skip
    obtain ⟨hb, h⟩ := cond_some' h
    simp only [Bool.and_eq_true, Nat.beq_eq, decide_eq_true_eq] at hb
    clear hb
    exact fok7 fuel _ _ kk r ((F7_eq fuel kk).trans h)
  · cases h
end Go.Proofs.Ytipdidpalcmlhaa

set_option linter.unusedVariables false
set_option linter.unusedSimpArgs false
set_option maxRecDepth 100000
set_option maxHeartbeats 2000000
namespace Go.Proofs.Ytipdidpalcmlhaa
open Go Ev
def kp16 (i : Nat) : Option (List Nat) := Ev.look i [(4, [0, 1, 5]), (100000, []), (200006, [0, 1]), (400000, [4])]
noncomputable def Gg16 (f : Nat) : Option Ev.Spec := Ev.look f []
noncomputable def G16 (fuel : Nat) : Nat → Option Ev.Spec := Gg16
noncomputable def S_ref01_SameInts_0 (fuel : Nat) (v : (List Int) × (List Int) × Int) (c : ((List Int) × (List Int) × Int) → Option Ans) (B : (Bool → Option Ans) × (Unit → Option Ans)) : Option Ans := match v, B with
  | (x0, x1, x2), (ret, b) =>
   bif Decidable.decide (x2 < (↑x0.length : Int)) then
      bif Decidable.decide ((0 : Int) ≤ x2 ∧ x2 < (↑x0.length : Int)) then
      bif Decidable.decide ((0 : Int) ≤ x2 ∧ x2 < (↑x1.length : Int)) then
       bif x0.getD x2.toNat (0 : Int) != x1.getD x2.toNat (0 : Int) then
         ret Bool.false
        else
         c (x0, x1, Go.IntKind.i64.wrap (x2 + (1 : Int)))
       else none
      else none
     else
      b ()
noncomputable def L_ref01_SameInts_0 (fuel : Nat) (v : (List Int) × (List Int) × Int) (ret : (Bool → Option Ans)) (b : (Unit → Option Ans)) : Option Ans := iter (S_ref01_SameInts_0 fuel) fuel v (ret, b)
noncomputable def J16_0 (fuel : Nat) (i : Nat) : Option Ev.Blk := Ev.look i []
noncomputable def T16_0 (v : (List Int) × (List Int) × Int) : Ev.St := match v with | (x0, x1, x2) => ⟨[(0, .c (.sl (.int .i64) x0)), (1, .c (.sl (.int .i64) x1)), (5, .c (.int .i64 x2))], [], 0, 0⟩
noncomputable def E16_0 (K : Ev.Ex → Ev.St → Option Ans) : (Bool → Option Ans) × (Unit → Option Ans) := ((fun v => match v with | x0 => K .ret ⟨[(4, .c (.bool x0))], [], 0, 0⟩), (fun v => match v with | () => K .normal ⟨[], [], 0, 0⟩))
theorem S16_0_ok (fuel : Nat) (R : Ev.St → Option Ans) (K : Ev.Ex → Ev.St → Option Ans) (x0 : (List Int)) (x1 : (List Int)) (x2 : Int) : evalCode tab (G16 fuel) (J16_0 fuel) kp16 fuel (bodyOf 0 Try.f16) (T16_0 (x0, x1, x2)) (lc kp16 4 0 R K) = S_ref01_SameInts_0 fuel (x0, x1, x2) (fun v => R (T16_0 v)) (E16_0 K) := by
  kernel_rfl
noncomputable def B16_0 (fuel : Nat) : Ev.Blk := fun st K => match canonO (kp16 4) st with
  | some s => (match s with
    | ⟨[(q0, .c (.sl (.int .i64) x0)), (q1, .c (.sl (.int .i64) x1)), (q2, .c (.int .i64 x2))], [], q3, q4⟩ => bif Nat.beq q0 0 && Nat.beq q1 1 && Nat.beq q2 5 && Nat.beq q3 0 && Nat.beq q4 0 then iter (S_ref01_SameInts_0 fuel) fuel (x0, x1, x2) (E16_0 K) else none
    | _ => none)
  | none => none
theorem B16_0_ok (fuel : Nat) (st : Ev.St) (K : Ev.Ex → Ev.St → Option Ans) (r : Ans) (h : B16_0 fuel st K = some r) : evalCode tab (G16 fuel) (J16_0 fuel) kp16 fuel (.block 0 (.loop (bodyOf 0 Try.f16))) st K = some r := by
  unfold B16_0 at h
  split at h
  · rename_i s hs
    split at h
    · skip
      obtain ⟨hb, h⟩ := cond_some' h
      simp only [Bool.and_eq_true, Nat.beq_eq, decide_eq_true_eq] at hb
      obtain ⟨⟨⟨⟨rfl, rfl⟩, rfl⟩, rfl⟩, rfl⟩ := hb
      exact blk_loop (S := T16_0) (ks := E16_0) (step := S_ref01_SameInts_0 fuel) (v := (_, _, _)) (by kernel_rfl) (by kernel_rfl) (fun R K v => by obtain ⟨x0, x1, x2⟩ := v; exact S16_0_ok fuel R K x0 x1 x2) hs h
    · cases h
  · cases h
noncomputable def J16 (fuel : Nat) (i : Nat) : Option Ev.Blk := Ev.look i [(100000, B16_0 fuel)]
noncomputable def F_ref01_SameInts (fuel : Nat) (x0 : (List Int)) (x1 : (List Int)) (k0 : (Bool) → Option Ans) : Option Ans :=
  bif (↑x0.length : Int) != (↑x1.length : Int) then
   k0 Bool.false
  else
   (L_ref01_SameInts_0 fuel (x0, x1, (0 : Int))
     (fun ret0_0 =>
       k0 ret0_0)
     (fun () =>
       k0 Bool.true))
abbrev YF16 : Type := ((List Int)) → ((List Int)) → ((Bool) → Option Ans) → Option Ans
theorem F16_eq (fuel : Nat) (x0 : (List Int)) (x1 : (List Int)) (k : Ev.Cont) : evalFn tab (G16 fuel) (J16 fuel) kp16 fuel Try.f16 [.c (.sl (.int .i64) x0), .c (.sl (.int .i64) x1)] [] k = F_ref01_SameInts fuel x0 x1 (fun r => match r with | r0 => k (.c (.bool r0), [])) := by
  kernel_rfl
theorem hG16 (fuel : Nat) : GOK Try.prog (G16 fuel) :=
  gok_nil
theorem B16_0_blk (fuel : Nat) : BlkOK Try.prog Try.f16.ntmps (.block 0 (.loop (bodyOf 0 Try.f16))) (B16_0 fuel) :=
  blk_of (blk_of_code tab_ok (hG16 fuel) mixed (J := J16_0 fuel) (kp := kp16) (fuel := fuel) (by kernel_rfl) (fun q hq => by
    rw [(by kernel_rfl : obl (J16_0 fuel) (.block 0 (.loop (bodyOf 0 Try.f16))) = [])] at hq
    cases hq)) (B16_0_ok fuel)
theorem fok16 (fuel : Nat) : FnOK Try.prog 16 (evalFn tab (G16 fuel) (J16 fuel) kp16 fuel Try.f16) :=
  fn_ok tab_ok (hG16 fuel) mixed Try.func16 (c := (Try.f16.body).getD .skip) rfl (fun q hq => by
    rw [(by kernel_rfl : obl (J16 fuel) ((Try.f16.body).getD .skip) = [(.block 0 (.loop (bodyOf 0 Try.f16)), B16_0 fuel)])] at hq
    simp only [List.mem_cons, List.not_mem_nil, or_false] at hq
    subst hq
    · exact B16_0_blk fuel)
noncomputable def mt16 : List Ev.SV → List Ev.Ob → Bool := fun args objs => match args, objs with
  | [.c (.sl (.int .i64) _), .c (.sl (.int .i64) _)], [] => true
  | _, _ => false
noncomputable def spg16 (F : YF16) : Ev.Spec := fun args objs k => match args, objs with
  | [.c (.sl (.int .i64) x0), .c (.sl (.int .i64) x1)], [] => bif true then F x0 x1 (fun r => match r with | r0 => k (.c (.bool r0), [])) else none
  | _, _ => none
noncomputable def spec16 (fuel : Nat) : Ev.Spec := spg16 (F_ref01_SameInts fuel)
theorem ok16 (fuel : Nat) : FnOK Try.prog 16 (spec16 fuel) := by
  intro args objs kk r h
  unfold spec16 spg16 at h
  split at h
  · skip
    obtain ⟨hb, h⟩ := cond_some' h
    simp only [Bool.and_eq_true, Nat.beq_eq, decide_eq_true_eq] at hb
    clear hb
    exact fok16 fuel _ _ kk r ((F16_eq fuel _ _ kk).trans h)
  · cases h
end Go.Proofs.Ytipdidpalcmlhaa

set_option linter.unusedVariables false
set_option linter.unusedSimpArgs false
set_option maxRecDepth 100000
set_option maxHeartbeats 2000000
namespace Go.Proofs.Ytipdidpalcmlhaa
open Go Ev
def kp37 (i : Nat) : Option (List Nat) := Ev.look i []
noncomputable def Gg37 (f : Nat) : Option Ev.Spec := Ev.look f []
noncomputable def G37 (fuel : Nat) : Nat → Option Ev.Spec := Gg37
noncomputable def J37 (fuel : Nat) (i : Nat) : Option Ev.Blk := Ev.look i []
noncomputable def F_ref05_Same (fuel : Nat) (x0 : Int) (x1 : Int) (x2 : (List Int)) (x3 : Int) (x4 : Int) (x5 : (List Int)) (k0 : (Bool) → Option Ans) : Option Ans :=
  bif x0 == x3 then
   bif x1 == x4 then
    k0 ((Go.strOfNums x2).toList == (Go.strOfNums x5).toList)
   else
    k0 Bool.false
  else
   k0 Bool.false
abbrev YF37 : Type := (Int) → (Int) → ((List Int)) → (Int) → (Int) → ((List Int)) → ((Bool) → Option Ans) → Option Ans
theorem F37_eq (fuel : Nat) (x0 : Int) (x1 : Int) (x2 : (List Int)) (x3 : Int) (x4 : Int) (x5 : (List Int)) (k : Ev.Cont) : evalFn tab (G37 fuel) (J37 fuel) kp37 fuel Try.f37 [.agg [.int .i64 x0, .int .i64 x1, .sl (.int .u8) x2], .agg [.int .i64 x3, .int .i64 x4, .sl (.int .u8) x5]] [] k = F_ref05_Same fuel x0 x1 x2 x3 x4 x5 (fun r => match r with | r0 => k (.c (.bool r0), [])) := by
  kernel_rfl
theorem hG37 (fuel : Nat) : GOK Try.prog (G37 fuel) :=
  gok_nil
theorem fok37 (fuel : Nat) : FnOK Try.prog 37 (evalFn tab (G37 fuel) (J37 fuel) kp37 fuel Try.f37) :=
  fn_ok tab_ok (hG37 fuel) mixed Try.func37 (c := (Try.f37.body).getD .skip) rfl (fun q hq => by
    rw [(by kernel_rfl : obl (J37 fuel) ((Try.f37.body).getD .skip) = [])] at hq
    cases hq)
noncomputable def mt37 : List Ev.SV → List Ev.Ob → Bool := fun args objs => match args, objs with
  | [.agg [.int .i64 _, .int .i64 _, .sl (.int .u8) _], .agg [.int .i64 _, .int .i64 _, .sl (.int .u8) _]], [] => true
  | _, _ => false
noncomputable def spg37 (F : YF37) : Ev.Spec := fun args objs k => match args, objs with
  | [.agg [.int .i64 x0, .int .i64 x1, .sl (.int .u8) x2], .agg [.int .i64 x3, .int .i64 x4, .sl (.int .u8) x5]], [] => bif true then F x0 x1 x2 x3 x4 x5 (fun r => match r with | r0 => k (.c (.bool r0), [])) else none
  | _, _ => none
noncomputable def spec37 (fuel : Nat) : Ev.Spec := spg37 (F_ref05_Same fuel)
theorem ok37 (fuel : Nat) : FnOK Try.prog 37 (spec37 fuel) := by
  intro args objs kk r h
  unfold spec37 spg37 at h
  split at h
  · skip
    obtain ⟨hb, h⟩ := cond_some' h
    simp only [Bool.and_eq_true, Nat.beq_eq, decide_eq_true_eq] at hb
    clear hb
    exact fok37 fuel _ _ kk r ((F37_eq fuel _ _ _ _ _ _ kk).trans h)
  · cases h
end Go.Proofs.Ytipdidpalcmlhaa

set_option linter.unusedVariables false
set_option linter.unusedSimpArgs false
set_option maxRecDepth 100000
set_option maxHeartbeats 2000000
namespace Go.Proofs.Ytipdidpalcmlhaa
open Go Ev
def kp11 (i : Nat) : Option (List Nat) := Ev.look i [(4, [0, 1, 5]), (100000, []), (200006, [0, 1]), (400000, [4])]
noncomputable def Gg11 (f37 : YF37) (f : Nat) : Option Ev.Spec := Ev.look f [(37, spg37 f37)]
noncomputable def G11 (fuel : Nat) : Nat → Option Ev.Spec := Gg11 (F_ref05_Same fuel)
noncomputable def S_ref09_SameBitmaps_0 (fuel : Nat) (v : (List (Int × (Int × (List Int)))) × (List (Int × (Int × (List Int)))) × Int) (c : ((List (Int × (Int × (List Int)))) × (List (Int × (Int × (List Int)))) × Int) → Option Ans) (B : (Bool → Option Ans) × (Unit → Option Ans)) : Option Ans := match v, B with
  | (x0, x1, x2), (ret, b) =>
   bif Decidable.decide (x2 < (↑x0.length : Int)) then
      bif Decidable.decide ((0 : Int) ≤ x2 ∧ x2 < (↑x0.length : Int)) then
      bif Decidable.decide ((0 : Int) ≤ x2 ∧ x2 < (↑x1.length : Int)) then
       (F_ref05_Same fuel ((x0.getD x2.toNat ((0 : Int), (0 : Int), [])).fst) ((x0.getD x2.toNat ((0 : Int), (0 : Int), [])).snd.fst) ((x0.getD x2.toNat ((0 : Int), (0 : Int), [])).snd.snd) ((x1.getD x2.toNat ((0 : Int), (0 : Int), [])).fst) ((x1.getD x2.toNat ((0 : Int), (0 : Int), [])).snd.fst) ((x1.getD x2.toNat ((0 : Int), (0 : Int), [])).snd.snd)
          (fun y5 =>
            bif !y5 then
             ret Bool.false
            else
             c (x0, x1, Go.IntKind.i64.wrap (x2 + (1 : Int)))))
       else none
      else none
     else
      b ()
noncomputable def L_ref09_SameBitmaps_0 (fuel : Nat) (v : (List (Int × (Int × (List Int)))) × (List (Int × (Int × (List Int)))) × Int) (ret : (Bool → Option Ans)) (b : (Unit → Option Ans)) : Option Ans := iter (S_ref09_SameBitmaps_0 fuel) fuel v (ret, b)
noncomputable def J11_0 (fuel : Nat) (i : Nat) : Option Ev.Blk := Ev.look i []
noncomputable def T11_0 (v : (List (Int × (Int × (List Int)))) × (List (Int × (Int × (List Int)))) × Int) : Ev.St := match v with | (x0, x1, x2) => ⟨[(0, .c (.sl (.pair (.int .i64) (.pair (.int .i64) (.sl (.int .u8)))) x0)), (1, .c (.sl (.pair (.int .i64) (.pair (.int .i64) (.sl (.int .u8)))) x1)), (5, .c (.int .i64 x2))], [], 0, 0⟩
noncomputable def E11_0 (K : Ev.Ex → Ev.St → Option Ans) : (Bool → Option Ans) × (Unit → Option Ans) := ((fun v => match v with | x0 => K .ret ⟨[(4, .c (.bool x0))], [], 0, 0⟩), (fun v => match v with | () => K .normal ⟨[], [], 0, 0⟩))
theorem S11_0_okg (fuel : Nat) (f37 : YF37) (R : Ev.St → Option Ans) (K : Ev.Ex → Ev.St → Option Ans) (x0 : (List (Int × (Int × (List Int))))) (x1 : (List (Int × (Int × (List Int))))) (x2 : Int) : evalCode tab (Gg11 f37) (J11_0 fuel) kp11 fuel (bodyOf 0 Try.f11) (T11_0 (x0, x1, x2)) (lc kp11 4 0 R K) = (fun (c : ((List (Int × (Int × (List Int)))) × (List (Int × (Int × (List Int)))) × Int) → Option Ans) (B : (Bool → Option Ans) × (Unit → Option Ans)) => match B with
  | (ret, b) =>
   bif Decidable.decide (x2 < (↑x0.length : Int)) then
      bif Decidable.decide ((0 : Int) ≤ x2 ∧ x2 < (↑x0.length : Int)) then
      bif Decidable.decide ((0 : Int) ≤ x2 ∧ x2 < (↑x1.length : Int)) then
       (f37 ((x0.getD x2.toNat ((0 : Int), (0 : Int), [])).fst) ((x0.getD x2.toNat ((0 : Int), (0 : Int), [])).snd.fst) ((x0.getD x2.toNat ((0 : Int), (0 : Int), [])).snd.snd) ((x1.getD x2.toNat ((0 : Int), (0 : Int), [])).fst) ((x1.getD x2.toNat ((0 : Int), (0 : Int), [])).snd.fst) ((x1.getD x2.toNat ((0 : Int), (0 : Int), [])).snd.snd)
          (fun y5 =>
            bif !y5 then
             ret Bool.false
            else
             c (x0, x1, Go.IntKind.i64.wrap (x2 + (1 : Int)))))
       else none
      else none
     else
      b ()) (fun v => R (T11_0 v)) (E11_0 K) := by
  kernel_rfl
theorem S11_0_ok (fuel : Nat) (R : Ev.St → Option Ans) (K : Ev.Ex → Ev.St → Option Ans) (x0 : (List (Int × (Int × (List Int))))) (x1 : (List (Int × (Int × (List Int))))) (x2 : Int) : evalCode tab (G11 fuel) (J11_0 fuel) kp11 fuel (bodyOf 0 Try.f11) (T11_0 (x0, x1, x2)) (lc kp11 4 0 R K) = S_ref09_SameBitmaps_0 fuel (x0, x1, x2) (fun v => R (T11_0 v)) (E11_0 K) :=
  S11_0_okg fuel (F_ref05_Same fuel) R K x0 x1 x2
noncomputable def B11_0 (fuel : Nat) : Ev.Blk := fun st K => match canonO (kp11 4) st with
  | some s => (match s with
    | ⟨[(q0, .c (.sl (.pair (.int .i64) (.pair (.int .i64) (.sl (.int .u8)))) x0)), (q1, .c (.sl (.pair (.int .i64) (.pair (.int .i64) (.sl (.int .u8)))) x1)), (q2, .c (.int .i64 x2))], [], q3, q4⟩ => bif Nat.beq q0 0 && Nat.beq q1 1 && Nat.beq q2 5 && Nat.beq q3 0 && Nat.beq q4 0 then iter (S_ref09_SameBitmaps_0 fuel) fuel (x0, x1, x2) (E11_0 K) else none
    | _ => none)
  | none => none
theorem B11_0_ok (fuel : Nat) (st : Ev.St) (K : Ev.Ex → Ev.St → Option Ans) (r : Ans) (h : B11_0 fuel st K = some r) : evalCode tab (G11 fuel) (J11_0 fuel) kp11 fuel (.block 0 (.loop (bodyOf 0 Try.f11))) st K = some r := by
  unfold B11_0 at h
  split at h
  · rename_i s hs
    split at h
    · skip
      obtain ⟨hb, h⟩ := cond_some' h
      simp only [Bool.and_eq_true, Nat.beq_eq, decide_eq_true_eq] at hb
      obtain ⟨⟨⟨⟨rfl, rfl⟩, rfl⟩, rfl⟩, rfl⟩ := hb
      exact blk_loop (S := T11_0) (ks := E11_0) (step := S_ref09_SameBitmaps_0 fuel) (v := (_, _, _)) (by kernel_rfl) (by kernel_rfl) (fun R K v => by obtain ⟨x0, x1, x2⟩ := v; exact S11_0_ok fuel R K x0 x1 x2) hs h
    · cases h
  · cases h
noncomputable def J11 (fuel : Nat) (i : Nat) : Option Ev.Blk := Ev.look i [(100000, B11_0 fuel)]
noncomputable def F_ref09_SameBitmaps (fuel : Nat) (x0 : (List (Int × Int × (List Int)))) (x1 : (List (Int × Int × (List Int)))) (k0 : (Bool) → Option Ans) : Option Ans :=
  bif (↑x0.length : Int) != (↑x1.length : Int) then
   k0 Bool.false
  else
   (L_ref09_SameBitmaps_0 fuel (x0, x1, (0 : Int))
     (fun ret0_0 =>
       k0 ret0_0)
     (fun () =>
       k0 Bool.true))
abbrev YF11 : Type := ((List (Int × Int × (List Int)))) → ((List (Int × Int × (List Int)))) → ((Bool) → Option Ans) → Option Ans
theorem F11_eqg (fuel : Nat) (f37 : YF37) (x0 : (List (Int × Int × (List Int)))) (x1 : (List (Int × Int × (List Int)))) (k : Ev.Cont) : evalFn tab (Gg11 f37) (J11 fuel) kp11 fuel Try.f11 [.c (.sl (.pair (.int .i64) (.pair (.int .i64) (.sl (.int .u8)))) x0), .c (.sl (.pair (.int .i64) (.pair (.int .i64) (.sl (.int .u8)))) x1)] [] k = (fun  (k0 : (Bool) → Option Ans) =>
  bif (↑x0.length : Int) != (↑x1.length : Int) then
   k0 Bool.false
  else
   (L_ref09_SameBitmaps_0 fuel (x0, x1, (0 : Int))
     (fun ret0_0 =>
       k0 ret0_0)
     (fun () =>
       k0 Bool.true))) (fun r => match r with | r0 => k (.c (.bool r0), [])) := by
  kernel_rfl
theorem F11_eq (fuel : Nat) (x0 : (List (Int × Int × (List Int)))) (x1 : (List (Int × Int × (List Int)))) (k : Ev.Cont) : evalFn tab (G11 fuel) (J11 fuel) kp11 fuel Try.f11 [.c (.sl (.pair (.int .i64) (.pair (.int .i64) (.sl (.int .u8)))) x0), .c (.sl (.pair (.int .i64) (.pair (.int .i64) (.sl (.int .u8)))) x1)] [] k = F_ref09_SameBitmaps fuel x0 x1 (fun r => match r with | r0 => k (.c (.bool r0), [])) :=
  F11_eqg fuel (F_ref05_Same fuel) x0 x1 k
theorem hG11 (fuel : Nat) : GOK Try.prog (G11 fuel) :=
  gok_cons ⟨ok37 fuel, enters_of Try.func37 (by kernel_rfl) rfl⟩ <|
  gok_nil
theorem B11_0_blk (fuel : Nat) : BlkOK Try.prog Try.f11.ntmps (.block 0 (.loop (bodyOf 0 Try.f11))) (B11_0 fuel) :=
  blk_of (blk_of_code tab_ok (hG11 fuel) mixed (J := J11_0 fuel) (kp := kp11) (fuel := fuel) (by kernel_rfl) (fun q hq => by
    rw [(by kernel_rfl : obl (J11_0 fuel) (.block 0 (.loop (bodyOf 0 Try.f11))) = [])] at hq
    cases hq)) (B11_0_ok fuel)
theorem fok11 (fuel : Nat) : FnOK Try.prog 11 (evalFn tab (G11 fuel) (J11 fuel) kp11 fuel Try.f11) :=
  fn_ok tab_ok (hG11 fuel) mixed Try.func11 (c := (Try.f11.body).getD .skip) rfl (fun q hq => by
    rw [(by kernel_rfl : obl (J11 fuel) ((Try.f11.body).getD .skip) = [(.block 0 (.loop (bodyOf 0 Try.f11)), B11_0 fuel)])] at hq
    simp only [List.mem_cons, List.not_mem_nil, or_false] at hq
    subst hq
    · exact B11_0_blk fuel)
noncomputable def mt11 : List Ev.SV → List Ev.Ob → Bool := fun args objs => match args, objs with
  | [.c (.sl (.pair (.int .i64) (.pair (.int .i64) (.sl (.int .u8)))) _), .c (.sl (.pair (.int .i64) (.pair (.int .i64) (.sl (.int .u8)))) _)], [] => true
  | _, _ => false
noncomputable def spg11 (F : YF11) : Ev.Spec := fun args objs k => match args, objs with
  | [.c (.sl (.pair (.int .i64) (.pair (.int .i64) (.sl (.int .u8)))) x0), .c (.sl (.pair (.int .i64) (.pair (.int .i64) (.sl (.int .u8)))) x1)], [] => bif true then F x0 x1 (fun r => match r with | r0 => k (.c (.bool r0), [])) else none
  | _, _ => none
noncomputable def spec11 (fuel : Nat) : Ev.Spec := spg11 (F_ref09_SameBitmaps fuel)
theorem ok11 (fuel : Nat) : FnOK Try.prog 11 (spec11 fuel) := by
  intro args objs kk r h
  unfold spec11 spg11 at h
  split at h
  · skip
    obtain ⟨hb, h⟩ := cond_some' h
    simp only [Bool.and_eq_true, Nat.beq_eq, decide_eq_true_eq] at hb
    clear hb
    exact fok11 fuel _ _ kk r ((F11_eq fuel _ _ kk).trans h)
  · cases h
end Go.Proofs.Ytipdidpalcmlhaa

set_option linter.unusedVariables false
set_option linter.unusedSimpArgs false
set_option maxRecDepth 100000
set_option maxHeartbeats 2000000
namespace Go.Proofs.Ytipdidpalcmlhaa
open Go Ev
def kp75 (i : Nat) : Option (List Nat) := Ev.look i []
noncomputable def Gg75 (f : Nat) : Option Ev.Spec := Ev.look f []
noncomputable def G75 (fuel : Nat) : Nat → Option Ev.Spec := Gg75
noncomputable def J75 (fuel : Nat) (i : Nat) : Option Ev.Blk := Ev.look i []
noncomputable def F_ref05_Sides (fuel : Nat) (x0 : Int) (x1 : Int) (k0 : (Bool) → Option Ans) : Option Ans :=
  bif Decidable.decide (x0 ≥ (0 : Int)) then
   bif Decidable.decide (x1 ≥ (0 : Int)) then
    bif Decidable.decide (x0 ≤ (200 : Int)) then
     bif Decidable.decide (x1 ≤ (200 : Int)) then
      k0 (Decidable.decide (Go.IntKind.i64.wrap (x0 * x1) ≤ (8192 : Int)))
     else
      k0 Bool.false
    else
     k0 Bool.false
   else
    k0 Bool.false
  else
   k0 Bool.false
abbrev YF75 : Type := (Int) → (Int) → ((Bool) → Option Ans) → Option Ans
theorem F75_eq (fuel : Nat) (x0 : Int) (x1 : Int) (k : Ev.Cont) : evalFn tab (G75 fuel) (J75 fuel) kp75 fuel Try.f75 [.c (.int .i64 x0), .c (.int .i64 x1)] [] k = F_ref05_Sides fuel x0 x1 (fun r => match r with | r0 => k (.c (.bool r0), [])) := by
  kernel_rfl
theorem hG75 (fuel : Nat) : GOK Try.prog (G75 fuel) :=
  gok_nil
theorem fok75 (fuel : Nat) : FnOK Try.prog 75 (evalFn tab (G75 fuel) (J75 fuel) kp75 fuel Try.f75) :=
  fn_ok tab_ok (hG75 fuel) mixed Try.func75 (c := (Try.f75.body).getD .skip) rfl (fun q hq => by
    rw [(by kernel_rfl : obl (J75 fuel) ((Try.f75.body).getD .skip) = [])] at hq
    cases hq)
noncomputable def mt75 : List Ev.SV → List Ev.Ob → Bool := fun args objs => match args, objs with
  | [.c (.int .i64 _), .c (.int .i64 _)], [] => true
  | _, _ => false
noncomputable def spg75 (F : YF75) : Ev.Spec := fun args objs k => match args, objs with
  | [.c (.int .i64 x0), .c (.int .i64 x1)], [] => bif true then F x0 x1 (fun r => match r with | r0 => k (.c (.bool r0), [])) else none
  | _, _ => none
noncomputable def spec75 (fuel : Nat) : Ev.Spec := spg75 (F_ref05_Sides fuel)
theorem ok75 (fuel : Nat) : FnOK Try.prog 75 (spec75 fuel) := by
  intro args objs kk r h
  unfold spec75 spg75 at h
  split at h
  · skip
    obtain ⟨hb, h⟩ := cond_some' h
    simp only [Bool.and_eq_true, Nat.beq_eq, decide_eq_true_eq] at hb
    clear hb
    exact fok75 fuel _ _ kk r ((F75_eq fuel _ _ kk).trans h)
  · cases h
end Go.Proofs.Ytipdidpalcmlhaa

set_option linter.unusedVariables false
set_option linter.unusedSimpArgs false
set_option maxRecDepth 100000
set_option maxHeartbeats 2000000
namespace Go.Proofs.Ytipdidpalcmlhaa
open Go Ev
def kp41 (i : Nat) : Option (List Nat) := Ev.look i [(4, [1, 3]), (100000, []), (400000, [2])]
noncomputable def Gg41 (f75 : YF75) (f : Nat) : Option Ev.Spec := Ev.look f [(75, spg75 f75)]
noncomputable def G41 (fuel : Nat) : Nat → Option Ev.Spec := Gg41 (F_ref05_Sides fuel)
noncomputable def S_ref11_isGrey_0 (fuel : Nat) (v : Int × Int × Int × (List Int)) (c : (Int × Int × Int × (List Int)) → Option Ans) (B : (Bool → Option Ans) × (Unit → Option Ans)) : Option Ans := match v, B with
  | (x0, x1, x2, x3), (ret, b) =>
   bif Decidable.decide (x0 < (↑x3.length : Int)) then
      bif Decidable.decide ((0 : Int) ≤ x0 ∧ x0 < (↑x3.length : Int)) then
      bif Decidable.decide (x3.getD x0.toNat (0 : Int) < (0 : Int)) then
        ret Bool.false
       else
        bif Decidable.decide ((0 : Int) ≤ x0 ∧ x0 < (↑x3.length : Int)) then
        bif Decidable.decide (x3.getD x0.toNat (0 : Int) > (255 : Int)) then
          ret Bool.false
         else
          c (Go.IntKind.i64.wrap (x0 + (1 : Int)), x1, x2, x3)
        else none
      else none
     else
      b ()
noncomputable def L_ref11_isGrey_0 (fuel : Nat) (v : Int × Int × Int × (List Int)) (ret : (Bool → Option Ans)) (b : (Unit → Option Ans)) : Option Ans := iter (S_ref11_isGrey_0 fuel) fuel v (ret, b)
noncomputable def J41_0 (fuel : Nat) (i : Nat) : Option Ev.Blk := Ev.look i []
noncomputable def T41_0 (v : Int × Int × Int × (List Int)) : Ev.St := match v with | (x0, x1, x2, x3) => ⟨[(1, .c (.ptr 0 0)), (3, .c (.int .i64 x0))], [(0, .cells 40 [.int .i64 x1, .int .i64 x2, .sl (.int .i64) x3])], 1, 0⟩
noncomputable def E41_0 (K : Ev.Ex → Ev.St → Option Ans) : (Bool → Option Ans) × (Unit → Option Ans) := ((fun v => match v with | x0 => K .ret ⟨[(2, .c (.bool x0))], [], 0, 0⟩), (fun v => match v with | () => K .normal ⟨[], [], 0, 0⟩))
theorem S41_0_okg (fuel : Nat) (f75 : YF75) (R : Ev.St → Option Ans) (K : Ev.Ex → Ev.St → Option Ans) (x0 : Int) (x1 : Int) (x2 : Int) (x3 : (List Int)) : evalCode tab (Gg41 f75) (J41_0 fuel) kp41 fuel (bodyOf 0 Try.f41) (T41_0 (x0, x1, x2, x3)) (lc kp41 4 0 R K) = (fun (c : (Int × Int × Int × (List Int)) → Option Ans) (B : (Bool → Option Ans) × (Unit → Option Ans)) => match B with
  | (ret, b) =>
   bif Decidable.decide (x0 < (↑x3.length : Int)) then
      bif Decidable.decide ((0 : Int) ≤ x0 ∧ x0 < (↑x3.length : Int)) then
      bif Decidable.decide (x3.getD x0.toNat (0 : Int) < (0 : Int)) then
        ret Bool.false
       else
        bif Decidable.decide ((0 : Int) ≤ x0 ∧ x0 < (↑x3.length : Int)) then
        bif Decidable.decide (x3.getD x0.toNat (0 : Int) > (255 : Int)) then
          ret Bool.false
         else
          c (Go.IntKind.i64.wrap (x0 + (1 : Int)), x1, x2, x3)
        else none
      else none
     else
      b ()) (fun v => R (T41_0 v)) (E41_0 K) := by
  kernel_rfl
theorem S41_0_ok (fuel : Nat) (R : Ev.St → Option Ans) (K : Ev.Ex → Ev.St → Option Ans) (x0 : Int) (x1 : Int) (x2 : Int) (x3 : (List Int)) : evalCode tab (G41 fuel) (J41_0 fuel) kp41 fuel (bodyOf 0 Try.f41) (T41_0 (x0, x1, x2, x3)) (lc kp41 4 0 R K) = S_ref11_isGrey_0 fuel (x0, x1, x2, x3) (fun v => R (T41_0 v)) (E41_0 K) :=
  S41_0_okg fuel (F_ref05_Sides fuel) R K x0 x1 x2 x3
noncomputable def B41_0 (fuel : Nat) : Ev.Blk := fun st K => match canonO (kp41 4) st with
  | some s => (match s with
    | ⟨[(q0, .c (.ptr q1 q2)), (q3, .c (.int .i64 x0))], [(q4, .cells q5 [.int .i64 x1, .int .i64 x2, .sl (.int .i64) x3])], q6, q7⟩ => bif Nat.beq q0 1 && Nat.beq q1 0 && Nat.beq q2 0 && Nat.beq q3 3 && Nat.beq q4 0 && Nat.beq q5 40 && Nat.beq q6 1 && Nat.beq q7 0 then iter (S_ref11_isGrey_0 fuel) fuel (x0, x1, x2, x3) (E41_0 K) else none
    | _ => none)
  | none => none
theorem B41_0_ok (fuel : Nat) (st : Ev.St) (K : Ev.Ex → Ev.St → Option Ans) (r : Ans) (h : B41_0 fuel st K = some r) : evalCode tab (G41 fuel) (J41_0 fuel) kp41 fuel (.block 0 (.loop (bodyOf 0 Try.f41))) st K = some r := by
  unfold B41_0 at h
  split at h
  · rename_i s hs
    split at h
    · skip
      obtain ⟨hb, h⟩ := cond_some' h
      simp only [Bool.and_eq_true, Nat.beq_eq, decide_eq_true_eq] at hb
      obtain ⟨⟨⟨⟨⟨⟨⟨rfl, rfl⟩, rfl⟩, rfl⟩, rfl⟩, rfl⟩, rfl⟩, rfl⟩ := hb
      exact blk_loop (S := T41_0) (ks := E41_0) (step := S_ref11_isGrey_0 fuel) (v := (_, _, _, _)) (by kernel_rfl) (by kernel_rfl) (fun R K v => by obtain ⟨x0, x1, x2, x3⟩ := v; exact S41_0_ok fuel R K x0 x1 x2 x3) hs h
    · cases h
  · cases h
noncomputable def J41 (fuel : Nat) (i : Nat) : Option Ev.Blk := Ev.look i [(100000, B41_0 fuel)]
noncomputable def F_ref11_isGrey (fuel : Nat) (x0 : Int) (x1 : Int) (x2 : (List Int)) (k0 : (Bool) → Option Ans) : Option Ans :=
  (F_ref05_Sides fuel (x0) (x1)
    (fun y2 =>
      bif !y2 then
       k0 Bool.false
      else
       bif (↑x2.length : Int) != Go.IntKind.i64.wrap (x0 * x1) then
        k0 Bool.false
       else
        (L_ref11_isGrey_0 fuel ((0 : Int), x0, x1, x2)
          (fun ret0_0 =>
            k0 ret0_0)
          (fun () =>
            k0 Bool.true))))
abbrev YF41 : Type := (Int) → (Int) → ((List Int)) → ((Bool) → Option Ans) → Option Ans
theorem F41_eqg (fuel : Nat) (f75 : YF75) (x0 : Int) (x1 : Int) (x2 : (List Int)) (k : Ev.Cont) : evalFn tab (Gg41 f75) (J41 fuel) kp41 fuel Try.f41 [.agg [.int .i64 x0, .int .i64 x1, .sl (.int .i64) x2]] [] k = (fun  (k0 : (Bool) → Option Ans) =>
  (f75 (x0) (x1)
    (fun y2 =>
      bif !y2 then
       k0 Bool.false
      else
       bif (↑x2.length : Int) != Go.IntKind.i64.wrap (x0 * x1) then
        k0 Bool.false
       else
        (L_ref11_isGrey_0 fuel ((0 : Int), x0, x1, x2)
          (fun ret0_0 =>
            k0 ret0_0)
          (fun () =>
            k0 Bool.true))))) (fun r => match r with | r0 => k (.c (.bool r0), [])) := by
  kernel_rfl
theorem F41_eq (fuel : Nat) (x0 : Int) (x1 : Int) (x2 : (List Int)) (k : Ev.Cont) : evalFn tab (G41 fuel) (J41 fuel) kp41 fuel Try.f41 [.agg [.int .i64 x0, .int .i64 x1, .sl (.int .i64) x2]] [] k = F_ref11_isGrey fuel x0 x1 x2 (fun r => match r with | r0 => k (.c (.bool r0), [])) :=
  F41_eqg fuel (F_ref05_Sides fuel) x0 x1 x2 k
theorem hG41 (fuel : Nat) : GOK Try.prog (G41 fuel) :=
  gok_cons ⟨ok75 fuel, enters_of Try.func75 (by kernel_rfl) rfl⟩ <|
  gok_nil
theorem B41_0_blk (fuel : Nat) : BlkOK Try.prog Try.f41.ntmps (.block 0 (.loop (bodyOf 0 Try.f41))) (B41_0 fuel) :=
  blk_of (blk_of_code tab_ok (hG41 fuel) mixed (J := J41_0 fuel) (kp := kp41) (fuel := fuel) (by kernel_rfl) (fun q hq => by
    rw [(by kernel_rfl : obl (J41_0 fuel) (.block 0 (.loop (bodyOf 0 Try.f41))) = [])] at hq
    cases hq)) (B41_0_ok fuel)
theorem fok41 (fuel : Nat) : FnOK Try.prog 41 (evalFn tab (G41 fuel) (J41 fuel) kp41 fuel Try.f41) :=
  fn_ok tab_ok (hG41 fuel) mixed Try.func41 (c := (Try.f41.body).getD .skip) rfl (fun q hq => by
    rw [(by kernel_rfl : obl (J41 fuel) ((Try.f41.body).getD .skip) = [(.block 0 (.loop (bodyOf 0 Try.f41)), B41_0 fuel)])] at hq
    simp only [List.mem_cons, List.not_mem_nil, or_false] at hq
    subst hq
    · exact B41_0_blk fuel)
noncomputable def mt41 : List Ev.SV → List Ev.Ob → Bool := fun args objs => match args, objs with
  | [.agg [.int .i64 _, .int .i64 _, .sl (.int .i64) _]], [] => true
  | _, _ => false
noncomputable def spg41 (F : YF41) : Ev.Spec := fun args objs k => match args, objs with
  | [.agg [.int .i64 x0, .int .i64 x1, .sl (.int .i64) x2]], [] => bif true then F x0 x1 x2 (fun r => match r with | r0 => k (.c (.bool r0), [])) else none
  | _, _ => none
noncomputable def spec41 (fuel : Nat) : Ev.Spec := spg41 (F_ref11_isGrey fuel)
theorem ok41 (fuel : Nat) : FnOK Try.prog 41 (spec41 fuel) := by
  intro args objs kk r h
  unfold spec41 spg41 at h
  split at h
  · skip
    obtain ⟨hb, h⟩ := cond_some' h
    simp only [Bool.and_eq_true, Nat.beq_eq, decide_eq_true_eq] at hb
    clear hb
    exact fok41 fuel _ _ kk r ((F41_eq fuel _ _ _ kk).trans h)
  · cases h
end Go.Proofs.Ytipdidpalcmlhaa

set_option linter.unusedVariables false
set_option linter.unusedSimpArgs false
set_option maxRecDepth 100000
set_option maxHeartbeats 2000000
namespace Go.Proofs.Ytipdidpalcmlhaa
open Go Ev
def kp15 (i : Nat) : Option (List Nat) := Ev.look i [(5, [1, 2, 3, 8, 9]), (8, [1, 2, 3, 8, 9, 10]), (12, [1, 2, 3, 8, 9, 10, 11, 12, 13]), (15, [1, 2, 3, 8, 9, 10, 11, 12, 13, 14]), (100000, [8]), (100002, [1, 2, 3, 8, 9]), (100004, [1, 2, 3, 8, 9, 10, 11, 12]), (100006, [1, 2, 3, 8, 9, 10, 11, 12, 13]), (400000, [6, 7]), (400002, [6, 7]), (400004, [6, 7]), (400006, [6, 7])]
noncomputable def Gg15 (f41 : YF41) (f : Nat) : Option Ev.Spec := Ev.look f [(41, spg41 f41)]
noncomputable def G15 (fuel : Nat) : Nat → Option Ev.Spec := Gg15 (F_ref11_isGrey fuel)
noncomputable def S_ref11_Dither_6 (fuel : Nat) (v : Int × Int × Int × Int × Int × Int × Int × Int × Int × Int × (List Int) × (List Int)) (c : (Int × Int × Int × Int × Int × Int × Int × Int × Int × Int × (List Int) × (List Int)) → Option Ans) (B : (Int × Int × Int × Int × Int × Int × Int × Int × Int × (List Int) × (List Int) → Option Ans)) : Option Ans := match v, B with
  | (x0, x1, x2, x3, x4, x5, x6, x7, x8, x9, x10, x11), b =>
   bif Decidable.decide (x7 < bif Decidable.decide (x8 < Go.IntKind.i64.wrap (x3 + x0)) then x8 else Go.IntKind.i64.wrap (x3 + x0)) then
      bif Decidable.decide ((0 : Int) ≤ Go.IntKind.i64.wrap (Go.IntKind.i64.wrap (x6 * x8) + x7) ∧ Go.IntKind.i64.wrap (Go.IntKind.i64.wrap (x6 * x8) + x7) < (↑x10.length : Int)) then
      c (x0, x1, x2, x3, Go.IntKind.i64.wrap (x4 + x10.getD (Go.IntKind.i64.wrap (Go.IntKind.i64.wrap (x6 * x8) + x7)).toNat (0 : Int)), Go.IntKind.i64.wrap (x5 + (1 : Int)), x6, Go.IntKind.i64.wrap (x7 + (1 : Int)), x8, x9, x10, x11)
      else none
     else
      b (x0, x1, x2, x3, x4, x5, x6, x8, x9, x10, x11)
noncomputable def L_ref11_Dither_6 (fuel : Nat) (v : Int × Int × Int × Int × Int × Int × Int × Int × Int × Int × (List Int) × (List Int)) (b : (Int × Int × Int × Int × Int × Int × Int × Int × Int × (List Int) × (List Int) → Option Ans)) : Option Ans := iter (S_ref11_Dither_6 fuel) fuel v b
noncomputable def J15_6 (fuel : Nat) (i : Nat) : Option Ev.Blk := Ev.look i []
noncomputable def T15_6 (v : Int × Int × Int × Int × Int × Int × Int × Int × Int × Int × (List Int) × (List Int)) : Ev.St := match v with | (x0, x1, x2, x3, x4, x5, x6, x7, x8, x9, x10, x11) => ⟨[(1, .c (.int .i64 x0)), (2, .c (.int .i64 x1)), (3, .c (.ptr 0 0)), (8, .c (.own 1)), (9, .c (.int .i64 x2)), (10, .c (.int .i64 x3)), (11, .c (.int .i64 x4)), (12, .c (.int .i64 x5)), (13, .c (.int .i64 x6)), (14, .c (.int .i64 x7))], [(0, .cells 40 [.int .i64 x8, .int .i64 x9, .sl (.int .i64) x10]), (1, .vec 3 (.int .i64) x11 true)], 2, 0⟩
noncomputable def E15_6 (K : Ev.Ex → Ev.St → Option Ans) : (Int × Int × Int × Int × Int × Int × Int × Int × Int × (List Int) × (List Int) → Option Ans) := (fun v => match v with | (x0, x1, x2, x3, x4, x5, x6, x7, x8, x9, x10) => K .normal ⟨[(1, .c (.int .i64 x0)), (2, .c (.int .i64 x1)), (3, .c (.ptr 0 0)), (8, .c (.own 1)), (9, .c (.int .i64 x2)), (10, .c (.int .i64 x3)), (11, .c (.int .i64 x4)), (12, .c (.int .i64 x5)), (13, .c (.int .i64 x6))], [(0, .cells 40 [.int .i64 x7, .int .i64 x8, .sl (.int .i64) x9]), (1, .vec 3 (.int .i64) x10 true)], 2, 0⟩)
theorem S15_6_okg (fuel : Nat) (f41 : YF41) (R : Ev.St → Option Ans) (K : Ev.Ex → Ev.St → Option Ans) (x0 : Int) (x1 : Int) (x2 : Int) (x3 : Int) (x4 : Int) (x5 : Int) (x6 : Int) (x7 : Int) (x8 : Int) (x9 : Int) (x10 : (List Int)) (x11 : (List Int)) : evalCode tab (Gg15 f41) (J15_6 fuel) kp15 fuel (bodyOf 6 Try.f15) (T15_6 (x0, x1, x2, x3, x4, x5, x6, x7, x8, x9, x10, x11)) (lc kp15 15 6 R K) = (fun (c : (Int × Int × Int × Int × Int × Int × Int × Int × Int × Int × (List Int) × (List Int)) → Option Ans) (B : (Int × Int × Int × Int × Int × Int × Int × Int × Int × (List Int) × (List Int) → Option Ans)) => match B with
  | b =>
   bif Decidable.decide (x7 < bif Decidable.decide (x8 < Go.IntKind.i64.wrap (x3 + x0)) then x8 else Go.IntKind.i64.wrap (x3 + x0)) then
      bif Decidable.decide ((0 : Int) ≤ Go.IntKind.i64.wrap (Go.IntKind.i64.wrap (x6 * x8) + x7) ∧ Go.IntKind.i64.wrap (Go.IntKind.i64.wrap (x6 * x8) + x7) < (↑x10.length : Int)) then
      c (x0, x1, x2, x3, Go.IntKind.i64.wrap (x4 + x10.getD (Go.IntKind.i64.wrap (Go.IntKind.i64.wrap (x6 * x8) + x7)).toNat (0 : Int)), Go.IntKind.i64.wrap (x5 + (1 : Int)), x6, Go.IntKind.i64.wrap (x7 + (1 : Int)), x8, x9, x10, x11)
      else none
     else
      b (x0, x1, x2, x3, x4, x5, x6, x8, x9, x10, x11)) (fun v => R (T15_6 v)) (E15_6 K) := by
  kernel_rfl
theorem S15_6_ok (fuel : Nat) (R : Ev.St → Option Ans) (K : Ev.Ex → Ev.St → Option Ans) (x0 : Int) (x1 : Int) (x2 : Int) (x3 : Int) (x4 : Int) (x5 : Int) (x6 : Int) (x7 : Int) (x8 : Int) (x9 : Int) (x10 : (List Int)) (x11 : (List Int)) : evalCode tab (G15 fuel) (J15_6 fuel) kp15 fuel (bodyOf 6 Try.f15) (T15_6 (x0, x1, x2, x3, x4, x5, x6, x7, x8, x9, x10, x11)) (lc kp15 15 6 R K) = S_ref11_Dither_6 fuel (x0, x1, x2, x3, x4, x5, x6, x7, x8, x9, x10, x11) (fun v => R (T15_6 v)) (E15_6 K) :=
  S15_6_okg fuel (F_ref11_isGrey fuel) R K x0 x1 x2 x3 x4 x5 x6 x7 x8 x9 x10 x11
noncomputable def B15_6 (fuel : Nat) : Ev.Blk := fun st K => match canonO (kp15 15) st with
  | some s => (match s with
    | ⟨[(q0, .c (.int .i64 x0)), (q1, .c (.int .i64 x1)), (q2, .c (.ptr q3 q4)), (q5, .c (.own q6)), (q7, .c (.int .i64 x2)), (q8, .c (.int .i64 x3)), (q9, .c (.int .i64 x4)), (q10, .c (.int .i64 x5)), (q11, .c (.int .i64 x6)), (q12, .c (.int .i64 x7))], [(q13, .cells q14 [.int .i64 x8, .int .i64 x9, .sl (.int .i64) x10]), (q15, .vec q16 (.int .i64) x11 true)], q17, q18⟩ => bif Nat.beq q0 1 && Nat.beq q1 2 && Nat.beq q2 3 && Nat.beq q3 0 && Nat.beq q4 0 && Nat.beq q5 8 && Nat.beq q6 1 && Nat.beq q7 9 && Nat.beq q8 10 && Nat.beq q9 11 && Nat.beq q10 12 && Nat.beq q11 13 && Nat.beq q12 14 && Nat.beq q13 0 && Nat.beq q14 40 && Nat.beq q15 1 && Nat.beq q16 3 && Nat.beq q17 2 && Nat.beq q18 0 then iter (S_ref11_Dither_6 fuel) fuel (x0, x1, x2, x3, x4, x5, x6, x7, x8, x9, x10, x11) (E15_6 K) else none
    | _ => none)
  | none => none
theorem B15_6_ok (fuel : Nat) (st : Ev.St) (K : Ev.Ex → Ev.St → Option Ans) (r : Ans) (h : B15_6 fuel st K = some r) : evalCode tab (G15 fuel) (J15_6 fuel) kp15 fuel (.block 6 (.loop (bodyOf 6 Try.f15))) st K = some r := by
  unfold B15_6 at h
  split at h
  · rename_i s hs
    split at h
    · skip
      obtain ⟨hb, h⟩ := cond_some' h
      simp only [Bool.and_eq_true, Nat.beq_eq, decide_eq_true_eq] at hb
      obtain ⟨⟨⟨⟨⟨⟨⟨⟨⟨⟨⟨⟨⟨⟨⟨⟨⟨⟨rfl, rfl⟩, rfl⟩, rfl⟩, rfl⟩, rfl⟩, rfl⟩, rfl⟩, rfl⟩, rfl⟩, rfl⟩, rfl⟩, rfl⟩, rfl⟩, rfl⟩, rfl⟩, rfl⟩, rfl⟩, rfl⟩ := hb
      exact blk_loop (S := T15_6) (ks := E15_6) (step := S_ref11_Dither_6 fuel) (v := (_, _, _, _, _, _, _, _, _, _, _, _)) (by kernel_rfl) (by kernel_rfl) (fun R K v => by obtain ⟨x0, x1, x2, x3, x4, x5, x6, x7, x8, x9, x10, x11⟩ := v; exact S15_6_ok fuel R K x0 x1 x2 x3 x4 x5 x6 x7 x8 x9 x10 x11) hs h
    · cases h
  · cases h
noncomputable def S_ref11_Dither_4 (fuel : Nat) (v : Int × Int × Int × Int × Int × Int × Int × Int × Int × (List Int) × (List Int)) (c : (Int × Int × Int × Int × Int × Int × Int × Int × Int × (List Int) × (List Int)) → Option Ans) (B : (Int × Int × Int × Int × Int × Int × Int × Int × (List Int) × (List Int) → Option Ans)) : Option Ans := match v, B with
  | (x0, x1, x2, x3, x4, x5, x6, x7, x8, x9, x10), b =>
   bif Decidable.decide (x6 < bif Decidable.decide (x8 < Go.IntKind.i64.wrap (x2 + x0)) then x8 else Go.IntKind.i64.wrap (x2 + x0)) then
      (L_ref11_Dither_6 fuel (x0, x1, x2, x3, x4, x5, x6, x3, x7, x8, x9, x10)
        (fun (b6_0, b6_1, b6_2, b6_3, b6_4, b6_5, b6_6, b6_7, b6_8, b6_9, b6_10) =>
          c (b6_0, b6_1, b6_2, b6_3, b6_4, b6_5, Go.IntKind.i64.wrap (b6_6 + (1 : Int)), b6_7, b6_8, b6_9, b6_10)))
     else
      b (x0, x1, x2, x3, x4, x5, x7, x8, x9, x10)
noncomputable def L_ref11_Dither_4 (fuel : Nat) (v : Int × Int × Int × Int × Int × Int × Int × Int × Int × (List Int) × (List Int)) (b : (Int × Int × Int × Int × Int × Int × Int × Int × (List Int) × (List Int) → Option Ans)) : Option Ans := iter (S_ref11_Dither_4 fuel) fuel v b
noncomputable def J15_4 (fuel : Nat) (i : Nat) : Option Ev.Blk := Ev.look i [(100006, B15_6 fuel)]
noncomputable def T15_4 (v : Int × Int × Int × Int × Int × Int × Int × Int × Int × (List Int) × (List Int)) : Ev.St := match v with | (x0, x1, x2, x3, x4, x5, x6, x7, x8, x9, x10) => ⟨[(1, .c (.int .i64 x0)), (2, .c (.int .i64 x1)), (3, .c (.ptr 0 0)), (8, .c (.own 1)), (9, .c (.int .i64 x2)), (10, .c (.int .i64 x3)), (11, .c (.int .i64 x4)), (12, .c (.int .i64 x5)), (13, .c (.int .i64 x6))], [(0, .cells 40 [.int .i64 x7, .int .i64 x8, .sl (.int .i64) x9]), (1, .vec 3 (.int .i64) x10 true)], 2, 0⟩
noncomputable def E15_4 (K : Ev.Ex → Ev.St → Option Ans) : (Int × Int × Int × Int × Int × Int × Int × Int × (List Int) × (List Int) → Option Ans) := (fun v => match v with | (x0, x1, x2, x3, x4, x5, x6, x7, x8, x9) => K .normal ⟨[(1, .c (.int .i64 x0)), (2, .c (.int .i64 x1)), (3, .c (.ptr 0 0)), (8, .c (.own 1)), (9, .c (.int .i64 x2)), (10, .c (.int .i64 x3)), (11, .c (.int .i64 x4)), (12, .c (.int .i64 x5))], [(0, .cells 40 [.int .i64 x6, .int .i64 x7, .sl (.int .i64) x8]), (1, .vec 3 (.int .i64) x9 true)], 2, 0⟩)
theorem S15_4_okg (fuel : Nat) (f41 : YF41) (R : Ev.St → Option Ans) (K : Ev.Ex → Ev.St → Option Ans) (x0 : Int) (x1 : Int) (x2 : Int) (x3 : Int) (x4 : Int) (x5 : Int) (x6 : Int) (x7 : Int) (x8 : Int) (x9 : (List Int)) (x10 : (List Int)) : evalCode tab (Gg15 f41) (J15_4 fuel) kp15 fuel (bodyOf 4 Try.f15) (T15_4 (x0, x1, x2, x3, x4, x5, x6, x7, x8, x9, x10)) (lc kp15 12 4 R K) = (fun (c : (Int × Int × Int × Int × Int × Int × Int × Int × Int × (List Int) × (List Int)) → Option Ans) (B : (Int × Int × Int × Int × Int × Int × Int × Int × (List Int) × (List Int) → Option Ans)) => match B with
  | b =>
   bif Decidable.decide (x6 < bif Decidable.decide (x8 < Go.IntKind.i64.wrap (x2 + x0)) then x8 else Go.IntKind.i64.wrap (x2 + x0)) then
      (L_ref11_Dither_6 fuel (x0, x1, x2, x3, x4, x5, x6, x3, x7, x8, x9, x10)
        (fun (b6_0, b6_1, b6_2, b6_3, b6_4, b6_5, b6_6, b6_7, b6_8, b6_9, b6_10) =>
          c (b6_0, b6_1, b6_2, b6_3, b6_4, b6_5, Go.IntKind.i64.wrap (b6_6 + (1 : Int)), b6_7, b6_8, b6_9, b6_10)))
     else
      b (x0, x1, x2, x3, x4, x5, x7, x8, x9, x10)) (fun v => R (T15_4 v)) (E15_4 K) := by
  kernel_rfl
theorem S15_4_ok (fuel : Nat) (R : Ev.St → Option Ans) (K : Ev.Ex → Ev.St → Option Ans) (x0 : Int) (x1 : Int) (x2 : Int) (x3 : Int) (x4 : Int) (x5 : Int) (x6 : Int) (x7 : Int) (x8 : Int) (x9 : (List Int)) (x10 : (List Int)) : evalCode tab (G15 fuel) (J15_4 fuel) kp15 fuel (bodyOf 4 Try.f15) (T15_4 (x0, x1, x2, x3, x4, x5, x6, x7, x8, x9, x10)) (lc kp15 12 4 R K) = S_ref11_Dither_4 fuel (x0, x1, x2, x3, x4, x5, x6, x7, x8, x9, x10) (fun v => R (T15_4 v)) (E15_4 K) :=
  S15_4_okg fuel (F_ref11_isGrey fuel) R K x0 x1 x2 x3 x4 x5 x6 x7 x8 x9 x10
noncomputable def B15_4 (fuel : Nat) : Ev.Blk := fun st K => match canonO (kp15 12) st with
  | some s => (match s with
    | ⟨[(q0, .c (.int .i64 x0)), (q1, .c (.int .i64 x1)), (q2, .c (.ptr q3 q4)), (q5, .c (.own q6)), (q7, .c (.int .i64 x2)), (q8, .c (.int .i64 x3)), (q9, .c (.int .i64 x4)), (q10, .c (.int .i64 x5)), (q11, .c (.int .i64 x6))], [(q12, .cells q13 [.int .i64 x7, .int .i64 x8, .sl (.int .i64) x9]), (q14, .vec q15 (.int .i64) x10 true)], q16, q17⟩ => bif Nat.beq q0 1 && Nat.beq q1 2 && Nat.beq q2 3 && Nat.beq q3 0 && Nat.beq q4 0 && Nat.beq q5 8 && Nat.beq q6 1 && Nat.beq q7 9 && Nat.beq q8 10 && Nat.beq q9 11 && Nat.beq q10 12 && Nat.beq q11 13 && Nat.beq q12 0 && Nat.beq q13 40 && Nat.beq q14 1 && Nat.beq q15 3 && Nat.beq q16 2 && Nat.beq q17 0 then iter (S_ref11_Dither_4 fuel) fuel (x0, x1, x2, x3, x4, x5, x6, x7, x8, x9, x10) (E15_4 K) else none
    | _ => none)
  | none => none
theorem B15_4_ok (fuel : Nat) (st : Ev.St) (K : Ev.Ex → Ev.St → Option Ans) (r : Ans) (h : B15_4 fuel st K = some r) : evalCode tab (G15 fuel) (J15_4 fuel) kp15 fuel (.block 4 (.loop (bodyOf 4 Try.f15))) st K = some r := by
  unfold B15_4 at h
  split at h
  · rename_i s hs
    split at h
    · skip
      obtain ⟨hb, h⟩ := cond_some' h
      simp only [Bool.and_eq_true, Nat.beq_eq, decide_eq_true_eq] at hb
      obtain ⟨⟨⟨⟨⟨⟨⟨⟨⟨⟨⟨⟨⟨⟨⟨⟨⟨rfl, rfl⟩, rfl⟩, rfl⟩, rfl⟩, rfl⟩, rfl⟩, rfl⟩, rfl⟩, rfl⟩, rfl⟩, rfl⟩, rfl⟩, rfl⟩, rfl⟩, rfl⟩, rfl⟩, rfl⟩ := hb
      exact blk_loop (S := T15_4) (ks := E15_4) (step := S_ref11_Dither_4 fuel) (v := (_, _, _, _, _, _, _, _, _, _, _)) (by kernel_rfl) (by kernel_rfl) (fun R K v => by obtain ⟨x0, x1, x2, x3, x4, x5, x6, x7, x8, x9, x10⟩ := v; exact S15_4_ok fuel R K x0 x1 x2 x3 x4 x5 x6 x7 x8 x9 x10) hs h
    · cases h
  · cases h
noncomputable def S_ref11_Dither_2 (fuel : Nat) (v : Int × Int × Int × Int × Int × Int × (List Int) × (List Int)) (c : (Int × Int × Int × Int × Int × Int × (List Int) × (List Int)) → Option Ans) (B : (Int × Int × Int × Int × Int × (List Int) × (List Int) → Option Ans)) : Option Ans := match v, B with
  | (x0, x1, x2, x3, x4, x5, x6, x7), b =>
   bif Decidable.decide (x3 < x4) then
      (L_ref11_Dither_4 fuel (x0, x1, x2, x3, (0 : Int), (0 : Int), x2, x4, x5, x6, x7)
        (fun (b4_0, b4_1, b4_2, b4_3, b4_4, b4_5, b4_6, b4_7, b4_8, b4_9) =>
          bif Decidable.decide (Go.IntKind.i64.wrap (Go.IntKind.i64.wrap ((255 : Int) * b4_5) + (1 : Int)) = (0 : Int)) then
           none
          else
           bif Decidable.decide ((b4_9.length + [Go.IntKind.i64.wrap ((Go.IntKind.i64.wrap (Go.IntKind.i64.wrap (Go.IntKind.i64.wrap ((255 : Int) * b4_5) - b4_4) * b4_1)).tdiv (Go.IntKind.i64.wrap (Go.IntKind.i64.wrap ((255 : Int) * b4_5) + (1 : Int))))].length) * (8 : Nat) ≤ (140737488355328 : Nat) ∧ b4_9.length + [Go.IntKind.i64.wrap ((Go.IntKind.i64.wrap (Go.IntKind.i64.wrap (Go.IntKind.i64.wrap ((255 : Int) * b4_5) - b4_4) * b4_1)).tdiv (Go.IntKind.i64.wrap (Go.IntKind.i64.wrap ((255 : Int) * b4_5) + (1 : Int))))].length ≤ (140737488355328 : Nat)) then
           c (b4_0, b4_1, b4_2, Go.IntKind.i64.wrap (b4_3 + b4_0), b4_6, b4_7, b4_8, b4_9 ++ [Go.IntKind.i64.wrap ((Go.IntKind.i64.wrap (Go.IntKind.i64.wrap (Go.IntKind.i64.wrap ((255 : Int) * b4_5) - b4_4) * b4_1)).tdiv (Go.IntKind.i64.wrap (Go.IntKind.i64.wrap ((255 : Int) * b4_5) + (1 : Int))))])
           else none))
     else
      b (x0, x1, x2, x4, x5, x6, x7)
noncomputable def L_ref11_Dither_2 (fuel : Nat) (v : Int × Int × Int × Int × Int × Int × (List Int) × (List Int)) (b : (Int × Int × Int × Int × Int × (List Int) × (List Int) → Option Ans)) : Option Ans := iter (S_ref11_Dither_2 fuel) fuel v b
noncomputable def J15_2 (fuel : Nat) (i : Nat) : Option Ev.Blk := Ev.look i [(100006, B15_6 fuel), (100004, B15_4 fuel)]
noncomputable def T15_2 (v : Int × Int × Int × Int × Int × Int × (List Int) × (List Int)) : Ev.St := match v with | (x0, x1, x2, x3, x4, x5, x6, x7) => ⟨[(1, .c (.int .i64 x0)), (2, .c (.int .i64 x1)), (3, .c (.ptr 0 0)), (8, .c (.own 1)), (9, .c (.int .i64 x2)), (10, .c (.int .i64 x3))], [(0, .cells 40 [.int .i64 x4, .int .i64 x5, .sl (.int .i64) x6]), (1, .vec 3 (.int .i64) x7 true)], 2, 0⟩
noncomputable def E15_2 (K : Ev.Ex → Ev.St → Option Ans) : (Int × Int × Int × Int × Int × (List Int) × (List Int) → Option Ans) := (fun v => match v with | (x0, x1, x2, x3, x4, x5, x6) => K .normal ⟨[(1, .c (.int .i64 x0)), (2, .c (.int .i64 x1)), (3, .c (.ptr 0 0)), (8, .c (.own 1)), (9, .c (.int .i64 x2))], [(0, .cells 40 [.int .i64 x3, .int .i64 x4, .sl (.int .i64) x5]), (1, .vec 3 (.int .i64) x6 true)], 2, 0⟩)
theorem S15_2_okg (fuel : Nat) (f41 : YF41) (R : Ev.St → Option Ans) (K : Ev.Ex → Ev.St → Option Ans) (x0 : Int) (x1 : Int) (x2 : Int) (x3 : Int) (x4 : Int) (x5 : Int) (x6 : (List Int)) (x7 : (List Int)) : evalCode tab (Gg15 f41) (J15_2 fuel) kp15 fuel (bodyOf 2 Try.f15) (T15_2 (x0, x1, x2, x3, x4, x5, x6, x7)) (lc kp15 8 2 R K) = (fun (c : (Int × Int × Int × Int × Int × Int × (List Int) × (List Int)) → Option Ans) (B : (Int × Int × Int × Int × Int × (List Int) × (List Int) → Option Ans)) => match B with
  | b =>
   bif Decidable.decide (x3 < x4) then
      (L_ref11_Dither_4 fuel (x0, x1, x2, x3, (0 : Int), (0 : Int), x2, x4, x5, x6, x7)
        (fun (b4_0, b4_1, b4_2, b4_3, b4_4, b4_5, b4_6, b4_7, b4_8, b4_9) =>
          bif Decidable.decide (Go.IntKind.i64.wrap (Go.IntKind.i64.wrap ((255 : Int) * b4_5) + (1 : Int)) = (0 : Int)) then
           none
          else
           bif Decidable.decide ((b4_9.length + [Go.IntKind.i64.wrap ((Go.IntKind.i64.wrap (Go.IntKind.i64.wrap (Go.IntKind.i64.wrap ((255 : Int) * b4_5) - b4_4) * b4_1)).tdiv (Go.IntKind.i64.wrap (Go.IntKind.i64.wrap ((255 : Int) * b4_5) + (1 : Int))))].length) * (8 : Nat) ≤ (140737488355328 : Nat) ∧ b4_9.length + [Go.IntKind.i64.wrap ((Go.IntKind.i64.wrap (Go.IntKind.i64.wrap (Go.IntKind.i64.wrap ((255 : Int) * b4_5) - b4_4) * b4_1)).tdiv (Go.IntKind.i64.wrap (Go.IntKind.i64.wrap ((255 : Int) * b4_5) + (1 : Int))))].length ≤ (140737488355328 : Nat)) then
           c (b4_0, b4_1, b4_2, Go.IntKind.i64.wrap (b4_3 + b4_0), b4_6, b4_7, b4_8, b4_9 ++ [Go.IntKind.i64.wrap ((Go.IntKind.i64.wrap (Go.IntKind.i64.wrap (Go.IntKind.i64.wrap ((255 : Int) * b4_5) - b4_4) * b4_1)).tdiv (Go.IntKind.i64.wrap (Go.IntKind.i64.wrap ((255 : Int) * b4_5) + (1 : Int))))])
           else none))
     else
      b (x0, x1, x2, x4, x5, x6, x7)) (fun v => R (T15_2 v)) (E15_2 K) := by
  kernel_rfl
theorem S15_2_ok (fuel : Nat) (R : Ev.St → Option Ans) (K : Ev.Ex → Ev.St → Option Ans) (x0 : Int) (x1 : Int) (x2 : Int) (x3 : Int) (x4 : Int) (x5 : Int) (x6 : (List Int)) (x7 : (List Int)) : evalCode tab (G15 fuel) (J15_2 fuel) kp15 fuel (bodyOf 2 Try.f15) (T15_2 (x0, x1, x2, x3, x4, x5, x6, x7)) (lc kp15 8 2 R K) = S_ref11_Dither_2 fuel (x0, x1, x2, x3, x4, x5, x6, x7) (fun v => R (T15_2 v)) (E15_2 K) :=
  S15_2_okg fuel (F_ref11_isGrey fuel) R K x0 x1 x2 x3 x4 x5 x6 x7
noncomputable def B15_2 (fuel : Nat) : Ev.Blk := fun st K => match canonO (kp15 8) st with
  | some s => (match s with
    | ⟨[(q0, .c (.int .i64 x0)), (q1, .c (.int .i64 x1)), (q2, .c (.ptr q3 q4)), (q5, .c (.own q6)), (q7, .c (.int .i64 x2)), (q8, .c (.int .i64 x3))], [(q9, .cells q10 [.int .i64 x4, .int .i64 x5, .sl (.int .i64) x6]), (q11, .vec q12 (.int .i64) x7 true)], q13, q14⟩ => bif Nat.beq q0 1 && Nat.beq q1 2 && Nat.beq q2 3 && Nat.beq q3 0 && Nat.beq q4 0 && Nat.beq q5 8 && Nat.beq q6 1 && Nat.beq q7 9 && Nat.beq q8 10 && Nat.beq q9 0 && Nat.beq q10 40 && Nat.beq q11 1 && Nat.beq q12 3 && Nat.beq q13 2 && Nat.beq q14 0 then iter (S_ref11_Dither_2 fuel) fuel (x0, x1, x2, x3, x4, x5, x6, x7) (E15_2 K) else none
    | _ => none)
  | none => none
theorem B15_2_ok (fuel : Nat) (st : Ev.St) (K : Ev.Ex → Ev.St → Option Ans) (r : Ans) (h : B15_2 fuel st K = some r) : evalCode tab (G15 fuel) (J15_2 fuel) kp15 fuel (.block 2 (.loop (bodyOf 2 Try.f15))) st K = some r := by
  unfold B15_2 at h
  split at h
  · rename_i s hs
    split at h
    · skip
      obtain ⟨hb, h⟩ := cond_some' h
      simp only [Bool.and_eq_true, Nat.beq_eq, decide_eq_true_eq] at hb
      obtain ⟨⟨⟨⟨⟨⟨⟨⟨⟨⟨⟨⟨⟨⟨rfl, rfl⟩, rfl⟩, rfl⟩, rfl⟩, rfl⟩, rfl⟩, rfl⟩, rfl⟩, rfl⟩, rfl⟩, rfl⟩, rfl⟩, rfl⟩, rfl⟩ := hb
      exact blk_loop (S := T15_2) (ks := E15_2) (step := S_ref11_Dither_2 fuel) (v := (_, _, _, _, _, _, _, _)) (by kernel_rfl) (by kernel_rfl) (fun R K v => by obtain ⟨x0, x1, x2, x3, x4, x5, x6, x7⟩ := v; exact S15_2_ok fuel R K x0 x1 x2 x3 x4 x5 x6 x7) hs h
    · cases h
  · cases h
noncomputable def S_ref11_Dither_0 (fuel : Nat) (v : Int × Int × Int × Int × Int × (List Int) × (List Int)) (c : (Int × Int × Int × Int × Int × (List Int) × (List Int)) → Option Ans) (B : ((List Int) → Option Ans)) : Option Ans := match v, B with
  | (x0, x1, x2, x3, x4, x5, x6), b =>
   bif Decidable.decide (x2 < x4) then
      (L_ref11_Dither_2 fuel (x0, x1, x2, (0 : Int), x3, x4, x5, x6)
        (fun (b2_0, b2_1, b2_2, b2_3, b2_4, b2_5, b2_6) =>
          c (b2_0, b2_1, Go.IntKind.i64.wrap (b2_2 + b2_0), b2_3, b2_4, b2_5, b2_6)))
     else
      b x6
noncomputable def L_ref11_Dither_0 (fuel : Nat) (v : Int × Int × Int × Int × Int × (List Int) × (List Int)) (b : ((List Int) → Option Ans)) : Option Ans := iter (S_ref11_Dither_0 fuel) fuel v b
noncomputable def J15_0 (fuel : Nat) (i : Nat) : Option Ev.Blk := Ev.look i [(100006, B15_6 fuel), (100004, B15_4 fuel), (100002, B15_2 fuel)]
noncomputable def T15_0 (v : Int × Int × Int × Int × Int × (List Int) × (List Int)) : Ev.St := match v with | (x0, x1, x2, x3, x4, x5, x6) => ⟨[(1, .c (.int .i64 x0)), (2, .c (.int .i64 x1)), (3, .c (.ptr 0 0)), (8, .c (.own 1)), (9, .c (.int .i64 x2))], [(0, .cells 40 [.int .i64 x3, .int .i64 x4, .sl (.int .i64) x5]), (1, .vec 3 (.int .i64) x6 true)], 2, 0⟩
noncomputable def E15_0 (K : Ev.Ex → Ev.St → Option Ans) : ((List Int) → Option Ans) := (fun v => match v with | x0 => K .normal ⟨[(8, .c (.own 0))], [(0, .vec 3 (.int .i64) x0 true)], 1, 0⟩)
theorem S15_0_okg (fuel : Nat) (f41 : YF41) (R : Ev.St → Option Ans) (K : Ev.Ex → Ev.St → Option Ans) (x0 : Int) (x1 : Int) (x2 : Int) (x3 : Int) (x4 : Int) (x5 : (List Int)) (x6 : (List Int)) : evalCode tab (Gg15 f41) (J15_0 fuel) kp15 fuel (bodyOf 0 Try.f15) (T15_0 (x0, x1, x2, x3, x4, x5, x6)) (lc kp15 5 0 R K) = (fun (c : (Int × Int × Int × Int × Int × (List Int) × (List Int)) → Option Ans) (B : ((List Int) → Option Ans)) => match B with
  | b =>
   bif Decidable.decide (x2 < x4) then
      (L_ref11_Dither_2 fuel (x0, x1, x2, (0 : Int), x3, x4, x5, x6)
        (fun (b2_0, b2_1, b2_2, b2_3, b2_4, b2_5, b2_6) =>
          c (b2_0, b2_1, Go.IntKind.i64.wrap (b2_2 + b2_0), b2_3, b2_4, b2_5, b2_6)))
     else
      b x6) (fun v => R (T15_0 v)) (E15_0 K) := by
  kernel_rfl
theorem S15_0_ok (fuel : Nat) (R : Ev.St → Option Ans) (K : Ev.Ex → Ev.St → Option Ans) (x0 : Int) (x1 : Int) (x2 : Int) (x3 : Int) (x4 : Int) (x5 : (List Int)) (x6 : (List Int)) : evalCode tab (G15 fuel) (J15_0 fuel) kp15 fuel (bodyOf 0 Try.f15) (T15_0 (x0, x1, x2, x3, x4, x5, x6)) (lc kp15 5 0 R K) = S_ref11_Dither_0 fuel (x0, x1, x2, x3, x4, x5, x6) (fun v => R (T15_0 v)) (E15_0 K) :=
  S15_0_okg fuel (F_ref11_isGrey fuel) R K x0 x1 x2 x3 x4 x5 x6
noncomputable def B15_0 (fuel : Nat) : Ev.Blk := fun st K => match canonO (kp15 5) st with
  | some s => (match s with
    | ⟨[(q0, .c (.int .i64 x0)), (q1, .c (.int .i64 x1)), (q2, .c (.ptr q3 q4)), (q5, .c (.own q6)), (q7, .c (.int .i64 x2))], [(q8, .cells q9 [.int .i64 x3, .int .i64 x4, .sl (.int .i64) x5]), (q10, .vec q11 (.int .i64) x6 true)], q12, q13⟩ => bif Nat.beq q0 1 && Nat.beq q1 2 && Nat.beq q2 3 && Nat.beq q3 0 && Nat.beq q4 0 && Nat.beq q5 8 && Nat.beq q6 1 && Nat.beq q7 9 && Nat.beq q8 0 && Nat.beq q9 40 && Nat.beq q10 1 && Nat.beq q11 3 && Nat.beq q12 2 && Nat.beq q13 0 then iter (S_ref11_Dither_0 fuel) fuel (x0, x1, x2, x3, x4, x5, x6) (E15_0 K) else none
    | _ => none)
  | none => none
theorem B15_0_ok (fuel : Nat) (st : Ev.St) (K : Ev.Ex → Ev.St → Option Ans) (r : Ans) (h : B15_0 fuel st K = some r) : evalCode tab (G15 fuel) (J15_0 fuel) kp15 fuel (.block 0 (.loop (bodyOf 0 Try.f15))) st K = some r := by
  unfold B15_0 at h
  split at h
  · rename_i s hs
    split at h
    · skip
      obtain ⟨hb, h⟩ := cond_some' h
      simp only [Bool.and_eq_true, Nat.beq_eq, decide_eq_true_eq] at hb
      obtain ⟨⟨⟨⟨⟨⟨⟨⟨⟨⟨⟨⟨⟨rfl, rfl⟩, rfl⟩, rfl⟩, rfl⟩, rfl⟩, rfl⟩, rfl⟩, rfl⟩, rfl⟩, rfl⟩, rfl⟩, rfl⟩, rfl⟩ := hb
      exact blk_loop (S := T15_0) (ks := E15_0) (step := S_ref11_Dither_0 fuel) (v := (_, _, _, _, _, _, _)) (by kernel_rfl) (by kernel_rfl) (fun R K v => by obtain ⟨x0, x1, x2, x3, x4, x5, x6⟩ := v; exact S15_0_ok fuel R K x0 x1 x2 x3 x4 x5 x6) hs h
    · cases h
  · cases h
noncomputable def J15 (fuel : Nat) (i : Nat) : Option Ev.Blk := Ev.look i [(100006, B15_6 fuel), (100004, B15_4 fuel), (100002, B15_2 fuel), (100000, B15_0 fuel)]
noncomputable def F_ref11_Dither (fuel : Nat) (x0 : Int) (x1 : Int) (x2 : (List Int)) (x3 : Int) (x4 : Int) (k0 : (Int × (List Int)) → Option Ans) : Option Ans :=
  bif Decidable.decide (x3 < (1 : Int)) then
   k0 ((2 : Int), [])
  else
   bif Decidable.decide (x3 > (16 : Int)) then
    k0 ((2 : Int), [])
   else
    bif Decidable.decide (x4 < (1 : Int)) then
     k0 ((2 : Int), [])
    else
     bif Decidable.decide (x4 > (64 : Int)) then
      k0 ((2 : Int), [])
     else
      (F_ref11_isGrey fuel (x0) (x1) (x2)
        (fun y6 =>
          bif !y6 then
           k0 ((2 : Int), [])
          else
           (L_ref11_Dither_0 fuel (x3, x4, (0 : Int), x0, x1, x2, [])
             (fun b0_0 =>
               k0 ((0 : Int), b0_0)))))
abbrev YF15 : Type := (Int) → (Int) → ((List Int)) → (Int) → (Int) → ((Int × (List Int)) → Option Ans) → Option Ans
theorem F15_eqg (fuel : Nat) (f41 : YF41) (x0 : Int) (x1 : Int) (x2 : (List Int)) (x3 : Int) (x4 : Int) (k : Ev.Cont) : evalFn tab (Gg15 f41) (J15 fuel) kp15 fuel Try.f15 [.agg [.int .i64 x0, .int .i64 x1, .sl (.int .i64) x2], .c (.int .i64 x3), .c (.int .i64 x4)] [] k = (fun  (k0 : (Int × (List Int)) → Option Ans) =>
  bif Decidable.decide (x3 < (1 : Int)) then
   k0 ((2 : Int), [])
  else
   bif Decidable.decide (x3 > (16 : Int)) then
    k0 ((2 : Int), [])
   else
    bif Decidable.decide (x4 < (1 : Int)) then
     k0 ((2 : Int), [])
    else
     bif Decidable.decide (x4 > (64 : Int)) then
      k0 ((2 : Int), [])
     else
      (f41 (x0) (x1) (x2)
        (fun y6 =>
          bif !y6 then
           k0 ((2 : Int), [])
          else
           (L_ref11_Dither_0 fuel (x3, x4, (0 : Int), x0, x1, x2, [])
             (fun b0_0 =>
               k0 ((0 : Int), b0_0)))))) (fun r => match r with | (r0, r1) => k (.tup [(false, [.own 0]), (false, [.int .i64 r0])], [.vec 3 (.int .i64) r1 true])) := by
  kernel_rfl
theorem F15_eq (fuel : Nat) (x0 : Int) (x1 : Int) (x2 : (List Int)) (x3 : Int) (x4 : Int) (k : Ev.Cont) : evalFn tab (G15 fuel) (J15 fuel) kp15 fuel Try.f15 [.agg [.int .i64 x0, .int .i64 x1, .sl (.int .i64) x2], .c (.int .i64 x3), .c (.int .i64 x4)] [] k = F_ref11_Dither fuel x0 x1 x2 x3 x4 (fun r => match r with | (r0, r1) => k (.tup [(false, [.own 0]), (false, [.int .i64 r0])], [.vec 3 (.int .i64) r1 true])) :=
  F15_eqg fuel (F_ref11_isGrey fuel) x0 x1 x2 x3 x4 k
theorem hG15 (fuel : Nat) : GOK Try.prog (G15 fuel) :=
  gok_cons ⟨ok41 fuel, enters_of Try.func41 (by kernel_rfl) rfl⟩ <|
  gok_nil
theorem B15_6_blk (fuel : Nat) : BlkOK Try.prog Try.f15.ntmps (.block 6 (.loop (bodyOf 6 Try.f15))) (B15_6 fuel) :=
  blk_of (blk_of_code tab_ok (hG15 fuel) mixed (J := J15_6 fuel) (kp := kp15) (fuel := fuel) (by kernel_rfl) (fun q hq => by
    rw [(by kernel_rfl : obl (J15_6 fuel) (.block 6 (.loop (bodyOf 6 Try.f15))) = [])] at hq
    cases hq)) (B15_6_ok fuel)
theorem B15_4_blk (fuel : Nat) : BlkOK Try.prog Try.f15.ntmps (.block 4 (.loop (bodyOf 4 Try.f15))) (B15_4 fuel) :=
  blk_of (blk_of_code tab_ok (hG15 fuel) mixed (J := J15_4 fuel) (kp := kp15) (fuel := fuel) (by kernel_rfl) (fun q hq => by
    rw [(by kernel_rfl : obl (J15_4 fuel) (.block 4 (.loop (bodyOf 4 Try.f15))) = [(.block 6 (.loop (bodyOf 6 Try.f15)), B15_6 fuel)])] at hq
    simp only [List.mem_cons, List.not_mem_nil, or_false] at hq
    subst hq
    · exact B15_6_blk fuel)) (B15_4_ok fuel)
theorem B15_2_blk (fuel : Nat) : BlkOK Try.prog Try.f15.ntmps (.block 2 (.loop (bodyOf 2 Try.f15))) (B15_2 fuel) :=
  blk_of (blk_of_code tab_ok (hG15 fuel) mixed (J := J15_2 fuel) (kp := kp15) (fuel := fuel) (by kernel_rfl) (fun q hq => by
    rw [(by kernel_rfl : obl (J15_2 fuel) (.block 2 (.loop (bodyOf 2 Try.f15))) = [(.block 4 (.loop (bodyOf 4 Try.f15)), B15_4 fuel)])] at hq
    simp only [List.mem_cons, List.not_mem_nil, or_false] at hq
    subst hq
    · exact B15_4_blk fuel)) (B15_2_ok fuel)
theorem B15_0_blk (fuel : Nat) : BlkOK Try.prog Try.f15.ntmps (.block 0 (.loop (bodyOf 0 Try.f15))) (B15_0 fuel) :=
  blk_of (blk_of_code tab_ok (hG15 fuel) mixed (J := J15_0 fuel) (kp := kp15) (fuel := fuel) (by kernel_rfl) (fun q hq => by
    rw [(by kernel_rfl : obl (J15_0 fuel) (.block 0 (.loop (bodyOf 0 Try.f15))) = [(.block 2 (.loop (bodyOf 2 Try.f15)), B15_2 fuel)])] at hq
    simp only [List.mem_cons, List.not_mem_nil, or_false] at hq
    subst hq
    · exact B15_2_blk fuel)) (B15_0_ok fuel)
theorem fok15 (fuel : Nat) : FnOK Try.prog 15 (evalFn tab (G15 fuel) (J15 fuel) kp15 fuel Try.f15) :=
  fn_ok tab_ok (hG15 fuel) mixed Try.func15 (c := (Try.f15.body).getD .skip) rfl (fun q hq => by
    rw [(by kernel_rfl : obl (J15 fuel) ((Try.f15.body).getD .skip) = [(.block 0 (.loop (bodyOf 0 Try.f15)), B15_0 fuel)])] at hq
    simp only [List.mem_cons, List.not_mem_nil, or_false] at hq
    subst hq
    · exact B15_0_blk fuel)
noncomputable def mt15 : List Ev.SV → List Ev.Ob → Bool := fun args objs => match args, objs with
  | [.agg [.int .i64 _, .int .i64 _, .sl (.int .i64) _], .c (.int .i64 _), .c (.int .i64 _)], [] => true
  | _, _ => false
noncomputable def spg15 (F : YF15) : Ev.Spec := fun args objs k => match args, objs with
  | [.agg [.int .i64 x0, .int .i64 x1, .sl (.int .i64) x2], .c (.int .i64 x3), .c (.int .i64 x4)], [] => bif true then F x0 x1 x2 x3 x4 (fun r => match r with | (r0, r1) => k (.tup [(false, [.own 0]), (false, [.int .i64 r0])], [.vec 3 (.int .i64) r1 true])) else none
  | _, _ => none
noncomputable def spec15 (fuel : Nat) : Ev.Spec := spg15 (F_ref11_Dither fuel)
theorem ok15 (fuel : Nat) : FnOK Try.prog 15 (spec15 fuel) := by
  intro args objs kk r h
  unfold spec15 spg15 at h
  split at h
  · skip
    obtain ⟨hb, h⟩ := cond_some' h
    simp only [Bool.and_eq_true, Nat.beq_eq, decide_eq_true_eq] at hb
    clear hb
    exact fok15 fuel _ _ kk r ((F15_eq fuel _ _ _ _ _ kk).trans h)
  · cases h
end Go.Proofs.Ytipdidpalcmlhaa

set_option linter.unusedVariables false
set_option linter.unusedSimpArgs false
set_option maxRecDepth 100000
set_option maxHeartbeats 2000000
namespace Go.Proofs.Ytipdidpalcmlhaa
open Go Ev
def kp76 (i : Nat) : Option (List Nat) := Ev.look i [(3, [0, 1, 2, 6, 7, 8]), (100000, [6, 7]), (400000, [6])]
noncomputable def Gg76 (f : Nat) : Option Ev.Spec := Ev.look f []
noncomputable def G76 (fuel : Nat) : Nat → Option Ev.Spec := Gg76
noncomputable def S_ref05_make2_0 (fuel : Nat) (v : Int × Int × Int × Int × Int × Int × Int × Int × (List Int) × (List Int)) (c : (Int × Int × Int × Int × Int × Int × Int × Int × (List Int) × (List Int)) → Option Ans) (B : (Int × Int × Int × Int × (List Int) × (List Int) → Option Ans)) : Option Ans := match v, B with
  | (x0, x1, x2, x3, x4, x5, x6, x7, x8, x9), b =>
   bif Decidable.decide (x3 < Go.IntKind.i64.wrap (x0 * x1)) then
      bif Decidable.decide ((x9.length + [Go.IntKind.u8.wrap x2].length) * (1 : Nat) ≤ (140737488355328 : Nat) ∧ x9.length + [Go.IntKind.u8.wrap x2].length ≤ (140737488355328 : Nat)) then
      c (x0, x1, x2, Go.IntKind.i64.wrap (x3 + (1 : Int)), x4, x5, x6, x7, x8, x9 ++ [Go.IntKind.u8.wrap x2])
      else none
     else
      b (x4, x5, x6, x7, x8, x9)
noncomputable def L_ref05_make2_0 (fuel : Nat) (v : Int × Int × Int × Int × Int × Int × Int × Int × (List Int) × (List Int)) (b : (Int × Int × Int × Int × (List Int) × (List Int) → Option Ans)) : Option Ans := iter (S_ref05_make2_0 fuel) fuel v b
noncomputable def J76_0 (fuel : Nat) (i : Nat) : Option Ev.Blk := Ev.look i []
noncomputable def T76_0 (v : Int × Int × Int × Int × Int × Int × Int × Int × (List Int) × (List Int)) : Ev.St := match v with | (x0, x1, x2, x3, x4, x5, x6, x7, x8, x9) => ⟨[(0, .c (.int .i64 x0)), (1, .c (.int .i64 x1)), (2, .c (.int .i64 x2)), (6, .c (.ptr 0 0)), (7, .c (.ptr 1 0)), (8, .c (.int .i64 x3))], [(0, .cells 35 [.int .i64 x4, .int .i64 x5, .own 2]), (1, .cells 35 [.int .i64 x6, .int .i64 x7, .own 3]), (2, .vec 5 (.int .u8) x8 true), (3, .vec 5 (.int .u8) x9 true)], 4, 0⟩
noncomputable def E76_0 (K : Ev.Ex → Ev.St → Option Ans) : (Int × Int × Int × Int × (List Int) × (List Int) → Option Ans) := (fun v => match v with | (x0, x1, x2, x3, x4, x5) => K .normal ⟨[(6, .c (.ptr 0 0)), (7, .c (.ptr 1 0))], [(0, .cells 35 [.int .i64 x0, .int .i64 x1, .own 2]), (1, .cells 35 [.int .i64 x2, .int .i64 x3, .own 3]), (2, .vec 5 (.int .u8) x4 true), (3, .vec 5 (.int .u8) x5 true)], 4, 0⟩)
theorem S76_0_ok (fuel : Nat) (R : Ev.St → Option Ans) (K : Ev.Ex → Ev.St → Option Ans) (x0 : Int) (x1 : Int) (x2 : Int) (x3 : Int) (x4 : Int) (x5 : Int) (x6 : Int) (x7 : Int) (x8 : (List Int)) (x9 : (List Int)) : evalCode tab (G76 fuel) (J76_0 fuel) kp76 fuel (bodyOf 0 Try.f76) (T76_0 (x0, x1, x2, x3, x4, x5, x6, x7, x8, x9)) (lc kp76 3 0 R K) = S_ref05_make2_0 fuel (x0, x1, x2, x3, x4, x5, x6, x7, x8, x9) (fun v => R (T76_0 v)) (E76_0 K) := by
  kernel_rfl
noncomputable def B76_0 (fuel : Nat) : Ev.Blk := fun st K => match canonO (kp76 3) st with
  | some s => (match s with
    | ⟨[(q0, .c (.int .i64 x0)), (q1, .c (.int .i64 x1)), (q2, .c (.int .i64 x2)), (q3, .c (.ptr q4 q5)), (q6, .c (.ptr q7 q8)), (q9, .c (.int .i64 x3))], [(q10, .cells q11 [.int .i64 x4, .int .i64 x5, .own q12]), (q13, .cells q14 [.int .i64 x6, .int .i64 x7, .own q15]), (q16, .vec q17 (.int .u8) x8 true), (q18, .vec q19 (.int .u8) x9 true)], q20, q21⟩ => bif Nat.beq q0 0 && Nat.beq q1 1 && Nat.beq q2 2 && Nat.beq q3 6 && Nat.beq q4 0 && Nat.beq q5 0 && Nat.beq q6 7 && Nat.beq q7 1 && Nat.beq q8 0 && Nat.beq q9 8 && Nat.beq q10 0 && Nat.beq q11 35 && Nat.beq q12 2 && Nat.beq q13 1 && Nat.beq q14 35 && Nat.beq q15 3 && Nat.beq q16 2 && Nat.beq q17 5 && Nat.beq q18 3 && Nat.beq q19 5 && Nat.beq q20 4 && Nat.beq q21 0 then iter (S_ref05_make2_0 fuel) fuel (x0, x1, x2, x3, x4, x5, x6, x7, x8, x9) (E76_0 K) else none
    | _ => none)
  | none => none
theorem B76_0_ok (fuel : Nat) (st : Ev.St) (K : Ev.Ex → Ev.St → Option Ans) (r : Ans) (h : B76_0 fuel st K = some r) : evalCode tab (G76 fuel) (J76_0 fuel) kp76 fuel (.block 0 (.loop (bodyOf 0 Try.f76))) st K = some r := by
  unfold B76_0 at h
  split at h
  · rename_i s hs
    split at h
    · skip
      obtain ⟨hb, h⟩ := cond_some' h
      simp only [Bool.and_eq_true, Nat.beq_eq, decide_eq_true_eq] at hb
      obtain ⟨⟨⟨⟨⟨⟨⟨⟨⟨⟨⟨⟨⟨⟨⟨⟨⟨⟨⟨⟨⟨rfl, rfl⟩, rfl⟩, rfl⟩, rfl⟩, rfl⟩, rfl⟩, rfl⟩, rfl⟩, rfl⟩, rfl⟩, rfl⟩, rfl⟩, rfl⟩, rfl⟩, rfl⟩, rfl⟩, rfl⟩, rfl⟩, rfl⟩, rfl⟩, rfl⟩ := hb
      exact blk_loop (S := T76_0) (ks := E76_0) (step := S_ref05_make2_0 fuel) (v := (_, _, _, _, _, _, _, _, _, _)) (by kernel_rfl) (by kernel_rfl) (fun R K v => by obtain ⟨x0, x1, x2, x3, x4, x5, x6, x7, x8, x9⟩ := v; exact S76_0_ok fuel R K x0 x1 x2 x3 x4 x5 x6 x7 x8 x9) hs h
    · cases h
  · cases h
noncomputable def J76 (fuel : Nat) (i : Nat) : Option Ev.Blk := Ev.look i [(100000, B76_0 fuel)]
noncomputable def F_ref05_make2 (fuel : Nat) (x0 : Int) (x1 : Int) (x2 : Int) (k0 : (Int × Int × (List Int)) → Option Ans) : Option Ans :=
  (L_ref05_make2_0 fuel (x0, x1, x2, (0 : Int), (0 : Int), (0 : Int), x0, x1, [], [])
    (fun (b0_0, b0_1, b0_2, b0_3, b0_4, b0_5) =>
      k0 (b0_2, b0_3, b0_5)))
abbrev YF76 : Type := (Int) → (Int) → (Int) → ((Int × Int × (List Int)) → Option Ans) → Option Ans
theorem F76_eq (fuel : Nat) (x0 : Int) (x1 : Int) (x2 : Int) (k : Ev.Cont) : evalFn tab (G76 fuel) (J76 fuel) kp76 fuel Try.f76 [.c (.int .i64 x0), .c (.int .i64 x1), .c (.int .i64 x2)] [] k = F_ref05_make2 fuel x0 x1 x2 (fun r => match r with | (r0, r1, r2) => k (.agg [.int .i64 r0, .int .i64 r1, .own 0], [.vec 5 (.int .u8) r2 true])) := by
  kernel_rfl
theorem hG76 (fuel : Nat) : GOK Try.prog (G76 fuel) :=
  gok_nil
theorem B76_0_blk (fuel : Nat) : BlkOK Try.prog Try.f76.ntmps (.block 0 (.loop (bodyOf 0 Try.f76))) (B76_0 fuel) :=
  blk_of (blk_of_code tab_ok (hG76 fuel) mixed (J := J76_0 fuel) (kp := kp76) (fuel := fuel) (by kernel_rfl) (fun q hq => by
    rw [(by kernel_rfl : obl (J76_0 fuel) (.block 0 (.loop (bodyOf 0 Try.f76))) = [])] at hq
    cases hq)) (B76_0_ok fuel)
theorem fok76 (fuel : Nat) : FnOK Try.prog 76 (evalFn tab (G76 fuel) (J76 fuel) kp76 fuel Try.f76) :=
  fn_ok tab_ok (hG76 fuel) mixed Try.func76 (c := (Try.f76.body).getD .skip) rfl (fun q hq => by
    rw [(by kernel_rfl : obl (J76 fuel) ((Try.f76.body).getD .skip) = [(.block 0 (.loop (bodyOf 0 Try.f76)), B76_0 fuel)])] at hq
    simp only [List.mem_cons, List.not_mem_nil, or_false] at hq
    subst hq
    · exact B76_0_blk fuel)
noncomputable def mt76 : List Ev.SV → List Ev.Ob → Bool := fun args objs => match args, objs with
  | [.c (.int .i64 _), .c (.int .i64 _), .c (.int .i64 _)], [] => true
  | _, _ => false
noncomputable def spg76 (F : YF76) : Ev.Spec := fun args objs k => match args, objs with
  | [.c (.int .i64 x0), .c (.int .i64 x1), .c (.int .i64 x2)], [] => bif true then F x0 x1 x2 (fun r => match r with | (r0, r1, r2) => k (.agg [.int .i64 r0, .int .i64 r1, .own 0], [.vec 5 (.int .u8) r2 true])) else none
  | _, _ => none
noncomputable def spec76 (fuel : Nat) : Ev.Spec := spg76 (F_ref05_make2 fuel)
theorem ok76 (fuel : Nat) : FnOK Try.prog 76 (spec76 fuel) := by
  intro args objs kk r h
  unfold spec76 spg76 at h
  split at h
  · skip
    obtain ⟨hb, h⟩ := cond_some' h
    simp only [Bool.and_eq_true, Nat.beq_eq, decide_eq_true_eq] at hb
    clear hb
    exact fok76 fuel _ _ kk r ((F76_eq fuel _ _ _ kk).trans h)
  · cases h
end Go.Proofs.Ytipdidpalcmlhaa

set_option linter.unusedVariables false
set_option linter.unusedSimpArgs false
set_option maxRecDepth 100000
set_option maxHeartbeats 2000000
namespace Go.Proofs.Ytipdidpalcmlhaa
open Go Ev
def kp31 (i : Nat) : Option (List Nat) := Ev.look i []
noncomputable def Gg31 (f75 : YF75) (f76 : YF76) (f : Nat) : Option Ev.Spec := Ev.look f [(75, spg75 f75), (76, spg76 f76)]
noncomputable def G31 (fuel : Nat) : Nat → Option Ev.Spec := Gg31 (F_ref05_Sides fuel) (F_ref05_make2 fuel)
noncomputable def J31 (fuel : Nat) (i : Nat) : Option Ev.Blk := Ev.look i []
noncomputable def F_ref05_New (fuel : Nat) (x0 : Int) (x1 : Int) (x2 : Int) (k0 : (Int × Int × Int × (List Int)) → Option Ans) : Option Ans :=
  bif Decidable.decide (x0 < (0 : Int)) then
   k0 ((0 : Int), (0 : Int), (2 : Int), [])
  else
   bif Decidable.decide (x1 < (0 : Int)) then
    k0 ((0 : Int), (0 : Int), (2 : Int), [])
   else
    bif Decidable.decide (x2 < (0 : Int)) then
     k0 ((0 : Int), (0 : Int), (2 : Int), [])
    else
     bif Decidable.decide (x2 > (1 : Int)) then
      k0 ((0 : Int), (0 : Int), (2 : Int), [])
     else
      (F_ref05_Sides fuel (x0) (x1)
        (fun y6 =>
          bif !y6 then
           k0 ((0 : Int), (0 : Int), (4 : Int), [])
          else
           (F_ref05_make2 fuel (x0) (x1) (x2)
             (fun (y11_0, y11_1, y11_2) =>
               k0 (y11_0, y11_1, (0 : Int), y11_2)))))
abbrev YF31 : Type := (Int) → (Int) → (Int) → ((Int × Int × Int × (List Int)) → Option Ans) → Option Ans
theorem F31_eqg (fuel : Nat) (f75 : YF75) (f76 : YF76) (x0 : Int) (x1 : Int) (x2 : Int) (k : Ev.Cont) : evalFn tab (Gg31 f75 f76) (J31 fuel) kp31 fuel Try.f31 [.c (.int .i64 x0), .c (.int .i64 x1), .c (.int .i64 x2)] [] k = (fun  (k0 : (Int × Int × Int × (List Int)) → Option Ans) =>
  bif Decidable.decide (x0 < (0 : Int)) then
   k0 ((0 : Int), (0 : Int), (2 : Int), [])
  else
   bif Decidable.decide (x1 < (0 : Int)) then
    k0 ((0 : Int), (0 : Int), (2 : Int), [])
   else
    bif Decidable.decide (x2 < (0 : Int)) then
     k0 ((0 : Int), (0 : Int), (2 : Int), [])
    else
     bif Decidable.decide (x2 > (1 : Int)) then
      k0 ((0 : Int), (0 : Int), (2 : Int), [])
     else
      (f75 (x0) (x1)
        (fun y6 =>
          bif !y6 then
           k0 ((0 : Int), (0 : Int), (4 : Int), [])
          else
           (f76 (x0) (x1) (x2)
             (fun (y11_0, y11_1, y11_2) =>
               k0 (y11_0, y11_1, (0 : Int), y11_2)))))) (fun r => match r with | (r0, r1, r2, r3) => k (.tup [(true, [.int .i64 r0, .int .i64 r1, .own 0]), (false, [.int .i64 r2])], [.vec 5 (.int .u8) r3 true])) := by
  kernel_rfl
theorem F31_eq (fuel : Nat) (x0 : Int) (x1 : Int) (x2 : Int) (k : Ev.Cont) : evalFn tab (G31 fuel) (J31 fuel) kp31 fuel Try.f31 [.c (.int .i64 x0), .c (.int .i64 x1), .c (.int .i64 x2)] [] k = F_ref05_New fuel x0 x1 x2 (fun r => match r with | (r0, r1, r2, r3) => k (.tup [(true, [.int .i64 r0, .int .i64 r1, .own 0]), (false, [.int .i64 r2])], [.vec 5 (.int .u8) r3 true])) :=
  F31_eqg fuel (F_ref05_Sides fuel) (F_ref05_make2 fuel) x0 x1 x2 k
theorem hG31 (fuel : Nat) : GOK Try.prog (G31 fuel) :=
  gok_cons ⟨ok75 fuel, enters_of Try.func75 (by kernel_rfl) rfl⟩ <|
  gok_cons ⟨ok76 fuel, enters_of Try.func76 (by kernel_rfl) rfl⟩ <|
  gok_nil
theorem fok31 (fuel : Nat) : FnOK Try.prog 31 (evalFn tab (G31 fuel) (J31 fuel) kp31 fuel Try.f31) :=
  fn_ok tab_ok (hG31 fuel) mixed Try.func31 (c := (Try.f31.body).getD .skip) rfl (fun q hq => by
    rw [(by kernel_rfl : obl (J31 fuel) ((Try.f31.body).getD .skip) = [])] at hq
    cases hq)
noncomputable def mt31 : List Ev.SV → List Ev.Ob → Bool := fun args objs => match args, objs with
  | [.c (.int .i64 _), .c (.int .i64 _), .c (.int .i64 _)], [] => true
  | _, _ => false
noncomputable def spg31 (F : YF31) : Ev.Spec := fun args objs k => match args, objs with
  | [.c (.int .i64 x0), .c (.int .i64 x1), .c (.int .i64 x2)], [] => bif true then F x0 x1 x2 (fun r => match r with | (r0, r1, r2, r3) => k (.tup [(true, [.int .i64 r0, .int .i64 r1, .own 0]), (false, [.int .i64 r2])], [.vec 5 (.int .u8) r3 true])) else none
  | _, _ => none
noncomputable def spec31 (fuel : Nat) : Ev.Spec := spg31 (F_ref05_New fuel)
theorem ok31 (fuel : Nat) : FnOK Try.prog 31 (spec31 fuel) := by
  intro args objs kk r h
  unfold spec31 spg31 at h
  split at h
  · skip
    obtain ⟨hb, h⟩ := cond_some' h
    simp only [Bool.and_eq_true, Nat.beq_eq, decide_eq_true_eq] at hb
    clear hb
    exact fok31 fuel _ _ kk r ((F31_eq fuel _ _ _ kk).trans h)
  · cases h
end Go.Proofs.Ytipdidpalcmlhaa

set_option linter.unusedVariables false
set_option linter.unusedSimpArgs false
set_option maxRecDepth 100000
set_option maxHeartbeats 2000000
namespace Go.Proofs.Ytipdidpalcmlhaa
open Go Ev
def kp13 (i : Nat) : Option (List Nat) := Ev.look i [(6, [0, 1, 6, 7, 8]), (9, [0, 1, 6, 7, 8, 9]), (15, [0, 1, 6, 7, 10, 11]), (19, [0, 1, 6, 7, 10, 11, 12, 14]), (100000, [0, 1, 6, 7]), (100002, [0, 1, 6, 7, 8]), (100004, [10]), (100006, [0, 1, 6, 7, 10, 11, 12]), (200021, [7, 12]), (400000, [4, 5]), (400002, [4, 5]), (400004, [4, 5]), (400006, [4, 5])]
noncomputable def Gg13 (f31 : YF31) (f : Nat) : Option Ev.Spec := Ev.look f [(31, spg31 f31)]
noncomputable def G13 (fuel : Nat) : Nat → Option Ev.Spec := Gg13 (F_ref05_New fuel)
noncomputable def S_ref11_Screen_2 (fuel : Nat) (v : Int × Int × Int × Int × Int × (List Int)) (c : (Int × Int × Int × Int × Int × (List Int)) → Option Ans) (B : (Int × Int × Int × Int × (List Int) → Option Ans)) : Option Ans := match v, B with
  | (x0, x1, x2, x3, x4, x5), b =>
   bif Decidable.decide (x4 < x2) then
      bif Decidable.decide (x0 = (0 : Int)) then
       none
      else
       bif Decidable.decide (x0 = (0 : Int)) then
        none
       else
        bif Decidable.decide (x2 = (0 : Int)) then
         none
        else
         bif (Go.IntKind.i64.wrap (Go.IntKind.i64.wrap (x4.tmod x0 * (7 : Int)) + Go.IntKind.i64.wrap (Go.IntKind.i64.wrap (x4.tdiv x0) * (3 : Int)))).tmod x2 == x3 then
          bif Decidable.decide ((x5.length + [x4].length) * (8 : Nat) ≤ (140737488355328 : Nat) ∧ x5.length + [x4].length ≤ (140737488355328 : Nat)) then
          c (x0, x1, x2, x3, Go.IntKind.i64.wrap (x4 + (1 : Int)), x5 ++ [x4])
          else none
         else
          c (x0, x1, x2, x3, Go.IntKind.i64.wrap (x4 + (1 : Int)), x5)
     else
      b (x0, x1, x2, x3, x5)
noncomputable def L_ref11_Screen_2 (fuel : Nat) (v : Int × Int × Int × Int × Int × (List Int)) (b : (Int × Int × Int × Int × (List Int) → Option Ans)) : Option Ans := iter (S_ref11_Screen_2 fuel) fuel v b
noncomputable def J13_2 (fuel : Nat) (i : Nat) : Option Ev.Blk := Ev.look i []
noncomputable def T13_2 (v : Int × Int × Int × Int × Int × (List Int)) : Ev.St := match v with | (x0, x1, x2, x3, x4, x5) => ⟨[(0, .c (.int .i64 x0)), (1, .c (.int .i64 x1)), (6, .c (.int .i64 x2)), (7, .c (.own 0)), (8, .c (.int .i64 x3)), (9, .c (.int .i64 x4))], [(0, .vec 3 (.int .i64) x5 true)], 1, 0⟩
noncomputable def E13_2 (K : Ev.Ex → Ev.St → Option Ans) : (Int × Int × Int × Int × (List Int) → Option Ans) := (fun v => match v with | (x0, x1, x2, x3, x4) => K .normal ⟨[(0, .c (.int .i64 x0)), (1, .c (.int .i64 x1)), (6, .c (.int .i64 x2)), (7, .c (.own 0)), (8, .c (.int .i64 x3))], [(0, .vec 3 (.int .i64) x4 true)], 1, 0⟩)
theorem S13_2_okg (fuel : Nat) (f31 : YF31) (R : Ev.St → Option Ans) (K : Ev.Ex → Ev.St → Option Ans) (x0 : Int) (x1 : Int) (x2 : Int) (x3 : Int) (x4 : Int) (x5 : (List Int)) : evalCode tab (Gg13 f31) (J13_2 fuel) kp13 fuel (bodyOf 2 Try.f13) (T13_2 (x0, x1, x2, x3, x4, x5)) (lc kp13 9 2 R K) = (fun (c : (Int × Int × Int × Int × Int × (List Int)) → Option Ans) (B : (Int × Int × Int × Int × (List Int) → Option Ans)) => match B with
  | b =>
   bif Decidable.decide (x4 < x2) then
      bif Decidable.decide (x0 = (0 : Int)) then
       none
      else
       bif Decidable.decide (x0 = (0 : Int)) then
        none
       else
        bif Decidable.decide (x2 = (0 : Int)) then
         none
        else
         bif (Go.IntKind.i64.wrap (Go.IntKind.i64.wrap (x4.tmod x0 * (7 : Int)) + Go.IntKind.i64.wrap (Go.IntKind.i64.wrap (x4.tdiv x0) * (3 : Int)))).tmod x2 == x3 then
          bif Decidable.decide ((x5.length + [x4].length) * (8 : Nat) ≤ (140737488355328 : Nat) ∧ x5.length + [x4].length ≤ (140737488355328 : Nat)) then
          c (x0, x1, x2, x3, Go.IntKind.i64.wrap (x4 + (1 : Int)), x5 ++ [x4])
          else none
         else
          c (x0, x1, x2, x3, Go.IntKind.i64.wrap (x4 + (1 : Int)), x5)
     else
      b (x0, x1, x2, x3, x5)) (fun v => R (T13_2 v)) (E13_2 K) := by
  kernel_rfl
theorem S13_2_ok (fuel : Nat) (R : Ev.St → Option Ans) (K : Ev.Ex → Ev.St → Option Ans) (x0 : Int) (x1 : Int) (x2 : Int) (x3 : Int) (x4 : Int) (x5 : (List Int)) : evalCode tab (G13 fuel) (J13_2 fuel) kp13 fuel (bodyOf 2 Try.f13) (T13_2 (x0, x1, x2, x3, x4, x5)) (lc kp13 9 2 R K) = S_ref11_Screen_2 fuel (x0, x1, x2, x3, x4, x5) (fun v => R (T13_2 v)) (E13_2 K) :=
  S13_2_okg fuel (F_ref05_New fuel) R K x0 x1 x2 x3 x4 x5
noncomputable def B13_2 (fuel : Nat) : Ev.Blk := fun st K => match canonO (kp13 9) st with
  | some s => (match s with
    | ⟨[(q0, .c (.int .i64 x0)), (q1, .c (.int .i64 x1)), (q2, .c (.int .i64 x2)), (q3, .c (.own q4)), (q5, .c (.int .i64 x3)), (q6, .c (.int .i64 x4))], [(q7, .vec q8 (.int .i64) x5 true)], q9, q10⟩ => bif Nat.beq q0 0 && Nat.beq q1 1 && Nat.beq q2 6 && Nat.beq q3 7 && Nat.beq q4 0 && Nat.beq q5 8 && Nat.beq q6 9 && Nat.beq q7 0 && Nat.beq q8 3 && Nat.beq q9 1 && Nat.beq q10 0 then iter (S_ref11_Screen_2 fuel) fuel (x0, x1, x2, x3, x4, x5) (E13_2 K) else none
    | _ => none)
  | none => none
theorem B13_2_ok (fuel : Nat) (st : Ev.St) (K : Ev.Ex → Ev.St → Option Ans) (r : Ans) (h : B13_2 fuel st K = some r) : evalCode tab (G13 fuel) (J13_2 fuel) kp13 fuel (.block 2 (.loop (bodyOf 2 Try.f13))) st K = some r := by
  unfold B13_2 at h
  split at h
  · rename_i s hs
    split at h
    · skip
      obtain ⟨hb, h⟩ := cond_some' h
      simp only [Bool.and_eq_true, Nat.beq_eq, decide_eq_true_eq] at hb
      obtain ⟨⟨⟨⟨⟨⟨⟨⟨⟨⟨rfl, rfl⟩, rfl⟩, rfl⟩, rfl⟩, rfl⟩, rfl⟩, rfl⟩, rfl⟩, rfl⟩, rfl⟩ := hb
      exact blk_loop (S := T13_2) (ks := E13_2) (step := S_ref11_Screen_2 fuel) (v := (_, _, _, _, _, _)) (by kernel_rfl) (by kernel_rfl) (fun R K v => by obtain ⟨x0, x1, x2, x3, x4, x5⟩ := v; exact S13_2_ok fuel R K x0 x1 x2 x3 x4 x5) hs h
    · cases h
  · cases h
noncomputable def S_ref11_Screen_0 (fuel : Nat) (v : Int × Int × Int × Int × (List Int)) (c : (Int × Int × Int × Int × (List Int)) → Option Ans) (B : (Int × Int × Int × (List Int) → Option Ans)) : Option Ans := match v, B with
  | (x0, x1, x2, x3, x4), b =>
   bif Decidable.decide (x3 < x2) then
      (L_ref11_Screen_2 fuel (x0, x1, x2, x3, (0 : Int), x4)
        (fun (b2_0, b2_1, b2_2, b2_3, b2_4) =>
          c (b2_0, b2_1, b2_2, Go.IntKind.i64.wrap (b2_3 + (1 : Int)), b2_4)))
     else
      b (x0, x1, x2, x4)
noncomputable def L_ref11_Screen_0 (fuel : Nat) (v : Int × Int × Int × Int × (List Int)) (b : (Int × Int × Int × (List Int) → Option Ans)) : Option Ans := iter (S_ref11_Screen_0 fuel) fuel v b
noncomputable def J13_0 (fuel : Nat) (i : Nat) : Option Ev.Blk := Ev.look i [(100002, B13_2 fuel)]
noncomputable def T13_0 (v : Int × Int × Int × Int × (List Int)) : Ev.St := match v with | (x0, x1, x2, x3, x4) => ⟨[(0, .c (.int .i64 x0)), (1, .c (.int .i64 x1)), (6, .c (.int .i64 x2)), (7, .c (.own 0)), (8, .c (.int .i64 x3))], [(0, .vec 3 (.int .i64) x4 true)], 1, 0⟩
noncomputable def E13_0 (K : Ev.Ex → Ev.St → Option Ans) : (Int × Int × Int × (List Int) → Option Ans) := (fun v => match v with | (x0, x1, x2, x3) => K .normal ⟨[(0, .c (.int .i64 x0)), (1, .c (.int .i64 x1)), (6, .c (.int .i64 x2)), (7, .c (.own 0))], [(0, .vec 3 (.int .i64) x3 true)], 1, 0⟩)
theorem S13_0_okg (fuel : Nat) (f31 : YF31) (R : Ev.St → Option Ans) (K : Ev.Ex → Ev.St → Option Ans) (x0 : Int) (x1 : Int) (x2 : Int) (x3 : Int) (x4 : (List Int)) : evalCode tab (Gg13 f31) (J13_0 fuel) kp13 fuel (bodyOf 0 Try.f13) (T13_0 (x0, x1, x2, x3, x4)) (lc kp13 6 0 R K) = (fun (c : (Int × Int × Int × Int × (List Int)) → Option Ans) (B : (Int × Int × Int × (List Int) → Option Ans)) => match B with
  | b =>
   bif Decidable.decide (x3 < x2) then
      (L_ref11_Screen_2 fuel (x0, x1, x2, x3, (0 : Int), x4)
        (fun (b2_0, b2_1, b2_2, b2_3, b2_4) =>
          c (b2_0, b2_1, b2_2, Go.IntKind.i64.wrap (b2_3 + (1 : Int)), b2_4)))
     else
      b (x0, x1, x2, x4)) (fun v => R (T13_0 v)) (E13_0 K) := by
  kernel_rfl
theorem S13_0_ok (fuel : Nat) (R : Ev.St → Option Ans) (K : Ev.Ex → Ev.St → Option Ans) (x0 : Int) (x1 : Int) (x2 : Int) (x3 : Int) (x4 : (List Int)) : evalCode tab (G13 fuel) (J13_0 fuel) kp13 fuel (bodyOf 0 Try.f13) (T13_0 (x0, x1, x2, x3, x4)) (lc kp13 6 0 R K) = S_ref11_Screen_0 fuel (x0, x1, x2, x3, x4) (fun v => R (T13_0 v)) (E13_0 K) :=
  S13_0_okg fuel (F_ref05_New fuel) R K x0 x1 x2 x3 x4
noncomputable def B13_0 (fuel : Nat) : Ev.Blk := fun st K => match canonO (kp13 6) st with
  | some s => (match s with
    | ⟨[(q0, .c (.int .i64 x0)), (q1, .c (.int .i64 x1)), (q2, .c (.int .i64 x2)), (q3, .c (.own q4)), (q5, .c (.int .i64 x3))], [(q6, .vec q7 (.int .i64) x4 true)], q8, q9⟩ => bif Nat.beq q0 0 && Nat.beq q1 1 && Nat.beq q2 6 && Nat.beq q3 7 && Nat.beq q4 0 && Nat.beq q5 8 && Nat.beq q6 0 && Nat.beq q7 3 && Nat.beq q8 1 && Nat.beq q9 0 then iter (S_ref11_Screen_0 fuel) fuel (x0, x1, x2, x3, x4) (E13_0 K) else none
    | _ => none)
  | none => none
theorem B13_0_ok (fuel : Nat) (st : Ev.St) (K : Ev.Ex → Ev.St → Option Ans) (r : Ans) (h : B13_0 fuel st K = some r) : evalCode tab (G13 fuel) (J13_0 fuel) kp13 fuel (.block 0 (.loop (bodyOf 0 Try.f13))) st K = some r := by
  unfold B13_0 at h
  split at h
  · rename_i s hs
    split at h
    · skip
      obtain ⟨hb, h⟩ := cond_some' h
      simp only [Bool.and_eq_true, Nat.beq_eq, decide_eq_true_eq] at hb
      obtain ⟨⟨⟨⟨⟨⟨⟨⟨⟨rfl, rfl⟩, rfl⟩, rfl⟩, rfl⟩, rfl⟩, rfl⟩, rfl⟩, rfl⟩, rfl⟩ := hb
      exact blk_loop (S := T13_0) (ks := E13_0) (step := S_ref11_Screen_0 fuel) (v := (_, _, _, _, _)) (by kernel_rfl) (by kernel_rfl) (fun R K v => by obtain ⟨x0, x1, x2, x3, x4⟩ := v; exact S13_0_ok fuel R K x0 x1 x2 x3 x4) hs h
    · cases h
  · cases h
noncomputable def S_ref11_Screen_6 (fuel : Nat) (v : Int × Int × Int × Int × Int × (List Int) × (List (Int × (Int × (List Int)))) × Int × Int × (List Int)) (c : (Int × Int × Int × Int × Int × (List Int) × (List (Int × (Int × (List Int)))) × Int × Int × (List Int)) → Option Ans) (B : (Int × Int × Int × Int × (List Int) × (List (Int × (Int × (List Int)))) × Int × Int × (List Int) → Option Ans)) : Option Ans := match v, B with
  | (x0, x1, x2, x3, x4, x5, x6, x7, x8, x9), b =>
   bif Decidable.decide (x1 = (0 : Int)) then
      none
     else
      bif Decidable.decide (x4 < Go.IntKind.i64.wrap ((Go.IntKind.i64.wrap (x3 * x2)).tdiv x1)) then
       bif Decidable.decide ((0 : Int) ≤ x4 ∧ x4 < (↑x5.length : Int)) then
       bif Decidable.decide ((0 : Int) ≤ x5.getD x4.toNat (0 : Int) ∧ x5.getD x4.toNat (0 : Int) < (↑x9.length : Int)) then
        c (x0, x1, x2, x3, Go.IntKind.i64.wrap (x4 + (1 : Int)), x5, x6, x7, x8, x9.set (Int.toNat (x5.getD x4.toNat (0 : Int))) (1 : Int))
        else none
       else none
      else
       b (x0, x1, x2, x3, x5, x6, x7, x8, x9)
noncomputable def L_ref11_Screen_6 (fuel : Nat) (v : Int × Int × Int × Int × Int × (List Int) × (List (Int × (Int × (List Int)))) × Int × Int × (List Int)) (b : (Int × Int × Int × Int × (List Int) × (List (Int × (Int × (List Int)))) × Int × Int × (List Int) → Option Ans)) : Option Ans := iter (S_ref11_Screen_6 fuel) fuel v b
noncomputable def J13_6 (fuel : Nat) (i : Nat) : Option Ev.Blk := Ev.look i [(100002, B13_2 fuel), (100000, B13_0 fuel)]
noncomputable def T13_6 (v : Int × Int × Int × Int × Int × (List Int) × (List (Int × (Int × (List Int)))) × Int × Int × (List Int)) : Ev.St := match v with | (x0, x1, x2, x3, x4, x5, x6, x7, x8, x9) => ⟨[(0, .c (.int .i64 x0)), (1, .c (.int .i64 x1)), (6, .c (.int .i64 x2)), (7, .c (.own 0)), (10, .c (.own 1)), (11, .c (.int .i64 x3)), (12, .c (.ptr 2 0)), (14, .c (.int .i64 x4))], [(0, .vec 3 (.int .i64) x5 true), (1, .vec 35 (.pair (.int .i64) (.pair (.int .i64) (.sl (.int .u8)))) x6 true), (2, .cells 35 [.int .i64 x7, .int .i64 x8, .own 3]), (3, .vec 5 (.int .u8) x9 true)], 4, 0⟩
noncomputable def E13_6 (K : Ev.Ex → Ev.St → Option Ans) : (Int × Int × Int × Int × (List Int) × (List (Int × (Int × (List Int)))) × Int × Int × (List Int) → Option Ans) := (fun v => match v with | (x0, x1, x2, x3, x4, x5, x6, x7, x8) => K .normal ⟨[(0, .c (.int .i64 x0)), (1, .c (.int .i64 x1)), (6, .c (.int .i64 x2)), (7, .c (.own 0)), (10, .c (.own 1)), (11, .c (.int .i64 x3)), (12, .c (.ptr 2 0))], [(0, .vec 3 (.int .i64) x4 true), (1, .vec 35 (.pair (.int .i64) (.pair (.int .i64) (.sl (.int .u8)))) x5 true), (2, .cells 35 [.int .i64 x6, .int .i64 x7, .own 3]), (3, .vec 5 (.int .u8) x8 true)], 4, 0⟩)
theorem S13_6_okg (fuel : Nat) (f31 : YF31) (R : Ev.St → Option Ans) (K : Ev.Ex → Ev.St → Option Ans) (x0 : Int) (x1 : Int) (x2 : Int) (x3 : Int) (x4 : Int) (x5 : (List Int)) (x6 : (List (Int × (Int × (List Int))))) (x7 : Int) (x8 : Int) (x9 : (List Int)) : evalCode tab (Gg13 f31) (J13_6 fuel) kp13 fuel (bodyOf 6 Try.f13) (T13_6 (x0, x1, x2, x3, x4, x5, x6, x7, x8, x9)) (lc kp13 19 6 R K) = (fun (c : (Int × Int × Int × Int × Int × (List Int) × (List (Int × (Int × (List Int)))) × Int × Int × (List Int)) → Option Ans) (B : (Int × Int × Int × Int × (List Int) × (List (Int × (Int × (List Int)))) × Int × Int × (List Int) → Option Ans)) => match B with
  | b =>
   bif Decidable.decide (x1 = (0 : Int)) then
      none
     else
      bif Decidable.decide (x4 < Go.IntKind.i64.wrap ((Go.IntKind.i64.wrap (x3 * x2)).tdiv x1)) then
       bif Decidable.decide ((0 : Int) ≤ x4 ∧ x4 < (↑x5.length : Int)) then
       bif Decidable.decide ((0 : Int) ≤ x5.getD x4.toNat (0 : Int) ∧ x5.getD x4.toNat (0 : Int) < (↑x9.length : Int)) then
        c (x0, x1, x2, x3, Go.IntKind.i64.wrap (x4 + (1 : Int)), x5, x6, x7, x8, x9.set (Int.toNat (x5.getD x4.toNat (0 : Int))) (1 : Int))
        else none
       else none
      else
       b (x0, x1, x2, x3, x5, x6, x7, x8, x9)) (fun v => R (T13_6 v)) (E13_6 K) := by
  kernel_rfl
theorem S13_6_ok (fuel : Nat) (R : Ev.St → Option Ans) (K : Ev.Ex → Ev.St → Option Ans) (x0 : Int) (x1 : Int) (x2 : Int) (x3 : Int) (x4 : Int) (x5 : (List Int)) (x6 : (List (Int × (Int × (List Int))))) (x7 : Int) (x8 : Int) (x9 : (List Int)) : evalCode tab (G13 fuel) (J13_6 fuel) kp13 fuel (bodyOf 6 Try.f13) (T13_6 (x0, x1, x2, x3, x4, x5, x6, x7, x8, x9)) (lc kp13 19 6 R K) = S_ref11_Screen_6 fuel (x0, x1, x2, x3, x4, x5, x6, x7, x8, x9) (fun v => R (T13_6 v)) (E13_6 K) :=
  S13_6_okg fuel (F_ref05_New fuel) R K x0 x1 x2 x3 x4 x5 x6 x7 x8 x9
noncomputable def B13_6 (fuel : Nat) : Ev.Blk := fun st K => match canonO (kp13 19) st with
  | some s => (match s with
    | ⟨[(q0, .c (.int .i64 x0)), (q1, .c (.int .i64 x1)), (q2, .c (.int .i64 x2)), (q3, .c (.own q4)), (q5, .c (.own q6)), (q7, .c (.int .i64 x3)), (q8, .c (.ptr q9 q10)), (q11, .c (.int .i64 x4))], [(q12, .vec q13 (.int .i64) x5 true), (q14, .vec q15 (.pair (.int .i64) (.pair (.int .i64) (.sl (.int .u8)))) x6 true), (q16, .cells q17 [.int .i64 x7, .int .i64 x8, .own q18]), (q19, .vec q20 (.int .u8) x9 true)], q21, q22⟩ => bif Nat.beq q0 0 && Nat.beq q1 1 && Nat.beq q2 6 && Nat.beq q3 7 && Nat.beq q4 0 && Nat.beq q5 10 && Nat.beq q6 1 && Nat.beq q7 11 && Nat.beq q8 12 && Nat.beq q9 2 && Nat.beq q10 0 && Nat.beq q11 14 && Nat.beq q12 0 && Nat.beq q13 3 && Nat.beq q14 1 && Nat.beq q15 35 && Nat.beq q16 2 && Nat.beq q17 35 && Nat.beq q18 3 && Nat.beq q19 3 && Nat.beq q20 5 && Nat.beq q21 4 && Nat.beq q22 0 then iter (S_ref11_Screen_6 fuel) fuel (x0, x1, x2, x3, x4, x5, x6, x7, x8, x9) (E13_6 K) else none
    | _ => none)
  | none => none
theorem B13_6_ok (fuel : Nat) (st : Ev.St) (K : Ev.Ex → Ev.St → Option Ans) (r : Ans) (h : B13_6 fuel st K = some r) : evalCode tab (G13 fuel) (J13_6 fuel) kp13 fuel (.block 6 (.loop (bodyOf 6 Try.f13))) st K = some r := by
  unfold B13_6 at h
  split at h
  · rename_i s hs
    split at h
    · skip
      obtain ⟨hb, h⟩ := cond_some' h
      simp only [Bool.and_eq_true, Nat.beq_eq, decide_eq_true_eq] at hb
      obtain ⟨⟨⟨⟨⟨⟨⟨⟨⟨⟨⟨⟨⟨⟨⟨⟨⟨⟨⟨⟨⟨⟨rfl, rfl⟩, rfl⟩, rfl⟩, rfl⟩, rfl⟩, rfl⟩, rfl⟩, rfl⟩, rfl⟩, rfl⟩, rfl⟩, rfl⟩, rfl⟩, rfl⟩, rfl⟩, rfl⟩, rfl⟩, rfl⟩, rfl⟩, rfl⟩, rfl⟩, rfl⟩ := hb
      exact blk_loop (S := T13_6) (ks := E13_6) (step := S_ref11_Screen_6 fuel) (v := (_, _, _, _, _, _, _, _, _, _)) (by kernel_rfl) (by kernel_rfl) (fun R K v => by obtain ⟨x0, x1, x2, x3, x4, x5, x6, x7, x8, x9⟩ := v; exact S13_6_ok fuel R K x0 x1 x2 x3 x4 x5 x6 x7 x8 x9) hs h
    · cases h
  · cases h
noncomputable def S_ref11_Screen_4 (fuel : Nat) (v : Int × Int × Int × Int × (List Int) × (List (Int × (Int × (List Int))))) (c : (Int × Int × Int × Int × (List Int) × (List (Int × (Int × (List Int))))) → Option Ans) (B : ((List (Int × (Int × (List Int)))) → Option Ans)) : Option Ans := match v, B with
  | (x0, x1, x2, x3, x4, x5), b =>
   bif Decidable.decide (x3 < x1) then
      (F_ref05_New fuel (x0) (x0) ((0 : Int))
        (fun (y3_0, y3_1, y3_2, y3_3) =>
          (L_ref11_Screen_6 fuel (x0, x1, x2, x3, (0 : Int), x4, x5, y3_0, y3_1, y3_3)
            (fun (b6_0, b6_1, b6_2, b6_3, b6_4, b6_5, b6_6, b6_7, b6_8) =>
              bif Decidable.decide ((b6_5.length + [(b6_6, b6_7, b6_8)].length) * (40 : Nat) ≤ (140737488355328 : Nat) ∧ b6_5.length + [(b6_6, b6_7, b6_8)].length ≤ (140737488355328 : Nat)) then
              c (b6_0, b6_1, b6_2, Go.IntKind.i64.wrap (b6_3 + (1 : Int)), b6_4, b6_5 ++ [(b6_6, b6_7, b6_8)])
              else none))))
     else
      b x5
noncomputable def L_ref11_Screen_4 (fuel : Nat) (v : Int × Int × Int × Int × (List Int) × (List (Int × (Int × (List Int))))) (b : ((List (Int × (Int × (List Int)))) → Option Ans)) : Option Ans := iter (S_ref11_Screen_4 fuel) fuel v b
noncomputable def J13_4 (fuel : Nat) (i : Nat) : Option Ev.Blk := Ev.look i [(100002, B13_2 fuel), (100000, B13_0 fuel), (100006, B13_6 fuel)]
noncomputable def T13_4 (v : Int × Int × Int × Int × (List Int) × (List (Int × (Int × (List Int))))) : Ev.St := match v with | (x0, x1, x2, x3, x4, x5) => ⟨[(0, .c (.int .i64 x0)), (1, .c (.int .i64 x1)), (6, .c (.int .i64 x2)), (7, .c (.own 0)), (10, .c (.own 1)), (11, .c (.int .i64 x3))], [(0, .vec 3 (.int .i64) x4 true), (1, .vec 35 (.pair (.int .i64) (.pair (.int .i64) (.sl (.int .u8)))) x5 true)], 2, 0⟩
noncomputable def E13_4 (K : Ev.Ex → Ev.St → Option Ans) : ((List (Int × (Int × (List Int)))) → Option Ans) := (fun v => match v with | x0 => K .normal ⟨[(10, .c (.own 0))], [(0, .vec 35 (.pair (.int .i64) (.pair (.int .i64) (.sl (.int .u8)))) x0 true)], 1, 0⟩)
theorem S13_4_okg (fuel : Nat) (f31 : YF31) (R : Ev.St → Option Ans) (K : Ev.Ex → Ev.St → Option Ans) (x0 : Int) (x1 : Int) (x2 : Int) (x3 : Int) (x4 : (List Int)) (x5 : (List (Int × (Int × (List Int))))) : evalCode tab (Gg13 f31) (J13_4 fuel) kp13 fuel (bodyOf 4 Try.f13) (T13_4 (x0, x1, x2, x3, x4, x5)) (lc kp13 15 4 R K) = (fun (c : (Int × Int × Int × Int × (List Int) × (List (Int × (Int × (List Int))))) → Option Ans) (B : ((List (Int × (Int × (List Int)))) → Option Ans)) => match B with
  | b =>
   bif Decidable.decide (x3 < x1) then
      (f31 (x0) (x0) ((0 : Int))
        (fun (y3_0, y3_1, y3_2, y3_3) =>
          (L_ref11_Screen_6 fuel (x0, x1, x2, x3, (0 : Int), x4, x5, y3_0, y3_1, y3_3)
            (fun (b6_0, b6_1, b6_2, b6_3, b6_4, b6_5, b6_6, b6_7, b6_8) =>
              bif Decidable.decide ((b6_5.length + [(b6_6, b6_7, b6_8)].length) * (40 : Nat) ≤ (140737488355328 : Nat) ∧ b6_5.length + [(b6_6, b6_7, b6_8)].length ≤ (140737488355328 : Nat)) then
              c (b6_0, b6_1, b6_2, Go.IntKind.i64.wrap (b6_3 + (1 : Int)), b6_4, b6_5 ++ [(b6_6, b6_7, b6_8)])
              else none))))
     else
      b x5) (fun v => R (T13_4 v)) (E13_4 K) := by
  kernel_rfl
theorem S13_4_ok (fuel : Nat) (R : Ev.St → Option Ans) (K : Ev.Ex → Ev.St → Option Ans) (x0 : Int) (x1 : Int) (x2 : Int) (x3 : Int) (x4 : (List Int)) (x5 : (List (Int × (Int × (List Int))))) : evalCode tab (G13 fuel) (J13_4 fuel) kp13 fuel (bodyOf 4 Try.f13) (T13_4 (x0, x1, x2, x3, x4, x5)) (lc kp13 15 4 R K) = S_ref11_Screen_4 fuel (x0, x1, x2, x3, x4, x5) (fun v => R (T13_4 v)) (E13_4 K) :=
  S13_4_okg fuel (F_ref05_New fuel) R K x0 x1 x2 x3 x4 x5
noncomputable def B13_4 (fuel : Nat) : Ev.Blk := fun st K => match canonO (kp13 15) st with
  | some s => (match s with
    | ⟨[(q0, .c (.int .i64 x0)), (q1, .c (.int .i64 x1)), (q2, .c (.int .i64 x2)), (q3, .c (.own q4)), (q5, .c (.own q6)), (q7, .c (.int .i64 x3))], [(q8, .vec q9 (.int .i64) x4 true), (q10, .vec q11 (.pair (.int .i64) (.pair (.int .i64) (.sl (.int .u8)))) x5 true)], q12, q13⟩ => bif Nat.beq q0 0 && Nat.beq q1 1 && Nat.beq q2 6 && Nat.beq q3 7 && Nat.beq q4 0 && Nat.beq q5 10 && Nat.beq q6 1 && Nat.beq q7 11 && Nat.beq q8 0 && Nat.beq q9 3 && Nat.beq q10 1 && Nat.beq q11 35 && Nat.beq q12 2 && Nat.beq q13 0 then iter (S_ref11_Screen_4 fuel) fuel (x0, x1, x2, x3, x4, x5) (E13_4 K) else none
    | _ => none)
  | none => none
theorem B13_4_ok (fuel : Nat) (st : Ev.St) (K : Ev.Ex → Ev.St → Option Ans) (r : Ans) (h : B13_4 fuel st K = some r) : evalCode tab (G13 fuel) (J13_4 fuel) kp13 fuel (.block 4 (.loop (bodyOf 4 Try.f13))) st K = some r := by
  unfold B13_4 at h
  split at h
  · rename_i s hs
    split at h
    · skip
      obtain ⟨hb, h⟩ := cond_some' h
      simp only [Bool.and_eq_true, Nat.beq_eq, decide_eq_true_eq] at hb
      obtain ⟨⟨⟨⟨⟨⟨⟨⟨⟨⟨⟨⟨⟨rfl, rfl⟩, rfl⟩, rfl⟩, rfl⟩, rfl⟩, rfl⟩, rfl⟩, rfl⟩, rfl⟩, rfl⟩, rfl⟩, rfl⟩, rfl⟩ := hb
      exact blk_loop (S := T13_4) (ks := E13_4) (step := S_ref11_Screen_4 fuel) (v := (_, _, _, _, _, _)) (by kernel_rfl) (by kernel_rfl) (fun R K v => by obtain ⟨x0, x1, x2, x3, x4, x5⟩ := v; exact S13_4_ok fuel R K x0 x1 x2 x3 x4 x5) hs h
    · cases h
  · cases h
noncomputable def J13 (fuel : Nat) (i : Nat) : Option Ev.Blk := Ev.look i [(100002, B13_2 fuel), (100000, B13_0 fuel), (100006, B13_6 fuel), (100004, B13_4 fuel)]
noncomputable def F_ref11_Screen (fuel : Nat) (x0 : Int) (x1 : Int) (k0 : (Int × (List (Int × (Int × (List Int))))) → Option Ans) : Option Ans :=
  bif Decidable.decide (x0 < (1 : Int)) then
   k0 ((2 : Int), [])
  else
   bif Decidable.decide (x0 > (16 : Int)) then
    k0 ((2 : Int), [])
   else
    bif Decidable.decide (x1 < (1 : Int)) then
     k0 ((2 : Int), [])
    else
     bif Decidable.decide (x1 > (64 : Int)) then
      k0 ((2 : Int), [])
     else
      (L_ref11_Screen_0 fuel (x0, x1, Go.IntKind.i64.wrap (x0 * x0), (0 : Int), [])
        (fun (b0_0, b0_1, b0_2, b0_3) =>
          (L_ref11_Screen_4 fuel (b0_0, b0_1, b0_2, (0 : Int), b0_3, [])
            (fun b4_0 =>
              k0 ((0 : Int), b4_0)))))
abbrev YF13 : Type := (Int) → (Int) → ((Int × (List (Int × (Int × (List Int))))) → Option Ans) → Option Ans
theorem F13_eqg (fuel : Nat) (f31 : YF31) (x0 : Int) (x1 : Int) (k : Ev.Cont) : evalFn tab (Gg13 f31) (J13 fuel) kp13 fuel Try.f13 [.c (.int .i64 x0), .c (.int .i64 x1)] [] k = (fun  (k0 : (Int × (List (Int × (Int × (List Int))))) → Option Ans) =>
  bif Decidable.decide (x0 < (1 : Int)) then
   k0 ((2 : Int), [])
  else
   bif Decidable.decide (x0 > (16 : Int)) then
    k0 ((2 : Int), [])
   else
    bif Decidable.decide (x1 < (1 : Int)) then
     k0 ((2 : Int), [])
    else
     bif Decidable.decide (x1 > (64 : Int)) then
      k0 ((2 : Int), [])
     else
      (L_ref11_Screen_0 fuel (x0, x1, Go.IntKind.i64.wrap (x0 * x0), (0 : Int), [])
        (fun (b0_0, b0_1, b0_2, b0_3) =>
          (L_ref11_Screen_4 fuel (b0_0, b0_1, b0_2, (0 : Int), b0_3, [])
            (fun b4_0 =>
              k0 ((0 : Int), b4_0)))))) (fun r => match r with | (r0, r1) => k (.tup [(false, [.own 0]), (false, [.int .i64 r0])], [.vec 35 (.pair (.int .i64) (.pair (.int .i64) (.sl (.int .u8)))) r1 true])) := by
  kernel_rfl
theorem F13_eq (fuel : Nat) (x0 : Int) (x1 : Int) (k : Ev.Cont) : evalFn tab (G13 fuel) (J13 fuel) kp13 fuel Try.f13 [.c (.int .i64 x0), .c (.int .i64 x1)] [] k = F_ref11_Screen fuel x0 x1 (fun r => match r with | (r0, r1) => k (.tup [(false, [.own 0]), (false, [.int .i64 r0])], [.vec 35 (.pair (.int .i64) (.pair (.int .i64) (.sl (.int .u8)))) r1 true])) :=
  F13_eqg fuel (F_ref05_New fuel) x0 x1 k
theorem hG13 (fuel : Nat) : GOK Try.prog (G13 fuel) :=
  gok_cons ⟨ok31 fuel, enters_of Try.func31 (by kernel_rfl) rfl⟩ <|
  gok_nil
theorem B13_2_blk (fuel : Nat) : BlkOK Try.prog Try.f13.ntmps (.block 2 (.loop (bodyOf 2 Try.f13))) (B13_2 fuel) :=
  blk_of (blk_of_code tab_ok (hG13 fuel) mixed (J := J13_2 fuel) (kp := kp13) (fuel := fuel) (by kernel_rfl) (fun q hq => by
    rw [(by kernel_rfl : obl (J13_2 fuel) (.block 2 (.loop (bodyOf 2 Try.f13))) = [])] at hq
    cases hq)) (B13_2_ok fuel)
theorem B13_0_blk (fuel : Nat) : BlkOK Try.prog Try.f13.ntmps (.block 0 (.loop (bodyOf 0 Try.f13))) (B13_0 fuel) :=
  blk_of (blk_of_code tab_ok (hG13 fuel) mixed (J := J13_0 fuel) (kp := kp13) (fuel := fuel) (by kernel_rfl) (fun q hq => by
    rw [(by kernel_rfl : obl (J13_0 fuel) (.block 0 (.loop (bodyOf 0 Try.f13))) = [(.block 2 (.loop (bodyOf 2 Try.f13)), B13_2 fuel)])] at hq
    simp only [List.mem_cons, List.not_mem_nil, or_false] at hq
    subst hq
    · exact B13_2_blk fuel)) (B13_0_ok fuel)
theorem B13_6_blk (fuel : Nat) : BlkOK Try.prog Try.f13.ntmps (.block 6 (.loop (bodyOf 6 Try.f13))) (B13_6 fuel) :=
  blk_of (blk_of_code tab_ok (hG13 fuel) mixed (J := J13_6 fuel) (kp := kp13) (fuel := fuel) (by kernel_rfl) (fun q hq => by
    rw [(by kernel_rfl : obl (J13_6 fuel) (.block 6 (.loop (bodyOf 6 Try.f13))) = [])] at hq
    cases hq)) (B13_6_ok fuel)
theorem B13_4_blk (fuel : Nat) : BlkOK Try.prog Try.f13.ntmps (.block 4 (.loop (bodyOf 4 Try.f13))) (B13_4 fuel) :=
  blk_of (blk_of_code tab_ok (hG13 fuel) mixed (J := J13_4 fuel) (kp := kp13) (fuel := fuel) (by kernel_rfl) (fun q hq => by
    rw [(by kernel_rfl : obl (J13_4 fuel) (.block 4 (.loop (bodyOf 4 Try.f13))) = [(.block 6 (.loop (bodyOf 6 Try.f13)), B13_6 fuel)])] at hq
    simp only [List.mem_cons, List.not_mem_nil, or_false] at hq
    subst hq
    · exact B13_6_blk fuel)) (B13_4_ok fuel)
theorem fok13 (fuel : Nat) : FnOK Try.prog 13 (evalFn tab (G13 fuel) (J13 fuel) kp13 fuel Try.f13) :=
  fn_ok tab_ok (hG13 fuel) mixed Try.func13 (c := (Try.f13.body).getD .skip) rfl (fun q hq => by
    rw [(by kernel_rfl : obl (J13 fuel) ((Try.f13.body).getD .skip) = [(.block 0 (.loop (bodyOf 0 Try.f13)), B13_0 fuel), (.block 4 (.loop (bodyOf 4 Try.f13)), B13_4 fuel)])] at hq
    simp only [List.mem_cons, List.not_mem_nil, or_false] at hq
    rcases hq with rfl | rfl
    · exact B13_0_blk fuel
    · exact B13_4_blk fuel)
noncomputable def mt13 : List Ev.SV → List Ev.Ob → Bool := fun args objs => match args, objs with
  | [.c (.int .i64 _), .c (.int .i64 _)], [] => true
  | _, _ => false
noncomputable def spg13 (F : YF13) : Ev.Spec := fun args objs k => match args, objs with
  | [.c (.int .i64 x0), .c (.int .i64 x1)], [] => bif true then F x0 x1 (fun r => match r with | (r0, r1) => k (.tup [(false, [.own 0]), (false, [.int .i64 r0])], [.vec 35 (.pair (.int .i64) (.pair (.int .i64) (.sl (.int .u8)))) r1 true])) else none
  | _, _ => none
noncomputable def spec13 (fuel : Nat) : Ev.Spec := spg13 (F_ref11_Screen fuel)
theorem ok13 (fuel : Nat) : FnOK Try.prog 13 (spec13 fuel) := by
  intro args objs kk r h
  unfold spec13 spg13 at h
  split at h
  · skip
    obtain ⟨hb, h⟩ := cond_some' h
    simp only [Bool.and_eq_true, Nat.beq_eq, decide_eq_true_eq] at hb
    clear hb
    exact fok13 fuel _ _ kk r ((F13_eq fuel _ _ kk).trans h)
  · cases h
end Go.Proofs.Ytipdidpalcmlhaa

set_option linter.unusedVariables false
set_option linter.unusedSimpArgs false
set_option maxRecDepth 100000
set_option maxHeartbeats 2000000
namespace Go.Proofs.Ytipdidpalcmlhaa
open Go Ev
def kp88 (i : Nat) : Option (List Nat) := Ev.look i []
noncomputable def Gg88 (f : Nat) : Option Ev.Spec := Ev.look f []
noncomputable def G88 (fuel : Nat) : Nat → Option Ev.Spec := Gg88
noncomputable def J88 (fuel : Nat) (i : Nat) : Option Ev.Blk := Ev.look i []
noncomputable def F_tone_isGrey_1 (fuel : Nat) (x0 : Int) (k0 : (Bool) → Option Ans) : Option Ans :=
  bif Decidable.decide (x0 < (0 : Int)) then
   k0 Bool.true
  else
   k0 (Decidable.decide (x0 > (255 : Int)))
abbrev YF88 : Type := (Int) → ((Bool) → Option Ans) → Option Ans
theorem F88_eq (fuel : Nat) (x0 : Int) (k : Ev.Cont) : evalFn tab (G88 fuel) (J88 fuel) kp88 fuel Try.f88 [.c (.int .i64 x0)] [] k = F_tone_isGrey_1 fuel x0 (fun r => match r with | r0 => k (.c (.bool r0), [])) := by
  kernel_rfl
theorem hG88 (fuel : Nat) : GOK Try.prog (G88 fuel) :=
  gok_nil
theorem fok88 (fuel : Nat) : FnOK Try.prog 88 (evalFn tab (G88 fuel) (J88 fuel) kp88 fuel Try.f88) :=
  fn_ok tab_ok (hG88 fuel) mixed Try.func88 (c := (Try.f88.body).getD .skip) rfl (fun q hq => by
    rw [(by kernel_rfl : obl (J88 fuel) ((Try.f88.body).getD .skip) = [])] at hq
    cases hq)
noncomputable def mt88 : List Ev.SV → List Ev.Ob → Bool := fun args objs => match args, objs with
  | [.c (.int .i64 _)], [] => true
  | _, _ => false
noncomputable def spg88 (F : YF88) : Ev.Spec := fun args objs k => match args, objs with
  | [.c (.int .i64 x0)], [] => bif true then F x0 (fun r => match r with | r0 => k (.c (.bool r0), [])) else none
  | _, _ => none
noncomputable def spec88 (fuel : Nat) : Ev.Spec := spg88 (F_tone_isGrey_1 fuel)
theorem ok88 (fuel : Nat) : FnOK Try.prog 88 (spec88 fuel) := by
  intro args objs kk r h
  unfold spec88 spg88 at h
  split at h
  · skip
    obtain ⟨hb, h⟩ := cond_some' h
    simp only [Bool.and_eq_true, Nat.beq_eq, decide_eq_true_eq] at hb
    clear hb
    exact fok88 fuel _ _ kk r ((F88_eq fuel _ kk).trans h)
  · cases h
end Go.Proofs.Ytipdidpalcmlhaa

set_option linter.unusedVariables false
set_option linter.unusedSimpArgs false
set_option maxRecDepth 100000
set_option maxHeartbeats 2000000
namespace Go.Proofs.Ytipdidpalcmlhaa
open Go Ev
def kp117_b52 (i : Nat) : Option (List Nat) := Ev.look i [(2, [0, 1, 7, 8]), (100000, []), (400000, [4])]
noncomputable def Gg117_b52 (f88 : YF88) (f : Nat) : Option Ev.Spec := Ev.look f [(88, spg88 f88)]
noncomputable def G117_b52 (fuel : Nat) : Nat → Option Ev.Spec := Gg117_b52 (F_tone_isGrey_1 fuel)
noncomputable def S_slices_IndexFunc_int_int_b52_0 (fuel : Nat) (v : (List Int) × Int × Int) (c : ((List Int) × Int × Int) → Option Ans) (B : (Int → Option Ans) × (Unit → Option Ans)) : Option Ans := match v, B with
  | (x0, x1, x2), (ret, b) =>
   bif Decidable.decide (x2 < x1) then
      bif Decidable.decide ((0 : Int) ≤ x2 ∧ x2 < (↑x0.length : Int)) then
      (F_tone_isGrey_1 fuel (x0.getD x2.toNat (0 : Int))
         (fun y4 =>
           bif y4 then
            ret x2
           else
            c (x0, x1, Go.IntKind.i64.wrap (x2 + (1 : Int)))))
      else none
     else
      b ()
noncomputable def L_slices_IndexFunc_int_int_b52_0 (fuel : Nat) (v : (List Int) × Int × Int) (ret : (Int → Option Ans)) (b : (Unit → Option Ans)) : Option Ans := iter (S_slices_IndexFunc_int_int_b52_0 fuel) fuel v (ret, b)
noncomputable def J117_b52_0 (fuel : Nat) (i : Nat) : Option Ev.Blk := Ev.look i []
noncomputable def T117_b52_0 (v : (List Int) × Int × Int) : Ev.St := match v with | (x0, x1, x2) => ⟨[(0, .c (.sl (.int .i64) x0)), (1, .c (.clo 88 [])), (7, .c (.int .i64 x1)), (8, .c (.int .i64 x2))], [], 0, 0⟩
noncomputable def E117_b52_0 (K : Ev.Ex → Ev.St → Option Ans) : (Int → Option Ans) × (Unit → Option Ans) := ((fun v => match v with | x0 => K .ret ⟨[(4, .c (.int .i64 x0))], [], 0, 0⟩), (fun v => match v with | () => K .normal ⟨[], [], 0, 0⟩))
theorem S117_b52_0_okg (fuel : Nat) (f88 : YF88) (R : Ev.St → Option Ans) (K : Ev.Ex → Ev.St → Option Ans) (x0 : (List Int)) (x1 : Int) (x2 : Int) : evalCode tab (Gg117_b52 f88) (J117_b52_0 fuel) kp117_b52 fuel (bodyOf 0 Try.f117) (T117_b52_0 (x0, x1, x2)) (lc kp117_b52 2 0 R K) = (fun (c : ((List Int) × Int × Int) → Option Ans) (B : (Int → Option Ans) × (Unit → Option Ans)) => match B with
  | (ret, b) =>
   bif Decidable.decide (x2 < x1) then
      bif Decidable.decide ((0 : Int) ≤ x2 ∧ x2 < (↑x0.length : Int)) then
      (f88 (x0.getD x2.toNat (0 : Int))
         (fun y4 =>
           bif y4 then
            ret x2
           else
            c (x0, x1, Go.IntKind.i64.wrap (x2 + (1 : Int)))))
      else none
     else
      b ()) (fun v => R (T117_b52_0 v)) (E117_b52_0 K) := by
  kernel_rfl
theorem S117_b52_0_ok (fuel : Nat) (R : Ev.St → Option Ans) (K : Ev.Ex → Ev.St → Option Ans) (x0 : (List Int)) (x1 : Int) (x2 : Int) : evalCode tab (G117_b52 fuel) (J117_b52_0 fuel) kp117_b52 fuel (bodyOf 0 Try.f117) (T117_b52_0 (x0, x1, x2)) (lc kp117_b52 2 0 R K) = S_slices_IndexFunc_int_int_b52_0 fuel (x0, x1, x2) (fun v => R (T117_b52_0 v)) (E117_b52_0 K) :=
  S117_b52_0_okg fuel (F_tone_isGrey_1 fuel) R K x0 x1 x2
noncomputable def B117_b52_0 (fuel : Nat) : Ev.Blk := fun st K => match canonO (kp117_b52 2) st with
  | some s => (match s with
    | ⟨[(q0, .c (.sl (.int .i64) x0)), (q1, .c (.clo q2 [])), (q3, .c (.int .i64 x1)), (q4, .c (.int .i64 x2))], [], q5, q6⟩ => bif Nat.beq q0 0 && Nat.beq q1 1 && Nat.beq q2 88 && Nat.beq q3 7 && Nat.beq q4 8 && Nat.beq q5 0 && Nat.beq q6 0 then iter (S_slices_IndexFunc_int_int_b52_0 fuel) fuel (x0, x1, x2) (E117_b52_0 K) else none
    | _ => none)
  | none => none
theorem B117_b52_0_ok (fuel : Nat) (st : Ev.St) (K : Ev.Ex → Ev.St → Option Ans) (r : Ans) (h : B117_b52_0 fuel st K = some r) : evalCode tab (G117_b52 fuel) (J117_b52_0 fuel) kp117_b52 fuel (.block 0 (.loop (bodyOf 0 Try.f117))) st K = some r := by
  unfold B117_b52_0 at h
  split at h
  · rename_i s hs
    split at h
    · skip
      obtain ⟨hb, h⟩ := cond_some' h
      simp only [Bool.and_eq_true, Nat.beq_eq, decide_eq_true_eq] at hb
      obtain ⟨⟨⟨⟨⟨⟨rfl, rfl⟩, rfl⟩, rfl⟩, rfl⟩, rfl⟩, rfl⟩ := hb
      exact blk_loop (S := T117_b52_0) (ks := E117_b52_0) (step := S_slices_IndexFunc_int_int_b52_0 fuel) (v := (_, _, _)) (by kernel_rfl) (by kernel_rfl) (fun R K v => by obtain ⟨x0, x1, x2⟩ := v; exact S117_b52_0_ok fuel R K x0 x1 x2) hs h
    · cases h
  · cases h
noncomputable def J117_b52 (fuel : Nat) (i : Nat) : Option Ev.Blk := Ev.look i [(100000, B117_b52_0 fuel)]
noncomputable def F_slices_IndexFunc_int_int_b52 (fuel : Nat) (x0 : (List Int)) (k0 : (Int) → Option Ans) : Option Ans :=
  (L_slices_IndexFunc_int_int_b52_0 fuel (x0, (↑x0.length : Int), (0 : Int))
    (fun ret0_0 =>
      k0 ret0_0)
    (fun () =>
      k0 ((-1 : Int))))
abbrev YF117_b52 : Type := ((List Int)) → ((Int) → Option Ans) → Option Ans
theorem F117_b52_eqg (fuel : Nat) (f88 : YF88) (x0 : (List Int)) (k : Ev.Cont) : evalFn tab (Gg117_b52 f88) (J117_b52 fuel) kp117_b52 fuel Try.f117 [.c (.sl (.int .i64) x0), .c (.clo 88 [])] [] k = (fun  (k0 : (Int) → Option Ans) =>
  (L_slices_IndexFunc_int_int_b52_0 fuel (x0, (↑x0.length : Int), (0 : Int))
    (fun ret0_0 =>
      k0 ret0_0)
    (fun () =>
      k0 ((-1 : Int))))) (fun r => match r with | r0 => k (.c (.int .i64 r0), [])) := by
  kernel_rfl
theorem F117_b52_eq (fuel : Nat) (x0 : (List Int)) (k : Ev.Cont) : evalFn tab (G117_b52 fuel) (J117_b52 fuel) kp117_b52 fuel Try.f117 [.c (.sl (.int .i64) x0), .c (.clo 88 [])] [] k = F_slices_IndexFunc_int_int_b52 fuel x0 (fun r => match r with | r0 => k (.c (.int .i64 r0), [])) :=
  F117_b52_eqg fuel (F_tone_isGrey_1 fuel) x0 k
theorem hG117_b52 (fuel : Nat) : GOK Try.prog (G117_b52 fuel) :=
  gok_cons ⟨ok88 fuel, enters_of Try.func88 (by kernel_rfl) rfl⟩ <|
  gok_nil
theorem B117_b52_0_blk (fuel : Nat) : BlkOK Try.prog Try.f117.ntmps (.block 0 (.loop (bodyOf 0 Try.f117))) (B117_b52_0 fuel) :=
  blk_of (blk_of_code tab_ok (hG117_b52 fuel) mixed (J := J117_b52_0 fuel) (kp := kp117_b52) (fuel := fuel) (by kernel_rfl) (fun q hq => by
    rw [(by kernel_rfl : obl (J117_b52_0 fuel) (.block 0 (.loop (bodyOf 0 Try.f117))) = [])] at hq
    cases hq)) (B117_b52_0_ok fuel)
theorem fok117_b52 (fuel : Nat) : FnOK Try.prog 117 (evalFn tab (G117_b52 fuel) (J117_b52 fuel) kp117_b52 fuel Try.f117) :=
  fn_ok tab_ok (hG117_b52 fuel) mixed Try.func117 (c := (Try.f117.body).getD .skip) rfl (fun q hq => by
    rw [(by kernel_rfl : obl (J117_b52 fuel) ((Try.f117.body).getD .skip) = [(.block 0 (.loop (bodyOf 0 Try.f117)), B117_b52_0 fuel)])] at hq
    simp only [List.mem_cons, List.not_mem_nil, or_false] at hq
    subst hq
    · exact B117_b52_0_blk fuel)
noncomputable def mt117_b52 : List Ev.SV → List Ev.Ob → Bool := fun args objs => match args, objs with
  | [.c (.sl (.int .i64) _), .c (.clo q0 [])], [] => Nat.beq q0 88
  | _, _ => false
noncomputable def spg117_b52 (F : YF117_b52) : Ev.Spec := fun args objs k => match args, objs with
  | [.c (.sl (.int .i64) x0), .c (.clo q0 [])], [] => bif Nat.beq q0 88 then F x0 (fun r => match r with | r0 => k (.c (.int .i64 r0), [])) else none
  | _, _ => none
noncomputable def spec117_b52 (fuel : Nat) : Ev.Spec := spg117_b52 (F_slices_IndexFunc_int_int_b52 fuel)
theorem ok117_b52 (fuel : Nat) : FnOK Try.prog 117 (spec117_b52 fuel) := by
  intro args objs kk r h
  unfold spec117_b52 spg117_b52 at h
  split at h
  · skip
    obtain ⟨hb, h⟩ := cond_some' h
    simp only [Bool.and_eq_true, Nat.beq_eq, decide_eq_true_eq] at hb
    obtain rfl := hb
    exact fok117_b52 fuel _ _ kk r ((F117_b52_eq fuel _ kk).trans h)
  · cases h
end Go.Proofs.Ytipdidpalcmlhaa

set_option linter.unusedVariables false
set_option linter.unusedSimpArgs false
set_option maxRecDepth 100000
set_option maxHeartbeats 2000000
namespace Go.Proofs.Ytipdidpalcmlhaa
open Go Ev
def kp62_b52 (i : Nat) : Option (List Nat) := Ev.look i []
noncomputable def Gg62_b52 (f117_b52 : YF117_b52) (f : Nat) : Option Ev.Spec := Ev.look f [(117, spg117_b52 f117_b52)]
noncomputable def G62_b52 (fuel : Nat) : Nat → Option Ev.Spec := Gg62_b52 (F_slices_IndexFunc_int_int_b52 fuel)
noncomputable def J62_b52 (fuel : Nat) (i : Nat) : Option Ev.Blk := Ev.look i []
noncomputable def F_slices_ContainsFunc_int_int_b52 (fuel : Nat) (x0 : (List Int)) (k0 : (Bool) → Option Ans) : Option Ans :=
  (F_slices_IndexFunc_int_int_b52 fuel (x0)
    (fun y2 =>
      k0 (Decidable.decide (y2 ≥ (0 : Int)))))
abbrev YF62_b52 : Type := ((List Int)) → ((Bool) → Option Ans) → Option Ans
theorem F62_b52_eqg (fuel : Nat) (f117_b52 : YF117_b52) (x0 : (List Int)) (k : Ev.Cont) : evalFn tab (Gg62_b52 f117_b52) (J62_b52 fuel) kp62_b52 fuel Try.f62 [.c (.sl (.int .i64) x0), .c (.clo 88 [])] [] k = (fun  (k0 : (Bool) → Option Ans) =>
  (f117_b52 (x0)
    (fun y2 =>
      k0 (Decidable.decide (y2 ≥ (0 : Int)))))) (fun r => match r with | r0 => k (.c (.bool r0), [])) := by
  kernel_rfl
theorem F62_b52_eq (fuel : Nat) (x0 : (List Int)) (k : Ev.Cont) : evalFn tab (G62_b52 fuel) (J62_b52 fuel) kp62_b52 fuel Try.f62 [.c (.sl (.int .i64) x0), .c (.clo 88 [])] [] k = F_slices_ContainsFunc_int_int_b52 fuel x0 (fun r => match r with | r0 => k (.c (.bool r0), [])) :=
  F62_b52_eqg fuel (F_slices_IndexFunc_int_int_b52 fuel) x0 k
theorem hG62_b52 (fuel : Nat) : GOK Try.prog (G62_b52 fuel) :=
  gok_cons ⟨ok117_b52 fuel, enters_of Try.func117 (by kernel_rfl) rfl⟩ <|
  gok_nil
theorem fok62_b52 (fuel : Nat) : FnOK Try.prog 62 (evalFn tab (G62_b52 fuel) (J62_b52 fuel) kp62_b52 fuel Try.f62) :=
  fn_ok tab_ok (hG62_b52 fuel) mixed Try.func62 (c := (Try.f62.body).getD .skip) rfl (fun q hq => by
    rw [(by kernel_rfl : obl (J62_b52 fuel) ((Try.f62.body).getD .skip) = [])] at hq
    cases hq)
noncomputable def mt62_b52 : List Ev.SV → List Ev.Ob → Bool := fun args objs => match args, objs with
  | [.c (.sl (.int .i64) _), .c (.clo q0 [])], [] => Nat.beq q0 88
  | _, _ => false
noncomputable def spg62_b52 (F : YF62_b52) : Ev.Spec := fun args objs k => match args, objs with
  | [.c (.sl (.int .i64) x0), .c (.clo q0 [])], [] => bif Nat.beq q0 88 then F x0 (fun r => match r with | r0 => k (.c (.bool r0), [])) else none
  | _, _ => none
noncomputable def spec62_b52 (fuel : Nat) : Ev.Spec := spg62_b52 (F_slices_ContainsFunc_int_int_b52 fuel)
theorem ok62_b52 (fuel : Nat) : FnOK Try.prog 62 (spec62_b52 fuel) := by
  intro args objs kk r h
  unfold spec62_b52 spg62_b52 at h
  split at h
  · skip
    obtain ⟨hb, h⟩ := cond_some' h
    simp only [Bool.and_eq_true, Nat.beq_eq, decide_eq_true_eq] at hb
    obtain rfl := hb
    exact fok62_b52 fuel _ _ kk r ((F62_b52_eq fuel _ kk).trans h)
  · cases h
end Go.Proofs.Ytipdidpalcmlhaa

set_option linter.unusedVariables false
set_option linter.unusedSimpArgs false
set_option maxRecDepth 100000
set_option maxHeartbeats 2000000
namespace Go.Proofs.Ytipdidpalcmlhaa
open Go Ev
def kp40 (i : Nat) : Option (List Nat) := Ev.look i []
noncomputable def Gg40 (f62_b52 : YF62_b52) (f : Nat) : Option Ev.Spec := Ev.look f [(62, spg62_b52 f62_b52)]
noncomputable def G40 (fuel : Nat) : Nat → Option Ev.Spec := Gg40 (F_slices_ContainsFunc_int_int_b52 fuel)
noncomputable def J40 (fuel : Nat) (i : Nat) : Option Ev.Blk := Ev.look i []
noncomputable def F_tone_isGrey (fuel : Nat) (x0 : Int) (x1 : Int) (x2 : (List Int)) (k0 : (Bool) → Option Ans) : Option Ans :=
  bif Decidable.decide (x0 ≥ (0 : Int)) then
   bif Decidable.decide (x1 ≥ (0 : Int)) then
    bif Decidable.decide (x0 ≤ (200 : Int)) then
     bif Decidable.decide (x1 ≤ (200 : Int)) then
      bif Decidable.decide (Go.IntKind.i64.wrap (x0 * x1) ≤ (8192 : Int)) then
       bif (↑x2.length : Int) == Go.IntKind.i64.wrap (x0 * x1) then
        (F_slices_ContainsFunc_int_int_b52 fuel (x2)
          (fun y8 =>
            k0 !y8))
       else
        k0 Bool.false
      else
       k0 Bool.false
     else
      k0 Bool.false
    else
     k0 Bool.false
   else
    k0 Bool.false
  else
   k0 Bool.false
abbrev YF40 : Type := (Int) → (Int) → ((List Int)) → ((Bool) → Option Ans) → Option Ans
theorem F40_eqg (fuel : Nat) (f62_b52 : YF62_b52) (x0 : Int) (x1 : Int) (x2 : (List Int)) (k : Ev.Cont) : evalFn tab (Gg40 f62_b52) (J40 fuel) kp40 fuel Try.f40 [.agg [.int .i64 x0, .int .i64 x1, .sl (.int .i64) x2]] [] k = (fun  (k0 : (Bool) → Option Ans) =>
  bif Decidable.decide (x0 ≥ (0 : Int)) then
   bif Decidable.decide (x1 ≥ (0 : Int)) then
    bif Decidable.decide (x0 ≤ (200 : Int)) then
     bif Decidable.decide (x1 ≤ (200 : Int)) then
      bif Decidable.decide (Go.IntKind.i64.wrap (x0 * x1) ≤ (8192 : Int)) then
       bif (↑x2.length : Int) == Go.IntKind.i64.wrap (x0 * x1) then
        (f62_b52 (x2)
          (fun y8 =>
            k0 !y8))
       else
        k0 Bool.false
      else
       k0 Bool.false
     else
      k0 Bool.false
    else
     k0 Bool.false
   else
    k0 Bool.false
  else
   k0 Bool.false) (fun r => match r with | r0 => k (.c (.bool r0), [])) := by
  kernel_rfl
theorem F40_eq (fuel : Nat) (x0 : Int) (x1 : Int) (x2 : (List Int)) (k : Ev.Cont) : evalFn tab (G40 fuel) (J40 fuel) kp40 fuel Try.f40 [.agg [.int .i64 x0, .int .i64 x1, .sl (.int .i64) x2]] [] k = F_tone_isGrey fuel x0 x1 x2 (fun r => match r with | r0 => k (.c (.bool r0), [])) :=
  F40_eqg fuel (F_slices_ContainsFunc_int_int_b52 fuel) x0 x1 x2 k
theorem hG40 (fuel : Nat) : GOK Try.prog (G40 fuel) :=
  gok_cons ⟨ok62_b52 fuel, enters_of Try.func62 (by kernel_rfl) rfl⟩ <|
  gok_nil
theorem fok40 (fuel : Nat) : FnOK Try.prog 40 (evalFn tab (G40 fuel) (J40 fuel) kp40 fuel Try.f40) :=
  fn_ok tab_ok (hG40 fuel) mixed Try.func40 (c := (Try.f40.body).getD .skip) rfl (fun q hq => by
    rw [(by kernel_rfl : obl (J40 fuel) ((Try.f40.body).getD .skip) = [])] at hq
    cases hq)
noncomputable def mt40 : List Ev.SV → List Ev.Ob → Bool := fun args objs => match args, objs with
  | [.agg [.int .i64 _, .int .i64 _, .sl (.int .i64) _]], [] => true
  | _, _ => false
noncomputable def spg40 (F : YF40) : Ev.Spec := fun args objs k => match args, objs with
  | [.agg [.int .i64 x0, .int .i64 x1, .sl (.int .i64) x2]], [] => bif true then F x0 x1 x2 (fun r => match r with | r0 => k (.c (.bool r0), [])) else none
  | _, _ => none
noncomputable def spec40 (fuel : Nat) : Ev.Spec := spg40 (F_tone_isGrey fuel)
theorem ok40 (fuel : Nat) : FnOK Try.prog 40 (spec40 fuel) := by
  intro args objs kk r h
  unfold spec40 spg40 at h
  split at h
  · skip
    obtain ⟨hb, h⟩ := cond_some' h
    simp only [Bool.and_eq_true, Nat.beq_eq, decide_eq_true_eq] at hb
    clear hb
    exact fok40 fuel _ _ kk r ((F40_eq fuel _ _ _ kk).trans h)
  · cases h
end Go.Proofs.Ytipdidpalcmlhaa

set_option linter.unusedVariables false
set_option linter.unusedSimpArgs false
set_option maxRecDepth 100000
set_option maxHeartbeats 2000000
namespace Go.Proofs.Ytipdidpalcmlhaa
open Go Ev
def kp14 (i : Nat) : Option (List Nat) := Ev.look i [(5, [1, 2, 3, 8, 9]), (8, [1, 2, 3, 8, 9, 10]), (12, [1, 2, 3, 8, 9, 10, 11, 12, 13]), (15, [1, 2, 3, 8, 9, 10, 11, 12, 13, 14]), (100000, [8]), (100002, [1, 2, 3, 8, 9]), (100004, [1, 2, 3, 8, 9, 10, 11, 12]), (100006, [1, 2, 3, 8, 9, 10, 11, 12, 13]), (200017, [3]), (400000, [6, 7]), (400002, [6, 7]), (400004, [6, 7]), (400006, [6, 7])]
noncomputable def Gg14 (f40 : YF40) (f : Nat) : Option Ev.Spec := Ev.look f [(40, spg40 f40)]
noncomputable def G14 (fuel : Nat) : Nat → Option Ev.Spec := Gg14 (F_tone_isGrey fuel)
noncomputable def S_tone_Dither_6 (fuel : Nat) (v : Int × Int × Int × Int × Int × Int × Int × Int × Int × Int × (List Int) × (List Int)) (c : (Int × Int × Int × Int × Int × Int × Int × Int × Int × Int × (List Int) × (List Int)) → Option Ans) (B : (Int × Int × Int × Int × Int × Int × Int × Int × Int × (List Int) × (List Int) → Option Ans)) : Option Ans := match v, B with
  | (x0, x1, x2, x3, x4, x5, x6, x7, x8, x9, x10, x11), b =>
   bif Decidable.decide (x7 < bif Decidable.decide (x8 < Go.IntKind.i64.wrap (x3 + x0)) then x8 else Go.IntKind.i64.wrap (x3 + x0)) then
      bif Decidable.decide ((0 : Int) ≤ Go.IntKind.i64.wrap (Go.IntKind.i64.wrap (x6 * x8) + x7) ∧ Go.IntKind.i64.wrap (Go.IntKind.i64.wrap (x6 * x8) + x7) < (↑x10.length : Int)) then
      c (x0, x1, x2, x3, Go.IntKind.i64.wrap (x4 + (1 : Int)), Go.IntKind.i64.wrap (x5 + x10.getD (Go.IntKind.i64.wrap (Go.IntKind.i64.wrap (x6 * x8) + x7)).toNat (0 : Int)), x6, Go.IntKind.i64.wrap (x7 + (1 : Int)), x8, x9, x10, x11)
      else none
     else
      b (x0, x1, x2, x3, x4, x5, x6, x8, x9, x10, x11)
noncomputable def L_tone_Dither_6 (fuel : Nat) (v : Int × Int × Int × Int × Int × Int × Int × Int × Int × Int × (List Int) × (List Int)) (b : (Int × Int × Int × Int × Int × Int × Int × Int × Int × (List Int) × (List Int) → Option Ans)) : Option Ans := iter (S_tone_Dither_6 fuel) fuel v b
noncomputable def J14_6 (fuel : Nat) (i : Nat) : Option Ev.Blk := Ev.look i []
noncomputable def T14_6 (v : Int × Int × Int × Int × Int × Int × Int × Int × Int × Int × (List Int) × (List Int)) : Ev.St := match v with | (x0, x1, x2, x3, x4, x5, x6, x7, x8, x9, x10, x11) => ⟨[(1, .c (.int .i64 x0)), (2, .c (.int .i64 x1)), (3, .c (.ptr 0 0)), (8, .c (.own 1)), (9, .c (.int .i64 x2)), (10, .c (.int .i64 x3)), (11, .c (.int .i64 x4)), (12, .c (.int .i64 x5)), (13, .c (.int .i64 x6)), (14, .c (.int .i64 x7))], [(0, .cells 40 [.int .i64 x8, .int .i64 x9, .sl (.int .i64) x10]), (1, .vec 3 (.int .i64) x11 true)], 2, 0⟩
noncomputable def E14_6 (K : Ev.Ex → Ev.St → Option Ans) : (Int × Int × Int × Int × Int × Int × Int × Int × Int × (List Int) × (List Int) → Option Ans) := (fun v => match v with | (x0, x1, x2, x3, x4, x5, x6, x7, x8, x9, x10) => K .normal ⟨[(1, .c (.int .i64 x0)), (2, .c (.int .i64 x1)), (3, .c (.ptr 0 0)), (8, .c (.own 1)), (9, .c (.int .i64 x2)), (10, .c (.int .i64 x3)), (11, .c (.int .i64 x4)), (12, .c (.int .i64 x5)), (13, .c (.int .i64 x6))], [(0, .cells 40 [.int .i64 x7, .int .i64 x8, .sl (.int .i64) x9]), (1, .vec 3 (.int .i64) x10 true)], 2, 0⟩)
theorem S14_6_okg (fuel : Nat) (f40 : YF40) (R : Ev.St → Option Ans) (K : Ev.Ex → Ev.St → Option Ans) (x0 : Int) (x1 : Int) (x2 : Int) (x3 : Int) (x4 : Int) (x5 : Int) (x6 : Int) (x7 : Int) (x8 : Int) (x9 : Int) (x10 : (List Int)) (x11 : (List Int)) : evalCode tab (Gg14 f40) (J14_6 fuel) kp14 fuel (bodyOf 6 Try.f14) (T14_6 (x0, x1, x2, x3, x4, x5, x6, x7, x8, x9, x10, x11)) (lc kp14 15 6 R K) = (fun (c : (Int × Int × Int × Int × Int × Int × Int × Int × Int × Int × (List Int) × (List Int)) → Option Ans) (B : (Int × Int × Int × Int × Int × Int × Int × Int × Int × (List Int) × (List Int) → Option Ans)) => match B with
  | b =>
   bif Decidable.decide (x7 < bif Decidable.decide (x8 < Go.IntKind.i64.wrap (x3 + x0)) then x8 else Go.IntKind.i64.wrap (x3 + x0)) then
      bif Decidable.decide ((0 : Int) ≤ Go.IntKind.i64.wrap (Go.IntKind.i64.wrap (x6 * x8) + x7) ∧ Go.IntKind.i64.wrap (Go.IntKind.i64.wrap (x6 * x8) + x7) < (↑x10.length : Int)) then
      c (x0, x1, x2, x3, Go.IntKind.i64.wrap (x4 + (1 : Int)), Go.IntKind.i64.wrap (x5 + x10.getD (Go.IntKind.i64.wrap (Go.IntKind.i64.wrap (x6 * x8) + x7)).toNat (0 : Int)), x6, Go.IntKind.i64.wrap (x7 + (1 : Int)), x8, x9, x10, x11)
      else none
     else
      b (x0, x1, x2, x3, x4, x5, x6, x8, x9, x10, x11)) (fun v => R (T14_6 v)) (E14_6 K) := by
  kernel_rfl
theorem S14_6_ok (fuel : Nat) (R : Ev.St → Option Ans) (K : Ev.Ex → Ev.St → Option Ans) (x0 : Int) (x1 : Int) (x2 : Int) (x3 : Int) (x4 : Int) (x5 : Int) (x6 : Int) (x7 : Int) (x8 : Int) (x9 : Int) (x10 : (List Int)) (x11 : (List Int)) : evalCode tab (G14 fuel) (J14_6 fuel) kp14 fuel (bodyOf 6 Try.f14) (T14_6 (x0, x1, x2, x3, x4, x5, x6, x7, x8, x9, x10, x11)) (lc kp14 15 6 R K) = S_tone_Dither_6 fuel (x0, x1, x2, x3, x4, x5, x6, x7, x8, x9, x10, x11) (fun v => R (T14_6 v)) (E14_6 K) :=
  S14_6_okg fuel (F_tone_isGrey fuel) R K x0 x1 x2 x3 x4 x5 x6 x7 x8 x9 x10 x11
noncomputable def B14_6 (fuel : Nat) : Ev.Blk := fun st K => match canonO (kp14 15) st with
  | some s => (match s with
    | ⟨[(q0, .c (.int .i64 x0)), (q1, .c (.int .i64 x1)), (q2, .c (.ptr q3 q4)), (q5, .c (.own q6)), (q7, .c (.int .i64 x2)), (q8, .c (.int .i64 x3)), (q9, .c (.int .i64 x4)), (q10, .c (.int .i64 x5)), (q11, .c (.int .i64 x6)), (q12, .c (.int .i64 x7))], [(q13, .cells q14 [.int .i64 x8, .int .i64 x9, .sl (.int .i64) x10]), (q15, .vec q16 (.int .i64) x11 true)], q17, q18⟩ => bif Nat.beq q0 1 && Nat.beq q1 2 && Nat.beq q2 3 && Nat.beq q3 0 && Nat.beq q4 0 && Nat.beq q5 8 && Nat.beq q6 1 && Nat.beq q7 9 && Nat.beq q8 10 && Nat.beq q9 11 && Nat.beq q10 12 && Nat.beq q11 13 && Nat.beq q12 14 && Nat.beq q13 0 && Nat.beq q14 40 && Nat.beq q15 1 && Nat.beq q16 3 && Nat.beq q17 2 && Nat.beq q18 0 then iter (S_tone_Dither_6 fuel) fuel (x0, x1, x2, x3, x4, x5, x6, x7, x8, x9, x10, x11) (E14_6 K) else none
    | _ => none)
  | none => none
theorem B14_6_ok (fuel : Nat) (st : Ev.St) (K : Ev.Ex → Ev.St → Option Ans) (r : Ans) (h : B14_6 fuel st K = some r) : evalCode tab (G14 fuel) (J14_6 fuel) kp14 fuel (.block 6 (.loop (bodyOf 6 Try.f14))) st K = some r := by
  unfold B14_6 at h
  split at h
  · rename_i s hs
    split at h
    · skip
      obtain ⟨hb, h⟩ := cond_some' h
      simp only [Bool.and_eq_true, Nat.beq_eq, decide_eq_true_eq] at hb
      obtain ⟨⟨⟨⟨⟨⟨⟨⟨⟨⟨⟨⟨⟨⟨⟨⟨⟨⟨rfl, rfl⟩, rfl⟩, rfl⟩, rfl⟩, rfl⟩, rfl⟩, rfl⟩, rfl⟩, rfl⟩, rfl⟩, rfl⟩, rfl⟩, rfl⟩, rfl⟩, rfl⟩, rfl⟩, rfl⟩, rfl⟩ := hb
      exact blk_loop (S := T14_6) (ks := E14_6) (step := S_tone_Dither_6 fuel) (v := (_, _, _, _, _, _, _, _, _, _, _, _)) (by kernel_rfl) (by kernel_rfl) (fun R K v => by obtain ⟨x0, x1, x2, x3, x4, x5, x6, x7, x8, x9, x10, x11⟩ := v; exact S14_6_ok fuel R K x0 x1 x2 x3 x4 x5 x6 x7 x8 x9 x10 x11) hs h
    · cases h
  · cases h
noncomputable def S_tone_Dither_4 (fuel : Nat) (v : Int × Int × Int × Int × Int × Int × Int × Int × Int × (List Int) × (List Int)) (c : (Int × Int × Int × Int × Int × Int × Int × Int × Int × (List Int) × (List Int)) → Option Ans) (B : (Int × Int × Int × Int × Int × Int × Int × Int × (List Int) × (List Int) → Option Ans)) : Option Ans := match v, B with
  | (x0, x1, x2, x3, x4, x5, x6, x7, x8, x9, x10), b =>
   bif Decidable.decide (x6 < bif Decidable.decide (x8 < Go.IntKind.i64.wrap (x2 + x0)) then x8 else Go.IntKind.i64.wrap (x2 + x0)) then
      (L_tone_Dither_6 fuel (x0, x1, x2, x3, x4, x5, x6, x3, x7, x8, x9, x10)
        (fun (b6_0, b6_1, b6_2, b6_3, b6_4, b6_5, b6_6, b6_7, b6_8, b6_9, b6_10) =>
          c (b6_0, b6_1, b6_2, b6_3, b6_4, b6_5, Go.IntKind.i64.wrap (b6_6 + (1 : Int)), b6_7, b6_8, b6_9, b6_10)))
     else
      b (x0, x1, x2, x3, x4, x5, x7, x8, x9, x10)
noncomputable def L_tone_Dither_4 (fuel : Nat) (v : Int × Int × Int × Int × Int × Int × Int × Int × Int × (List Int) × (List Int)) (b : (Int × Int × Int × Int × Int × Int × Int × Int × (List Int) × (List Int) → Option Ans)) : Option Ans := iter (S_tone_Dither_4 fuel) fuel v b
noncomputable def J14_4 (fuel : Nat) (i : Nat) : Option Ev.Blk := Ev.look i [(100006, B14_6 fuel)]
noncomputable def T14_4 (v : Int × Int × Int × Int × Int × Int × Int × Int × Int × (List Int) × (List Int)) : Ev.St := match v with | (x0, x1, x2, x3, x4, x5, x6, x7, x8, x9, x10) => ⟨[(1, .c (.int .i64 x0)), (2, .c (.int .i64 x1)), (3, .c (.ptr 0 0)), (8, .c (.own 1)), (9, .c (.int .i64 x2)), (10, .c (.int .i64 x3)), (11, .c (.int .i64 x4)), (12, .c (.int .i64 x5)), (13, .c (.int .i64 x6))], [(0, .cells 40 [.int .i64 x7, .int .i64 x8, .sl (.int .i64) x9]), (1, .vec 3 (.int .i64) x10 true)], 2, 0⟩
noncomputable def E14_4 (K : Ev.Ex → Ev.St → Option Ans) : (Int × Int × Int × Int × Int × Int × Int × Int × (List Int) × (List Int) → Option Ans) := (fun v => match v with | (x0, x1, x2, x3, x4, x5, x6, x7, x8, x9) => K .normal ⟨[(1, .c (.int .i64 x0)), (2, .c (.int .i64 x1)), (3, .c (.ptr 0 0)), (8, .c (.own 1)), (9, .c (.int .i64 x2)), (10, .c (.int .i64 x3)), (11, .c (.int .i64 x4)), (12, .c (.int .i64 x5))], [(0, .cells 40 [.int .i64 x6, .int .i64 x7, .sl (.int .i64) x8]), (1, .vec 3 (.int .i64) x9 true)], 2, 0⟩)
theorem S14_4_okg (fuel : Nat) (f40 : YF40) (R : Ev.St → Option Ans) (K : Ev.Ex → Ev.St → Option Ans) (x0 : Int) (x1 : Int) (x2 : Int) (x3 : Int) (x4 : Int) (x5 : Int) (x6 : Int) (x7 : Int) (x8 : Int) (x9 : (List Int)) (x10 : (List Int)) : evalCode tab (Gg14 f40) (J14_4 fuel) kp14 fuel (bodyOf 4 Try.f14) (T14_4 (x0, x1, x2, x3, x4, x5, x6, x7, x8, x9, x10)) (lc kp14 12 4 R K) = (fun (c : (Int × Int × Int × Int × Int × Int × Int × Int × Int × (List Int) × (List Int)) → Option Ans) (B : (Int × Int × Int × Int × Int × Int × Int × Int × (List Int) × (List Int) → Option Ans)) => match B with
  | b =>
   bif Decidable.decide (x6 < bif Decidable.decide (x8 < Go.IntKind.i64.wrap (x2 + x0)) then x8 else Go.IntKind.i64.wrap (x2 + x0)) then
      (L_tone_Dither_6 fuel (x0, x1, x2, x3, x4, x5, x6, x3, x7, x8, x9, x10)
        (fun (b6_0, b6_1, b6_2, b6_3, b6_4, b6_5, b6_6, b6_7, b6_8, b6_9, b6_10) =>
          c (b6_0, b6_1, b6_2, b6_3, b6_4, b6_5, Go.IntKind.i64.wrap (b6_6 + (1 : Int)), b6_7, b6_8, b6_9, b6_10)))
     else
      b (x0, x1, x2, x3, x4, x5, x7, x8, x9, x10)) (fun v => R (T14_4 v)) (E14_4 K) := by
  kernel_rfl
theorem S14_4_ok (fuel : Nat) (R : Ev.St → Option Ans) (K : Ev.Ex → Ev.St → Option Ans) (x0 : Int) (x1 : Int) (x2 : Int) (x3 : Int) (x4 : Int) (x5 : Int) (x6 : Int) (x7 : Int) (x8 : Int) (x9 : (List Int)) (x10 : (List Int)) : evalCode tab (G14 fuel) (J14_4 fuel) kp14 fuel (bodyOf 4 Try.f14) (T14_4 (x0, x1, x2, x3, x4, x5, x6, x7, x8, x9, x10)) (lc kp14 12 4 R K) = S_tone_Dither_4 fuel (x0, x1, x2, x3, x4, x5, x6, x7, x8, x9, x10) (fun v => R (T14_4 v)) (E14_4 K) :=
  S14_4_okg fuel (F_tone_isGrey fuel) R K x0 x1 x2 x3 x4 x5 x6 x7 x8 x9 x10
noncomputable def B14_4 (fuel : Nat) : Ev.Blk := fun st K => match canonO (kp14 12) st with
  | some s => (match s with
    | ⟨[(q0, .c (.int .i64 x0)), (q1, .c (.int .i64 x1)), (q2, .c (.ptr q3 q4)), (q5, .c (.own q6)), (q7, .c (.int .i64 x2)), (q8, .c (.int .i64 x3)), (q9, .c (.int .i64 x4)), (q10, .c (.int .i64 x5)), (q11, .c (.int .i64 x6))], [(q12, .cells q13 [.int .i64 x7, .int .i64 x8, .sl (.int .i64) x9]), (q14, .vec q15 (.int .i64) x10 true)], q16, q17⟩ => bif Nat.beq q0 1 && Nat.beq q1 2 && Nat.beq q2 3 && Nat.beq q3 0 && Nat.beq q4 0 && Nat.beq q5 8 && Nat.beq q6 1 && Nat.beq q7 9 && Nat.beq q8 10 && Nat.beq q9 11 && Nat.beq q10 12 && Nat.beq q11 13 && Nat.beq q12 0 && Nat.beq q13 40 && Nat.beq q14 1 && Nat.beq q15 3 && Nat.beq q16 2 && Nat.beq q17 0 then iter (S_tone_Dither_4 fuel) fuel (x0, x1, x2, x3, x4, x5, x6, x7, x8, x9, x10) (E14_4 K) else none
    | _ => none)
  | none => none
theorem B14_4_ok (fuel : Nat) (st : Ev.St) (K : Ev.Ex → Ev.St → Option Ans) (r : Ans) (h : B14_4 fuel st K = some r) : evalCode tab (G14 fuel) (J14_4 fuel) kp14 fuel (.block 4 (.loop (bodyOf 4 Try.f14))) st K = some r := by
  unfold B14_4 at h
  split at h
  · rename_i s hs
    split at h
    · skip
      obtain ⟨hb, h⟩ := cond_some' h
      simp only [Bool.and_eq_true, Nat.beq_eq, decide_eq_true_eq] at hb
      obtain ⟨⟨⟨⟨⟨⟨⟨⟨⟨⟨⟨⟨⟨⟨⟨⟨⟨rfl, rfl⟩, rfl⟩, rfl⟩, rfl⟩, rfl⟩, rfl⟩, rfl⟩, rfl⟩, rfl⟩, rfl⟩, rfl⟩, rfl⟩, rfl⟩, rfl⟩, rfl⟩, rfl⟩, rfl⟩ := hb
      exact blk_loop (S := T14_4) (ks := E14_4) (step := S_tone_Dither_4 fuel) (v := (_, _, _, _, _, _, _, _, _, _, _)) (by kernel_rfl) (by kernel_rfl) (fun R K v => by obtain ⟨x0, x1, x2, x3, x4, x5, x6, x7, x8, x9, x10⟩ := v; exact S14_4_ok fuel R K x0 x1 x2 x3 x4 x5 x6 x7 x8 x9 x10) hs h
    · cases h
  · cases h
noncomputable def S_tone_Dither_2 (fuel : Nat) (v : Int × Int × Int × Int × Int × Int × (List Int) × (List Int)) (c : (Int × Int × Int × Int × Int × Int × (List Int) × (List Int)) → Option Ans) (B : (Int × Int × Int × Int × Int × (List Int) × (List Int) → Option Ans)) : Option Ans := match v, B with
  | (x0, x1, x2, x3, x4, x5, x6, x7), b =>
   bif Decidable.decide (x3 < x4) then
      (L_tone_Dither_4 fuel (x0, x1, x2, x3, (0 : Int), (0 : Int), x2, x4, x5, x6, x7)
        (fun (b4_0, b4_1, b4_2, b4_3, b4_4, b4_5, b4_6, b4_7, b4_8, b4_9) =>
          bif Decidable.decide (Go.IntKind.i64.wrap (Go.IntKind.i64.wrap ((255 : Int) * b4_4) + (1 : Int)) = (0 : Int)) then
           none
          else
           bif Decidable.decide ((b4_9.length + [Go.IntKind.i64.wrap ((Go.IntKind.i64.wrap (Go.IntKind.i64.wrap (Go.IntKind.i64.wrap ((255 : Int) * b4_4) - b4_5) * b4_1)).tdiv (Go.IntKind.i64.wrap (Go.IntKind.i64.wrap ((255 : Int) * b4_4) + (1 : Int))))].length) * (8 : Nat) ≤ (140737488355328 : Nat) ∧ b4_9.length + [Go.IntKind.i64.wrap ((Go.IntKind.i64.wrap (Go.IntKind.i64.wrap (Go.IntKind.i64.wrap ((255 : Int) * b4_4) - b4_5) * b4_1)).tdiv (Go.IntKind.i64.wrap (Go.IntKind.i64.wrap ((255 : Int) * b4_4) + (1 : Int))))].length ≤ (140737488355328 : Nat)) then
           c (b4_0, b4_1, b4_2, Go.IntKind.i64.wrap (b4_3 + b4_0), b4_6, b4_7, b4_8, b4_9 ++ [Go.IntKind.i64.wrap ((Go.IntKind.i64.wrap (Go.IntKind.i64.wrap (Go.IntKind.i64.wrap ((255 : Int) * b4_4) - b4_5) * b4_1)).tdiv (Go.IntKind.i64.wrap (Go.IntKind.i64.wrap ((255 : Int) * b4_4) + (1 : Int))))])
           else none))
     else
      b (x0, x1, x2, x4, x5, x6, x7)
noncomputable def L_tone_Dither_2 (fuel : Nat) (v : Int × Int × Int × Int × Int × Int × (List Int) × (List Int)) (b : (Int × Int × Int × Int × Int × (List Int) × (List Int) → Option Ans)) : Option Ans := iter (S_tone_Dither_2 fuel) fuel v b
noncomputable def J14_2 (fuel : Nat) (i : Nat) : Option Ev.Blk := Ev.look i [(100006, B14_6 fuel), (100004, B14_4 fuel)]
noncomputable def T14_2 (v : Int × Int × Int × Int × Int × Int × (List Int) × (List Int)) : Ev.St := match v with | (x0, x1, x2, x3, x4, x5, x6, x7) => ⟨[(1, .c (.int .i64 x0)), (2, .c (.int .i64 x1)), (3, .c (.ptr 0 0)), (8, .c (.own 1)), (9, .c (.int .i64 x2)), (10, .c (.int .i64 x3))], [(0, .cells 40 [.int .i64 x4, .int .i64 x5, .sl (.int .i64) x6]), (1, .vec 3 (.int .i64) x7 true)], 2, 0⟩
noncomputable def E14_2 (K : Ev.Ex → Ev.St → Option Ans) : (Int × Int × Int × Int × Int × (List Int) × (List Int) → Option Ans) := (fun v => match v with | (x0, x1, x2, x3, x4, x5, x6) => K .normal ⟨[(1, .c (.int .i64 x0)), (2, .c (.int .i64 x1)), (3, .c (.ptr 0 0)), (8, .c (.own 1)), (9, .c (.int .i64 x2))], [(0, .cells 40 [.int .i64 x3, .int .i64 x4, .sl (.int .i64) x5]), (1, .vec 3 (.int .i64) x6 true)], 2, 0⟩)
theorem S14_2_okg (fuel : Nat) (f40 : YF40) (R : Ev.St → Option Ans) (K : Ev.Ex → Ev.St → Option Ans) (x0 : Int) (x1 : Int) (x2 : Int) (x3 : Int) (x4 : Int) (x5 : Int) (x6 : (List Int)) (x7 : (List Int)) : evalCode tab (Gg14 f40) (J14_2 fuel) kp14 fuel (bodyOf 2 Try.f14) (T14_2 (x0, x1, x2, x3, x4, x5, x6, x7)) (lc kp14 8 2 R K) = (fun (c : (Int × Int × Int × Int × Int × Int × (List Int) × (List Int)) → Option Ans) (B : (Int × Int × Int × Int × Int × (List Int) × (List Int) → Option Ans)) => match B with
  | b =>
   bif Decidable.decide (x3 < x4) then
      (L_tone_Dither_4 fuel (x0, x1, x2, x3, (0 : Int), (0 : Int), x2, x4, x5, x6, x7)
        (fun (b4_0, b4_1, b4_2, b4_3, b4_4, b4_5, b4_6, b4_7, b4_8, b4_9) =>
          bif Decidable.decide (Go.IntKind.i64.wrap (Go.IntKind.i64.wrap ((255 : Int) * b4_4) + (1 : Int)) = (0 : Int)) then
           none
          else
           bif Decidable.decide ((b4_9.length + [Go.IntKind.i64.wrap ((Go.IntKind.i64.wrap (Go.IntKind.i64.wrap (Go.IntKind.i64.wrap ((255 : Int) * b4_4) - b4_5) * b4_1)).tdiv (Go.IntKind.i64.wrap (Go.IntKind.i64.wrap ((255 : Int) * b4_4) + (1 : Int))))].length) * (8 : Nat) ≤ (140737488355328 : Nat) ∧ b4_9.length + [Go.IntKind.i64.wrap ((Go.IntKind.i64.wrap (Go.IntKind.i64.wrap (Go.IntKind.i64.wrap ((255 : Int) * b4_4) - b4_5) * b4_1)).tdiv (Go.IntKind.i64.wrap (Go.IntKind.i64.wrap ((255 : Int) * b4_4) + (1 : Int))))].length ≤ (140737488355328 : Nat)) then
           c (b4_0, b4_1, b4_2, Go.IntKind.i64.wrap (b4_3 + b4_0), b4_6, b4_7, b4_8, b4_9 ++ [Go.IntKind.i64.wrap ((Go.IntKind.i64.wrap (Go.IntKind.i64.wrap (Go.IntKind.i64.wrap ((255 : Int) * b4_4) - b4_5) * b4_1)).tdiv (Go.IntKind.i64.wrap (Go.IntKind.i64.wrap ((255 : Int) * b4_4) + (1 : Int))))])
           else none))
     else
      b (x0, x1, x2, x4, x5, x6, x7)) (fun v => R (T14_2 v)) (E14_2 K) := by
  kernel_rfl
theorem S14_2_ok (fuel : Nat) (R : Ev.St → Option Ans) (K : Ev.Ex → Ev.St → Option Ans) (x0 : Int) (x1 : Int) (x2 : Int) (x3 : Int) (x4 : Int) (x5 : Int) (x6 : (List Int)) (x7 : (List Int)) : evalCode tab (G14 fuel) (J14_2 fuel) kp14 fuel (bodyOf 2 Try.f14) (T14_2 (x0, x1, x2, x3, x4, x5, x6, x7)) (lc kp14 8 2 R K) = S_tone_Dither_2 fuel (x0, x1, x2, x3, x4, x5, x6, x7) (fun v => R (T14_2 v)) (E14_2 K) :=
  S14_2_okg fuel (F_tone_isGrey fuel) R K x0 x1 x2 x3 x4 x5 x6 x7
noncomputable def B14_2 (fuel : Nat) : Ev.Blk := fun st K => match canonO (kp14 8) st with
  | some s => (match s with
    | ⟨[(q0, .c (.int .i64 x0)), (q1, .c (.int .i64 x1)), (q2, .c (.ptr q3 q4)), (q5, .c (.own q6)), (q7, .c (.int .i64 x2)), (q8, .c (.int .i64 x3))], [(q9, .cells q10 [.int .i64 x4, .int .i64 x5, .sl (.int .i64) x6]), (q11, .vec q12 (.int .i64) x7 true)], q13, q14⟩ => bif Nat.beq q0 1 && Nat.beq q1 2 && Nat.beq q2 3 && Nat.beq q3 0 && Nat.beq q4 0 && Nat.beq q5 8 && Nat.beq q6 1 && Nat.beq q7 9 && Nat.beq q8 10 && Nat.beq q9 0 && Nat.beq q10 40 && Nat.beq q11 1 && Nat.beq q12 3 && Nat.beq q13 2 && Nat.beq q14 0 then iter (S_tone_Dither_2 fuel) fuel (x0, x1, x2, x3, x4, x5, x6, x7) (E14_2 K) else none
    | _ => none)
  | none => none
theorem B14_2_ok (fuel : Nat) (st : Ev.St) (K : Ev.Ex → Ev.St → Option Ans) (r : Ans) (h : B14_2 fuel st K = some r) : evalCode tab (G14 fuel) (J14_2 fuel) kp14 fuel (.block 2 (.loop (bodyOf 2 Try.f14))) st K = some r := by
  unfold B14_2 at h
  split at h
  · rename_i s hs
    split at h
    · skip
      obtain ⟨hb, h⟩ := cond_some' h
      simp only [Bool.and_eq_true, Nat.beq_eq, decide_eq_true_eq] at hb
      obtain ⟨⟨⟨⟨⟨⟨⟨⟨⟨⟨⟨⟨⟨⟨rfl, rfl⟩, rfl⟩, rfl⟩, rfl⟩, rfl⟩, rfl⟩, rfl⟩, rfl⟩, rfl⟩, rfl⟩, rfl⟩, rfl⟩, rfl⟩, rfl⟩ := hb
      exact blk_loop (S := T14_2) (ks := E14_2) (step := S_tone_Dither_2 fuel) (v := (_, _, _, _, _, _, _, _)) (by kernel_rfl) (by kernel_rfl) (fun R K v => by obtain ⟨x0, x1, x2, x3, x4, x5, x6, x7⟩ := v; exact S14_2_ok fuel R K x0 x1 x2 x3 x4 x5 x6 x7) hs h
    · cases h
  · cases h
noncomputable def S_tone_Dither_0 (fuel : Nat) (v : Int × Int × Int × Int × Int × (List Int) × (List Int)) (c : (Int × Int × Int × Int × Int × (List Int) × (List Int)) → Option Ans) (B : ((List Int) → Option Ans)) : Option Ans := match v, B with
  | (x0, x1, x2, x3, x4, x5, x6), b =>
   bif Decidable.decide (x2 < x4) then
      (L_tone_Dither_2 fuel (x0, x1, x2, (0 : Int), x3, x4, x5, x6)
        (fun (b2_0, b2_1, b2_2, b2_3, b2_4, b2_5, b2_6) =>
          c (b2_0, b2_1, Go.IntKind.i64.wrap (b2_2 + b2_0), b2_3, b2_4, b2_5, b2_6)))
     else
      b x6
noncomputable def L_tone_Dither_0 (fuel : Nat) (v : Int × Int × Int × Int × Int × (List Int) × (List Int)) (b : ((List Int) → Option Ans)) : Option Ans := iter (S_tone_Dither_0 fuel) fuel v b
noncomputable def J14_0 (fuel : Nat) (i : Nat) : Option Ev.Blk := Ev.look i [(100006, B14_6 fuel), (100004, B14_4 fuel), (100002, B14_2 fuel)]
noncomputable def T14_0 (v : Int × Int × Int × Int × Int × (List Int) × (List Int)) : Ev.St := match v with | (x0, x1, x2, x3, x4, x5, x6) => ⟨[(1, .c (.int .i64 x0)), (2, .c (.int .i64 x1)), (3, .c (.ptr 0 0)), (8, .c (.own 1)), (9, .c (.int .i64 x2))], [(0, .cells 40 [.int .i64 x3, .int .i64 x4, .sl (.int .i64) x5]), (1, .vec 3 (.int .i64) x6 true)], 2, 0⟩
noncomputable def E14_0 (K : Ev.Ex → Ev.St → Option Ans) : ((List Int) → Option Ans) := (fun v => match v with | x0 => K .normal ⟨[(8, .c (.own 0))], [(0, .vec 3 (.int .i64) x0 true)], 1, 0⟩)
theorem S14_0_okg (fuel : Nat) (f40 : YF40) (R : Ev.St → Option Ans) (K : Ev.Ex → Ev.St → Option Ans) (x0 : Int) (x1 : Int) (x2 : Int) (x3 : Int) (x4 : Int) (x5 : (List Int)) (x6 : (List Int)) : evalCode tab (Gg14 f40) (J14_0 fuel) kp14 fuel (bodyOf 0 Try.f14) (T14_0 (x0, x1, x2, x3, x4, x5, x6)) (lc kp14 5 0 R K) = (fun (c : (Int × Int × Int × Int × Int × (List Int) × (List Int)) → Option Ans) (B : ((List Int) → Option Ans)) => match B with
  | b =>
   bif Decidable.decide (x2 < x4) then
      (L_tone_Dither_2 fuel (x0, x1, x2, (0 : Int), x3, x4, x5, x6)
        (fun (b2_0, b2_1, b2_2, b2_3, b2_4, b2_5, b2_6) =>
          c (b2_0, b2_1, Go.IntKind.i64.wrap (b2_2 + b2_0), b2_3, b2_4, b2_5, b2_6)))
     else
      b x6) (fun v => R (T14_0 v)) (E14_0 K) := by
  kernel_rfl
theorem S14_0_ok (fuel : Nat) (R : Ev.St → Option Ans) (K : Ev.Ex → Ev.St → Option Ans) (x0 : Int) (x1 : Int) (x2 : Int) (x3 : Int) (x4 : Int) (x5 : (List Int)) (x6 : (List Int)) : evalCode tab (G14 fuel) (J14_0 fuel) kp14 fuel (bodyOf 0 Try.f14) (T14_0 (x0, x1, x2, x3, x4, x5, x6)) (lc kp14 5 0 R K) = S_tone_Dither_0 fuel (x0, x1, x2, x3, x4, x5, x6) (fun v => R (T14_0 v)) (E14_0 K) :=
  S14_0_okg fuel (F_tone_isGrey fuel) R K x0 x1 x2 x3 x4 x5 x6
noncomputable def B14_0 (fuel : Nat) : Ev.Blk := fun st K => match canonO (kp14 5) st with
  | some s => (match s with
    | ⟨[(q0, .c (.int .i64 x0)), (q1, .c (.int .i64 x1)), (q2, .c (.ptr q3 q4)), (q5, .c (.own q6)), (q7, .c (.int .i64 x2))], [(q8, .cells q9 [.int .i64 x3, .int .i64 x4, .sl (.int .i64) x5]), (q10, .vec q11 (.int .i64) x6 true)], q12, q13⟩ => bif Nat.beq q0 1 && Nat.beq q1 2 && Nat.beq q2 3 && Nat.beq q3 0 && Nat.beq q4 0 && Nat.beq q5 8 && Nat.beq q6 1 && Nat.beq q7 9 && Nat.beq q8 0 && Nat.beq q9 40 && Nat.beq q10 1 && Nat.beq q11 3 && Nat.beq q12 2 && Nat.beq q13 0 then iter (S_tone_Dither_0 fuel) fuel (x0, x1, x2, x3, x4, x5, x6) (E14_0 K) else none
    | _ => none)
  | none => none
theorem B14_0_ok (fuel : Nat) (st : Ev.St) (K : Ev.Ex → Ev.St → Option Ans) (r : Ans) (h : B14_0 fuel st K = some r) : evalCode tab (G14 fuel) (J14_0 fuel) kp14 fuel (.block 0 (.loop (bodyOf 0 Try.f14))) st K = some r := by
  unfold B14_0 at h
  split at h
  · rename_i s hs
    split at h
    · skip
      obtain ⟨hb, h⟩ := cond_some' h
      simp only [Bool.and_eq_true, Nat.beq_eq, decide_eq_true_eq] at hb
      obtain ⟨⟨⟨⟨⟨⟨⟨⟨⟨⟨⟨⟨⟨rfl, rfl⟩, rfl⟩, rfl⟩, rfl⟩, rfl⟩, rfl⟩, rfl⟩, rfl⟩, rfl⟩, rfl⟩, rfl⟩, rfl⟩, rfl⟩ := hb
      exact blk_loop (S := T14_0) (ks := E14_0) (step := S_tone_Dither_0 fuel) (v := (_, _, _, _, _, _, _)) (by kernel_rfl) (by kernel_rfl) (fun R K v => by obtain ⟨x0, x1, x2, x3, x4, x5, x6⟩ := v; exact S14_0_ok fuel R K x0 x1 x2 x3 x4 x5 x6) hs h
    · cases h
  · cases h
noncomputable def J14 (fuel : Nat) (i : Nat) : Option Ev.Blk := Ev.look i [(100006, B14_6 fuel), (100004, B14_4 fuel), (100002, B14_2 fuel), (100000, B14_0 fuel)]
noncomputable def F_tone_Dither (fuel : Nat) (x0 : Int) (x1 : Int) (x2 : (List Int)) (x3 : Int) (x4 : Int) (k0 : (Int × (List Int)) → Option Ans) : Option Ans :=
  bif Decidable.decide (x3 < (1 : Int)) then
   k0 ((2 : Int), [])
  else
   bif Decidable.decide (x3 > (16 : Int)) then
    k0 ((2 : Int), [])
   else
    bif Decidable.decide (x4 < (1 : Int)) then
     k0 ((2 : Int), [])
    else
     bif Decidable.decide (x4 > (64 : Int)) then
      k0 ((2 : Int), [])
     else
      (F_tone_isGrey fuel (x0) (x1) (x2)
        (fun y6 =>
          bif !y6 then
           k0 ((2 : Int), [])
          else
           (L_tone_Dither_0 fuel (x3, x4, (0 : Int), x0, x1, x2, [])
             (fun b0_0 =>
               k0 ((0 : Int), b0_0)))))
abbrev YF14 : Type := (Int) → (Int) → ((List Int)) → (Int) → (Int) → ((Int × (List Int)) → Option Ans) → Option Ans
theorem F14_eqg (fuel : Nat) (f40 : YF40) (x0 : Int) (x1 : Int) (x2 : (List Int)) (x3 : Int) (x4 : Int) (k : Ev.Cont) : evalFn tab (Gg14 f40) (J14 fuel) kp14 fuel Try.f14 [.agg [.int .i64 x0, .int .i64 x1, .sl (.int .i64) x2], .c (.int .i64 x3), .c (.int .i64 x4)] [] k = (fun  (k0 : (Int × (List Int)) → Option Ans) =>
  bif Decidable.decide (x3 < (1 : Int)) then
   k0 ((2 : Int), [])
  else
   bif Decidable.decide (x3 > (16 : Int)) then
    k0 ((2 : Int), [])
   else
    bif Decidable.decide (x4 < (1 : Int)) then
     k0 ((2 : Int), [])
    else
     bif Decidable.decide (x4 > (64 : Int)) then
      k0 ((2 : Int), [])
     else
      (f40 (x0) (x1) (x2)
        (fun y6 =>
          bif !y6 then
           k0 ((2 : Int), [])
          else
           (L_tone_Dither_0 fuel (x3, x4, (0 : Int), x0, x1, x2, [])
             (fun b0_0 =>
               k0 ((0 : Int), b0_0)))))) (fun r => match r with | (r0, r1) => k (.tup [(false, [.own 0]), (false, [.int .i64 r0])], [.vec 3 (.int .i64) r1 true])) := by
  kernel_rfl
theorem F14_eq (fuel : Nat) (x0 : Int) (x1 : Int) (x2 : (List Int)) (x3 : Int) (x4 : Int) (k : Ev.Cont) : evalFn tab (G14 fuel) (J14 fuel) kp14 fuel Try.f14 [.agg [.int .i64 x0, .int .i64 x1, .sl (.int .i64) x2], .c (.int .i64 x3), .c (.int .i64 x4)] [] k = F_tone_Dither fuel x0 x1 x2 x3 x4 (fun r => match r with | (r0, r1) => k (.tup [(false, [.own 0]), (false, [.int .i64 r0])], [.vec 3 (.int .i64) r1 true])) :=
  F14_eqg fuel (F_tone_isGrey fuel) x0 x1 x2 x3 x4 k
theorem hG14 (fuel : Nat) : GOK Try.prog (G14 fuel) :=
  gok_cons ⟨ok40 fuel, enters_of Try.func40 (by kernel_rfl) rfl⟩ <|
  gok_nil
theorem B14_6_blk (fuel : Nat) : BlkOK Try.prog Try.f14.ntmps (.block 6 (.loop (bodyOf 6 Try.f14))) (B14_6 fuel) :=
  blk_of (blk_of_code tab_ok (hG14 fuel) mixed (J := J14_6 fuel) (kp := kp14) (fuel := fuel) (by kernel_rfl) (fun q hq => by
    rw [(by kernel_rfl : obl (J14_6 fuel) (.block 6 (.loop (bodyOf 6 Try.f14))) = [])] at hq
    cases hq)) (B14_6_ok fuel)
theorem B14_4_blk (fuel : Nat) : BlkOK Try.prog Try.f14.ntmps (.block 4 (.loop (bodyOf 4 Try.f14))) (B14_4 fuel) :=
  blk_of (blk_of_code tab_ok (hG14 fuel) mixed (J := J14_4 fuel) (kp := kp14) (fuel := fuel) (by kernel_rfl) (fun q hq => by
    rw [(by kernel_rfl : obl (J14_4 fuel) (.block 4 (.loop (bodyOf 4 Try.f14))) = [(.block 6 (.loop (bodyOf 6 Try.f14)), B14_6 fuel)])] at hq
    simp only [List.mem_cons, List.not_mem_nil, or_false] at hq
    subst hq
    · exact B14_6_blk fuel)) (B14_4_ok fuel)
theorem B14_2_blk (fuel : Nat) : BlkOK Try.prog Try.f14.ntmps (.block 2 (.loop (bodyOf 2 Try.f14))) (B14_2 fuel) :=
  blk_of (blk_of_code tab_ok (hG14 fuel) mixed (J := J14_2 fuel) (kp := kp14) (fuel := fuel) (by kernel_rfl) (fun q hq => by
    rw [(by kernel_rfl : obl (J14_2 fuel) (.block 2 (.loop (bodyOf 2 Try.f14))) = [(.block 4 (.loop (bodyOf 4 Try.f14)), B14_4 fuel)])] at hq
    simp only [List.mem_cons, List.not_mem_nil, or_false] at hq
    subst hq
    · exact B14_4_blk fuel)) (B14_2_ok fuel)
theorem B14_0_blk (fuel : Nat) : BlkOK Try.prog Try.f14.ntmps (.block 0 (.loop (bodyOf 0 Try.f14))) (B14_0 fuel) :=
  blk_of (blk_of_code tab_ok (hG14 fuel) mixed (J := J14_0 fuel) (kp := kp14) (fuel := fuel) (by kernel_rfl) (fun q hq => by
    rw [(by kernel_rfl : obl (J14_0 fuel) (.block 0 (.loop (bodyOf 0 Try.f14))) = [(.block 2 (.loop (bodyOf 2 Try.f14)), B14_2 fuel)])] at hq
    simp only [List.mem_cons, List.not_mem_nil, or_false] at hq
    subst hq
    · exact B14_2_blk fuel)) (B14_0_ok fuel)
theorem fok14 (fuel : Nat) : FnOK Try.prog 14 (evalFn tab (G14 fuel) (J14 fuel) kp14 fuel Try.f14) :=
  fn_ok tab_ok (hG14 fuel) mixed Try.func14 (c := (Try.f14.body).getD .skip) rfl (fun q hq => by
    rw [(by kernel_rfl : obl (J14 fuel) ((Try.f14.body).getD .skip) = [(.block 0 (.loop (bodyOf 0 Try.f14)), B14_0 fuel)])] at hq
    simp only [List.mem_cons, List.not_mem_nil, or_false] at hq
    subst hq
    · exact B14_0_blk fuel)
noncomputable def mt14 : List Ev.SV → List Ev.Ob → Bool := fun args objs => match args, objs with
  | [.agg [.int .i64 _, .int .i64 _, .sl (.int .i64) _], .c (.int .i64 _), .c (.int .i64 _)], [] => true
  | _, _ => false
noncomputable def spg14 (F : YF14) : Ev.Spec := fun args objs k => match args, objs with
  | [.agg [.int .i64 x0, .int .i64 x1, .sl (.int .i64) x2], .c (.int .i64 x3), .c (.int .i64 x4)], [] => bif true then F x0 x1 x2 x3 x4 (fun r => match r with | (r0, r1) => k (.tup [(false, [.own 0]), (false, [.int .i64 r0])], [.vec 3 (.int .i64) r1 true])) else none
  | _, _ => none
noncomputable def spec14 (fuel : Nat) : Ev.Spec := spg14 (F_tone_Dither fuel)
theorem ok14 (fuel : Nat) : FnOK Try.prog 14 (spec14 fuel) := by
  intro args objs kk r h
  unfold spec14 spg14 at h
  split at h
  · skip
    obtain ⟨hb, h⟩ := cond_some' h
    simp only [Bool.and_eq_true, Nat.beq_eq, decide_eq_true_eq] at hb
    clear hb
    exact fok14 fuel _ _ kk r ((F14_eq fuel _ _ _ _ _ kk).trans h)
  · cases h
end Go.Proofs.Ytipdidpalcmlhaa

set_option linter.unusedVariables false
set_option linter.unusedSimpArgs false
set_option maxRecDepth 100000
set_option maxHeartbeats 2000000
namespace Go.Proofs.Ytipdidpalcmlhaa
open Go Ev
def kp118 (i : Nat) : Option (List Nat) := Ev.look i []
noncomputable def Gg118 (f : Nat) : Option Ev.Spec := Ev.look f []
noncomputable def G118 (fuel : Nat) : Nat → Option Ev.Spec := Gg118
noncomputable def J118 (fuel : Nat) (i : Nat) : Option Ev.Blk := Ev.look i []
noncomputable def F_bitmap_fits (fuel : Nat) (x0 : Int) (x1 : Int) (k0 : (Bool) → Option Ans) : Option Ans :=
  bif Decidable.decide (x0 ≥ (0 : Int)) then
   bif Decidable.decide (x1 ≥ (0 : Int)) then
    bif Decidable.decide (x0 ≤ (200 : Int)) then
     bif Decidable.decide (x1 ≤ (200 : Int)) then
      k0 (Decidable.decide (Go.IntKind.i64.wrap (x0 * x1) ≤ (8192 : Int)))
     else
      k0 Bool.false
    else
     k0 Bool.false
   else
    k0 Bool.false
  else
   k0 Bool.false
abbrev YF118 : Type := (Int) → (Int) → ((Bool) → Option Ans) → Option Ans
theorem F118_eq (fuel : Nat) (x0 : Int) (x1 : Int) (k : Ev.Cont) : evalFn tab (G118 fuel) (J118 fuel) kp118 fuel Try.f118 [.c (.int .i64 x0), .c (.int .i64 x1)] [] k = F_bitmap_fits fuel x0 x1 (fun r => match r with | r0 => k (.c (.bool r0), [])) := by
  kernel_rfl
theorem hG118 (fuel : Nat) : GOK Try.prog (G118 fuel) :=
  gok_nil
theorem fok118 (fuel : Nat) : FnOK Try.prog 118 (evalFn tab (G118 fuel) (J118 fuel) kp118 fuel Try.f118) :=
  fn_ok tab_ok (hG118 fuel) mixed Try.func118 (c := (Try.f118.body).getD .skip) rfl (fun q hq => by
    rw [(by kernel_rfl : obl (J118 fuel) ((Try.f118.body).getD .skip) = [])] at hq
    cases hq)
noncomputable def mt118 : List Ev.SV → List Ev.Ob → Bool := fun args objs => match args, objs with
  | [.c (.int .i64 _), .c (.int .i64 _)], [] => true
  | _, _ => false
noncomputable def spg118 (F : YF118) : Ev.Spec := fun args objs k => match args, objs with
  | [.c (.int .i64 x0), .c (.int .i64 x1)], [] => bif true then F x0 x1 (fun r => match r with | r0 => k (.c (.bool r0), [])) else none
  | _, _ => none
noncomputable def spec118 (fuel : Nat) : Ev.Spec := spg118 (F_bitmap_fits fuel)
theorem ok118 (fuel : Nat) : FnOK Try.prog 118 (spec118 fuel) := by
  intro args objs kk r h
  unfold spec118 spg118 at h
  split at h
  · skip
    obtain ⟨hb, h⟩ := cond_some' h
    simp only [Bool.and_eq_true, Nat.beq_eq, decide_eq_true_eq] at hb
    clear hb
    exact fok118 fuel _ _ kk r ((F118_eq fuel _ _ kk).trans h)
  · cases h
end Go.Proofs.Ytipdidpalcmlhaa

set_option linter.unusedVariables false
set_option linter.unusedSimpArgs false
set_option maxRecDepth 100000
set_option maxHeartbeats 2000000
namespace Go.Proofs.Ytipdidpalcmlhaa
open Go Ev
def kp66 (i : Nat) : Option (List Nat) := Ev.look i []
noncomputable def Gg66 (f118 : YF118) (f : Nat) : Option Ev.Spec := Ev.look f [(118, spg118 f118)]
noncomputable def G66 (fuel : Nat) : Nat → Option Ev.Spec := Gg66 (F_bitmap_fits fuel)
noncomputable def J66 (fuel : Nat) (i : Nat) : Option Ev.Blk := Ev.look i []
noncomputable def F_bitmap_blank (fuel : Nat) (x0 : Int) (x1 : Int) (k0 : (Int × Int × Int × (List Int)) → Option Ans) : Option Ans :=
  (F_bitmap_fits fuel (x0) (x1)
    (fun y2 =>
      bif !y2 then
       k0 ((0 : Int), (0 : Int), (4 : Int), [])
      else
       bif Decidable.decide ((0 : Int) ≤ Go.IntKind.i64.wrap (x0 * x1) ∧ Go.IntKind.i64.wrap (x0 * x1) = Go.IntKind.i64.wrap (x0 * x1) ∧ (↑(1 : Nat) : Int) * Go.IntKind.i64.wrap (x0 * x1) ≤ (281474976710656 : Int) ∧ Go.IntKind.i64.wrap (x0 * x1) ≤ (281474976710656 : Int)) then
       k0 (x0, x1, (0 : Int), List.replicate (Go.IntKind.i64.wrap (x0 * x1)).toNat (0 : Int))
       else none))
abbrev YF66 : Type := (Int) → (Int) → ((Int × Int × Int × (List Int)) → Option Ans) → Option Ans
theorem F66_eqg (fuel : Nat) (f118 : YF118) (x0 : Int) (x1 : Int) (k : Ev.Cont) : evalFn tab (Gg66 f118) (J66 fuel) kp66 fuel Try.f66 [.c (.int .i64 x0), .c (.int .i64 x1)] [] k = (fun  (k0 : (Int × Int × Int × (List Int)) → Option Ans) =>
  (f118 (x0) (x1)
    (fun y2 =>
      bif !y2 then
       k0 ((0 : Int), (0 : Int), (4 : Int), [])
      else
       bif Decidable.decide ((0 : Int) ≤ Go.IntKind.i64.wrap (x0 * x1) ∧ Go.IntKind.i64.wrap (x0 * x1) = Go.IntKind.i64.wrap (x0 * x1) ∧ (↑(1 : Nat) : Int) * Go.IntKind.i64.wrap (x0 * x1) ≤ (281474976710656 : Int) ∧ Go.IntKind.i64.wrap (x0 * x1) ≤ (281474976710656 : Int)) then
       k0 (x0, x1, (0 : Int), List.replicate (Go.IntKind.i64.wrap (x0 * x1)).toNat (0 : Int))
       else none))) (fun r => match r with | (r0, r1, r2, r3) => k (.tup [(true, [.int .i64 r0, .int .i64 r1, .own 0]), (false, [.int .i64 r2])], [.vec 5 (.int .u8) r3 true])) := by
  kernel_rfl
theorem F66_eq (fuel : Nat) (x0 : Int) (x1 : Int) (k : Ev.Cont) : evalFn tab (G66 fuel) (J66 fuel) kp66 fuel Try.f66 [.c (.int .i64 x0), .c (.int .i64 x1)] [] k = F_bitmap_blank fuel x0 x1 (fun r => match r with | (r0, r1, r2, r3) => k (.tup [(true, [.int .i64 r0, .int .i64 r1, .own 0]), (false, [.int .i64 r2])], [.vec 5 (.int .u8) r3 true])) :=
  F66_eqg fuel (F_bitmap_fits fuel) x0 x1 k
theorem hG66 (fuel : Nat) : GOK Try.prog (G66 fuel) :=
  gok_cons ⟨ok118 fuel, enters_of Try.func118 (by kernel_rfl) rfl⟩ <|
  gok_nil
theorem fok66 (fuel : Nat) : FnOK Try.prog 66 (evalFn tab (G66 fuel) (J66 fuel) kp66 fuel Try.f66) :=
  fn_ok tab_ok (hG66 fuel) mixed Try.func66 (c := (Try.f66.body).getD .skip) rfl (fun q hq => by
    rw [(by kernel_rfl : obl (J66 fuel) ((Try.f66.body).getD .skip) = [])] at hq
    cases hq)
noncomputable def mt66 : List Ev.SV → List Ev.Ob → Bool := fun args objs => match args, objs with
  | [.c (.int .i64 _), .c (.int .i64 _)], [] => true
  | _, _ => false
noncomputable def spg66 (F : YF66) : Ev.Spec := fun args objs k => match args, objs with
  | [.c (.int .i64 x0), .c (.int .i64 x1)], [] => bif true then F x0 x1 (fun r => match r with | (r0, r1, r2, r3) => k (.tup [(true, [.int .i64 r0, .int .i64 r1, .own 0]), (false, [.int .i64 r2])], [.vec 5 (.int .u8) r3 true])) else none
  | _, _ => none
noncomputable def spec66 (fuel : Nat) : Ev.Spec := spg66 (F_bitmap_blank fuel)
theorem ok66 (fuel : Nat) : FnOK Try.prog 66 (spec66 fuel) := by
  intro args objs kk r h
  unfold spec66 spg66 at h
  split at h
  · skip
    obtain ⟨hb, h⟩ := cond_some' h
    simp only [Bool.and_eq_true, Nat.beq_eq, decide_eq_true_eq] at hb
    clear hb
    exact fok66 fuel _ _ kk r ((F66_eq fuel _ _ kk).trans h)
  · cases h
end Go.Proofs.Ytipdidpalcmlhaa

set_option linter.unusedVariables false
set_option linter.unusedSimpArgs false
set_option maxRecDepth 100000
set_option maxHeartbeats 2000000
namespace Go.Proofs.Ytipdidpalcmlhaa
open Go Ev
def kp25 (i : Nat) : Option (List Nat) := Ev.look i [(5, [2, 6, 8, 9, 34, 35]), (100000, [6, 8, 9]), (400000, [6, 7])]
noncomputable def Gg25 (f66 : YF66) (f : Nat) : Option Ev.Spec := Ev.look f [(66, spg66 f66)]
noncomputable def G25 (fuel : Nat) : Nat → Option Ev.Spec := Gg25 (F_bitmap_blank fuel)
noncomputable def S_bitmap_New_0 (fuel : Nat) (v : Int × Int × Int × Int × Int × Int × Int × Int × (List Int) × (List Int)) (c : (Int × Int × Int × Int × Int × Int × Int × Int × (List Int) × (List Int)) → Option Ans) (B : (Int × Int × Int × Int × Int × (List Int) × (List Int) → Option Ans)) : Option Ans := match v, B with
  | (x0, x1, x2, x3, x4, x5, x6, x7, x8, x9), b =>
   bif Decidable.decide (x3 < x2) then
      bif Decidable.decide ((0 : Int) ≤ x3 ∧ x3 < (↑x9.length : Int)) then
      c (x0, x1, x2, Go.IntKind.i64.wrap (x3 + (1 : Int)), x4, x5, x6, x7, x8, x9.set x3.toNat (Go.IntKind.u8.wrap x0))
      else none
     else
      b (x1, x4, x5, x6, x7, x8, x9)
noncomputable def L_bitmap_New_0 (fuel : Nat) (v : Int × Int × Int × Int × Int × Int × Int × Int × (List Int) × (List Int)) (b : (Int × Int × Int × Int × Int × (List Int) × (List Int) → Option Ans)) : Option Ans := iter (S_bitmap_New_0 fuel) fuel v b
noncomputable def J25_0 (fuel : Nat) (i : Nat) : Option Ev.Blk := Ev.look i []
noncomputable def T25_0 (v : Int × Int × Int × Int × Int × Int × Int × Int × (List Int) × (List Int)) : Ev.St := match v with | (x0, x1, x2, x3, x4, x5, x6, x7, x8, x9) => ⟨[(2, .c (.int .i64 x0)), (6, .c (.ptr 0 0)), (8, .c (.ptr 1 0)), (9, .c (.int .i64 x1)), (34, .c (.int .i64 x2)), (35, .c (.int .i64 x3))], [(0, .cells 35 [.int .i64 x4, .int .i64 x5, .own 2]), (1, .cells 35 [.int .i64 x6, .int .i64 x7, .own 3]), (2, .vec 5 (.int .u8) x8 true), (3, .vec 5 (.int .u8) x9 true)], 4, 0⟩
noncomputable def E25_0 (K : Ev.Ex → Ev.St → Option Ans) : (Int × Int × Int × Int × Int × (List Int) × (List Int) → Option Ans) := (fun v => match v with | (x0, x1, x2, x3, x4, x5, x6) => K .normal ⟨[(6, .c (.ptr 0 0)), (8, .c (.ptr 1 0)), (9, .c (.int .i64 x0))], [(0, .cells 35 [.int .i64 x1, .int .i64 x2, .own 2]), (1, .cells 35 [.int .i64 x3, .int .i64 x4, .own 3]), (2, .vec 5 (.int .u8) x5 true), (3, .vec 5 (.int .u8) x6 true)], 4, 0⟩)
theorem S25_0_okg (fuel : Nat) (f66 : YF66) (R : Ev.St → Option Ans) (K : Ev.Ex → Ev.St → Option Ans) (x0 : Int) (x1 : Int) (x2 : Int) (x3 : Int) (x4 : Int) (x5 : Int) (x6 : Int) (x7 : Int) (x8 : (List Int)) (x9 : (List Int)) : evalCode tab (Gg25 f66) (J25_0 fuel) kp25 fuel (bodyOf 0 Try.f25) (T25_0 (x0, x1, x2, x3, x4, x5, x6, x7, x8, x9)) (lc kp25 5 0 R K) = (fun (c : (Int × Int × Int × Int × Int × Int × Int × Int × (List Int) × (List Int)) → Option Ans) (B : (Int × Int × Int × Int × Int × (List Int) × (List Int) → Option Ans)) => match B with
  | b =>
   bif Decidable.decide (x3 < x2) then
      bif Decidable.decide ((0 : Int) ≤ x3 ∧ x3 < (↑x9.length : Int)) then
      c (x0, x1, x2, Go.IntKind.i64.wrap (x3 + (1 : Int)), x4, x5, x6, x7, x8, x9.set x3.toNat (Go.IntKind.u8.wrap x0))
      else none
     else
      b (x1, x4, x5, x6, x7, x8, x9)) (fun v => R (T25_0 v)) (E25_0 K) := by
  kernel_rfl
theorem S25_0_ok (fuel : Nat) (R : Ev.St → Option Ans) (K : Ev.Ex → Ev.St → Option Ans) (x0 : Int) (x1 : Int) (x2 : Int) (x3 : Int) (x4 : Int) (x5 : Int) (x6 : Int) (x7 : Int) (x8 : (List Int)) (x9 : (List Int)) : evalCode tab (G25 fuel) (J25_0 fuel) kp25 fuel (bodyOf 0 Try.f25) (T25_0 (x0, x1, x2, x3, x4, x5, x6, x7, x8, x9)) (lc kp25 5 0 R K) = S_bitmap_New_0 fuel (x0, x1, x2, x3, x4, x5, x6, x7, x8, x9) (fun v => R (T25_0 v)) (E25_0 K) :=
  S25_0_okg fuel (F_bitmap_blank fuel) R K x0 x1 x2 x3 x4 x5 x6 x7 x8 x9
noncomputable def B25_0 (fuel : Nat) : Ev.Blk := fun st K => match canonO (kp25 5) st with
  | some s => (match s with
    | ⟨[(q0, .c (.int .i64 x0)), (q1, .c (.ptr q2 q3)), (q4, .c (.ptr q5 q6)), (q7, .c (.int .i64 x1)), (q8, .c (.int .i64 x2)), (q9, .c (.int .i64 x3))], [(q10, .cells q11 [.int .i64 x4, .int .i64 x5, .own q12]), (q13, .cells q14 [.int .i64 x6, .int .i64 x7, .own q15]), (q16, .vec q17 (.int .u8) x8 true), (q18, .vec q19 (.int .u8) x9 true)], q20, q21⟩ => bif Nat.beq q0 2 && Nat.beq q1 6 && Nat.beq q2 0 && Nat.beq q3 0 && Nat.beq q4 8 && Nat.beq q5 1 && Nat.beq q6 0 && Nat.beq q7 9 && Nat.beq q8 34 && Nat.beq q9 35 && Nat.beq q10 0 && Nat.beq q11 35 && Nat.beq q12 2 && Nat.beq q13 1 && Nat.beq q14 35 && Nat.beq q15 3 && Nat.beq q16 2 && Nat.beq q17 5 && Nat.beq q18 3 && Nat.beq q19 5 && Nat.beq q20 4 && Nat.beq q21 0 then iter (S_bitmap_New_0 fuel) fuel (x0, x1, x2, x3, x4, x5, x6, x7, x8, x9) (E25_0 K) else none
    | _ => none)
  | none => none
theorem B25_0_ok (fuel : Nat) (st : Ev.St) (K : Ev.Ex → Ev.St → Option Ans) (r : Ans) (h : B25_0 fuel st K = some r) : evalCode tab (G25 fuel) (J25_0 fuel) kp25 fuel (.block 0 (.loop (bodyOf 0 Try.f25))) st K = some r := by
  unfold B25_0 at h
  split at h
  · rename_i s hs
    split at h
    · skip
      obtain ⟨hb, h⟩ := cond_some' h
      simp only [Bool.and_eq_true, Nat.beq_eq, decide_eq_true_eq] at hb
      obtain ⟨⟨⟨⟨⟨⟨⟨⟨⟨⟨⟨⟨⟨⟨⟨⟨⟨⟨⟨⟨⟨rfl, rfl⟩, rfl⟩, rfl⟩, rfl⟩, rfl⟩, rfl⟩, rfl⟩, rfl⟩, rfl⟩, rfl⟩, rfl⟩, rfl⟩, rfl⟩, rfl⟩, rfl⟩, rfl⟩, rfl⟩, rfl⟩, rfl⟩, rfl⟩, rfl⟩ := hb
      exact blk_loop (S := T25_0) (ks := E25_0) (step := S_bitmap_New_0 fuel) (v := (_, _, _, _, _, _, _, _, _, _)) (by kernel_rfl) (by kernel_rfl) (fun R K v => by obtain ⟨x0, x1, x2, x3, x4, x5, x6, x7, x8, x9⟩ := v; exact S25_0_ok fuel R K x0 x1 x2 x3 x4 x5 x6 x7 x8 x9) hs h
    · cases h
  · cases h
noncomputable def J25 (fuel : Nat) (i : Nat) : Option Ev.Blk := Ev.look i [(100000, B25_0 fuel)]
noncomputable def F_bitmap_New (fuel : Nat) (x0 : Int) (x1 : Int) (x2 : Int) (k0 : (Int × Int × Int × (List Int)) → Option Ans) : Option Ans :=
  bif Decidable.decide (x0 < (0 : Int)) then
   k0 ((0 : Int), (0 : Int), (2 : Int), [])
  else
   bif Decidable.decide (x1 < (0 : Int)) then
    k0 ((0 : Int), (0 : Int), (2 : Int), [])
   else
    bif x2 != (0 : Int) then
     bif x2 != (1 : Int) then
      k0 ((0 : Int), (0 : Int), (2 : Int), [])
     else
      (F_bitmap_blank fuel (x0) (x1)
        (fun (y6_0, y6_1, y6_2, y6_3) =>
          (L_bitmap_New_0 fuel (x2, y6_2, (↑y6_3.length : Int), (0 : Int), (0 : Int), (0 : Int), y6_0, y6_1, [], y6_3)
            (fun (b0_0, b0_1, b0_2, b0_3, b0_4, b0_5, b0_6) =>
              k0 (b0_3, b0_4, b0_0, b0_6)))))
    else
     (F_bitmap_blank fuel (x0) (x1)
       (fun (y5_0, y5_1, y5_2, y5_3) =>
         (L_bitmap_New_0 fuel (x2, y5_2, (↑y5_3.length : Int), (0 : Int), (0 : Int), (0 : Int), y5_0, y5_1, [], y5_3)
           (fun (b0_0, b0_1, b0_2, b0_3, b0_4, b0_5, b0_6) =>
             k0 (b0_3, b0_4, b0_0, b0_6)))))
abbrev YF25 : Type := (Int) → (Int) → (Int) → ((Int × Int × Int × (List Int)) → Option Ans) → Option Ans
theorem F25_eqg (fuel : Nat) (f66 : YF66) (x0 : Int) (x1 : Int) (x2 : Int) (k : Ev.Cont) : evalFn tab (Gg25 f66) (J25 fuel) kp25 fuel Try.f25 [.c (.int .i64 x0), .c (.int .i64 x1), .c (.int .i64 x2)] [] k = (fun  (k0 : (Int × Int × Int × (List Int)) → Option Ans) =>
  bif Decidable.decide (x0 < (0 : Int)) then
   k0 ((0 : Int), (0 : Int), (2 : Int), [])
  else
   bif Decidable.decide (x1 < (0 : Int)) then
    k0 ((0 : Int), (0 : Int), (2 : Int), [])
   else
    bif x2 != (0 : Int) then
     bif x2 != (1 : Int) then
      k0 ((0 : Int), (0 : Int), (2 : Int), [])
     else
      (f66 (x0) (x1)
        (fun (y6_0, y6_1, y6_2, y6_3) =>
          (L_bitmap_New_0 fuel (x2, y6_2, (↑y6_3.length : Int), (0 : Int), (0 : Int), (0 : Int), y6_0, y6_1, [], y6_3)
            (fun (b0_0, b0_1, b0_2, b0_3, b0_4, b0_5, b0_6) =>
              k0 (b0_3, b0_4, b0_0, b0_6)))))
    else
     (f66 (x0) (x1)
       (fun (y5_0, y5_1, y5_2, y5_3) =>
         (L_bitmap_New_0 fuel (x2, y5_2, (↑y5_3.length : Int), (0 : Int), (0 : Int), (0 : Int), y5_0, y5_1, [], y5_3)
           (fun (b0_0, b0_1, b0_2, b0_3, b0_4, b0_5, b0_6) =>
             k0 (b0_3, b0_4, b0_0, b0_6)))))) (fun r => match r with | (r0, r1, r2, r3) => k (.tup [(true, [.int .i64 r0, .int .i64 r1, .own 0]), (false, [.int .i64 r2])], [.vec 5 (.int .u8) r3 true])) := by
  kernel_rfl
theorem F25_eq (fuel : Nat) (x0 : Int) (x1 : Int) (x2 : Int) (k : Ev.Cont) : evalFn tab (G25 fuel) (J25 fuel) kp25 fuel Try.f25 [.c (.int .i64 x0), .c (.int .i64 x1), .c (.int .i64 x2)] [] k = F_bitmap_New fuel x0 x1 x2 (fun r => match r with | (r0, r1, r2, r3) => k (.tup [(true, [.int .i64 r0, .int .i64 r1, .own 0]), (false, [.int .i64 r2])], [.vec 5 (.int .u8) r3 true])) :=
  F25_eqg fuel (F_bitmap_blank fuel) x0 x1 x2 k
theorem hG25 (fuel : Nat) : GOK Try.prog (G25 fuel) :=
  gok_cons ⟨ok66 fuel, enters_of Try.func66 (by kernel_rfl) rfl⟩ <|
  gok_nil
theorem B25_0_blk (fuel : Nat) : BlkOK Try.prog Try.f25.ntmps (.block 0 (.loop (bodyOf 0 Try.f25))) (B25_0 fuel) :=
  blk_of (blk_of_code tab_ok (hG25 fuel) mixed (J := J25_0 fuel) (kp := kp25) (fuel := fuel) (by kernel_rfl) (fun q hq => by
    rw [(by kernel_rfl : obl (J25_0 fuel) (.block 0 (.loop (bodyOf 0 Try.f25))) = [])] at hq
    cases hq)) (B25_0_ok fuel)
theorem fok25 (fuel : Nat) : FnOK Try.prog 25 (evalFn tab (G25 fuel) (J25 fuel) kp25 fuel Try.f25) :=
  fn_ok tab_ok (hG25 fuel) mixed Try.func25 (c := (Try.f25.body).getD .skip) rfl (fun q hq => by
    rw [(by kernel_rfl : obl (J25 fuel) ((Try.f25.body).getD .skip) = [(.block 0 (.loop (bodyOf 0 Try.f25)), B25_0 fuel)])] at hq
    simp only [List.mem_cons, List.not_mem_nil, or_false] at hq
    subst hq
    · exact B25_0_blk fuel)
noncomputable def mt25 : List Ev.SV → List Ev.Ob → Bool := fun args objs => match args, objs with
  | [.c (.int .i64 _), .c (.int .i64 _), .c (.int .i64 _)], [] => true
  | _, _ => false
noncomputable def spg25 (F : YF25) : Ev.Spec := fun args objs k => match args, objs with
  | [.c (.int .i64 x0), .c (.int .i64 x1), .c (.int .i64 x2)], [] => bif true then F x0 x1 x2 (fun r => match r with | (r0, r1, r2, r3) => k (.tup [(true, [.int .i64 r0, .int .i64 r1, .own 0]), (false, [.int .i64 r2])], [.vec 5 (.int .u8) r3 true])) else none
  | _, _ => none
noncomputable def spec25 (fuel : Nat) : Ev.Spec := spg25 (F_bitmap_New fuel)
theorem ok25 (fuel : Nat) : FnOK Try.prog 25 (spec25 fuel) := by
  intro args objs kk r h
  unfold spec25 spg25 at h
  split at h
  · skip
    obtain ⟨hb, h⟩ := cond_some' h
    simp only [Bool.and_eq_true, Nat.beq_eq, decide_eq_true_eq] at hb
    clear hb
    exact fok25 fuel _ _ kk r ((F25_eq fuel _ _ _ kk).trans h)
  · cases h
end Go.Proofs.Ytipdidpalcmlhaa

set_option linter.unusedVariables false
set_option linter.unusedSimpArgs false
set_option maxRecDepth 100000
set_option maxHeartbeats 2000000
namespace Go.Proofs.Ytipdidpalcmlhaa
open Go Ev
def kp39_b33 (i : Nat) : Option (List Nat) := Ev.look i [(200001, [2, 3])]
noncomputable def Gg39_b33 (f : Nat) : Option Ev.Spec := Ev.look f []
noncomputable def G39_b33 (fuel : Nat) : Nat → Option Ev.Spec := Gg39_b33
noncomputable def J39_b33 (fuel : Nat) (i : Nat) : Option Ev.Blk := Ev.look i []
noncomputable def F_tone_Screen_1_b33 (fuel : Nat) (x0 : Int) (x1 : Int) (x2 : Int) (x3 : Int) (k0 : (Int × Int × Int) → Option Ans) : Option Ans :=
  bif Decidable.decide (x2 = (0 : Int)) then
   none
  else
   bif Decidable.decide (x2 = (0 : Int)) then
    none
   else
    bif Decidable.decide (x3 = (0 : Int)) then
     none
    else
     bif Decidable.decide (x2 = (0 : Int)) then
      none
     else
      bif Decidable.decide (x2 = (0 : Int)) then
       none
      else
       bif Decidable.decide (x3 = (0 : Int)) then
        none
       else
        k0 (Go.IntKind.i64.wrap ((Go.IntKind.i64.wrap (Go.IntKind.i64.wrap (x0.tmod x2 * (7 : Int)) + Go.IntKind.i64.wrap (Go.IntKind.i64.wrap (x0.tdiv x2) * (3 : Int)))).tmod x3 - (Go.IntKind.i64.wrap (Go.IntKind.i64.wrap (x1.tmod x2 * (7 : Int)) + Go.IntKind.i64.wrap (Go.IntKind.i64.wrap (x1.tdiv x2) * (3 : Int)))).tmod x3), x2, x3)
abbrev YF39_b33 : Type := (Int) → (Int) → (Int) → (Int) → ((Int × Int × Int) → Option Ans) → Option Ans
theorem F39_b33_eq (fuel : Nat) (x0 : Int) (x1 : Int) (x2 : Int) (x3 : Int) (k : Ev.Cont) : evalFn tab (G39_b33 fuel) (J39_b33 fuel) kp39_b33 fuel Try.f39 [.c (.int .i64 x0), .c (.int .i64 x1), .c (.ptr 0 0), .c (.ptr 1 0)] [.cells 3 [.int .i64 x2], .cells 3 [.int .i64 x3]] k = F_tone_Screen_1_b33 fuel x0 x1 x2 x3 (fun r => match r with | (r0, r1, r2) => k (.c (.int .i64 r0), [.cells 3 [.int .i64 r1], .cells 3 [.int .i64 r2]])) := by
  kernel_rfl
theorem hG39_b33 (fuel : Nat) : GOK Try.prog (G39_b33 fuel) :=
  gok_nil
theorem fok39_b33 (fuel : Nat) : FnOK Try.prog 39 (evalFn tab (G39_b33 fuel) (J39_b33 fuel) kp39_b33 fuel Try.f39) :=
  fn_ok tab_ok (hG39_b33 fuel) mixed Try.func39 (c := (Try.f39.body).getD .skip) rfl (fun q hq => by
    rw [(by kernel_rfl : obl (J39_b33 fuel) ((Try.f39.body).getD .skip) = [])] at hq
    cases hq)
noncomputable def mt39_b33 : List Ev.SV → List Ev.Ob → Bool := fun args objs => match args, objs with
  | [.c (.int .i64 _), .c (.int .i64 _), .c (.ptr q0 q1), .c (.ptr q2 q3)], [.cells q4 [.int .i64 _], .cells q5 [.int .i64 _]] => Nat.beq q0 0 && Nat.beq q1 0 && Nat.beq q2 1 && Nat.beq q3 0 && Nat.beq q4 3 && Nat.beq q5 3
  | _, _ => false
noncomputable def spg39_b33 (F : YF39_b33) : Ev.Spec := fun args objs k => match args, objs with
  | [.c (.int .i64 x0), .c (.int .i64 x1), .c (.ptr q0 q1), .c (.ptr q2 q3)], [.cells q4 [.int .i64 x2], .cells q5 [.int .i64 x3]] => bif Nat.beq q0 0 && Nat.beq q1 0 && Nat.beq q2 1 && Nat.beq q3 0 && Nat.beq q4 3 && Nat.beq q5 3 then F x0 x1 x2 x3 (fun r => match r with | (r0, r1, r2) => k (.c (.int .i64 r0), [.cells 3 [.int .i64 r1], .cells 3 [.int .i64 r2]])) else none
  | _, _ => none
noncomputable def spec39_b33 (fuel : Nat) : Ev.Spec := spg39_b33 (F_tone_Screen_1_b33 fuel)
theorem ok39_b33 (fuel : Nat) : FnOK Try.prog 39 (spec39_b33 fuel) := by
  intro args objs kk r h
  unfold spec39_b33 spg39_b33 at h
  split at h
  · skip
    obtain ⟨hb, h⟩ := cond_some' h
    simp only [Bool.and_eq_true, Nat.beq_eq, decide_eq_true_eq] at hb
    obtain ⟨⟨⟨⟨⟨rfl, rfl⟩, rfl⟩, rfl⟩, rfl⟩, rfl⟩ := hb
    exact fok39_b33 fuel _ _ kk r ((F39_b33_eq fuel _ _ _ _ kk).trans h)
  · cases h
end Go.Proofs.Ytipdidpalcmlhaa

