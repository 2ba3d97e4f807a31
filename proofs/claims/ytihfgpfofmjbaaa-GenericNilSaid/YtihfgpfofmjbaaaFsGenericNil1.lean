/- What the functions that GenericNil reaches do: their typed texts, each with the proof that the machine does it. No condition. -/
import Derived.Test.YtihfgpfofmjbaaaEvX
set_option linter.unusedVariables false
set_option linter.unusedSimpArgs false
set_option linter.unusedVariables false
set_option linter.unusedSimpArgs false
set_option maxRecDepth 100000
set_option maxHeartbeats 2000000
namespace Go.Proofs.Ytihfgpfofmjbaaa
open Go Ev
def kp159 (i : Nat) : Option (List Nat) := Ev.look i []
noncomputable def Gg159 (f : Nat) : Option Ev.Spec := Ev.look f []
noncomputable def G159 (fuel : Nat) : Nat → Option Ev.Spec := Gg159
noncomputable def J159 (fuel : Nat) (i : Nat) : Option Ev.Blk := Ev.look i []
noncomputable def F_bitmap_fits (fuel : Nat) (x0 : Int) (x1 : Int) (k0 : (Bool) → Option Ans) : Option Ans :=
  bif Decidable.decide (x0 ≥ (0 : Int)) then
   bif Decidable.decide (x1 ≥ (0 : Int)) then
    bif Decidable.decide (x0 ≤ (200 : Int)) then
     bif Decidable.decide (x1 ≤ (200 : Int)) then
      k0 (Decidable.decide (Go.IntKind.i64.wrap (x0 * x1) ≤ (8192 : Int)))
     else
      k0 Bool.false
    else
     k0 Bool.false
   else
    k0 Bool.false
  else
   k0 Bool.false
abbrev YF159 : Type := (Int) → (Int) → ((Bool) → Option Ans) → Option Ans
theorem F159_eq (fuel : Nat) (x0 : Int) (x1 : Int) (k : Ev.Cont) : evalFn tab (G159 fuel) (J159 fuel) kp159 fuel Try.f159 [.c (.int .i64 x0), .c (.int .i64 x1)] [] k = F_bitmap_fits fuel x0 x1 (fun r => match r with | r0 => k (.c (.bool r0), [])) := by
  kernel_rfl
theorem hG159 (fuel : Nat) : GOK Try.prog (G159 fuel) :=
  gok_nil
theorem fok159 (fuel : Nat) : FnOK Try.prog 159 (evalFn tab (G159 fuel) (J159 fuel) kp159 fuel Try.f159) :=
  fn_ok tab_ok (hG159 fuel) mixed Try.func159 (c := (Try.f159.body).getD .skip) rfl (fun q hq => by
    rw [(by kernel_rfl : obl (J159 fuel) ((Try.f159.body).getD .skip) = [])] at hq
    cases hq)
noncomputable def mt159 : List Ev.SV → List Ev.Ob → Bool := fun args objs => match args, objs with
  | [.c (.int .i64 _), .c (.int .i64 _)], [] => true
  | _, _ => false
noncomputable def spg159 (F : YF159) : Ev.Spec := fun args objs k => match args, objs with
  | [.c (.int .i64 x0), .c (.int .i64 x1)], [] => bif true then F x0 x1 (fun r => match r with | r0 => k (.c (.bool r0), [])) else none
  | _, _ => none
noncomputable def spec159 (fuel : Nat) : Ev.Spec := spg159 (F_bitmap_fits fuel)
theorem ok159 (fuel : Nat) : FnOK Try.prog 159 (spec159 fuel) := by
  intro args objs kk r h
  unfold spec159 spg159 at h
  split at h
  · skip
    obtain ⟨hb, h⟩ := cond_some' h
    simp only [Bool.and_eq_true, Nat.beq_eq, decide_eq_true_eq] at hb
    clear hb
    exact fok159 fuel _ _ kk r ((F159_eq fuel _ _ kk).trans h)
  · cases h
end Go.Proofs.Ytihfgpfofmjbaaa

set_option linter.unusedVariables false
set_option linter.unusedSimpArgs false
set_option maxRecDepth 100000
set_option maxHeartbeats 2000000
namespace Go.Proofs.Ytihfgpfofmjbaaa
open Go Ev
def kp149 (i : Nat) : Option (List Nat) := Ev.look i []
noncomputable def Gg149 (f159 : YF159) (f : Nat) : Option Ev.Spec := Ev.look f [(159, spg159 f159)]
noncomputable def G149 (fuel : Nat) : Nat → Option Ev.Spec := Gg149 (F_bitmap_fits fuel)
noncomputable def J149 (fuel : Nat) (i : Nat) : Option Ev.Blk := Ev.look i []
noncomputable def F_bitmap_blank (fuel : Nat) (x0 : Int) (x1 : Int) (k0 : (Int × Int × Int × (List Int)) → Option Ans) : Option Ans :=
  (F_bitmap_fits fuel (x0) (x1)
    (fun y2 =>
      bif !y2 then
       k0 ((0 : Int), (0 : Int), (4 : Int), [])
      else
       bif Decidable.decide ((0 : Int) ≤ Go.IntKind.i64.wrap (x0 * x1) ∧ Go.IntKind.i64.wrap (x0 * x1) = Go.IntKind.i64.wrap (x0 * x1) ∧ (↑(1 : Nat) : Int) * Go.IntKind.i64.wrap (x0 * x1) ≤ (281474976710656 : Int) ∧ Go.IntKind.i64.wrap (x0 * x1) ≤ (281474976710656 : Int)) then
       k0 (x0, x1, (0 : Int), List.replicate (Go.IntKind.i64.wrap (x0 * x1)).toNat (0 : Int))
       else none))
abbrev YF149 : Type := (Int) → (Int) → ((Int × Int × Int × (List Int)) → Option Ans) → Option Ans
theorem F149_eqg (fuel : Nat) (f159 : YF159) (x0 : Int) (x1 : Int) (k : Ev.Cont) : evalFn tab (Gg149 f159) (J149 fuel) kp149 fuel Try.f149 [.c (.int .i64 x0), .c (.int .i64 x1)] [] k = (fun  (k0 : (Int × Int × Int × (List Int)) → Option Ans) =>
  (f159 (x0) (x1)
    (fun y2 =>
      bif !y2 then
       k0 ((0 : Int), (0 : Int), (4 : Int), [])
      else
       bif Decidable.decide ((0 : Int) ≤ Go.IntKind.i64.wrap (x0 * x1) ∧ Go.IntKind.i64.wrap (x0 * x1) = Go.IntKind.i64.wrap (x0 * x1) ∧ (↑(1 : Nat) : Int) * Go.IntKind.i64.wrap (x0 * x1) ≤ (281474976710656 : Int) ∧ Go.IntKind.i64.wrap (x0 * x1) ≤ (281474976710656 : Int)) then
       k0 (x0, x1, (0 : Int), List.replicate (Go.IntKind.i64.wrap (x0 * x1)).toNat (0 : Int))
       else none))) (fun r => match r with | (r0, r1, r2, r3) => k (.tup [(true, [.int .i64 r0, .int .i64 r1, .own 0]), (false, [.int .i64 r2])], [.vec 5 (.int .u8) r3 true])) := by
  kernel_rfl
theorem F149_eq (fuel : Nat) (x0 : Int) (x1 : Int) (k : Ev.Cont) : evalFn tab (G149 fuel) (J149 fuel) kp149 fuel Try.f149 [.c (.int .i64 x0), .c (.int .i64 x1)] [] k = F_bitmap_blank fuel x0 x1 (fun r => match r with | (r0, r1, r2, r3) => k (.tup [(true, [.int .i64 r0, .int .i64 r1, .own 0]), (false, [.int .i64 r2])], [.vec 5 (.int .u8) r3 true])) :=
  F149_eqg fuel (F_bitmap_fits fuel) x0 x1 k
theorem hG149 (fuel : Nat) : GOK Try.prog (G149 fuel) :=
  gok_cons ⟨ok159 fuel, enters_of Try.func159 (by kernel_rfl) rfl⟩ <|
  gok_nil
theorem fok149 (fuel : Nat) : FnOK Try.prog 149 (evalFn tab (G149 fuel) (J149 fuel) kp149 fuel Try.f149) :=
  fn_ok tab_ok (hG149 fuel) mixed Try.func149 (c := (Try.f149.body).getD .skip) rfl (fun q hq => by
    rw [(by kernel_rfl : obl (J149 fuel) ((Try.f149.body).getD .skip) = [])] at hq
    cases hq)
noncomputable def mt149 : List Ev.SV → List Ev.Ob → Bool := fun args objs => match args, objs with
  | [.c (.int .i64 _), .c (.int .i64 _)], [] => true
  | _, _ => false
noncomputable def spg149 (F : YF149) : Ev.Spec := fun args objs k => match args, objs with
  | [.c (.int .i64 x0), .c (.int .i64 x1)], [] => bif true then F x0 x1 (fun r => match r with | (r0, r1, r2, r3) => k (.tup [(true, [.int .i64 r0, .int .i64 r1, .own 0]), (false, [.int .i64 r2])], [.vec 5 (.int .u8) r3 true])) else none
  | _, _ => none
noncomputable def spec149 (fuel : Nat) : Ev.Spec := spg149 (F_bitmap_blank fuel)
theorem ok149 (fuel : Nat) : FnOK Try.prog 149 (spec149 fuel) := by
  intro args objs kk r h
  unfold spec149 spg149 at h
  split at h
  · skip
    obtain ⟨hb, h⟩ := cond_some' h
    simp only [Bool.and_eq_true, Nat.beq_eq, decide_eq_true_eq] at hb
    clear hb
    exact fok149 fuel _ _ kk r ((F149_eq fuel _ _ kk).trans h)
  · cases h
end Go.Proofs.Ytihfgpfofmjbaaa

set_option linter.unusedVariables false
set_option linter.unusedSimpArgs false
set_option maxRecDepth 100000
set_option maxHeartbeats 2000000
namespace Go.Proofs.Ytihfgpfofmjbaaa
open Go Ev
def kp76 (i : Nat) : Option (List Nat) := Ev.look i [(5, [2, 6, 8, 9, 34, 35]), (100000, [6, 8, 9]), (400000, [6, 7])]
noncomputable def Gg76 (f149 : YF149) (f : Nat) : Option Ev.Spec := Ev.look f [(149, spg149 f149)]
noncomputable def G76 (fuel : Nat) : Nat → Option Ev.Spec := Gg76 (F_bitmap_blank fuel)
noncomputable def S_bitmap_New_0 (fuel : Nat) (v : Int × Int × Int × Int × Int × Int × Int × Int × (List Int) × (List Int)) (c : (Int × Int × Int × Int × Int × Int × Int × Int × (List Int) × (List Int)) → Option Ans) (B : (Int × Int × Int × Int × Int × (List Int) × (List Int) → Option Ans)) : Option Ans := match v, B with
  | (x0, x1, x2, x3, x4, x5, x6, x7, x8, x9), b =>
   bif Decidable.decide (x3 < x2) then
      bif Decidable.decide ((0 : Int) ≤ x3 ∧ x3 < (↑x9.length : Int)) then
      c (x0, x1, x2, Go.IntKind.i64.wrap (x3 + (1 : Int)), x4, x5, x6, x7, x8, x9.set x3.toNat (Go.IntKind.u8.wrap x0))
      else none
     else
      b (x1, x4, x5, x6, x7, x8, x9)
noncomputable def L_bitmap_New_0 (fuel : Nat) (v : Int × Int × Int × Int × Int × Int × Int × Int × (List Int) × (List Int)) (b : (Int × Int × Int × Int × Int × (List Int) × (List Int) → Option Ans)) : Option Ans := iter (S_bitmap_New_0 fuel) fuel v b
noncomputable def J76_0 (fuel : Nat) (i : Nat) : Option Ev.Blk := Ev.look i []
noncomputable def T76_0 (v : Int × Int × Int × Int × Int × Int × Int × Int × (List Int) × (List Int)) : Ev.St := match v with | (x0, x1, x2, x3, x4, x5, x6, x7, x8, x9) => ⟨[(2, .c (.int .i64 x0)), (6, .c (.ptr 0 0)), (8, .c (.ptr 1 0)), (9, .c (.int .i64 x1)), (34, .c (.int .i64 x2)), (35, .c (.int .i64 x3))], [(0, .cells 39 [.int .i64 x4, .int .i64 x5, .own 2]), (1, .cells 39 [.int .i64 x6, .int .i64 x7, .own 3]), (2, .vec 5 (.int .u8) x8 true), (3, .vec 5 (.int .u8) x9 true)], 4, 0⟩
noncomputable def E76_0 (K : Ev.Ex → Ev.St → Option Ans) : (Int × Int × Int × Int × Int × (List Int) × (List Int) → Option Ans) := (fun v => match v with | (x0, x1, x2, x3, x4, x5, x6) => K .normal ⟨[(6, .c (.ptr 0 0)), (8, .c (.ptr 1 0)), (9, .c (.int .i64 x0))], [(0, .cells 39 [.int .i64 x1, .int .i64 x2, .own 2]), (1, .cells 39 [.int .i64 x3, .int .i64 x4, .own 3]), (2, .vec 5 (.int .u8) x5 true), (3, .vec 5 (.int .u8) x6 true)], 4, 0⟩)
theorem S76_0_okg (fuel : Nat) (f149 : YF149) (R : Ev.St → Option Ans) (K : Ev.Ex → Ev.St → Option Ans) (x0 : Int) (x1 : Int) (x2 : Int) (x3 : Int) (x4 : Int) (x5 : Int) (x6 : Int) (x7 : Int) (x8 : (List Int)) (x9 : (List Int)) : evalCode tab (Gg76 f149) (J76_0 fuel) kp76 fuel (bodyOf 0 Try.f76) (T76_0 (x0, x1, x2, x3, x4, x5, x6, x7, x8, x9)) (lc kp76 5 0 R K) = (fun (c : (Int × Int × Int × Int × Int × Int × Int × Int × (List Int) × (List Int)) → Option Ans) (B : (Int × Int × Int × Int × Int × (List Int) × (List Int) → Option Ans)) => match B with
  | b =>
   bif Decidable.decide (x3 < x2) then
      bif Decidable.decide ((0 : Int) ≤ x3 ∧ x3 < (↑x9.length : Int)) then
      c (x0, x1, x2, Go.IntKind.i64.wrap (x3 + (1 : Int)), x4, x5, x6, x7, x8, x9.set x3.toNat (Go.IntKind.u8.wrap x0))
      else none
     else
      b (x1, x4, x5, x6, x7, x8, x9)) (fun v => R (T76_0 v)) (E76_0 K) := by
  kernel_rfl
theorem S76_0_ok (fuel : Nat) (R : Ev.St → Option Ans) (K : Ev.Ex → Ev.St → Option Ans) (x0 : Int) (x1 : Int) (x2 : Int) (x3 : Int) (x4 : Int) (x5 : Int) (x6 : Int) (x7 : Int) (x8 : (List Int)) (x9 : (List Int)) : evalCode tab (G76 fuel) (J76_0 fuel) kp76 fuel (bodyOf 0 Try.f76) (T76_0 (x0, x1, x2, x3, x4, x5, x6, x7, x8, x9)) (lc kp76 5 0 R K) = S_bitmap_New_0 fuel (x0, x1, x2, x3, x4, x5, x6, x7, x8, x9) (fun v => R (T76_0 v)) (E76_0 K) :=
  S76_0_okg fuel (F_bitmap_blank fuel) R K x0 x1 x2 x3 x4 x5 x6 x7 x8 x9
noncomputable def B76_0 (fuel : Nat) : Ev.Blk := fun st K => match canonO (kp76 5) st with
  | some s => (match s with
    | ⟨[(q0, .c (.int .i64 x0)), (q1, .c (.ptr q2 q3)), (q4, .c (.ptr q5 q6)), (q7, .c (.int .i64 x1)), (q8, .c (.int .i64 x2)), (q9, .c (.int .i64 x3))], [(q10, .cells q11 [.int .i64 x4, .int .i64 x5, .own q12]), (q13, .cells q14 [.int .i64 x6, .int .i64 x7, .own q15]), (q16, .vec q17 (.int .u8) x8 true), (q18, .vec q19 (.int .u8) x9 true)], q20, q21⟩ => bif Nat.beq q0 2 && Nat.beq q1 6 && Nat.beq q2 0 && Nat.beq q3 0 && Nat.beq q4 8 && Nat.beq q5 1 && Nat.beq q6 0 && Nat.beq q7 9 && Nat.beq q8 34 && Nat.beq q9 35 && Nat.beq q10 0 && Nat.beq q11 39 && Nat.beq q12 2 && Nat.beq q13 1 && Nat.beq q14 39 && Nat.beq q15 3 && Nat.beq q16 2 && Nat.beq q17 5 && Nat.beq q18 3 && Nat.beq q19 5 && Nat.beq q20 4 && Nat.beq q21 0 then iter (S_bitmap_New_0 fuel) fuel (x0, x1, x2, x3, x4, x5, x6, x7, x8, x9) (E76_0 K) else none
    | _ => none)
  | none => none
theorem B76_0_ok (fuel : Nat) (st : Ev.St) (K : Ev.Ex → Ev.St → Option Ans) (r : Ans) (h : B76_0 fuel st K = some r) : evalCode tab (G76 fuel) (J76_0 fuel) kp76 fuel (.block 0 (.loop (bodyOf 0 Try.f76))) st K = some r := by
  unfold B76_0 at h
  split at h
  · rename_i s hs
    split at h
    · skip
      obtain ⟨hb, h⟩ := cond_some' h
      simp only [Bool.and_eq_true, Nat.beq_eq, decide_eq_true_eq] at hb
      obtain ⟨⟨⟨⟨⟨⟨⟨⟨⟨⟨⟨⟨⟨⟨⟨⟨⟨⟨⟨⟨⟨rfl, rfl⟩, rfl⟩, rfl⟩, rfl⟩, rfl⟩, rfl⟩, rfl⟩, rfl⟩, rfl⟩, rfl⟩, rfl⟩, rfl⟩, rfl⟩, rfl⟩, rfl⟩, rfl⟩, rfl⟩, rfl⟩, rfl⟩, rfl⟩, rfl⟩ := hb
      exact blk_loop (S := T76_0) (ks := E76_0) (step := S_bitmap_New_0 fuel) (v := (_, _, _, _, _, _, _, _, _, _)) (by kernel_rfl) (by kernel_rfl) (fun R K v => by obtain ⟨x0, x1, x2, x3, x4, x5, x6, x7, x8, x9⟩ := v; exact S76_0_ok fuel R K x0 x1 x2 x3 x4 x5 x6 x7 x8 x9) hs h
    · cases h
  · cases h
noncomputable def J76 (fuel : Nat) (i : Nat) : Option Ev.Blk := Ev.look i [(100000, B76_0 fuel)]
noncomputable def F_bitmap_New (fuel : Nat) (x0 : Int) (x1 : Int) (x2 : Int) (k0 : (Int × Int × Int × (List Int)) → Option Ans) : Option Ans :=
  bif Decidable.decide (x0 < (0 : Int)) then
   k0 ((0 : Int), (0 : Int), (2 : Int), [])
  else
   bif Decidable.decide (x1 < (0 : Int)) then
    k0 ((0 : Int), (0 : Int), (2 : Int), [])
   else
    bif x2 != (0 : Int) then
     bif x2 != (1 : Int) then
      k0 ((0 : Int), (0 : Int), (2 : Int), [])
     else
      (F_bitmap_blank fuel (x0) (x1)
        (fun (y6_0, y6_1, y6_2, y6_3) =>
          (L_bitmap_New_0 fuel (x2, y6_2, (↑y6_3.length : Int), (0 : Int), (0 : Int), (0 : Int), y6_0, y6_1, [], y6_3)
            (fun (b0_0, b0_1, b0_2, b0_3, b0_4, b0_5, b0_6) =>
              k0 (b0_3, b0_4, b0_0, b0_6)))))
    else
     (F_bitmap_blank fuel (x0) (x1)
       (fun (y5_0, y5_1, y5_2, y5_3) =>
         (L_bitmap_New_0 fuel (x2, y5_2, (↑y5_3.length : Int), (0 : Int), (0 : Int), (0 : Int), y5_0, y5_1, [], y5_3)
           (fun (b0_0, b0_1, b0_2, b0_3, b0_4, b0_5, b0_6) =>
             k0 (b0_3, b0_4, b0_0, b0_6)))))
abbrev YF76 : Type := (Int) → (Int) → (Int) → ((Int × Int × Int × (List Int)) → Option Ans) → Option Ans
theorem F76_eqg (fuel : Nat) (f149 : YF149) (x0 : Int) (x1 : Int) (x2 : Int) (k : Ev.Cont) : evalFn tab (Gg76 f149) (J76 fuel) kp76 fuel Try.f76 [.c (.int .i64 x0), .c (.int .i64 x1), .c (.int .i64 x2)] [] k = (fun  (k0 : (Int × Int × Int × (List Int)) → Option Ans) =>
  bif Decidable.decide (x0 < (0 : Int)) then
   k0 ((0 : Int), (0 : Int), (2 : Int), [])
  else
   bif Decidable.decide (x1 < (0 : Int)) then
    k0 ((0 : Int), (0 : Int), (2 : Int), [])
   else
    bif x2 != (0 : Int) then
     bif x2 != (1 : Int) then
      k0 ((0 : Int), (0 : Int), (2 : Int), [])
     else
      (f149 (x0) (x1)
        (fun (y6_0, y6_1, y6_2, y6_3) =>
          (L_bitmap_New_0 fuel (x2, y6_2, (↑y6_3.length : Int), (0 : Int), (0 : Int), (0 : Int), y6_0, y6_1, [], y6_3)
            (fun (b0_0, b0_1, b0_2, b0_3, b0_4, b0_5, b0_6) =>
              k0 (b0_3, b0_4, b0_0, b0_6)))))
    else
     (f149 (x0) (x1)
       (fun (y5_0, y5_1, y5_2, y5_3) =>
         (L_bitmap_New_0 fuel (x2, y5_2, (↑y5_3.length : Int), (0 : Int), (0 : Int), (0 : Int), y5_0, y5_1, [], y5_3)
           (fun (b0_0, b0_1, b0_2, b0_3, b0_4, b0_5, b0_6) =>
             k0 (b0_3, b0_4, b0_0, b0_6)))))) (fun r => match r with | (r0, r1, r2, r3) => k (.tup [(true, [.int .i64 r0, .int .i64 r1, .own 0]), (false, [.int .i64 r2])], [.vec 5 (.int .u8) r3 true])) := by
  kernel_rfl
theorem F76_eq (fuel : Nat) (x0 : Int) (x1 : Int) (x2 : Int) (k : Ev.Cont) : evalFn tab (G76 fuel) (J76 fuel) kp76 fuel Try.f76 [.c (.int .i64 x0), .c (.int .i64 x1), .c (.int .i64 x2)] [] k = F_bitmap_New fuel x0 x1 x2 (fun r => match r with | (r0, r1, r2, r3) => k (.tup [(true, [.int .i64 r0, .int .i64 r1, .own 0]), (false, [.int .i64 r2])], [.vec 5 (.int .u8) r3 true])) :=
  F76_eqg fuel (F_bitmap_blank fuel) x0 x1 x2 k
theorem hG76 (fuel : Nat) : GOK Try.prog (G76 fuel) :=
  gok_cons ⟨ok149 fuel, enters_of Try.func149 (by kernel_rfl) rfl⟩ <|
  gok_nil
theorem B76_0_blk (fuel : Nat) : BlkOK Try.prog Try.f76.ntmps (.block 0 (.loop (bodyOf 0 Try.f76))) (B76_0 fuel) :=
  blk_of (blk_of_code tab_ok (hG76 fuel) mixed (J := J76_0 fuel) (kp := kp76) (fuel := fuel) (by kernel_rfl) (fun q hq => by
    rw [(by kernel_rfl : obl (J76_0 fuel) (.block 0 (.loop (bodyOf 0 Try.f76))) = [])] at hq
    cases hq)) (B76_0_ok fuel)
theorem fok76 (fuel : Nat) : FnOK Try.prog 76 (evalFn tab (G76 fuel) (J76 fuel) kp76 fuel Try.f76) :=
  fn_ok tab_ok (hG76 fuel) mixed Try.func76 (c := (Try.f76.body).getD .skip) rfl (fun q hq => by
    rw [(by kernel_rfl : obl (J76 fuel) ((Try.f76.body).getD .skip) = [(.block 0 (.loop (bodyOf 0 Try.f76)), B76_0 fuel)])] at hq
    simp only [List.mem_cons, List.not_mem_nil, or_false] at hq
    subst hq
    · exact B76_0_blk fuel)
noncomputable def mt76 : List Ev.SV → List Ev.Ob → Bool := fun args objs => match args, objs with
  | [.c (.int .i64 _), .c (.int .i64 _), .c (.int .i64 _)], [] => true
  | _, _ => false
noncomputable def spg76 (F : YF76) : Ev.Spec := fun args objs k => match args, objs with
  | [.c (.int .i64 x0), .c (.int .i64 x1), .c (.int .i64 x2)], [] => bif true then F x0 x1 x2 (fun r => match r with | (r0, r1, r2, r3) => k (.tup [(true, [.int .i64 r0, .int .i64 r1, .own 0]), (false, [.int .i64 r2])], [.vec 5 (.int .u8) r3 true])) else none
  | _, _ => none
noncomputable def spec76 (fuel : Nat) : Ev.Spec := spg76 (F_bitmap_New fuel)
theorem ok76 (fuel : Nat) : FnOK Try.prog 76 (spec76 fuel) := by
  intro args objs kk r h
  unfold spec76 spg76 at h
  split at h
  · skip
    obtain ⟨hb, h⟩ := cond_some' h
    simp only [Bool.and_eq_true, Nat.beq_eq, decide_eq_true_eq] at hb
    clear hb
    exact fok76 fuel _ _ kk r ((F76_eq fuel _ _ _ kk).trans h)
  · cases h
end Go.Proofs.Ytihfgpfofmjbaaa

set_option linter.unusedVariables false
set_option linter.unusedSimpArgs false
set_option maxRecDepth 100000
set_option maxHeartbeats 2000000
namespace Go.Proofs.Ytihfgpfofmjbaaa
open Go Ev
def kp89 (i : Nat) : Option (List Nat) := Ev.look i [(4, [23, 24, 25]), (100000, []), (400000, [2])]
noncomputable def Gg89 (f159 : YF159) (f : Nat) : Option Ev.Spec := Ev.look f [(159, spg159 f159)]
noncomputable def G89 (fuel : Nat) : Nat → Option Ev.Spec := Gg89 (F_bitmap_fits fuel)
noncomputable def S_bitmap_Valid_0 (fuel : Nat) (v : (List Int) × Int × Int) (c : ((List Int) × Int × Int) → Option Ans) (B : (Bool → Option Ans) × (Unit → Option Ans)) : Option Ans := match v, B with
  | (x0, x1, x2), (ret, b) =>
   bif Decidable.decide (x2 < x1) then
      bif Decidable.decide ((0 : Int) ≤ x2 ∧ x2 < (↑x0.length : Int)) then
      bif Decidable.decide (x0.getD x2.toNat (0 : Int) > (1 : Int)) then
        ret Bool.false
       else
        c (x0, x1, Go.IntKind.i64.wrap (x2 + (1 : Int)))
      else none
     else
      b ()
noncomputable def L_bitmap_Valid_0 (fuel : Nat) (v : (List Int) × Int × Int) (ret : (Bool → Option Ans)) (b : (Unit → Option Ans)) : Option Ans := iter (S_bitmap_Valid_0 fuel) fuel v (ret, b)
noncomputable def J89_0 (fuel : Nat) (i : Nat) : Option Ev.Blk := Ev.look i []
noncomputable def T89_0 (v : (List Int) × Int × Int) : Ev.St := match v with | (x0, x1, x2) => ⟨[(23, .c (.sl (.int .u8) x0)), (24, .c (.int .i64 x1)), (25, .c (.int .i64 x2))], [], 0, 0⟩
noncomputable def E89_0 (K : Ev.Ex → Ev.St → Option Ans) : (Bool → Option Ans) × (Unit → Option Ans) := ((fun v => match v with | x0 => K .ret ⟨[(2, .c (.bool x0))], [], 0, 0⟩), (fun v => match v with | () => K .normal ⟨[], [], 0, 0⟩))
theorem S89_0_okg (fuel : Nat) (f159 : YF159) (R : Ev.St → Option Ans) (K : Ev.Ex → Ev.St → Option Ans) (x0 : (List Int)) (x1 : Int) (x2 : Int) : evalCode tab (Gg89 f159) (J89_0 fuel) kp89 fuel (bodyOf 0 Try.f89) (T89_0 (x0, x1, x2)) (lc kp89 4 0 R K) = (fun (c : ((List Int) × Int × Int) → Option Ans) (B : (Bool → Option Ans) × (Unit → Option Ans)) => match B with
  | (ret, b) =>
   bif Decidable.decide (x2 < x1) then
      bif Decidable.decide ((0 : Int) ≤ x2 ∧ x2 < (↑x0.length : Int)) then
      bif Decidable.decide (x0.getD x2.toNat (0 : Int) > (1 : Int)) then
        ret Bool.false
       else
        c (x0, x1, Go.IntKind.i64.wrap (x2 + (1 : Int)))
      else none
     else
      b ()) (fun v => R (T89_0 v)) (E89_0 K) := by
  kernel_rfl
theorem S89_0_ok (fuel : Nat) (R : Ev.St → Option Ans) (K : Ev.Ex → Ev.St → Option Ans) (x0 : (List Int)) (x1 : Int) (x2 : Int) : evalCode tab (G89 fuel) (J89_0 fuel) kp89 fuel (bodyOf 0 Try.f89) (T89_0 (x0, x1, x2)) (lc kp89 4 0 R K) = S_bitmap_Valid_0 fuel (x0, x1, x2) (fun v => R (T89_0 v)) (E89_0 K) :=
  S89_0_okg fuel (F_bitmap_fits fuel) R K x0 x1 x2
noncomputable def B89_0 (fuel : Nat) : Ev.Blk := fun st K => match canonO (kp89 4) st with
  | some s => (match s with
    | ⟨[(q0, .c (.sl (.int .u8) x0)), (q1, .c (.int .i64 x1)), (q2, .c (.int .i64 x2))], [], q3, q4⟩ => bif Nat.beq q0 23 && Nat.beq q1 24 && Nat.beq q2 25 && Nat.beq q3 0 && Nat.beq q4 0 then iter (S_bitmap_Valid_0 fuel) fuel (x0, x1, x2) (E89_0 K) else none
    | _ => none)
  | none => none
theorem B89_0_ok (fuel : Nat) (st : Ev.St) (K : Ev.Ex → Ev.St → Option Ans) (r : Ans) (h : B89_0 fuel st K = some r) : evalCode tab (G89 fuel) (J89_0 fuel) kp89 fuel (.block 0 (.loop (bodyOf 0 Try.f89))) st K = some r := by
  unfold B89_0 at h
  split at h
  · rename_i s hs
    split at h
    · skip
      obtain ⟨hb, h⟩ := cond_some' h
      simp only [Bool.and_eq_true, Nat.beq_eq, decide_eq_true_eq] at hb
      obtain ⟨⟨⟨⟨rfl, rfl⟩, rfl⟩, rfl⟩, rfl⟩ := hb
      exact blk_loop (S := T89_0) (ks := E89_0) (step := S_bitmap_Valid_0 fuel) (v := (_, _, _)) (by kernel_rfl) (by kernel_rfl) (fun R K v => by obtain ⟨x0, x1, x2⟩ := v; exact S89_0_ok fuel R K x0 x1 x2) hs h
    · cases h
  · cases h
noncomputable def J89 (fuel : Nat) (i : Nat) : Option Ev.Blk := Ev.look i [(100000, B89_0 fuel)]
noncomputable def F_bitmap_Valid (fuel : Nat) (x0 : Int) (x1 : Int) (x2 : (List Int)) (k0 : (Bool) → Option Ans) : Option Ans :=
  (F_bitmap_fits fuel (x0) (x1)
    (fun y2 =>
      bif !y2 then
       k0 Bool.false
      else
       bif (↑x2.length : Int) != Go.IntKind.i64.wrap (x0 * x1) then
        k0 Bool.false
       else
        (L_bitmap_Valid_0 fuel (x2, (↑x2.length : Int), (0 : Int))
          (fun ret0_0 =>
            k0 ret0_0)
          (fun () =>
            k0 Bool.true))))
abbrev YF89 : Type := (Int) → (Int) → ((List Int)) → ((Bool) → Option Ans) → Option Ans
theorem F89_eqg (fuel : Nat) (f159 : YF159) (x0 : Int) (x1 : Int) (x2 : (List Int)) (k : Ev.Cont) : evalFn tab (Gg89 f159) (J89 fuel) kp89 fuel Try.f89 [.agg [.int .i64 x0, .int .i64 x1, .sl (.int .u8) x2]] [] k = (fun  (k0 : (Bool) → Option Ans) =>
  (f159 (x0) (x1)
    (fun y2 =>
      bif !y2 then
       k0 Bool.false
      else
       bif (↑x2.length : Int) != Go.IntKind.i64.wrap (x0 * x1) then
        k0 Bool.false
       else
        (L_bitmap_Valid_0 fuel (x2, (↑x2.length : Int), (0 : Int))
          (fun ret0_0 =>
            k0 ret0_0)
          (fun () =>
            k0 Bool.true))))) (fun r => match r with | r0 => k (.c (.bool r0), [])) := by
  kernel_rfl
theorem F89_eq (fuel : Nat) (x0 : Int) (x1 : Int) (x2 : (List Int)) (k : Ev.Cont) : evalFn tab (G89 fuel) (J89 fuel) kp89 fuel Try.f89 [.agg [.int .i64 x0, .int .i64 x1, .sl (.int .u8) x2]] [] k = F_bitmap_Valid fuel x0 x1 x2 (fun r => match r with | r0 => k (.c (.bool r0), [])) :=
  F89_eqg fuel (F_bitmap_fits fuel) x0 x1 x2 k
theorem hG89 (fuel : Nat) : GOK Try.prog (G89 fuel) :=
  gok_cons ⟨ok159 fuel, enters_of Try.func159 (by kernel_rfl) rfl⟩ <|
  gok_nil
theorem B89_0_blk (fuel : Nat) : BlkOK Try.prog Try.f89.ntmps (.block 0 (.loop (bodyOf 0 Try.f89))) (B89_0 fuel) :=
  blk_of (blk_of_code tab_ok (hG89 fuel) mixed (J := J89_0 fuel) (kp := kp89) (fuel := fuel) (by kernel_rfl) (fun q hq => by
    rw [(by kernel_rfl : obl (J89_0 fuel) (.block 0 (.loop (bodyOf 0 Try.f89))) = [])] at hq
    cases hq)) (B89_0_ok fuel)
theorem fok89 (fuel : Nat) : FnOK Try.prog 89 (evalFn tab (G89 fuel) (J89 fuel) kp89 fuel Try.f89) :=
  fn_ok tab_ok (hG89 fuel) mixed Try.func89 (c := (Try.f89.body).getD .skip) rfl (fun q hq => by
    rw [(by kernel_rfl : obl (J89 fuel) ((Try.f89.body).getD .skip) = [(.block 0 (.loop (bodyOf 0 Try.f89)), B89_0 fuel)])] at hq
    simp only [List.mem_cons, List.not_mem_nil, or_false] at hq
    subst hq
    · exact B89_0_blk fuel)
noncomputable def mt89 : List Ev.SV → List Ev.Ob → Bool := fun args objs => match args, objs with
  | [.agg [.int .i64 _, .int .i64 _, .sl (.int .u8) _]], [] => true
  | _, _ => false
noncomputable def spg89 (F : YF89) : Ev.Spec := fun args objs k => match args, objs with
  | [.agg [.int .i64 x0, .int .i64 x1, .sl (.int .u8) x2]], [] => bif true then F x0 x1 x2 (fun r => match r with | r0 => k (.c (.bool r0), [])) else none
  | _, _ => none
noncomputable def spec89 (fuel : Nat) : Ev.Spec := spg89 (F_bitmap_Valid fuel)
theorem ok89 (fuel : Nat) : FnOK Try.prog 89 (spec89 fuel) := by
  intro args objs kk r h
  unfold spec89 spg89 at h
  split at h
  · skip
    obtain ⟨hb, h⟩ := cond_some' h
    simp only [Bool.and_eq_true, Nat.beq_eq, decide_eq_true_eq] at hb
    clear hb
    exact fok89 fuel _ _ kk r ((F89_eq fuel _ _ _ kk).trans h)
  · cases h
end Go.Proofs.Ytihfgpfofmjbaaa

set_option linter.unusedVariables false
set_option linter.unusedSimpArgs false
set_option maxRecDepth 100000
set_option maxHeartbeats 2000000
namespace Go.Proofs.Ytihfgpfofmjbaaa
open Go Ev
def kp165_975 (i : Nat) : Option (List Nat) := Ev.look i []
noncomputable def Gg165_975 (f : Nat) : Option Ev.Spec := Ev.look f []
noncomputable def G165_975 (fuel : Nat) : Nat → Option Ev.Spec := Gg165_975
noncomputable def J165_975 (fuel : Nat) (i : Nat) : Option Ev.Blk := Ev.look i []
noncomputable def F_coder_Decoder_none_975 (fuel : Nat)  (k0 : (Bool) → Option Ans) : Option Ans :=
  k0 Bool.true
abbrev YF165_975 : Type := ((Bool) → Option Ans) → Option Ans
theorem F165_975_eq (fuel : Nat)  (k : Ev.Cont) : evalFn tab (G165_975 fuel) (J165_975 fuel) kp165_975 fuel Try.f165 [.c (.nilptr)] [] k = F_coder_Decoder_none_975 fuel  (fun r => match r with | r0 => k (.c (.bool r0), [])) := by
  kernel_rfl
theorem hG165_975 (fuel : Nat) : GOK Try.prog (G165_975 fuel) :=
  gok_nil
theorem fok165_975 (fuel : Nat) : FnOK Try.prog 165 (evalFn tab (G165_975 fuel) (J165_975 fuel) kp165_975 fuel Try.f165) :=
  fn_ok tab_ok (hG165_975 fuel) mixed Try.func165 (c := (Try.f165.body).getD .skip) rfl (fun q hq => by
    rw [(by kernel_rfl : obl (J165_975 fuel) ((Try.f165.body).getD .skip) = [])] at hq
    cases hq)
noncomputable def mt165_975 : List Ev.SV → List Ev.Ob → Bool := fun args objs => match args, objs with
  | [.c (.nilptr)], [] => true
  | _, _ => false
noncomputable def spg165_975 (F : YF165_975) : Ev.Spec := fun args objs k => match args, objs with
  | [.c (.nilptr)], [] => bif true then F  (fun r => match r with | r0 => k (.c (.bool r0), [])) else none
  | _, _ => none
noncomputable def spec165_975 (fuel : Nat) : Ev.Spec := spg165_975 (F_coder_Decoder_none_975 fuel)
theorem ok165_975 (fuel : Nat) : FnOK Try.prog 165 (spec165_975 fuel) := by
  intro args objs kk r h
  unfold spec165_975 spg165_975 at h
  split at h
  · skip
    obtain ⟨hb, h⟩ := cond_some' h
    simp only [Bool.and_eq_true, Nat.beq_eq, decide_eq_true_eq] at hb
    clear hb
    exact fok165_975 fuel _ _ kk r ((F165_975_eq fuel kk).trans h)
  · cases h
end Go.Proofs.Ytihfgpfofmjbaaa

set_option linter.unusedVariables false
set_option linter.unusedSimpArgs false
set_option maxRecDepth 100000
set_option maxHeartbeats 2000000
namespace Go.Proofs.Ytihfgpfofmjbaaa
open Go Ev
def kp93_020 (i : Nat) : Option (List Nat) := Ev.look i [(12, [0, 1, 6, 8, 9]), (100001, [0, 1, 6, 8, 9]), (200010, [0]), (400001, [4, 5])]
noncomputable def Gg93_020 (f165_975 : YF165_975) (f : Nat) : Option Ev.Spec := Ev.look f [(165, spg165_975 f165_975)]
noncomputable def G93_020 (fuel : Nat) : Nat → Option Ev.Spec := Gg93_020 (F_coder_Decoder_none_975 fuel)
noncomputable def J93_020 (fuel : Nat) (i : Nat) : Option Ev.Blk := Ev.look i []
noncomputable def F_coder_Decoder_Get_020 (fuel : Nat) (x0 : Int) (k0 : (Int × Int) → Option Ans) : Option Ans :=
  (F_coder_Decoder_none_975 fuel
    (fun y2 =>
      bif y2 then
       k0 ((0 : Int), (7 : Int))
      else
       bif Decidable.decide (x0 < (0 : Int)) then
       k0 ((0 : Int), (2 : Int))
       else none))
abbrev YF93_020 : Type := (Int) → ((Int × Int) → Option Ans) → Option Ans
theorem F93_020_eqg (fuel : Nat) (f165_975 : YF165_975) (x0 : Int) (k : Ev.Cont) : evalFn tab (Gg93_020 f165_975) (J93_020 fuel) kp93_020 fuel Try.f93 [.c (.nilptr), .c (.int .i64 x0)] [] k = (fun  (k0 : (Int × Int) → Option Ans) =>
  (f165_975
    (fun y2 =>
      bif y2 then
       k0 ((0 : Int), (7 : Int))
      else
       bif Decidable.decide (x0 < (0 : Int)) then
       k0 ((0 : Int), (2 : Int))
       else none))) (fun r => match r with | (r0, r1) => k (.tup [(false, [.int .i64 r0]), (false, [.int .i64 r1])], [])) := by
  kernel_rfl
theorem F93_020_eq (fuel : Nat) (x0 : Int) (k : Ev.Cont) : evalFn tab (G93_020 fuel) (J93_020 fuel) kp93_020 fuel Try.f93 [.c (.nilptr), .c (.int .i64 x0)] [] k = F_coder_Decoder_Get_020 fuel x0 (fun r => match r with | (r0, r1) => k (.tup [(false, [.int .i64 r0]), (false, [.int .i64 r1])], [])) :=
  F93_020_eqg fuel (F_coder_Decoder_none_975 fuel) x0 k
theorem hG93_020 (fuel : Nat) : GOK Try.prog (G93_020 fuel) :=
  gok_cons ⟨ok165_975 fuel, enters_of Try.func165 (by kernel_rfl) rfl⟩ <|
  gok_nil
theorem fok93_020 (fuel : Nat) : FnOK Try.prog 93 (evalFn tab (G93_020 fuel) (J93_020 fuel) kp93_020 fuel Try.f93) :=
  fn_ok tab_ok (hG93_020 fuel) mixed Try.func93 (c := (Try.f93.body).getD .skip) rfl (fun q hq => by
    rw [(by kernel_rfl : obl (J93_020 fuel) ((Try.f93.body).getD .skip) = [])] at hq
    cases hq)
noncomputable def mt93_020 : List Ev.SV → List Ev.Ob → Bool := fun args objs => match args, objs with
  | [.c (.nilptr), .c (.int .i64 _)], [] => true
  | _, _ => false
noncomputable def spg93_020 (F : YF93_020) : Ev.Spec := fun args objs k => match args, objs with
  | [.c (.nilptr), .c (.int .i64 x0)], [] => bif true then F x0 (fun r => match r with | (r0, r1) => k (.tup [(false, [.int .i64 r0]), (false, [.int .i64 r1])], [])) else none
  | _, _ => none
noncomputable def spec93_020 (fuel : Nat) : Ev.Spec := spg93_020 (F_coder_Decoder_Get_020 fuel)
theorem ok93_020 (fuel : Nat) : FnOK Try.prog 93 (spec93_020 fuel) := by
  intro args objs kk r h
  unfold spec93_020 spg93_020 at h
  split at h
  · skip
    obtain ⟨hb, h⟩ := cond_some' h
    simp only [Bool.and_eq_true, Nat.beq_eq, decide_eq_true_eq] at hb
    clear hb
    exact fok93_020 fuel _ _ kk r ((F93_020_eq fuel _ kk).trans h)
  · cases h
end Go.Proofs.Ytihfgpfofmjbaaa

set_option linter.unusedVariables false
set_option linter.unusedSimpArgs false
set_option maxRecDepth 100000
set_option maxHeartbeats 2000000
namespace Go.Proofs.Ytihfgpfofmjbaaa
open Go Ev
def kp96_975 (i : Nat) : Option (List Nat) := Ev.look i []
noncomputable def Gg96_975 (f165_975 : YF165_975) (f : Nat) : Option Ev.Spec := Ev.look f [(165, spg165_975 f165_975)]
noncomputable def G96_975 (fuel : Nat) : Nat → Option Ev.Spec := Gg96_975 (F_coder_Decoder_none_975 fuel)
noncomputable def J96_975 (fuel : Nat) (i : Nat) : Option Ev.Blk := Ev.look i []
noncomputable def F_coder_Decoder_Model_975 (fuel : Nat)  (k0 : (Int × (List Int)) → Option Ans) : Option Ans :=
  (F_coder_Decoder_none_975 fuel
    (fun y2 =>
      bif y2 then
      k0 ((0 : Int), [])
      else none))
abbrev YF96_975 : Type := ((Int × (List Int)) → Option Ans) → Option Ans
theorem F96_975_eqg (fuel : Nat) (f165_975 : YF165_975)  (k : Ev.Cont) : evalFn tab (Gg96_975 f165_975) (J96_975 fuel) kp96_975 fuel Try.f96 [.c (.nilptr)] [] k = (fun  (k0 : (Int × (List Int)) → Option Ans) =>
  (f165_975
    (fun y2 =>
      bif y2 then
      k0 ((0 : Int), [])
      else none))) (fun r => match r with | (r0, r1) => k (.agg [.int .i64 r0, .own 0], [.vec 3 (.int .i64) r1 true])) := by
  kernel_rfl
theorem F96_975_eq (fuel : Nat)  (k : Ev.Cont) : evalFn tab (G96_975 fuel) (J96_975 fuel) kp96_975 fuel Try.f96 [.c (.nilptr)] [] k = F_coder_Decoder_Model_975 fuel  (fun r => match r with | (r0, r1) => k (.agg [.int .i64 r0, .own 0], [.vec 3 (.int .i64) r1 true])) :=
  F96_975_eqg fuel (F_coder_Decoder_none_975 fuel)  k
theorem hG96_975 (fuel : Nat) : GOK Try.prog (G96_975 fuel) :=
  gok_cons ⟨ok165_975 fuel, enters_of Try.func165 (by kernel_rfl) rfl⟩ <|
  gok_nil
theorem fok96_975 (fuel : Nat) : FnOK Try.prog 96 (evalFn tab (G96_975 fuel) (J96_975 fuel) kp96_975 fuel Try.f96) :=
  fn_ok tab_ok (hG96_975 fuel) mixed Try.func96 (c := (Try.f96.body).getD .skip) rfl (fun q hq => by
    rw [(by kernel_rfl : obl (J96_975 fuel) ((Try.f96.body).getD .skip) = [])] at hq
    cases hq)
noncomputable def mt96_975 : List Ev.SV → List Ev.Ob → Bool := fun args objs => match args, objs with
  | [.c (.nilptr)], [] => true
  | _, _ => false
noncomputable def spg96_975 (F : YF96_975) : Ev.Spec := fun args objs k => match args, objs with
  | [.c (.nilptr)], [] => bif true then F  (fun r => match r with | (r0, r1) => k (.agg [.int .i64 r0, .own 0], [.vec 3 (.int .i64) r1 true])) else none
  | _, _ => none
noncomputable def spec96_975 (fuel : Nat) : Ev.Spec := spg96_975 (F_coder_Decoder_Model_975 fuel)
theorem ok96_975 (fuel : Nat) : FnOK Try.prog 96 (spec96_975 fuel) := by
  intro args objs kk r h
  unfold spec96_975 spg96_975 at h
  split at h
  · skip
    obtain ⟨hb, h⟩ := cond_some' h
    simp only [Bool.and_eq_true, Nat.beq_eq, decide_eq_true_eq] at hb
    clear hb
    exact fok96_975 fuel _ _ kk r ((F96_975_eq fuel kk).trans h)
  · cases h
end Go.Proofs.Ytihfgpfofmjbaaa

set_option linter.unusedVariables false
set_option linter.unusedSimpArgs false
set_option maxRecDepth 100000
set_option maxHeartbeats 2000000
namespace Go.Proofs.Ytihfgpfofmjbaaa
open Go Ev
def kp88 (i : Nat) : Option (List Nat) := Ev.look i [(200001, [1])]
noncomputable def Gg88 (f : Nat) : Option Ev.Spec := Ev.look f []
noncomputable def G88 (fuel : Nat) : Nat → Option Ev.Spec := Gg88
noncomputable def J88 (fuel : Nat) (i : Nat) : Option Ev.Blk := Ev.look i []
noncomputable def F_generic_Valid (fuel : Nat) (x0 : Int) (x1 : Int) (x2 : Int) (x3 : Bool) (x4 : Int) (k0 : (Bool) → Option Ans) : Option Ans :=
  bif Decidable.decide (x0 ≥ (0 : Int)) then
   bif Decidable.decide (x0 ≤ (3 : Int)) then
    bif x4 == (0 : Int) then
     bif Decidable.decide (x1 ≥ (-8 : Int)) then
      bif Decidable.decide (x1 ≤ (8 : Int)) then
       bif Decidable.decide (x2 ≥ (-8 : Int)) then
        bif Decidable.decide (x2 ≤ (0 : Int)) then
         bif Decidable.decide (x2 < (0 : Int)) then
          k0 Bool.true
         else
          k0 (Decidable.decide (x1 < (0 : Int)))
        else
         k0 Bool.false
       else
        k0 Bool.false
      else
       k0 Bool.false
     else
      k0 Bool.false
    else
     bif x4 == (1 : Int) then
      bif Decidable.decide (x1 ≥ (-8 : Int)) then
       bif Decidable.decide (x1 ≤ (8 : Int)) then
        bif Decidable.decide (x2 ≥ (-8 : Int)) then
         bif Decidable.decide (x2 ≤ (0 : Int)) then
          bif Decidable.decide (x2 < (0 : Int)) then
           k0 Bool.true
          else
           k0 (Decidable.decide (x1 < (0 : Int)))
         else
          k0 Bool.false
        else
         k0 Bool.false
       else
        k0 Bool.false
      else
       k0 Bool.false
     else
      k0 Bool.false
   else
    k0 Bool.false
  else
   k0 Bool.false
abbrev YF88 : Type := (Int) → (Int) → (Int) → (Bool) → (Int) → ((Bool) → Option Ans) → Option Ans
theorem F88_eq (fuel : Nat) (x0 : Int) (x1 : Int) (x2 : Int) (x3 : Bool) (x4 : Int) (k : Ev.Cont) : evalFn tab (G88 fuel) (J88 fuel) kp88 fuel Try.f88 [.agg [.int .i64 x0, .int .i64 x1, .int .i64 x2, .bool x3, .int .i64 x4]] [] k = F_generic_Valid fuel x0 x1 x2 x3 x4 (fun r => match r with | r0 => k (.c (.bool r0), [])) := by
  kernel_rfl
theorem hG88 (fuel : Nat) : GOK Try.prog (G88 fuel) :=
  gok_nil
theorem fok88 (fuel : Nat) : FnOK Try.prog 88 (evalFn tab (G88 fuel) (J88 fuel) kp88 fuel Try.f88) :=
  fn_ok tab_ok (hG88 fuel) mixed Try.func88 (c := (Try.f88.body).getD .skip) rfl (fun q hq => by
    rw [(by kernel_rfl : obl (J88 fuel) ((Try.f88.body).getD .skip) = [])] at hq
    cases hq)
noncomputable def mt88 : List Ev.SV → List Ev.Ob → Bool := fun args objs => match args, objs with
  | [.agg [.int .i64 _, .int .i64 _, .int .i64 _, .bool _, .int .i64 _]], [] => true
  | _, _ => false
noncomputable def spg88 (F : YF88) : Ev.Spec := fun args objs k => match args, objs with
  | [.agg [.int .i64 x0, .int .i64 x1, .int .i64 x2, .bool x3, .int .i64 x4]], [] => bif true then F x0 x1 x2 x3 x4 (fun r => match r with | r0 => k (.c (.bool r0), [])) else none
  | _, _ => none
noncomputable def spec88 (fuel : Nat) : Ev.Spec := spg88 (F_generic_Valid fuel)
theorem ok88 (fuel : Nat) : FnOK Try.prog 88 (spec88 fuel) := by
  intro args objs kk r h
  unfold spec88 spg88 at h
  split at h
  · skip
    obtain ⟨hb, h⟩ := cond_some' h
    simp only [Bool.and_eq_true, Nat.beq_eq, decide_eq_true_eq] at hb
    clear hb
    exact fok88 fuel _ _ kk r ((F88_eq fuel _ _ _ _ _ kk).trans h)
  · cases h
end Go.Proofs.Ytihfgpfofmjbaaa

set_option linter.unusedVariables false
set_option linter.unusedSimpArgs false
set_option maxRecDepth 100000
set_option maxHeartbeats 2000000
namespace Go.Proofs.Ytihfgpfofmjbaaa
open Go Ev
def kp160 (i : Nat) : Option (List Nat) := Ev.look i []
noncomputable def Gg160 (f : Nat) : Option Ev.Spec := Ev.look f []
noncomputable def G160 (fuel : Nat) : Nat → Option Ev.Spec := Gg160
noncomputable def J160 (fuel : Nat) (i : Nat) : Option Ev.Blk := Ev.look i []
noncomputable def F_generic_pixels (fuel : Nat) (x0 : Int) (k0 : ((List (Int × Int))) → Option Ans) : Option Ans :=
  bif x0 == (0 : Int) then
   k0 ([((-1 : Int), (-2 : Int)), ((0 : Int), (-2 : Int)), ((1 : Int), (-2 : Int)), ((-2 : Int), (-1 : Int)), ((-1 : Int), (-1 : Int)), ((0 : Int), (-1 : Int)), ((1 : Int), (-1 : Int)), ((2 : Int), (-1 : Int)), ((-2 : Int), (0 : Int)), ((-1 : Int), (0 : Int))])
  else
   bif x0 == (1 : Int) then
    k0 ([((-1 : Int), (-2 : Int)), ((0 : Int), (-2 : Int)), ((-1 : Int), (-1 : Int)), ((0 : Int), (-1 : Int)), ((1 : Int), (-1 : Int)), ((-2 : Int), (0 : Int)), ((-1 : Int), (0 : Int))])
   else
    bif x0 == (2 : Int) then
     k0 ([((-2 : Int), (-1 : Int)), ((-1 : Int), (-1 : Int)), ((0 : Int), (-1 : Int)), ((1 : Int), (-1 : Int)), ((2 : Int), (-1 : Int)), ((-2 : Int), (0 : Int)), ((-1 : Int), (0 : Int))])
    else
     k0 ([((-1 : Int), (-1 : Int)), ((0 : Int), (-1 : Int)), ((1 : Int), (-1 : Int)), ((-1 : Int), (0 : Int))])
abbrev YF160 : Type := (Int) → (((List (Int × Int))) → Option Ans) → Option Ans
theorem F160_eq (fuel : Nat) (x0 : Int) (k : Ev.Cont) : evalFn tab (G160 fuel) (J160 fuel) kp160 fuel Try.f160 [.c (.int .i64 x0)] [] k = F_generic_pixels fuel x0 (fun r => match r with | r0 => k (.c (.own 0), [.vec 44 (.pair (.int .i64) (.int .i64)) r0 true])) := by
  kernel_rfl
theorem hG160 (fuel : Nat) : GOK Try.prog (G160 fuel) :=
  gok_nil
theorem fok160 (fuel : Nat) : FnOK Try.prog 160 (evalFn tab (G160 fuel) (J160 fuel) kp160 fuel Try.f160) :=
  fn_ok tab_ok (hG160 fuel) mixed Try.func160 (c := (Try.f160.body).getD .skip) rfl (fun q hq => by
    rw [(by kernel_rfl : obl (J160 fuel) ((Try.f160.body).getD .skip) = [])] at hq
    cases hq)
noncomputable def mt160 : List Ev.SV → List Ev.Ob → Bool := fun args objs => match args, objs with
  | [.c (.int .i64 _)], [] => true
  | _, _ => false
noncomputable def spg160 (F : YF160) : Ev.Spec := fun args objs k => match args, objs with
  | [.c (.int .i64 x0)], [] => bif true then F x0 (fun r => match r with | r0 => k (.c (.own 0), [.vec 44 (.pair (.int .i64) (.int .i64)) r0 true])) else none
  | _, _ => none
noncomputable def spec160 (fuel : Nat) : Ev.Spec := spg160 (F_generic_pixels fuel)
theorem ok160 (fuel : Nat) : FnOK Try.prog 160 (spec160 fuel) := by
  intro args objs kk r h
  unfold spec160 spg160 at h
  split at h
  · skip
    obtain ⟨hb, h⟩ := cond_some' h
    simp only [Bool.and_eq_true, Nat.beq_eq, decide_eq_true_eq] at hb
    clear hb
    exact fok160 fuel _ _ kk r ((F160_eq fuel _ kk).trans h)
  · cases h
end Go.Proofs.Ytihfgpfofmjbaaa

set_option linter.unusedVariables false
set_option linter.unusedSimpArgs false
set_option maxRecDepth 100000
set_option maxHeartbeats 2000000
namespace Go.Proofs.Ytihfgpfofmjbaaa
open Go Ev
def kp90 (i : Nat) : Option (List Nat) := Ev.look i []
noncomputable def Gg90 (f160 : YF160) (f : Nat) : Option Ev.Spec := Ev.look f [(160, spg160 f160)]
noncomputable def G90 (fuel : Nat) : Nat → Option Ev.Spec := Gg90 (F_generic_pixels fuel)
noncomputable def J90 (fuel : Nat) (i : Nat) : Option Ev.Blk := Ev.look i []
noncomputable def F_generic_contexts (fuel : Nat) (x0 : Int) (x1 : Int) (x2 : Int) (x3 : Bool) (x4 : Int) (k0 : (Int) → Option Ans) : Option Ans :=
  (F_generic_pixels fuel (x0)
    (fun y2 =>
      k0 (Ev.ishl Go.IntKind.i64 (2 : Int) (↑y2.length : Int))))
abbrev YF90 : Type := (Int) → (Int) → (Int) → (Bool) → (Int) → ((Int) → Option Ans) → Option Ans
theorem F90_eqg (fuel : Nat) (f160 : YF160) (x0 : Int) (x1 : Int) (x2 : Int) (x3 : Bool) (x4 : Int) (k : Ev.Cont) : evalFn tab (Gg90 f160) (J90 fuel) kp90 fuel Try.f90 [.agg [.int .i64 x0, .int .i64 x1, .int .i64 x2, .bool x3, .int .i64 x4]] [] k = (fun  (k0 : (Int) → Option Ans) =>
  (f160 (x0)
    (fun y2 =>
      k0 (Ev.ishl Go.IntKind.i64 (2 : Int) (↑y2.length : Int))))) (fun r => match r with | r0 => k (.c (.int .i64 r0), [])) := by
  kernel_rfl
theorem F90_eq (fuel : Nat) (x0 : Int) (x1 : Int) (x2 : Int) (x3 : Bool) (x4 : Int) (k : Ev.Cont) : evalFn tab (G90 fuel) (J90 fuel) kp90 fuel Try.f90 [.agg [.int .i64 x0, .int .i64 x1, .int .i64 x2, .bool x3, .int .i64 x4]] [] k = F_generic_contexts fuel x0 x1 x2 x3 x4 (fun r => match r with | r0 => k (.c (.int .i64 r0), [])) :=
  F90_eqg fuel (F_generic_pixels fuel) x0 x1 x2 x3 x4 k
theorem hG90 (fuel : Nat) : GOK Try.prog (G90 fuel) :=
  gok_cons ⟨ok160 fuel, enters_of Try.func160 (by kernel_rfl) rfl⟩ <|
  gok_nil
theorem fok90 (fuel : Nat) : FnOK Try.prog 90 (evalFn tab (G90 fuel) (J90 fuel) kp90 fuel Try.f90) :=
  fn_ok tab_ok (hG90 fuel) mixed Try.func90 (c := (Try.f90.body).getD .skip) rfl (fun q hq => by
    rw [(by kernel_rfl : obl (J90 fuel) ((Try.f90.body).getD .skip) = [])] at hq
    cases hq)
noncomputable def mt90 : List Ev.SV → List Ev.Ob → Bool := fun args objs => match args, objs with
  | [.agg [.int .i64 _, .int .i64 _, .int .i64 _, .bool _, .int .i64 _]], [] => true
  | _, _ => false
noncomputable def spg90 (F : YF90) : Ev.Spec := fun args objs k => match args, objs with
  | [.agg [.int .i64 x0, .int .i64 x1, .int .i64 x2, .bool x3, .int .i64 x4]], [] => bif true then F x0 x1 x2 x3 x4 (fun r => match r with | r0 => k (.c (.int .i64 r0), [])) else none
  | _, _ => none
noncomputable def spec90 (fuel : Nat) : Ev.Spec := spg90 (F_generic_contexts fuel)
theorem ok90 (fuel : Nat) : FnOK Try.prog 90 (spec90 fuel) := by
  intro args objs kk r h
  unfold spec90 spg90 at h
  split at h
  · skip
    obtain ⟨hb, h⟩ := cond_some' h
    simp only [Bool.and_eq_true, Nat.beq_eq, decide_eq_true_eq] at hb
    clear hb
    exact fok90 fuel _ _ kk r ((F90_eq fuel _ _ _ _ _ kk).trans h)
  · cases h
end Go.Proofs.Ytihfgpfofmjbaaa

set_option linter.unusedVariables false
set_option linter.unusedSimpArgs false
set_option maxRecDepth 100000
set_option maxHeartbeats 2000000
namespace Go.Proofs.Ytihfgpfofmjbaaa
open Go Ev
def kp95 (i : Nat) : Option (List Nat) := Ev.look i [(200001, [3, 5])]
noncomputable def Gg95 (f90 : YF90) (f : Nat) : Option Ev.Spec := Ev.look f [(90, spg90 f90)]
noncomputable def G95 (fuel : Nat) : Nat → Option Ev.Spec := Gg95 (F_generic_contexts fuel)
noncomputable def J95 (fuel : Nat) (i : Nat) : Option Ev.Blk := Ev.look i []
noncomputable def F_generic_fits (fuel : Nat) (x0 : Int) (x1 : (List Int)) (x2 : Int) (x3 : Int) (x4 : Int) (x5 : Int) (x6 : Bool) (x7 : Int) (k0 : (Bool) → Option Ans) : Option Ans :=
  bif Decidable.decide (x2 ≥ (0 : Int)) then
   (F_generic_contexts fuel (x3) (x4) (x5) (x6) (x7)
     (fun y3 =>
       k0 (Decidable.decide (x2 ≤ Go.IntKind.i64.wrap (Go.IntKind.i64.wrap ((↑x1.length : Int) - y3) - (1 : Int))))))
  else
   k0 Bool.false
abbrev YF95 : Type := (Int) → ((List Int)) → (Int) → (Int) → (Int) → (Int) → (Bool) → (Int) → ((Bool) → Option Ans) → Option Ans
theorem F95_eqg (fuel : Nat) (f90 : YF90) (x0 : Int) (x1 : (List Int)) (x2 : Int) (x3 : Int) (x4 : Int) (x5 : Int) (x6 : Bool) (x7 : Int) (k : Ev.Cont) : evalFn tab (Gg95 f90) (J95 fuel) kp95 fuel Try.f95 [.agg [.int .i64 x0, .sl (.int .i64) x1], .c (.int .i64 x2), .agg [.int .i64 x3, .int .i64 x4, .int .i64 x5, .bool x6, .int .i64 x7]] [] k = (fun  (k0 : (Bool) → Option Ans) =>
  bif Decidable.decide (x2 ≥ (0 : Int)) then
   (f90 (x3) (x4) (x5) (x6) (x7)
     (fun y3 =>
       k0 (Decidable.decide (x2 ≤ Go.IntKind.i64.wrap (Go.IntKind.i64.wrap ((↑x1.length : Int) - y3) - (1 : Int))))))
  else
   k0 Bool.false) (fun r => match r with | r0 => k (.c (.bool r0), [])) := by
  kernel_rfl
theorem F95_eq (fuel : Nat) (x0 : Int) (x1 : (List Int)) (x2 : Int) (x3 : Int) (x4 : Int) (x5 : Int) (x6 : Bool) (x7 : Int) (k : Ev.Cont) : evalFn tab (G95 fuel) (J95 fuel) kp95 fuel Try.f95 [.agg [.int .i64 x0, .sl (.int .i64) x1], .c (.int .i64 x2), .agg [.int .i64 x3, .int .i64 x4, .int .i64 x5, .bool x6, .int .i64 x7]] [] k = F_generic_fits fuel x0 x1 x2 x3 x4 x5 x6 x7 (fun r => match r with | r0 => k (.c (.bool r0), [])) :=
  F95_eqg fuel (F_generic_contexts fuel) x0 x1 x2 x3 x4 x5 x6 x7 k
theorem hG95 (fuel : Nat) : GOK Try.prog (G95 fuel) :=
  gok_cons ⟨ok90 fuel, enters_of Try.func90 (by kernel_rfl) rfl⟩ <|
  gok_nil
theorem fok95 (fuel : Nat) : FnOK Try.prog 95 (evalFn tab (G95 fuel) (J95 fuel) kp95 fuel Try.f95) :=
  fn_ok tab_ok (hG95 fuel) mixed Try.func95 (c := (Try.f95.body).getD .skip) rfl (fun q hq => by
    rw [(by kernel_rfl : obl (J95 fuel) ((Try.f95.body).getD .skip) = [])] at hq
    cases hq)
noncomputable def mt95 : List Ev.SV → List Ev.Ob → Bool := fun args objs => match args, objs with
  | [.agg [.int .i64 _, .sl (.int .i64) _], .c (.int .i64 _), .agg [.int .i64 _, .int .i64 _, .int .i64 _, .bool _, .int .i64 _]], [] => true
  | _, _ => false
noncomputable def spg95 (F : YF95) : Ev.Spec := fun args objs k => match args, objs with
  | [.agg [.int .i64 x0, .sl (.int .i64) x1], .c (.int .i64 x2), .agg [.int .i64 x3, .int .i64 x4, .int .i64 x5, .bool x6, .int .i64 x7]], [] => bif true then F x0 x1 x2 x3 x4 x5 x6 x7 (fun r => match r with | r0 => k (.c (.bool r0), [])) else none
  | _, _ => none
noncomputable def spec95 (fuel : Nat) : Ev.Spec := spg95 (F_generic_fits fuel)
theorem ok95 (fuel : Nat) : FnOK Try.prog 95 (spec95 fuel) := by
  intro args objs kk r h
  unfold spec95 spg95 at h
  split at h
  · skip
    obtain ⟨hb, h⟩ := cond_some' h
    simp only [Bool.and_eq_true, Nat.beq_eq, decide_eq_true_eq] at hb
    clear hb
    exact fok95 fuel _ _ kk r ((F95_eq fuel _ _ _ _ _ _ _ _ kk).trans h)
  · cases h
end Go.Proofs.Ytihfgpfofmjbaaa

set_option linter.unusedVariables false
set_option linter.unusedSimpArgs false
set_option maxRecDepth 100000
set_option maxHeartbeats 2000000
namespace Go.Proofs.Ytihfgpfofmjbaaa
open Go Ev
def kp97 (i : Nat) : Option (List Nat) := Ev.look i [(200001, [3])]
noncomputable def Gg97 (f160 : YF160) (f : Nat) : Option Ev.Spec := Ev.look f [(160, spg160 f160)]
noncomputable def G97 (fuel : Nat) : Nat → Option Ev.Spec := Gg97 (F_generic_pixels fuel)
noncomputable def J97 (fuel : Nat) (i : Nat) : Option Ev.Blk := Ev.look i []
noncomputable def F_generic_newPlane (fuel : Nat) (x0 : Int) (x1 : Int) (x2 : Int) (x3 : Bool) (x4 : Int) (x5 : Int) (x6 : Int) (k0 : (Int × Int × (List Int) × (List (Int × Int))) → Option Ans) : Option Ans :=
  both (bif Decidable.decide ((0 : Int) ≤ Go.IntKind.i64.wrap (x5 * x6) ∧ Go.IntKind.i64.wrap (x5 * x6) = Go.IntKind.i64.wrap (x5 * x6) ∧ (↑(1 : Nat) : Int) * Go.IntKind.i64.wrap (x5 * x6) ≤ (281474976710656 : Int) ∧ Go.IntKind.i64.wrap (x5 * x6) ≤ (281474976710656 : Int)) then
    both ((F_generic_pixels fuel (x0)
         (fun y7 =>
           bif Decidable.decide ((y7.length + [(x1, x2)].length) * (16 : Nat) ≤ (140737488355328 : Nat) ∧ y7.length + [(x1, x2)].length ≤ (140737488355328 : Nat)) then
           k0 (x5, x6, List.replicate (Go.IntKind.i64.wrap (x5 * x6)).toNat (0 : Int), y7 ++ [(x1, x2)])
           else none)))
      ((F_generic_pixels fuel (x0)
         (fun y7 =>
           bif Decidable.decide ((y7.length + [(x1, x2)].length) * (16 : Nat) ≤ (140737488355328 : Nat) ∧ y7.length + [(x1, x2)].length ≤ (140737488355328 : Nat)) then
           k0 (x5, x6, List.replicate (Go.IntKind.i64.wrap (x5 * x6)).toNat (0 : Int), y7 ++ [(x1, x2)])
           else none)))
    else none)
   (both ((F_generic_pixels fuel (x0)
        (fun y6 =>
          both (bif Decidable.decide ((0 : Int) ≤ Go.IntKind.i64.wrap (x5 * x6) ∧ Go.IntKind.i64.wrap (x5 * x6) = Go.IntKind.i64.wrap (x5 * x6) ∧ (↑(1 : Nat) : Int) * Go.IntKind.i64.wrap (x5 * x6) ≤ (281474976710656 : Int) ∧ Go.IntKind.i64.wrap (x5 * x6) ≤ (281474976710656 : Int)) then
            bif Decidable.decide ((y6.length + [(x1, x2)].length) * (16 : Nat) ≤ (140737488355328 : Nat) ∧ y6.length + [(x1, x2)].length ≤ (140737488355328 : Nat)) then
             k0 (x5, x6, List.replicate (Go.IntKind.i64.wrap (x5 * x6)).toNat (0 : Int), y6 ++ [(x1, x2)])
             else none
            else none)
           (both (bif Decidable.decide ((0 : Int) ≤ Go.IntKind.i64.wrap (x5 * x6) ∧ Go.IntKind.i64.wrap (x5 * x6) = Go.IntKind.i64.wrap (x5 * x6) ∧ (↑(1 : Nat) : Int) * Go.IntKind.i64.wrap (x5 * x6) ≤ (281474976710656 : Int) ∧ Go.IntKind.i64.wrap (x5 * x6) ≤ (281474976710656 : Int)) then
              bif Decidable.decide ((y6.length + [(x1, x2)].length) * (16 : Nat) ≤ (140737488355328 : Nat) ∧ y6.length + [(x1, x2)].length ≤ (140737488355328 : Nat)) then
               k0 (x5, x6, List.replicate (Go.IntKind.i64.wrap (x5 * x6)).toNat (0 : Int), y6 ++ [(x1, x2)])
               else none
              else none)
             (bif Decidable.decide ((y6.length + [(x1, x2)].length) * (16 : Nat) ≤ (140737488355328 : Nat) ∧ y6.length + [(x1, x2)].length ≤ (140737488355328 : Nat)) then
              bif Decidable.decide ((0 : Int) ≤ Go.IntKind.i64.wrap (x5 * x6) ∧ Go.IntKind.i64.wrap (x5 * x6) = Go.IntKind.i64.wrap (x5 * x6) ∧ (↑(1 : Nat) : Int) * Go.IntKind.i64.wrap (x5 * x6) ≤ (281474976710656 : Int) ∧ Go.IntKind.i64.wrap (x5 * x6) ≤ (281474976710656 : Int)) then
               k0 (x5, x6, List.replicate (Go.IntKind.i64.wrap (x5 * x6)).toNat (0 : Int), y6 ++ [(x1, x2)])
               else none
              else none)))))
     (both (bif Decidable.decide ((0 : Int) ≤ Go.IntKind.i64.wrap (x5 * x6) ∧ Go.IntKind.i64.wrap (x5 * x6) = Go.IntKind.i64.wrap (x5 * x6) ∧ (↑(1 : Nat) : Int) * Go.IntKind.i64.wrap (x5 * x6) ≤ (281474976710656 : Int) ∧ Go.IntKind.i64.wrap (x5 * x6) ≤ (281474976710656 : Int)) then
        (F_generic_pixels fuel (x0)
           (fun y9 =>
             bif Decidable.decide ((y9.length + [(x1, x2)].length) * (16 : Nat) ≤ (140737488355328 : Nat) ∧ y9.length + [(x1, x2)].length ≤ (140737488355328 : Nat)) then
             k0 (x5, x6, List.replicate (Go.IntKind.i64.wrap (x5 * x6)).toNat (0 : Int), y9 ++ [(x1, x2)])
             else none))
        else none)
       ((F_generic_pixels fuel (x0)
          (fun y8 =>
            both (bif Decidable.decide ((0 : Int) ≤ Go.IntKind.i64.wrap (x5 * x6) ∧ Go.IntKind.i64.wrap (x5 * x6) = Go.IntKind.i64.wrap (x5 * x6) ∧ (↑(1 : Nat) : Int) * Go.IntKind.i64.wrap (x5 * x6) ≤ (281474976710656 : Int) ∧ Go.IntKind.i64.wrap (x5 * x6) ≤ (281474976710656 : Int)) then
              bif Decidable.decide ((y8.length + [(x1, x2)].length) * (16 : Nat) ≤ (140737488355328 : Nat) ∧ y8.length + [(x1, x2)].length ≤ (140737488355328 : Nat)) then
               k0 (x5, x6, List.replicate (Go.IntKind.i64.wrap (x5 * x6)).toNat (0 : Int), y8 ++ [(x1, x2)])
               else none
              else none)
             (bif Decidable.decide ((y8.length + [(x1, x2)].length) * (16 : Nat) ≤ (140737488355328 : Nat) ∧ y8.length + [(x1, x2)].length ≤ (140737488355328 : Nat)) then
              bif Decidable.decide ((0 : Int) ≤ Go.IntKind.i64.wrap (x5 * x6) ∧ Go.IntKind.i64.wrap (x5 * x6) = Go.IntKind.i64.wrap (x5 * x6) ∧ (↑(1 : Nat) : Int) * Go.IntKind.i64.wrap (x5 * x6) ≤ (281474976710656 : Int) ∧ Go.IntKind.i64.wrap (x5 * x6) ≤ (281474976710656 : Int)) then
               k0 (x5, x6, List.replicate (Go.IntKind.i64.wrap (x5 * x6)).toNat (0 : Int), y8 ++ [(x1, x2)])
               else none
              else none))))))
abbrev YF97 : Type := (Int) → (Int) → (Int) → (Bool) → (Int) → (Int) → (Int) → ((Int × Int × (List Int) × (List (Int × Int))) → Option Ans) → Option Ans
theorem F97_eqg (fuel : Nat) (f160 : YF160) (x0 : Int) (x1 : Int) (x2 : Int) (x3 : Bool) (x4 : Int) (x5 : Int) (x6 : Int) (k : Ev.Cont) : evalFn tab (Gg97 f160) (J97 fuel) kp97 fuel Try.f97 [.agg [.int .i64 x0, .int .i64 x1, .int .i64 x2, .bool x3, .int .i64 x4], .c (.int .i64 x5), .c (.int .i64 x6)] [] k = (fun  (k0 : (Int × Int × (List Int) × (List (Int × Int))) → Option Ans) =>
  both (bif Decidable.decide ((0 : Int) ≤ Go.IntKind.i64.wrap (x5 * x6) ∧ Go.IntKind.i64.wrap (x5 * x6) = Go.IntKind.i64.wrap (x5 * x6) ∧ (↑(1 : Nat) : Int) * Go.IntKind.i64.wrap (x5 * x6) ≤ (281474976710656 : Int) ∧ Go.IntKind.i64.wrap (x5 * x6) ≤ (281474976710656 : Int)) then
    both ((f160 (x0)
         (fun y7 =>
           bif Decidable.decide ((y7.length + [(x1, x2)].length) * (16 : Nat) ≤ (140737488355328 : Nat) ∧ y7.length + [(x1, x2)].length ≤ (140737488355328 : Nat)) then
           k0 (x5, x6, List.replicate (Go.IntKind.i64.wrap (x5 * x6)).toNat (0 : Int), y7 ++ [(x1, x2)])
           else none)))
      ((f160 (x0)
         (fun y7 =>
           bif Decidable.decide ((y7.length + [(x1, x2)].length) * (16 : Nat) ≤ (140737488355328 : Nat) ∧ y7.length + [(x1, x2)].length ≤ (140737488355328 : Nat)) then
           k0 (x5, x6, List.replicate (Go.IntKind.i64.wrap (x5 * x6)).toNat (0 : Int), y7 ++ [(x1, x2)])
           else none)))
    else none)
   (both ((f160 (x0)
        (fun y6 =>
          both (bif Decidable.decide ((0 : Int) ≤ Go.IntKind.i64.wrap (x5 * x6) ∧ Go.IntKind.i64.wrap (x5 * x6) = Go.IntKind.i64.wrap (x5 * x6) ∧ (↑(1 : Nat) : Int) * Go.IntKind.i64.wrap (x5 * x6) ≤ (281474976710656 : Int) ∧ Go.IntKind.i64.wrap (x5 * x6) ≤ (281474976710656 : Int)) then
            bif Decidable.decide ((y6.length + [(x1, x2)].length) * (16 : Nat) ≤ (140737488355328 : Nat) ∧ y6.length + [(x1, x2)].length ≤ (140737488355328 : Nat)) then
             k0 (x5, x6, List.replicate (Go.IntKind.i64.wrap (x5 * x6)).toNat (0 : Int), y6 ++ [(x1, x2)])
             else none
            else none)
           (both (bif Decidable.decide ((0 : Int) ≤ Go.IntKind.i64.wrap (x5 * x6) ∧ Go.IntKind.i64.wrap (x5 * x6) = Go.IntKind.i64.wrap (x5 * x6) ∧ (↑(1 : Nat) : Int) * Go.IntKind.i64.wrap (x5 * x6) ≤ (281474976710656 : Int) ∧ Go.IntKind.i64.wrap (x5 * x6) ≤ (281474976710656 : Int)) then
              bif Decidable.decide ((y6.length + [(x1, x2)].length) * (16 : Nat) ≤ (140737488355328 : Nat) ∧ y6.length + [(x1, x2)].length ≤ (140737488355328 : Nat)) then
               k0 (x5, x6, List.replicate (Go.IntKind.i64.wrap (x5 * x6)).toNat (0 : Int), y6 ++ [(x1, x2)])
               else none
              else none)
             (bif Decidable.decide ((y6.length + [(x1, x2)].length) * (16 : Nat) ≤ (140737488355328 : Nat) ∧ y6.length + [(x1, x2)].length ≤ (140737488355328 : Nat)) then
              bif Decidable.decide ((0 : Int) ≤ Go.IntKind.i64.wrap (x5 * x6) ∧ Go.IntKind.i64.wrap (x5 * x6) = Go.IntKind.i64.wrap (x5 * x6) ∧ (↑(1 : Nat) : Int) * Go.IntKind.i64.wrap (x5 * x6) ≤ (281474976710656 : Int) ∧ Go.IntKind.i64.wrap (x5 * x6) ≤ (281474976710656 : Int)) then
               k0 (x5, x6, List.replicate (Go.IntKind.i64.wrap (x5 * x6)).toNat (0 : Int), y6 ++ [(x1, x2)])
               else none
              else none)))))
     (both (bif Decidable.decide ((0 : Int) ≤ Go.IntKind.i64.wrap (x5 * x6) ∧ Go.IntKind.i64.wrap (x5 * x6) = Go.IntKind.i64.wrap (x5 * x6) ∧ (↑(1 : Nat) : Int) * Go.IntKind.i64.wrap (x5 * x6) ≤ (281474976710656 : Int) ∧ Go.IntKind.i64.wrap (x5 * x6) ≤ (281474976710656 : Int)) then
        (f160 (x0)
           (fun y9 =>
             bif Decidable.decide ((y9.length + [(x1, x2)].length) * (16 : Nat) ≤ (140737488355328 : Nat) ∧ y9.length + [(x1, x2)].length ≤ (140737488355328 : Nat)) then
             k0 (x5, x6, List.replicate (Go.IntKind.i64.wrap (x5 * x6)).toNat (0 : Int), y9 ++ [(x1, x2)])
             else none))
        else none)
       ((f160 (x0)
          (fun y8 =>
            both (bif Decidable.decide ((0 : Int) ≤ Go.IntKind.i64.wrap (x5 * x6) ∧ Go.IntKind.i64.wrap (x5 * x6) = Go.IntKind.i64.wrap (x5 * x6) ∧ (↑(1 : Nat) : Int) * Go.IntKind.i64.wrap (x5 * x6) ≤ (281474976710656 : Int) ∧ Go.IntKind.i64.wrap (x5 * x6) ≤ (281474976710656 : Int)) then
              bif Decidable.decide ((y8.length + [(x1, x2)].length) * (16 : Nat) ≤ (140737488355328 : Nat) ∧ y8.length + [(x1, x2)].length ≤ (140737488355328 : Nat)) then
               k0 (x5, x6, List.replicate (Go.IntKind.i64.wrap (x5 * x6)).toNat (0 : Int), y8 ++ [(x1, x2)])
               else none
              else none)
             (bif Decidable.decide ((y8.length + [(x1, x2)].length) * (16 : Nat) ≤ (140737488355328 : Nat) ∧ y8.length + [(x1, x2)].length ≤ (140737488355328 : Nat)) then
              bif Decidable.decide ((0 : Int) ≤ Go.IntKind.i64.wrap (x5 * x6) ∧ Go.IntKind.i64.wrap (x5 * x6) = Go.IntKind.i64.wrap (x5 * x6) ∧ (↑(1 : Nat) : Int) * Go.IntKind.i64.wrap (x5 * x6) ≤ (281474976710656 : Int) ∧ Go.IntKind.i64.wrap (x5 * x6) ≤ (281474976710656 : Int)) then
               k0 (x5, x6, List.replicate (Go.IntKind.i64.wrap (x5 * x6)).toNat (0 : Int), y8 ++ [(x1, x2)])
               else none
              else none))))))) (fun r => match r with | (r0, r1, r2, r3) => k (.c (.ptr 0 0), [.cells 137 [.int .i64 r0, .int .i64 r1, .own 1, .own 2], .vec 5 (.int .u8) r2 true, .vec 44 (.pair (.int .i64) (.int .i64)) r3 true])) := by
  kernel_rfl
theorem F97_eq (fuel : Nat) (x0 : Int) (x1 : Int) (x2 : Int) (x3 : Bool) (x4 : Int) (x5 : Int) (x6 : Int) (k : Ev.Cont) : evalFn tab (G97 fuel) (J97 fuel) kp97 fuel Try.f97 [.agg [.int .i64 x0, .int .i64 x1, .int .i64 x2, .bool x3, .int .i64 x4], .c (.int .i64 x5), .c (.int .i64 x6)] [] k = F_generic_newPlane fuel x0 x1 x2 x3 x4 x5 x6 (fun r => match r with | (r0, r1, r2, r3) => k (.c (.ptr 0 0), [.cells 137 [.int .i64 r0, .int .i64 r1, .own 1, .own 2], .vec 5 (.int .u8) r2 true, .vec 44 (.pair (.int .i64) (.int .i64)) r3 true])) :=
  F97_eqg fuel (F_generic_pixels fuel) x0 x1 x2 x3 x4 x5 x6 k
theorem hG97 (fuel : Nat) : GOK Try.prog (G97 fuel) :=
  gok_cons ⟨ok160 fuel, enters_of Try.func160 (by kernel_rfl) rfl⟩ <|
  gok_nil
theorem fok97 (fuel : Nat) : FnOK Try.prog 97 (evalFn tab (G97 fuel) (J97 fuel) kp97 fuel Try.f97) :=
  fn_ok tab_ok (hG97 fuel) mixed Try.func97 (c := (Try.f97.body).getD .skip) rfl (fun q hq => by
    rw [(by kernel_rfl : obl (J97 fuel) ((Try.f97.body).getD .skip) = [])] at hq
    cases hq)
noncomputable def mt97 : List Ev.SV → List Ev.Ob → Bool := fun args objs => match args, objs with
  | [.agg [.int .i64 _, .int .i64 _, .int .i64 _, .bool _, .int .i64 _], .c (.int .i64 _), .c (.int .i64 _)], [] => true
  | _, _ => false
noncomputable def spg97 (F : YF97) : Ev.Spec := fun args objs k => match args, objs with
  | [.agg [.int .i64 x0, .int .i64 x1, .int .i64 x2, .bool x3, .int .i64 x4], .c (.int .i64 x5), .c (.int .i64 x6)], [] => bif true then F x0 x1 x2 x3 x4 x5 x6 (fun r => match r with | (r0, r1, r2, r3) => k (.c (.ptr 0 0), [.cells 137 [.int .i64 r0, .int .i64 r1, .own 1, .own 2], .vec 5 (.int .u8) r2 true, .vec 44 (.pair (.int .i64) (.int .i64)) r3 true])) else none
  | _, _ => none
noncomputable def spec97 (fuel : Nat) : Ev.Spec := spg97 (F_generic_newPlane fuel)
theorem ok97 (fuel : Nat) : FnOK Try.prog 97 (spec97 fuel) := by
  intro args objs kk r h
  unfold spec97 spg97 at h
  split at h
  · skip
    obtain ⟨hb, h⟩ := cond_some' h
    simp only [Bool.and_eq_true, Nat.beq_eq, decide_eq_true_eq] at hb
    clear hb
    exact fok97 fuel _ _ kk r ((F97_eq fuel _ _ _ _ _ _ _ kk).trans h)
  · cases h
end Go.Proofs.Ytihfgpfofmjbaaa

set_option linter.unusedVariables false
set_option linter.unusedSimpArgs false
set_option maxRecDepth 100000
set_option maxHeartbeats 2000000
namespace Go.Proofs.Ytihfgpfofmjbaaa
open Go Ev
def kp199_b72 (i : Nat) : Option (List Nat) := Ev.look i [(200003, [0])]
noncomputable def Gg199_b72 (f : Nat) : Option Ev.Spec := Ev.look f []
noncomputable def G199_b72 (fuel : Nat) : Nat → Option Ev.Spec := Gg199_b72
noncomputable def J199_b72 (fuel : Nat) (i : Nat) : Option Ev.Blk := Ev.look i []
noncomputable def F_generic_plane_at_b72 (fuel : Nat) (x0 : Int) (x1 : Int) (x2 : Int) (x3 : Int) (x4 : (List Int)) (x5 : (List (Int × Int))) (k0 : (Int × Int × Int × (List Int) × (List (Int × Int))) → Option Ans) : Option Ans :=
  bif Decidable.decide (x0 < (0 : Int)) then
   k0 ((0 : Int), x2, x3, x4, x5)
  else
   bif Decidable.decide (x1 < (0 : Int)) then
    k0 ((0 : Int), x2, x3, x4, x5)
   else
    bif Decidable.decide (x0 ≥ x2) then
     k0 ((0 : Int), x2, x3, x4, x5)
    else
     bif Decidable.decide (x1 ≥ x3) then
      k0 ((0 : Int), x2, x3, x4, x5)
     else
      bif Decidable.decide ((0 : Int) ≤ Go.IntKind.i64.wrap (Go.IntKind.i64.wrap (x1 * x2) + x0) ∧ Go.IntKind.i64.wrap (Go.IntKind.i64.wrap (x1 * x2) + x0) < (↑x4.length : Int)) then
      k0 (x4.getD (Go.IntKind.i64.wrap (Go.IntKind.i64.wrap (x1 * x2) + x0)).toNat (0 : Int), x2, x3, x4, x5)
      else none
abbrev YF199_b72 : Type := (Int) → (Int) → (Int) → (Int) → ((List Int)) → ((List (Int × Int))) → ((Int × Int × Int × (List Int) × (List (Int × Int))) → Option Ans) → Option Ans
theorem F199_b72_eq (fuel : Nat) (x0 : Int) (x1 : Int) (x2 : Int) (x3 : Int) (x4 : (List Int)) (x5 : (List (Int × Int))) (k : Ev.Cont) : evalFn tab (G199_b72 fuel) (J199_b72 fuel) kp199_b72 fuel Try.f199 [.c (.ptr 0 0), .c (.int .i64 x0), .c (.int .i64 x1)] [.cells 137 [.int .i64 x2, .int .i64 x3, .own 1, .own 2], .vec 5 (.int .u8) x4 false, .vec 44 (.pair (.int .i64) (.int .i64)) x5 false] k = F_generic_plane_at_b72 fuel x0 x1 x2 x3 x4 x5 (fun r => match r with | (r0, r1, r2, r3, r4) => k (.c (.int .u8 r0), [.cells 137 [.int .i64 r1, .int .i64 r2, .own 1, .own 2], .vec 5 (.int .u8) r3 false, .vec 44 (.pair (.int .i64) (.int .i64)) r4 false])) := by
  kernel_rfl
theorem hG199_b72 (fuel : Nat) : GOK Try.prog (G199_b72 fuel) :=
  gok_nil
theorem fok199_b72 (fuel : Nat) : FnOK Try.prog 199 (evalFn tab (G199_b72 fuel) (J199_b72 fuel) kp199_b72 fuel Try.f199) :=
  fn_ok tab_ok (hG199_b72 fuel) mixed Try.func199 (c := (Try.f199.body).getD .skip) rfl (fun q hq => by
    rw [(by kernel_rfl : obl (J199_b72 fuel) ((Try.f199.body).getD .skip) = [])] at hq
    cases hq)
noncomputable def mt199_b72 : List Ev.SV → List Ev.Ob → Bool := fun args objs => match args, objs with
  | [.c (.ptr q0 q1), .c (.int .i64 _), .c (.int .i64 _)], [.cells q2 [.int .i64 _, .int .i64 _, .own q3, .own q4], .vec q5 (.int .u8) _ false, .vec q6 (.pair (.int .i64) (.int .i64)) _ false] => Nat.beq q0 0 && Nat.beq q1 0 && Nat.beq q2 137 && Nat.beq q3 1 && Nat.beq q4 2 && Nat.beq q5 5 && Nat.beq q6 44
  | _, _ => false
noncomputable def spg199_b72 (F : YF199_b72) : Ev.Spec := fun args objs k => match args, objs with
  | [.c (.ptr q0 q1), .c (.int .i64 x0), .c (.int .i64 x1)], [.cells q2 [.int .i64 x2, .int .i64 x3, .own q3, .own q4], .vec q5 (.int .u8) x4 false, .vec q6 (.pair (.int .i64) (.int .i64)) x5 false] => bif Nat.beq q0 0 && Nat.beq q1 0 && Nat.beq q2 137 && Nat.beq q3 1 && Nat.beq q4 2 && Nat.beq q5 5 && Nat.beq q6 44 then F x0 x1 x2 x3 x4 x5 (fun r => match r with | (r0, r1, r2, r3, r4) => k (.c (.int .u8 r0), [.cells 137 [.int .i64 r1, .int .i64 r2, .own 1, .own 2], .vec 5 (.int .u8) r3 false, .vec 44 (.pair (.int .i64) (.int .i64)) r4 false])) else none
  | _, _ => none
noncomputable def spec199_b72 (fuel : Nat) : Ev.Spec := spg199_b72 (F_generic_plane_at_b72 fuel)
theorem ok199_b72 (fuel : Nat) : FnOK Try.prog 199 (spec199_b72 fuel) := by
  intro args objs kk r h
  unfold spec199_b72 spg199_b72 at h
  split at h
  · skip
    obtain ⟨hb, h⟩ := cond_some' h
    simp only [Bool.and_eq_true, Nat.beq_eq, decide_eq_true_eq] at hb
    obtain ⟨⟨⟨⟨⟨⟨rfl, rfl⟩, rfl⟩, rfl⟩, rfl⟩, rfl⟩, rfl⟩ := hb
    exact fok199_b72 fuel _ _ kk r ((F199_b72_eq fuel _ _ _ _ _ _ kk).trans h)
  · cases h
end Go.Proofs.Ytihfgpfofmjbaaa

set_option linter.unusedVariables false
set_option linter.unusedSimpArgs false
set_option maxRecDepth 100000
set_option maxHeartbeats 2000000
namespace Go.Proofs.Ytihfgpfofmjbaaa
open Go Ev
def kp163 (i : Nat) : Option (List Nat) := Ev.look i []
noncomputable def Gg163 (f : Nat) : Option Ev.Spec := Ev.look f []
noncomputable def G163 (fuel : Nat) : Nat → Option Ev.Spec := Gg163
noncomputable def J163 (fuel : Nat) (i : Nat) : Option Ev.Blk := Ev.look i []
noncomputable def F_generic_skips (fuel : Nat) (x0 : Int) (x1 : Int) (x2 : (List Int)) (x3 : Int) (k0 : (Bool) → Option Ans) : Option Ans :=
  bif Decidable.decide ((↑x2.length : Int) > (0 : Int)) then
   bif Decidable.decide ((0 : Int) ≤ x3 ∧ x3 < (↑x2.length : Int)) then
   k0 (x2.getD x3.toNat (0 : Int) == (1 : Int))
   else none
  else
   k0 Bool.false
abbrev YF163 : Type := (Int) → (Int) → ((List Int)) → (Int) → ((Bool) → Option Ans) → Option Ans
theorem F163_eq (fuel : Nat) (x0 : Int) (x1 : Int) (x2 : (List Int)) (x3 : Int) (k : Ev.Cont) : evalFn tab (G163 fuel) (J163 fuel) kp163 fuel Try.f163 [.agg [.int .i64 x0, .int .i64 x1, .sl (.int .u8) x2], .c (.int .i64 x3)] [] k = F_generic_skips fuel x0 x1 x2 x3 (fun r => match r with | r0 => k (.c (.bool r0), [])) := by
  kernel_rfl
theorem hG163 (fuel : Nat) : GOK Try.prog (G163 fuel) :=
  gok_nil
theorem fok163 (fuel : Nat) : FnOK Try.prog 163 (evalFn tab (G163 fuel) (J163 fuel) kp163 fuel Try.f163) :=
  fn_ok tab_ok (hG163 fuel) mixed Try.func163 (c := (Try.f163.body).getD .skip) rfl (fun q hq => by
    rw [(by kernel_rfl : obl (J163 fuel) ((Try.f163.body).getD .skip) = [])] at hq
    cases hq)
noncomputable def mt163 : List Ev.SV → List Ev.Ob → Bool := fun args objs => match args, objs with
  | [.agg [.int .i64 _, .int .i64 _, .sl (.int .u8) _], .c (.int .i64 _)], [] => true
  | _, _ => false
noncomputable def spg163 (F : YF163) : Ev.Spec := fun args objs k => match args, objs with
  | [.agg [.int .i64 x0, .int .i64 x1, .sl (.int .u8) x2], .c (.int .i64 x3)], [] => bif true then F x0 x1 x2 x3 (fun r => match r with | r0 => k (.c (.bool r0), [])) else none
  | _, _ => none
noncomputable def spec163 (fuel : Nat) : Ev.Spec := spg163 (F_generic_skips fuel)
theorem ok163 (fuel : Nat) : FnOK Try.prog 163 (spec163 fuel) := by
  intro args objs kk r h
  unfold spec163 spg163 at h
  split at h
  · skip
    obtain ⟨hb, h⟩ := cond_some' h
    simp only [Bool.and_eq_true, Nat.beq_eq, decide_eq_true_eq] at hb
    clear hb
    exact fok163 fuel _ _ kk r ((F163_eq fuel _ _ _ _ kk).trans h)
  · cases h
end Go.Proofs.Ytihfgpfofmjbaaa

set_option linter.unusedVariables false
set_option linter.unusedSimpArgs false
set_option maxRecDepth 100000
set_option maxHeartbeats 2000000
namespace Go.Proofs.Ytihfgpfofmjbaaa
open Go Ev
def kp162_3e8 (i : Nat) : Option (List Nat) := Ev.look i [(3, [0, 1, 5, 7, 15, 16]), (100000, [7]), (200005, [0, 5]), (400000, [6])]
noncomputable def Gg162_3e8 (f163 : YF163) (f199_b72 : YF199_b72) (f : Nat) : Option Ev.Spec := Ev.look f [(163, spg163 f163), (199, spg199_b72 f199_b72)]
noncomputable def G162_3e8 (fuel : Nat) : Nat → Option Ev.Spec := Gg162_3e8 (F_generic_skips fuel) (F_generic_plane_at_b72 fuel)
noncomputable def S_generic_plane_above_3e8_0 (fuel : Nat) (v : Int × Int × Int × Int × Int × (List Int) × (List (Int × Int)) × Int × Int × (List Int) × (List Int)) (c : (Int × Int × Int × Int × Int × (List Int) × (List (Int × Int)) × Int × Int × (List Int) × (List Int)) → Option Ans) (B : (Int × Int × (List Int) × (List (Int × Int)) × (List Int) → Option Ans)) : Option Ans := match v, B with
  | (x0, x1, x2, x3, x4, x5, x6, x7, x8, x9, x10), b =>
   bif Decidable.decide (x2 < x1) then
      (F_generic_skips fuel (x7) (x8) (x9) (Go.IntKind.i64.wrap (Go.IntKind.i64.wrap (x0 * x3) + x2))
        (fun y3 =>
          bif !y3 then
           (F_generic_plane_at_b72 fuel (x2) (Go.IntKind.i64.wrap (x0 - (1 : Int))) (x3) (x4) (x5) (x6)
             (fun (y8_0, y8_1, y8_2, y8_3, y8_4) =>
               bif Decidable.decide ((0 : Int) ≤ x2 ∧ x2 < (↑x10.length : Int)) then
               c (x0, x1, Go.IntKind.i64.wrap (x2 + (1 : Int)), y8_1, y8_2, y8_3, y8_4, x7, x8, x9, x10.set x2.toNat y8_0)
               else none))
          else
           c (x0, x1, Go.IntKind.i64.wrap (x2 + (1 : Int)), x3, x4, x5, x6, x7, x8, x9, x10)))
     else
      b (x3, x4, x5, x6, x10)
noncomputable def L_generic_plane_above_3e8_0 (fuel : Nat) (v : Int × Int × Int × Int × Int × (List Int) × (List (Int × Int)) × Int × Int × (List Int) × (List Int)) (b : (Int × Int × (List Int) × (List (Int × Int)) × (List Int) → Option Ans)) : Option Ans := iter (S_generic_plane_above_3e8_0 fuel) fuel v b
noncomputable def J162_3e8_0 (fuel : Nat) (i : Nat) : Option Ev.Blk := Ev.look i []
noncomputable def T162_3e8_0 (v : Int × Int × Int × Int × Int × (List Int) × (List (Int × Int)) × Int × Int × (List Int) × (List Int)) : Ev.St := match v with | (x0, x1, x2, x3, x4, x5, x6, x7, x8, x9, x10) => ⟨[(0, .c (.ptr 0 0)), (1, .c (.int .i64 x0)), (5, .c (.ptr 3 0)), (7, .c (.own 4)), (15, .c (.int .i64 x1)), (16, .c (.int .i64 x2))], [(0, .cells 137 [.int .i64 x3, .int .i64 x4, .own 1, .own 2]), (1, .vec 5 (.int .u8) x5 false), (2, .vec 44 (.pair (.int .i64) (.int .i64)) x6 false), (3, .cells 39 [.int .i64 x7, .int .i64 x8, .sl (.int .u8) x9]), (4, .vec 5 (.int .u8) x10 true)], 5, 3⟩
noncomputable def E162_3e8_0 (K : Ev.Ex → Ev.St → Option Ans) : (Int × Int × (List Int) × (List (Int × Int)) × (List Int) → Option Ans) := (fun v => match v with | (x0, x1, x2, x3, x4) => K .normal ⟨[(7, .c (.own 3))], [(0, .cells 137 [.int .i64 x0, .int .i64 x1, .own 1, .own 2]), (1, .vec 5 (.int .u8) x2 false), (2, .vec 44 (.pair (.int .i64) (.int .i64)) x3 false), (3, .vec 5 (.int .u8) x4 true)], 4, 3⟩)
theorem S162_3e8_0_okg (fuel : Nat) (f163 : YF163) (f199_b72 : YF199_b72) (R : Ev.St → Option Ans) (K : Ev.Ex → Ev.St → Option Ans) (x0 : Int) (x1 : Int) (x2 : Int) (x3 : Int) (x4 : Int) (x5 : (List Int)) (x6 : (List (Int × Int))) (x7 : Int) (x8 : Int) (x9 : (List Int)) (x10 : (List Int)) : evalCode tab (Gg162_3e8 f163 f199_b72) (J162_3e8_0 fuel) kp162_3e8 fuel (bodyOf 0 Try.f162) (T162_3e8_0 (x0, x1, x2, x3, x4, x5, x6, x7, x8, x9, x10)) (lc kp162_3e8 3 0 R K) = (fun (c : (Int × Int × Int × Int × Int × (List Int) × (List (Int × Int)) × Int × Int × (List Int) × (List Int)) → Option Ans) (B : (Int × Int × (List Int) × (List (Int × Int)) × (List Int) → Option Ans)) => match B with
  | b =>
   bif Decidable.decide (x2 < x1) then
      (f163 (x7) (x8) (x9) (Go.IntKind.i64.wrap (Go.IntKind.i64.wrap (x0 * x3) + x2))
        (fun y3 =>
          bif !y3 then
           (f199_b72 (x2) (Go.IntKind.i64.wrap (x0 - (1 : Int))) (x3) (x4) (x5) (x6)
             (fun (y8_0, y8_1, y8_2, y8_3, y8_4) =>
               bif Decidable.decide ((0 : Int) ≤ x2 ∧ x2 < (↑x10.length : Int)) then
               c (x0, x1, Go.IntKind.i64.wrap (x2 + (1 : Int)), y8_1, y8_2, y8_3, y8_4, x7, x8, x9, x10.set x2.toNat y8_0)
               else none))
          else
           c (x0, x1, Go.IntKind.i64.wrap (x2 + (1 : Int)), x3, x4, x5, x6, x7, x8, x9, x10)))
     else
      b (x3, x4, x5, x6, x10)) (fun v => R (T162_3e8_0 v)) (E162_3e8_0 K) := by
  kernel_rfl
theorem S162_3e8_0_ok (fuel : Nat) (R : Ev.St → Option Ans) (K : Ev.Ex → Ev.St → Option Ans) (x0 : Int) (x1 : Int) (x2 : Int) (x3 : Int) (x4 : Int) (x5 : (List Int)) (x6 : (List (Int × Int))) (x7 : Int) (x8 : Int) (x9 : (List Int)) (x10 : (List Int)) : evalCode tab (G162_3e8 fuel) (J162_3e8_0 fuel) kp162_3e8 fuel (bodyOf 0 Try.f162) (T162_3e8_0 (x0, x1, x2, x3, x4, x5, x6, x7, x8, x9, x10)) (lc kp162_3e8 3 0 R K) = S_generic_plane_above_3e8_0 fuel (x0, x1, x2, x3, x4, x5, x6, x7, x8, x9, x10) (fun v => R (T162_3e8_0 v)) (E162_3e8_0 K) :=
  S162_3e8_0_okg fuel (F_generic_skips fuel) (F_generic_plane_at_b72 fuel) R K x0 x1 x2 x3 x4 x5 x6 x7 x8 x9 x10
noncomputable def B162_3e8_0 (fuel : Nat) : Ev.Blk := fun st K => match canonO (kp162_3e8 3) st with
  | some s => (match s with
    | ⟨[(q0, .c (.ptr q1 q2)), (q3, .c (.int .i64 x0)), (q4, .c (.ptr q5 q6)), (q7, .c (.own q8)), (q9, .c (.int .i64 x1)), (q10, .c (.int .i64 x2))], [(q11, .cells q12 [.int .i64 x3, .int .i64 x4, .own q13, .own q14]), (q15, .vec q16 (.int .u8) x5 false), (q17, .vec q18 (.pair (.int .i64) (.int .i64)) x6 false), (q19, .cells q20 [.int .i64 x7, .int .i64 x8, .sl (.int .u8) x9]), (q21, .vec q22 (.int .u8) x10 true)], q23, q24⟩ => bif Nat.beq q0 0 && Nat.beq q1 0 && Nat.beq q2 0 && Nat.beq q3 1 && Nat.beq q4 5 && Nat.beq q5 3 && Nat.beq q6 0 && Nat.beq q7 7 && Nat.beq q8 4 && Nat.beq q9 15 && Nat.beq q10 16 && Nat.beq q11 0 && Nat.beq q12 137 && Nat.beq q13 1 && Nat.beq q14 2 && Nat.beq q15 1 && Nat.beq q16 5 && Nat.beq q17 2 && Nat.beq q18 44 && Nat.beq q19 3 && Nat.beq q20 39 && Nat.beq q21 4 && Nat.beq q22 5 && Nat.beq q23 5 && Nat.beq q24 3 then iter (S_generic_plane_above_3e8_0 fuel) fuel (x0, x1, x2, x3, x4, x5, x6, x7, x8, x9, x10) (E162_3e8_0 K) else none
    | _ => none)
  | none => none
theorem B162_3e8_0_ok (fuel : Nat) (st : Ev.St) (K : Ev.Ex → Ev.St → Option Ans) (r : Ans) (h : B162_3e8_0 fuel st K = some r) : evalCode tab (G162_3e8 fuel) (J162_3e8_0 fuel) kp162_3e8 fuel (.block 0 (.loop (bodyOf 0 Try.f162))) st K = some r := by
  unfold B162_3e8_0 at h
  split at h
  · rename_i s hs
    split at h
    · skip
      obtain ⟨hb, h⟩ := cond_some' h
      simp only [Bool.and_eq_true, Nat.beq_eq, decide_eq_true_eq] at hb
      obtain ⟨⟨⟨⟨⟨⟨⟨⟨⟨⟨⟨⟨⟨⟨⟨⟨⟨⟨⟨⟨⟨⟨⟨⟨rfl, rfl⟩, rfl⟩, rfl⟩, rfl⟩, rfl⟩, rfl⟩, rfl⟩, rfl⟩, rfl⟩, rfl⟩, rfl⟩, rfl⟩, rfl⟩, rfl⟩, rfl⟩, rfl⟩, rfl⟩, rfl⟩, rfl⟩, rfl⟩, rfl⟩, rfl⟩, rfl⟩, rfl⟩ := hb
      exact blk_loop (S := T162_3e8_0) (ks := E162_3e8_0) (step := S_generic_plane_above_3e8_0 fuel) (v := (_, _, _, _, _, _, _, _, _, _, _)) (by kernel_rfl) (by kernel_rfl) (fun R K v => by obtain ⟨x0, x1, x2, x3, x4, x5, x6, x7, x8, x9, x10⟩ := v; exact S162_3e8_0_ok fuel R K x0 x1 x2 x3 x4 x5 x6 x7 x8 x9 x10) hs h
    · cases h
  · cases h
noncomputable def J162_3e8 (fuel : Nat) (i : Nat) : Option Ev.Blk := Ev.look i [(100000, B162_3e8_0 fuel)]
noncomputable def F_generic_plane_above_3e8 (fuel : Nat) (x0 : Int) (x1 : Int) (x2 : Int) (x3 : (List Int)) (x4 : Int) (x5 : Int) (x6 : (List Int)) (x7 : (List (Int × Int))) (k0 : (Int × Int × (List Int) × (List (Int × Int)) × (List Int)) → Option Ans) : Option Ans :=
  bif Decidable.decide ((0 : Int) ≤ x4 ∧ x4 = x4 ∧ (↑(1 : Nat) : Int) * x4 ≤ (281474976710656 : Int) ∧ x4 ≤ (281474976710656 : Int)) then
  (L_generic_plane_above_3e8_0 fuel (x0, (↑(List.replicate x4.toNat (0 : Int)).length : Int), (0 : Int), x4, x5, x6, x7, x1, x2, x3, List.replicate x4.toNat (0 : Int))
     (fun (b0_0, b0_1, b0_2, b0_3, b0_4) =>
       k0 (b0_0, b0_1, b0_2, b0_3, b0_4)))
  else none
abbrev YF162_3e8 : Type := (Int) → (Int) → (Int) → ((List Int)) → (Int) → (Int) → ((List Int)) → ((List (Int × Int))) → ((Int × Int × (List Int) × (List (Int × Int)) × (List Int)) → Option Ans) → Option Ans
theorem F162_3e8_eqg (fuel : Nat) (f163 : YF163) (f199_b72 : YF199_b72) (x0 : Int) (x1 : Int) (x2 : Int) (x3 : (List Int)) (x4 : Int) (x5 : Int) (x6 : (List Int)) (x7 : (List (Int × Int))) (k : Ev.Cont) : evalFn tab (Gg162_3e8 f163 f199_b72) (J162_3e8 fuel) kp162_3e8 fuel Try.f162 [.c (.ptr 0 0), .c (.int .i64 x0), .agg [.int .i64 x1, .int .i64 x2, .sl (.int .u8) x3]] [.cells 137 [.int .i64 x4, .int .i64 x5, .own 1, .own 2], .vec 5 (.int .u8) x6 false, .vec 44 (.pair (.int .i64) (.int .i64)) x7 false] k = (fun  (k0 : (Int × Int × (List Int) × (List (Int × Int)) × (List Int)) → Option Ans) =>
  bif Decidable.decide ((0 : Int) ≤ x4 ∧ x4 = x4 ∧ (↑(1 : Nat) : Int) * x4 ≤ (281474976710656 : Int) ∧ x4 ≤ (281474976710656 : Int)) then
  (L_generic_plane_above_3e8_0 fuel (x0, (↑(List.replicate x4.toNat (0 : Int)).length : Int), (0 : Int), x4, x5, x6, x7, x1, x2, x3, List.replicate x4.toNat (0 : Int))
     (fun (b0_0, b0_1, b0_2, b0_3, b0_4) =>
       k0 (b0_0, b0_1, b0_2, b0_3, b0_4)))
  else none) (fun r => match r with | (r0, r1, r2, r3, r4) => k (.c (.own 3), [.cells 137 [.int .i64 r0, .int .i64 r1, .own 1, .own 2], .vec 5 (.int .u8) r2 false, .vec 44 (.pair (.int .i64) (.int .i64)) r3 false, .vec 5 (.int .u8) r4 true])) := by
  kernel_rfl
theorem F162_3e8_eq (fuel : Nat) (x0 : Int) (x1 : Int) (x2 : Int) (x3 : (List Int)) (x4 : Int) (x5 : Int) (x6 : (List Int)) (x7 : (List (Int × Int))) (k : Ev.Cont) : evalFn tab (G162_3e8 fuel) (J162_3e8 fuel) kp162_3e8 fuel Try.f162 [.c (.ptr 0 0), .c (.int .i64 x0), .agg [.int .i64 x1, .int .i64 x2, .sl (.int .u8) x3]] [.cells 137 [.int .i64 x4, .int .i64 x5, .own 1, .own 2], .vec 5 (.int .u8) x6 false, .vec 44 (.pair (.int .i64) (.int .i64)) x7 false] k = F_generic_plane_above_3e8 fuel x0 x1 x2 x3 x4 x5 x6 x7 (fun r => match r with | (r0, r1, r2, r3, r4) => k (.c (.own 3), [.cells 137 [.int .i64 r0, .int .i64 r1, .own 1, .own 2], .vec 5 (.int .u8) r2 false, .vec 44 (.pair (.int .i64) (.int .i64)) r3 false, .vec 5 (.int .u8) r4 true])) :=
  F162_3e8_eqg fuel (F_generic_skips fuel) (F_generic_plane_at_b72 fuel) x0 x1 x2 x3 x4 x5 x6 x7 k
theorem hG162_3e8 (fuel : Nat) : GOK Try.prog (G162_3e8 fuel) :=
  gok_cons ⟨ok163 fuel, enters_of Try.func163 (by kernel_rfl) rfl⟩ <|
  gok_cons ⟨ok199_b72 fuel, enters_of Try.func199 (by kernel_rfl) rfl⟩ <|
  gok_nil
theorem B162_3e8_0_blk (fuel : Nat) : BlkOK Try.prog Try.f162.ntmps (.block 0 (.loop (bodyOf 0 Try.f162))) (B162_3e8_0 fuel) :=
  blk_of (blk_of_code tab_ok (hG162_3e8 fuel) mixed (J := J162_3e8_0 fuel) (kp := kp162_3e8) (fuel := fuel) (by kernel_rfl) (fun q hq => by
    rw [(by kernel_rfl : obl (J162_3e8_0 fuel) (.block 0 (.loop (bodyOf 0 Try.f162))) = [])] at hq
    cases hq)) (B162_3e8_0_ok fuel)
theorem fok162_3e8 (fuel : Nat) : FnOK Try.prog 162 (evalFn tab (G162_3e8 fuel) (J162_3e8 fuel) kp162_3e8 fuel Try.f162) :=
  fn_ok tab_ok (hG162_3e8 fuel) mixed Try.func162 (c := (Try.f162.body).getD .skip) rfl (fun q hq => by
    rw [(by kernel_rfl : obl (J162_3e8 fuel) ((Try.f162.body).getD .skip) = [(.block 0 (.loop (bodyOf 0 Try.f162)), B162_3e8_0 fuel)])] at hq
    simp only [List.mem_cons, List.not_mem_nil, or_false] at hq
    subst hq
    · exact B162_3e8_0_blk fuel)
noncomputable def mt162_3e8 : List Ev.SV → List Ev.Ob → Bool := fun args objs => match args, objs with
  | [.c (.ptr q0 q1), .c (.int .i64 _), .agg [.int .i64 _, .int .i64 _, .sl (.int .u8) _]], [.cells q2 [.int .i64 _, .int .i64 _, .own q3, .own q4], .vec q5 (.int .u8) _ false, .vec q6 (.pair (.int .i64) (.int .i64)) _ false] => Nat.beq q0 0 && Nat.beq q1 0 && Nat.beq q2 137 && Nat.beq q3 1 && Nat.beq q4 2 && Nat.beq q5 5 && Nat.beq q6 44
  | _, _ => false
noncomputable def spg162_3e8 (F : YF162_3e8) : Ev.Spec := fun args objs k => match args, objs with
  | [.c (.ptr q0 q1), .c (.int .i64 x0), .agg [.int .i64 x1, .int .i64 x2, .sl (.int .u8) x3]], [.cells q2 [.int .i64 x4, .int .i64 x5, .own q3, .own q4], .vec q5 (.int .u8) x6 false, .vec q6 (.pair (.int .i64) (.int .i64)) x7 false] => bif Nat.beq q0 0 && Nat.beq q1 0 && Nat.beq q2 137 && Nat.beq q3 1 && Nat.beq q4 2 && Nat.beq q5 5 && Nat.beq q6 44 then F x0 x1 x2 x3 x4 x5 x6 x7 (fun r => match r with | (r0, r1, r2, r3, r4) => k (.c (.own 3), [.cells 137 [.int .i64 r0, .int .i64 r1, .own 1, .own 2], .vec 5 (.int .u8) r2 false, .vec 44 (.pair (.int .i64) (.int .i64)) r3 false, .vec 5 (.int .u8) r4 true])) else none
  | _, _ => none
noncomputable def spec162_3e8 (fuel : Nat) : Ev.Spec := spg162_3e8 (F_generic_plane_above_3e8 fuel)
theorem ok162_3e8 (fuel : Nat) : FnOK Try.prog 162 (spec162_3e8 fuel) := by
  intro args objs kk r h
  unfold spec162_3e8 spg162_3e8 at h
  split at h
  · skip
    obtain ⟨hb, h⟩ := cond_some' h
    simp only [Bool.and_eq_true, Nat.beq_eq, decide_eq_true_eq] at hb
    obtain ⟨⟨⟨⟨⟨⟨rfl, rfl⟩, rfl⟩, rfl⟩, rfl⟩, rfl⟩, rfl⟩ := hb
    exact fok162_3e8 fuel _ _ kk r ((F162_3e8_eq fuel _ _ _ _ _ _ _ _ kk).trans h)
  · cases h
end Go.Proofs.Ytihfgpfofmjbaaa

set_option linter.unusedVariables false
set_option linter.unusedSimpArgs false
set_option maxRecDepth 100000
set_option maxHeartbeats 2000000
namespace Go.Proofs.Ytihfgpfofmjbaaa
open Go Ev
def kp158_b72 (i : Nat) : Option (List Nat) := Ev.look i [(3, [0, 1, 2, 7, 13, 14, 15]), (100000, [7]), (400000, [6])]
noncomputable def Gg158_b72 (f199_b72 : YF199_b72) (f : Nat) : Option Ev.Spec := Ev.look f [(199, spg199_b72 f199_b72)]
noncomputable def G158_b72 (fuel : Nat) : Nat → Option Ev.Spec := Gg158_b72 (F_generic_plane_at_b72 fuel)
noncomputable def S_generic_plane_context_b72_0 (fuel : Nat) (v : Int × Int × Int × Int × Int × Int × Int × (List Int) × (List (Int × Int))) (c : (Int × Int × Int × Int × Int × Int × Int × (List Int) × (List (Int × Int))) → Option Ans) (B : (Int × Int × Int × (List Int) × (List (Int × Int)) → Option Ans)) : Option Ans := match v, B with
  | (x0, x1, x2, x3, x4, x5, x6, x7, x8), b =>
   bif Decidable.decide (x4 < x3) then
      bif Decidable.decide ((0 : Int) ≤ x4 ∧ x4 < (↑x8.length : Int)) then
      (F_generic_plane_at_b72 fuel (Go.IntKind.i64.wrap (x0 + (x8.getD x4.toNat ((0 : Int), (0 : Int))).fst)) (Go.IntKind.i64.wrap (x1 + (x8.getD x4.toNat ((0 : Int), (0 : Int))).snd)) (x5) (x6) (x7) (x8)
         (fun (y4_0, y4_1, y4_2, y4_3, y4_4) =>
           c (x0, x1, Go.IntKind.i64.wrap (Go.IntKind.i64.wrap ((2 : Int) * x2) + Go.IntKind.i64.wrap y4_0), x3, Go.IntKind.i64.wrap (x4 + (1 : Int)), y4_1, y4_2, y4_3, y4_4)))
      else none
     else
      b (x2, x5, x6, x7, x8)
noncomputable def L_generic_plane_context_b72_0 (fuel : Nat) (v : Int × Int × Int × Int × Int × Int × Int × (List Int) × (List (Int × Int))) (b : (Int × Int × Int × (List Int) × (List (Int × Int)) → Option Ans)) : Option Ans := iter (S_generic_plane_context_b72_0 fuel) fuel v b
noncomputable def J158_b72_0 (fuel : Nat) (i : Nat) : Option Ev.Blk := Ev.look i []
noncomputable def T158_b72_0 (v : Int × Int × Int × Int × Int × Int × Int × (List Int) × (List (Int × Int))) : Ev.St := match v with | (x0, x1, x2, x3, x4, x5, x6, x7, x8) => ⟨[(0, .c (.ptr 0 0)), (1, .c (.int .i64 x0)), (2, .c (.int .i64 x1)), (7, .c (.int .i64 x2)), (13, .c (.own 2)), (14, .c (.int .i64 x3)), (15, .c (.int .i64 x4))], [(0, .cells 137 [.int .i64 x5, .int .i64 x6, .own 1, .own 2]), (1, .vec 5 (.int .u8) x7 false), (2, .vec 44 (.pair (.int .i64) (.int .i64)) x8 false)], 3, 3⟩
noncomputable def E158_b72_0 (K : Ev.Ex → Ev.St → Option Ans) : (Int × Int × Int × (List Int) × (List (Int × Int)) → Option Ans) := (fun v => match v with | (x0, x1, x2, x3, x4) => K .normal ⟨[(7, .c (.int .i64 x0))], [(0, .cells 137 [.int .i64 x1, .int .i64 x2, .own 1, .own 2]), (1, .vec 5 (.int .u8) x3 false), (2, .vec 44 (.pair (.int .i64) (.int .i64)) x4 false)], 3, 3⟩)
theorem S158_b72_0_okg (fuel : Nat) (f199_b72 : YF199_b72) (R : Ev.St → Option Ans) (K : Ev.Ex → Ev.St → Option Ans) (x0 : Int) (x1 : Int) (x2 : Int) (x3 : Int) (x4 : Int) (x5 : Int) (x6 : Int) (x7 : (List Int)) (x8 : (List (Int × Int))) : evalCode tab (Gg158_b72 f199_b72) (J158_b72_0 fuel) kp158_b72 fuel (bodyOf 0 Try.f158) (T158_b72_0 (x0, x1, x2, x3, x4, x5, x6, x7, x8)) (lc kp158_b72 3 0 R K) = (fun (c : (Int × Int × Int × Int × Int × Int × Int × (List Int) × (List (Int × Int))) → Option Ans) (B : (Int × Int × Int × (List Int) × (List (Int × Int)) → Option Ans)) => match B with
  | b =>
   bif Decidable.decide (x4 < x3) then
      bif Decidable.decide ((0 : Int) ≤ x4 ∧ x4 < (↑x8.length : Int)) then
      (f199_b72 (Go.IntKind.i64.wrap (x0 + (x8.getD x4.toNat ((0 : Int), (0 : Int))).fst)) (Go.IntKind.i64.wrap (x1 + (x8.getD x4.toNat ((0 : Int), (0 : Int))).snd)) (x5) (x6) (x7) (x8)
         (fun (y4_0, y4_1, y4_2, y4_3, y4_4) =>
           c (x0, x1, Go.IntKind.i64.wrap (Go.IntKind.i64.wrap ((2 : Int) * x2) + Go.IntKind.i64.wrap y4_0), x3, Go.IntKind.i64.wrap (x4 + (1 : Int)), y4_1, y4_2, y4_3, y4_4)))
      else none
     else
      b (x2, x5, x6, x7, x8)) (fun v => R (T158_b72_0 v)) (E158_b72_0 K) := by
  kernel_rfl
theorem S158_b72_0_ok (fuel : Nat) (R : Ev.St → Option Ans) (K : Ev.Ex → Ev.St → Option Ans) (x0 : Int) (x1 : Int) (x2 : Int) (x3 : Int) (x4 : Int) (x5 : Int) (x6 : Int) (x7 : (List Int)) (x8 : (List (Int × Int))) : evalCode tab (G158_b72 fuel) (J158_b72_0 fuel) kp158_b72 fuel (bodyOf 0 Try.f158) (T158_b72_0 (x0, x1, x2, x3, x4, x5, x6, x7, x8)) (lc kp158_b72 3 0 R K) = S_generic_plane_context_b72_0 fuel (x0, x1, x2, x3, x4, x5, x6, x7, x8) (fun v => R (T158_b72_0 v)) (E158_b72_0 K) :=
  S158_b72_0_okg fuel (F_generic_plane_at_b72 fuel) R K x0 x1 x2 x3 x4 x5 x6 x7 x8
noncomputable def B158_b72_0 (fuel : Nat) : Ev.Blk := fun st K => match canonO (kp158_b72 3) st with
  | some s => (match s with
    | ⟨[(q0, .c (.ptr q1 q2)), (q3, .c (.int .i64 x0)), (q4, .c (.int .i64 x1)), (q5, .c (.int .i64 x2)), (q6, .c (.own q7)), (q8, .c (.int .i64 x3)), (q9, .c (.int .i64 x4))], [(q10, .cells q11 [.int .i64 x5, .int .i64 x6, .own q12, .own q13]), (q14, .vec q15 (.int .u8) x7 false), (q16, .vec q17 (.pair (.int .i64) (.int .i64)) x8 false)], q18, q19⟩ => bif Nat.beq q0 0 && Nat.beq q1 0 && Nat.beq q2 0 && Nat.beq q3 1 && Nat.beq q4 2 && Nat.beq q5 7 && Nat.beq q6 13 && Nat.beq q7 2 && Nat.beq q8 14 && Nat.beq q9 15 && Nat.beq q10 0 && Nat.beq q11 137 && Nat.beq q12 1 && Nat.beq q13 2 && Nat.beq q14 1 && Nat.beq q15 5 && Nat.beq q16 2 && Nat.beq q17 44 && Nat.beq q18 3 && Nat.beq q19 3 then iter (S_generic_plane_context_b72_0 fuel) fuel (x0, x1, x2, x3, x4, x5, x6, x7, x8) (E158_b72_0 K) else none
    | _ => none)
  | none => none
theorem B158_b72_0_ok (fuel : Nat) (st : Ev.St) (K : Ev.Ex → Ev.St → Option Ans) (r : Ans) (h : B158_b72_0 fuel st K = some r) : evalCode tab (G158_b72 fuel) (J158_b72_0 fuel) kp158_b72 fuel (.block 0 (.loop (bodyOf 0 Try.f158))) st K = some r := by
  unfold B158_b72_0 at h
  split at h
  · rename_i s hs
    split at h
    · skip
      obtain ⟨hb, h⟩ := cond_some' h
      simp only [Bool.and_eq_true, Nat.beq_eq, decide_eq_true_eq] at hb
      obtain ⟨⟨⟨⟨⟨⟨⟨⟨⟨⟨⟨⟨⟨⟨⟨⟨⟨⟨⟨rfl, rfl⟩, rfl⟩, rfl⟩, rfl⟩, rfl⟩, rfl⟩, rfl⟩, rfl⟩, rfl⟩, rfl⟩, rfl⟩, rfl⟩, rfl⟩, rfl⟩, rfl⟩, rfl⟩, rfl⟩, rfl⟩, rfl⟩ := hb
      exact blk_loop (S := T158_b72_0) (ks := E158_b72_0) (step := S_generic_plane_context_b72_0 fuel) (v := (_, _, _, _, _, _, _, _, _)) (by kernel_rfl) (by kernel_rfl) (fun R K v => by obtain ⟨x0, x1, x2, x3, x4, x5, x6, x7, x8⟩ := v; exact S158_b72_0_ok fuel R K x0 x1 x2 x3 x4 x5 x6 x7 x8) hs h
    · cases h
  · cases h
noncomputable def J158_b72 (fuel : Nat) (i : Nat) : Option Ev.Blk := Ev.look i [(100000, B158_b72_0 fuel)]
noncomputable def F_generic_plane_context_b72 (fuel : Nat) (x0 : Int) (x1 : Int) (x2 : Int) (x3 : Int) (x4 : (List Int)) (x5 : (List (Int × Int))) (k0 : (Int × Int × Int × (List Int) × (List (Int × Int))) → Option Ans) : Option Ans :=
  (L_generic_plane_context_b72_0 fuel (x0, x1, (0 : Int), (↑x5.length : Int), (0 : Int), x2, x3, x4, x5)
    (fun (b0_0, b0_1, b0_2, b0_3, b0_4) =>
      k0 (b0_0, b0_1, b0_2, b0_3, b0_4)))
abbrev YF158_b72 : Type := (Int) → (Int) → (Int) → (Int) → ((List Int)) → ((List (Int × Int))) → ((Int × Int × Int × (List Int) × (List (Int × Int))) → Option Ans) → Option Ans
theorem F158_b72_eqg (fuel : Nat) (f199_b72 : YF199_b72) (x0 : Int) (x1 : Int) (x2 : Int) (x3 : Int) (x4 : (List Int)) (x5 : (List (Int × Int))) (k : Ev.Cont) : evalFn tab (Gg158_b72 f199_b72) (J158_b72 fuel) kp158_b72 fuel Try.f158 [.c (.ptr 0 0), .c (.int .i64 x0), .c (.int .i64 x1)] [.cells 137 [.int .i64 x2, .int .i64 x3, .own 1, .own 2], .vec 5 (.int .u8) x4 false, .vec 44 (.pair (.int .i64) (.int .i64)) x5 false] k = (fun  (k0 : (Int × Int × Int × (List Int) × (List (Int × Int))) → Option Ans) =>
  (L_generic_plane_context_b72_0 fuel (x0, x1, (0 : Int), (↑x5.length : Int), (0 : Int), x2, x3, x4, x5)
    (fun (b0_0, b0_1, b0_2, b0_3, b0_4) =>
      k0 (b0_0, b0_1, b0_2, b0_3, b0_4)))) (fun r => match r with | (r0, r1, r2, r3, r4) => k (.c (.int .i64 r0), [.cells 137 [.int .i64 r1, .int .i64 r2, .own 1, .own 2], .vec 5 (.int .u8) r3 false, .vec 44 (.pair (.int .i64) (.int .i64)) r4 false])) := by
  kernel_rfl
theorem F158_b72_eq (fuel : Nat) (x0 : Int) (x1 : Int) (x2 : Int) (x3 : Int) (x4 : (List Int)) (x5 : (List (Int × Int))) (k : Ev.Cont) : evalFn tab (G158_b72 fuel) (J158_b72 fuel) kp158_b72 fuel Try.f158 [.c (.ptr 0 0), .c (.int .i64 x0), .c (.int .i64 x1)] [.cells 137 [.int .i64 x2, .int .i64 x3, .own 1, .own 2], .vec 5 (.int .u8) x4 false, .vec 44 (.pair (.int .i64) (.int .i64)) x5 false] k = F_generic_plane_context_b72 fuel x0 x1 x2 x3 x4 x5 (fun r => match r with | (r0, r1, r2, r3, r4) => k (.c (.int .i64 r0), [.cells 137 [.int .i64 r1, .int .i64 r2, .own 1, .own 2], .vec 5 (.int .u8) r3 false, .vec 44 (.pair (.int .i64) (.int .i64)) r4 false])) :=
  F158_b72_eqg fuel (F_generic_plane_at_b72 fuel) x0 x1 x2 x3 x4 x5 k
theorem hG158_b72 (fuel : Nat) : GOK Try.prog (G158_b72 fuel) :=
  gok_cons ⟨ok199_b72 fuel, enters_of Try.func199 (by kernel_rfl) rfl⟩ <|
  gok_nil
theorem B158_b72_0_blk (fuel : Nat) : BlkOK Try.prog Try.f158.ntmps (.block 0 (.loop (bodyOf 0 Try.f158))) (B158_b72_0 fuel) :=
  blk_of (blk_of_code tab_ok (hG158_b72 fuel) mixed (J := J158_b72_0 fuel) (kp := kp158_b72) (fuel := fuel) (by kernel_rfl) (fun q hq => by
    rw [(by kernel_rfl : obl (J158_b72_0 fuel) (.block 0 (.loop (bodyOf 0 Try.f158))) = [])] at hq
    cases hq)) (B158_b72_0_ok fuel)
theorem fok158_b72 (fuel : Nat) : FnOK Try.prog 158 (evalFn tab (G158_b72 fuel) (J158_b72 fuel) kp158_b72 fuel Try.f158) :=
  fn_ok tab_ok (hG158_b72 fuel) mixed Try.func158 (c := (Try.f158.body).getD .skip) rfl (fun q hq => by
    rw [(by kernel_rfl : obl (J158_b72 fuel) ((Try.f158.body).getD .skip) = [(.block 0 (.loop (bodyOf 0 Try.f158)), B158_b72_0 fuel)])] at hq
    simp only [List.mem_cons, List.not_mem_nil, or_false] at hq
    subst hq
    · exact B158_b72_0_blk fuel)
noncomputable def mt158_b72 : List Ev.SV → List Ev.Ob → Bool := fun args objs => match args, objs with
  | [.c (.ptr q0 q1), .c (.int .i64 _), .c (.int .i64 _)], [.cells q2 [.int .i64 _, .int .i64 _, .own q3, .own q4], .vec q5 (.int .u8) _ false, .vec q6 (.pair (.int .i64) (.int .i64)) _ false] => Nat.beq q0 0 && Nat.beq q1 0 && Nat.beq q2 137 && Nat.beq q3 1 && Nat.beq q4 2 && Nat.beq q5 5 && Nat.beq q6 44
  | _, _ => false
noncomputable def spg158_b72 (F : YF158_b72) : Ev.Spec := fun args objs k => match args, objs with
  | [.c (.ptr q0 q1), .c (.int .i64 x0), .c (.int .i64 x1)], [.cells q2 [.int .i64 x2, .int .i64 x3, .own q3, .own q4], .vec q5 (.int .u8) x4 false, .vec q6 (.pair (.int .i64) (.int .i64)) x5 false] => bif Nat.beq q0 0 && Nat.beq q1 0 && Nat.beq q2 137 && Nat.beq q3 1 && Nat.beq q4 2 && Nat.beq q5 5 && Nat.beq q6 44 then F x0 x1 x2 x3 x4 x5 (fun r => match r with | (r0, r1, r2, r3, r4) => k (.c (.int .i64 r0), [.cells 137 [.int .i64 r1, .int .i64 r2, .own 1, .own 2], .vec 5 (.int .u8) r3 false, .vec 44 (.pair (.int .i64) (.int .i64)) r4 false])) else none
  | _, _ => none
noncomputable def spec158_b72 (fuel : Nat) : Ev.Spec := spg158_b72 (F_generic_plane_context_b72 fuel)
theorem ok158_b72 (fuel : Nat) : FnOK Try.prog 158 (spec158_b72 fuel) := by
  intro args objs kk r h
  unfold spec158_b72 spg158_b72 at h
  split at h
  · skip
    obtain ⟨hb, h⟩ := cond_some' h
    simp only [Bool.and_eq_true, Nat.beq_eq, decide_eq_true_eq] at hb
    obtain ⟨⟨⟨⟨⟨⟨rfl, rfl⟩, rfl⟩, rfl⟩, rfl⟩, rfl⟩, rfl⟩ := hb
    exact fok158_b72 fuel _ _ kk r ((F158_b72_eq fuel _ _ _ _ _ _ kk).trans h)
  · cases h
end Go.Proofs.Ytihfgpfofmjbaaa

set_option linter.unusedVariables false
set_option linter.unusedSimpArgs false
set_option maxRecDepth 100000
set_option maxHeartbeats 2000000
namespace Go.Proofs.Ytihfgpfofmjbaaa
open Go Ev
def kp98_74f (i : Nat) : Option (List Nat) := Ev.look i [(9, [0, 1, 2, 4, 11, 53, 54]), (100000, []), (200006, [11]), (200011, [0, 11]), (200015, [0]), (400000, [12])]
noncomputable def Gg98_74f (f90 : YF90) (f93_020 : YF93_020) (f158_b72 : YF158_b72) (f162_3e8 : YF162_3e8) (f163 : YF163) (f : Nat) : Option Ev.Spec := Ev.look f [(90, spg90 f90), (93, spg93_020 f93_020), (158, spg158_b72 f158_b72), (162, spg162_3e8 f162_3e8), (163, spg163 f163)]
noncomputable def G98_74f (fuel : Nat) : Nat → Option Ev.Spec := Gg98_74f (F_generic_contexts fuel) (F_coder_Decoder_Get_020 fuel) (F_generic_plane_context_b72 fuel) (F_generic_plane_above_3e8 fuel) (F_generic_skips fuel)
noncomputable def S_generic_plane_row_74f_0 (fuel : Nat) (v : Int × Int × Int × Int × Int × Int × (List Int) × (List (Int × Int)) × Int × Int × (List Int)) (c : (Int × Int × Int × Int × Int × Int × (List Int) × (List (Int × Int)) × Int × Int × (List Int)) → Option Ans) (B : (Int × Int × Int × (List Int) × (List (Int × Int)) → Option Ans) × (Int × Int × (List Int) × (List (Int × Int)) → Option Ans)) : Option Ans := match v, B with
  | (x0, x1, x2, x3, x4, x5, x6, x7, x8, x9, x10), (ret, b) =>
   bif Decidable.decide (x3 < x2) then
      (F_generic_skips fuel (x8) (x9) (x10) (Go.IntKind.i64.wrap (Go.IntKind.i64.wrap (x1 * x4) + x3))
        (fun y3 =>
          bif y3 then
           c (x0, x1, x2, Go.IntKind.i64.wrap (x3 + (1 : Int)), x4, x5, x6, x7, x8, x9, x10)
          else
           (F_generic_plane_context_b72 fuel (x3) (x1) (x4) (x5) (x6) (x7)
             (fun (y8_0, y8_1, y8_2, y8_3, y8_4) =>
               (F_coder_Decoder_Get_020 fuel (Go.IntKind.i64.wrap (x0 + y8_0))
                 (fun (y12_0, y12_1) =>
                   bif y12_1 != (0 : Int) then
                    ret (y12_1, y8_1, y8_2, y8_3, y8_4)
                   else
                    bif Decidable.decide ((0 : Int) ≤ Go.IntKind.i64.wrap (Go.IntKind.i64.wrap (x1 * y8_1) + x3) ∧ Go.IntKind.i64.wrap (Go.IntKind.i64.wrap (x1 * y8_1) + x3) < (↑y8_3.length : Int)) then
                    c (x0, x1, x2, Go.IntKind.i64.wrap (x3 + (1 : Int)), y8_1, y8_2, y8_3.set (Go.IntKind.i64.wrap (Go.IntKind.i64.wrap (x1 * y8_1) + x3)).toNat (Go.IntKind.u8.wrap y12_0), y8_4, x8, x9, x10)
                    else none))))))
     else
      b (x4, x5, x6, x7)
noncomputable def L_generic_plane_row_74f_0 (fuel : Nat) (v : Int × Int × Int × Int × Int × Int × (List Int) × (List (Int × Int)) × Int × Int × (List Int)) (ret : (Int × Int × Int × (List Int) × (List (Int × Int)) → Option Ans)) (b : (Int × Int × (List Int) × (List (Int × Int)) → Option Ans)) : Option Ans := iter (S_generic_plane_row_74f_0 fuel) fuel v (ret, b)
noncomputable def J98_74f_0 (fuel : Nat) (i : Nat) : Option Ev.Blk := Ev.look i []
noncomputable def T98_74f_0 (v : Int × Int × Int × Int × Int × Int × (List Int) × (List (Int × Int)) × Int × Int × (List Int)) : Ev.St := match v with | (x0, x1, x2, x3, x4, x5, x6, x7, x8, x9, x10) => ⟨[(0, .c (.ptr 0 0)), (1, .c (.nilptr)), (2, .c (.int .i64 x0)), (4, .c (.int .i64 x1)), (11, .c (.ptr 3 0)), (53, .c (.int .i64 x2)), (54, .c (.int .i64 x3))], [(0, .cells 137 [.int .i64 x4, .int .i64 x5, .own 1, .own 2]), (1, .vec 5 (.int .u8) x6 false), (2, .vec 44 (.pair (.int .i64) (.int .i64)) x7 false), (3, .cells 39 [.int .i64 x8, .int .i64 x9, .sl (.int .u8) x10])], 4, 3⟩
noncomputable def E98_74f_0 (K : Ev.Ex → Ev.St → Option Ans) : (Int × Int × Int × (List Int) × (List (Int × Int)) → Option Ans) × (Int × Int × (List Int) × (List (Int × Int)) → Option Ans) := ((fun v => match v with | (x0, x1, x2, x3, x4) => K .ret ⟨[(12, .c (.int .i64 x0))], [(0, .cells 137 [.int .i64 x1, .int .i64 x2, .own 1, .own 2]), (1, .vec 5 (.int .u8) x3 false), (2, .vec 44 (.pair (.int .i64) (.int .i64)) x4 false)], 3, 3⟩), (fun v => match v with | (x0, x1, x2, x3) => K .normal ⟨[], [(0, .cells 137 [.int .i64 x0, .int .i64 x1, .own 1, .own 2]), (1, .vec 5 (.int .u8) x2 false), (2, .vec 44 (.pair (.int .i64) (.int .i64)) x3 false)], 3, 3⟩))
theorem S98_74f_0_okg (fuel : Nat) (f90 : YF90) (f93_020 : YF93_020) (f158_b72 : YF158_b72) (f162_3e8 : YF162_3e8) (f163 : YF163) (R : Ev.St → Option Ans) (K : Ev.Ex → Ev.St → Option Ans) (x0 : Int) (x1 : Int) (x2 : Int) (x3 : Int) (x4 : Int) (x5 : Int) (x6 : (List Int)) (x7 : (List (Int × Int))) (x8 : Int) (x9 : Int) (x10 : (List Int)) : evalCode tab (Gg98_74f f90 f93_020 f158_b72 f162_3e8 f163) (J98_74f_0 fuel) kp98_74f fuel (bodyOf 0 Try.f98) (T98_74f_0 (x0, x1, x2, x3, x4, x5, x6, x7, x8, x9, x10)) (lc kp98_74f 9 0 R K) = (fun (c : (Int × Int × Int × Int × Int × Int × (List Int) × (List (Int × Int)) × Int × Int × (List Int)) → Option Ans) (B : (Int × Int × Int × (List Int) × (List (Int × Int)) → Option Ans) × (Int × Int × (List Int) × (List (Int × Int)) → Option Ans)) => match B with
  | (ret, b) =>
   bif Decidable.decide (x3 < x2) then
      (f163 (x8) (x9) (x10) (Go.IntKind.i64.wrap (Go.IntKind.i64.wrap (x1 * x4) + x3))
        (fun y3 =>
          bif y3 then
           c (x0, x1, x2, Go.IntKind.i64.wrap (x3 + (1 : Int)), x4, x5, x6, x7, x8, x9, x10)
          else
           (f158_b72 (x3) (x1) (x4) (x5) (x6) (x7)
             (fun (y8_0, y8_1, y8_2, y8_3, y8_4) =>
               (f93_020 (Go.IntKind.i64.wrap (x0 + y8_0))
                 (fun (y12_0, y12_1) =>
                   bif y12_1 != (0 : Int) then
                    ret (y12_1, y8_1, y8_2, y8_3, y8_4)
                   else
                    bif Decidable.decide ((0 : Int) ≤ Go.IntKind.i64.wrap (Go.IntKind.i64.wrap (x1 * y8_1) + x3) ∧ Go.IntKind.i64.wrap (Go.IntKind.i64.wrap (x1 * y8_1) + x3) < (↑y8_3.length : Int)) then
                    c (x0, x1, x2, Go.IntKind.i64.wrap (x3 + (1 : Int)), y8_1, y8_2, y8_3.set (Go.IntKind.i64.wrap (Go.IntKind.i64.wrap (x1 * y8_1) + x3)).toNat (Go.IntKind.u8.wrap y12_0), y8_4, x8, x9, x10)
                    else none))))))
     else
      b (x4, x5, x6, x7)) (fun v => R (T98_74f_0 v)) (E98_74f_0 K) := by
  kernel_rfl
theorem S98_74f_0_ok (fuel : Nat) (R : Ev.St → Option Ans) (K : Ev.Ex → Ev.St → Option Ans) (x0 : Int) (x1 : Int) (x2 : Int) (x3 : Int) (x4 : Int) (x5 : Int) (x6 : (List Int)) (x7 : (List (Int × Int))) (x8 : Int) (x9 : Int) (x10 : (List Int)) : evalCode tab (G98_74f fuel) (J98_74f_0 fuel) kp98_74f fuel (bodyOf 0 Try.f98) (T98_74f_0 (x0, x1, x2, x3, x4, x5, x6, x7, x8, x9, x10)) (lc kp98_74f 9 0 R K) = S_generic_plane_row_74f_0 fuel (x0, x1, x2, x3, x4, x5, x6, x7, x8, x9, x10) (fun v => R (T98_74f_0 v)) (E98_74f_0 K) :=
  S98_74f_0_okg fuel (F_generic_contexts fuel) (F_coder_Decoder_Get_020 fuel) (F_generic_plane_context_b72 fuel) (F_generic_plane_above_3e8 fuel) (F_generic_skips fuel) R K x0 x1 x2 x3 x4 x5 x6 x7 x8 x9 x10
noncomputable def B98_74f_0 (fuel : Nat) : Ev.Blk := fun st K => match canonO (kp98_74f 9) st with
  | some s => (match s with
    | ⟨[(q0, .c (.ptr q1 q2)), (q3, .c (.nilptr)), (q4, .c (.int .i64 x0)), (q5, .c (.int .i64 x1)), (q6, .c (.ptr q7 q8)), (q9, .c (.int .i64 x2)), (q10, .c (.int .i64 x3))], [(q11, .cells q12 [.int .i64 x4, .int .i64 x5, .own q13, .own q14]), (q15, .vec q16 (.int .u8) x6 false), (q17, .vec q18 (.pair (.int .i64) (.int .i64)) x7 false), (q19, .cells q20 [.int .i64 x8, .int .i64 x9, .sl (.int .u8) x10])], q21, q22⟩ => bif Nat.beq q0 0 && Nat.beq q1 0 && Nat.beq q2 0 && Nat.beq q3 1 && Nat.beq q4 2 && Nat.beq q5 4 && Nat.beq q6 11 && Nat.beq q7 3 && Nat.beq q8 0 && Nat.beq q9 53 && Nat.beq q10 54 && Nat.beq q11 0 && Nat.beq q12 137 && Nat.beq q13 1 && Nat.beq q14 2 && Nat.beq q15 1 && Nat.beq q16 5 && Nat.beq q17 2 && Nat.beq q18 44 && Nat.beq q19 3 && Nat.beq q20 39 && Nat.beq q21 4 && Nat.beq q22 3 then iter (S_generic_plane_row_74f_0 fuel) fuel (x0, x1, x2, x3, x4, x5, x6, x7, x8, x9, x10) (E98_74f_0 K) else none
    | _ => none)
  | none => none
theorem B98_74f_0_ok (fuel : Nat) (st : Ev.St) (K : Ev.Ex → Ev.St → Option Ans) (r : Ans) (h : B98_74f_0 fuel st K = some r) : evalCode tab (G98_74f fuel) (J98_74f_0 fuel) kp98_74f fuel (.block 0 (.loop (bodyOf 0 Try.f98))) st K = some r := by
  unfold B98_74f_0 at h
  split at h
  · rename_i s hs
    split at h
    · skip
      obtain ⟨hb, h⟩ := cond_some' h
      simp only [Bool.and_eq_true, Nat.beq_eq, decide_eq_true_eq] at hb
      obtain ⟨⟨⟨⟨⟨⟨⟨⟨⟨⟨⟨⟨⟨⟨⟨⟨⟨⟨⟨⟨⟨⟨rfl, rfl⟩, rfl⟩, rfl⟩, rfl⟩, rfl⟩, rfl⟩, rfl⟩, rfl⟩, rfl⟩, rfl⟩, rfl⟩, rfl⟩, rfl⟩, rfl⟩, rfl⟩, rfl⟩, rfl⟩, rfl⟩, rfl⟩, rfl⟩, rfl⟩, rfl⟩ := hb
      exact blk_loop (S := T98_74f_0) (ks := E98_74f_0) (step := S_generic_plane_row_74f_0 fuel) (v := (_, _, _, _, _, _, _, _, _, _, _)) (by kernel_rfl) (by kernel_rfl) (fun R K v => by obtain ⟨x0, x1, x2, x3, x4, x5, x6, x7, x8, x9, x10⟩ := v; exact S98_74f_0_ok fuel R K x0 x1 x2 x3 x4 x5 x6 x7 x8 x9 x10) hs h
    · cases h
  · cases h
noncomputable def J98_74f (fuel : Nat) (i : Nat) : Option Ev.Blk := Ev.look i [(100000, B98_74f_0 fuel)]
noncomputable def F_generic_plane_row_74f (fuel : Nat) (x0 : Int) (x1 : Int) (x2 : Int) (x3 : Int) (x4 : Bool) (x5 : Int) (x6 : Int) (x7 : Int) (x8 : Int) (x9 : (List Int)) (x10 : Int) (x11 : Int) (x12 : (List Int)) (x13 : (List (Int × Int))) (k0 : (Int × Int × Int × (List Int) × (List (Int × Int))) → Option Ans) : Option Ans :=
  bif x4 then
   (F_generic_contexts fuel (x1) (x2) (x3) (x4) (x5)
     (fun y3 =>
       (F_coder_Decoder_Get_020 fuel (Go.IntKind.i64.wrap (x0 + y3))
         (fun (y7_0, y7_1) =>
           bif y7_1 != (0 : Int) then
            k0 (y7_1, x10, x11, x12, x13)
           else
            bif y7_0 == (1 : Int) then
             both (both (bif Decidable.decide ((0 : Int) ≤ Ev.loOf (Option.some (Go.IntKind.i64.wrap (x6 * x10))) ∧ Ev.loOf (Option.some (Go.IntKind.i64.wrap (x6 * x10))) ≤ Ev.hiOf Option.none (↑x12.length : Int) ∧ Ev.hiOf Option.none (↑x12.length : Int) ≤ (↑x12.length : Int)) then
                 (F_generic_plane_above_3e8 fuel (x6) (x7) (x8) (x9) (x10) (x11) (x12) (x13)
                    (fun (y18_0, y18_1, y18_2, y18_3, y18_4) =>
                      k0 ((0 : Int), y18_0, y18_1, List.take (Ev.loOf (Option.some (Go.IntKind.i64.wrap (x6 * x10)))).toNat y18_2 ++ List.take (Ev.hiOf Option.none (↑x12.length : Int) - Ev.loOf (Option.some (Go.IntKind.i64.wrap (x6 * x10)))).toNat y18_4 ++ List.drop ((Ev.loOf (Option.some (Go.IntKind.i64.wrap (x6 * x10)))).toNat + Min.min (Ev.hiOf Option.none (↑x12.length : Int) - Ev.loOf (Option.some (Go.IntKind.i64.wrap (x6 * x10)))).toNat y18_4.length) y18_2, y18_3)))
                 else none)
                ((F_generic_plane_above_3e8 fuel (x6) (x7) (x8) (x9) (x10) (x11) (x12) (x13)
                   (fun (y17_0, y17_1, y17_2, y17_3, y17_4) =>
                     bif Decidable.decide ((0 : Int) ≤ Ev.loOf (Option.some (Go.IntKind.i64.wrap (x6 * y17_0))) ∧ Ev.loOf (Option.some (Go.IntKind.i64.wrap (x6 * y17_0))) ≤ Ev.hiOf Option.none (↑y17_2.length : Int) ∧ Ev.hiOf Option.none (↑y17_2.length : Int) ≤ (↑y17_2.length : Int)) then
                     k0 ((0 : Int), y17_0, y17_1, List.take (Ev.loOf (Option.some (Go.IntKind.i64.wrap (x6 * y17_0)))).toNat y17_2 ++ List.take (Ev.hiOf Option.none (↑y17_2.length : Int) - Ev.loOf (Option.some (Go.IntKind.i64.wrap (x6 * y17_0)))).toNat y17_4 ++ List.drop ((Ev.loOf (Option.some (Go.IntKind.i64.wrap (x6 * y17_0)))).toNat + Min.min (Ev.hiOf Option.none (↑y17_2.length : Int) - Ev.loOf (Option.some (Go.IntKind.i64.wrap (x6 * y17_0)))).toNat y17_4.length) y17_2, y17_3)
                     else none))))
              (both (both (bif Decidable.decide ((0 : Int) ≤ Ev.loOf (Option.some (Go.IntKind.i64.wrap (x6 * x10))) ∧ Ev.loOf (Option.some (Go.IntKind.i64.wrap (x6 * x10))) ≤ Ev.hiOf Option.none (↑x12.length : Int) ∧ Ev.hiOf Option.none (↑x12.length : Int) ≤ (↑x12.length : Int)) then
                   (F_generic_plane_above_3e8 fuel (x6) (x7) (x8) (x9) (x10) (x11) (x12) (x13)
                      (fun (y20_0, y20_1, y20_2, y20_3, y20_4) =>
                        k0 ((0 : Int), y20_0, y20_1, List.take (Ev.loOf (Option.some (Go.IntKind.i64.wrap (x6 * x10)))).toNat y20_2 ++ List.take (Ev.hiOf Option.none (↑x12.length : Int) - Ev.loOf (Option.some (Go.IntKind.i64.wrap (x6 * x10)))).toNat y20_4 ++ List.drop ((Ev.loOf (Option.some (Go.IntKind.i64.wrap (x6 * x10)))).toNat + Min.min (Ev.hiOf Option.none (↑x12.length : Int) - Ev.loOf (Option.some (Go.IntKind.i64.wrap (x6 * x10)))).toNat y20_4.length) y20_2, y20_3)))
                   else none)
                  ((F_generic_plane_above_3e8 fuel (x6) (x7) (x8) (x9) (x10) (x11) (x12) (x13)
                     (fun (y19_0, y19_1, y19_2, y19_3, y19_4) =>
                       bif Decidable.decide ((0 : Int) ≤ Ev.loOf (Option.some (Go.IntKind.i64.wrap (x6 * x10))) ∧ Ev.loOf (Option.some (Go.IntKind.i64.wrap (x6 * x10))) ≤ Ev.hiOf Option.none (↑y19_2.length : Int) ∧ Ev.hiOf Option.none (↑y19_2.length : Int) ≤ (↑y19_2.length : Int)) then
                       k0 ((0 : Int), y19_0, y19_1, List.take (Ev.loOf (Option.some (Go.IntKind.i64.wrap (x6 * x10)))).toNat y19_2 ++ List.take (Ev.hiOf Option.none (↑y19_2.length : Int) - Ev.loOf (Option.some (Go.IntKind.i64.wrap (x6 * x10)))).toNat y19_4 ++ List.drop ((Ev.loOf (Option.some (Go.IntKind.i64.wrap (x6 * x10)))).toNat + Min.min (Ev.hiOf Option.none (↑y19_2.length : Int) - Ev.loOf (Option.some (Go.IntKind.i64.wrap (x6 * x10)))).toNat y19_4.length) y19_2, y19_3)
                       else none))))
                ((F_generic_plane_above_3e8 fuel (x6) (x7) (x8) (x9) (x10) (x11) (x12) (x13)
                   (fun (y17_0, y17_1, y17_2, y17_3, y17_4) =>
                     both (bif Decidable.decide ((0 : Int) ≤ Ev.loOf (Option.some (Go.IntKind.i64.wrap (x6 * y17_0))) ∧ Ev.loOf (Option.some (Go.IntKind.i64.wrap (x6 * y17_0))) ≤ Ev.hiOf Option.none (↑y17_2.length : Int) ∧ Ev.hiOf Option.none (↑y17_2.length : Int) ≤ (↑y17_2.length : Int)) then
                       k0 ((0 : Int), y17_0, y17_1, List.take (Ev.loOf (Option.some (Go.IntKind.i64.wrap (x6 * y17_0)))).toNat y17_2 ++ List.take (Ev.hiOf Option.none (↑y17_2.length : Int) - Ev.loOf (Option.some (Go.IntKind.i64.wrap (x6 * y17_0)))).toNat y17_4 ++ List.drop ((Ev.loOf (Option.some (Go.IntKind.i64.wrap (x6 * y17_0)))).toNat + Min.min (Ev.hiOf Option.none (↑y17_2.length : Int) - Ev.loOf (Option.some (Go.IntKind.i64.wrap (x6 * y17_0)))).toNat y17_4.length) y17_2, y17_3)
                       else none)
                      (bif Decidable.decide ((0 : Int) ≤ Ev.loOf (Option.some (Go.IntKind.i64.wrap (x6 * y17_0))) ∧ Ev.loOf (Option.some (Go.IntKind.i64.wrap (x6 * y17_0))) ≤ Ev.hiOf Option.none (↑y17_2.length : Int) ∧ Ev.hiOf Option.none (↑y17_2.length : Int) ≤ (↑y17_2.length : Int)) then
                       k0 ((0 : Int), y17_0, y17_1, List.take (Ev.loOf (Option.some (Go.IntKind.i64.wrap (x6 * y17_0)))).toNat y17_2 ++ List.take (Ev.hiOf Option.none (↑y17_2.length : Int) - Ev.loOf (Option.some (Go.IntKind.i64.wrap (x6 * y17_0)))).toNat y17_4 ++ List.drop ((Ev.loOf (Option.some (Go.IntKind.i64.wrap (x6 * y17_0)))).toNat + Min.min (Ev.hiOf Option.none (↑y17_2.length : Int) - Ev.loOf (Option.some (Go.IntKind.i64.wrap (x6 * y17_0)))).toNat y17_4.length) y17_2, y17_3)
                       else none)))))
            else
             (L_generic_plane_row_74f_0 fuel (x0, x6, x10, (0 : Int), x10, x11, x12, x13, x7, x8, x9)
               (fun (ret0_0, ret0_1, ret0_2, ret0_3, ret0_4) =>
                 k0 (ret0_0, ret0_1, ret0_2, ret0_3, ret0_4))
               (fun (b0_0, b0_1, b0_2, b0_3) =>
                 k0 ((0 : Int), b0_0, b0_1, b0_2, b0_3)))))))
  else
   (L_generic_plane_row_74f_0 fuel (x0, x6, x10, (0 : Int), x10, x11, x12, x13, x7, x8, x9)
     (fun (ret0_0, ret0_1, ret0_2, ret0_3, ret0_4) =>
       k0 (ret0_0, ret0_1, ret0_2, ret0_3, ret0_4))
     (fun (b0_0, b0_1, b0_2, b0_3) =>
       k0 ((0 : Int), b0_0, b0_1, b0_2, b0_3)))
abbrev YF98_74f : Type := (Int) → (Int) → (Int) → (Int) → (Bool) → (Int) → (Int) → (Int) → (Int) → ((List Int)) → (Int) → (Int) → ((List Int)) → ((List (Int × Int))) → ((Int × Int × Int × (List Int) × (List (Int × Int))) → Option Ans) → Option Ans
theorem F98_74f_eqg (fuel : Nat) (f90 : YF90) (f93_020 : YF93_020) (f158_b72 : YF158_b72) (f162_3e8 : YF162_3e8) (f163 : YF163) (x0 : Int) (x1 : Int) (x2 : Int) (x3 : Int) (x4 : Bool) (x5 : Int) (x6 : Int) (x7 : Int) (x8 : Int) (x9 : (List Int)) (x10 : Int) (x11 : Int) (x12 : (List Int)) (x13 : (List (Int × Int))) (k : Ev.Cont) : evalFn tab (Gg98_74f f90 f93_020 f158_b72 f162_3e8 f163) (J98_74f fuel) kp98_74f fuel Try.f98 [.c (.ptr 0 0), .c (.nilptr), .c (.int .i64 x0), .agg [.int .i64 x1, .int .i64 x2, .int .i64 x3, .bool x4, .int .i64 x5], .c (.int .i64 x6), .agg [.int .i64 x7, .int .i64 x8, .sl (.int .u8) x9]] [.cells 137 [.int .i64 x10, .int .i64 x11, .own 1, .own 2], .vec 5 (.int .u8) x12 false, .vec 44 (.pair (.int .i64) (.int .i64)) x13 false] k = (fun  (k0 : (Int × Int × Int × (List Int) × (List (Int × Int))) → Option Ans) =>
  bif x4 then
   (f90 (x1) (x2) (x3) (x4) (x5)
     (fun y3 =>
       (f93_020 (Go.IntKind.i64.wrap (x0 + y3))
         (fun (y7_0, y7_1) =>
           bif y7_1 != (0 : Int) then
            k0 (y7_1, x10, x11, x12, x13)
           else
            bif y7_0 == (1 : Int) then
             both (both (bif Decidable.decide ((0 : Int) ≤ Ev.loOf (Option.some (Go.IntKind.i64.wrap (x6 * x10))) ∧ Ev.loOf (Option.some (Go.IntKind.i64.wrap (x6 * x10))) ≤ Ev.hiOf Option.none (↑x12.length : Int) ∧ Ev.hiOf Option.none (↑x12.length : Int) ≤ (↑x12.length : Int)) then
                 (f162_3e8 (x6) (x7) (x8) (x9) (x10) (x11) (x12) (x13)
                    (fun (y18_0, y18_1, y18_2, y18_3, y18_4) =>
                      k0 ((0 : Int), y18_0, y18_1, List.take (Ev.loOf (Option.some (Go.IntKind.i64.wrap (x6 * x10)))).toNat y18_2 ++ List.take (Ev.hiOf Option.none (↑x12.length : Int) - Ev.loOf (Option.some (Go.IntKind.i64.wrap (x6 * x10)))).toNat y18_4 ++ List.drop ((Ev.loOf (Option.some (Go.IntKind.i64.wrap (x6 * x10)))).toNat + Min.min (Ev.hiOf Option.none (↑x12.length : Int) - Ev.loOf (Option.some (Go.IntKind.i64.wrap (x6 * x10)))).toNat y18_4.length) y18_2, y18_3)))
                 else none)
                ((f162_3e8 (x6) (x7) (x8) (x9) (x10) (x11) (x12) (x13)
                   (fun (y17_0, y17_1, y17_2, y17_3, y17_4) =>
                     bif Decidable.decide ((0 : Int) ≤ Ev.loOf (Option.some (Go.IntKind.i64.wrap (x6 * y17_0))) ∧ Ev.loOf (Option.some (Go.IntKind.i64.wrap (x6 * y17_0))) ≤ Ev.hiOf Option.none (↑y17_2.length : Int) ∧ Ev.hiOf Option.none (↑y17_2.length : Int) ≤ (↑y17_2.length : Int)) then
                     k0 ((0 : Int), y17_0, y17_1, List.take (Ev.loOf (Option.some (Go.IntKind.i64.wrap (x6 * y17_0)))).toNat y17_2 ++ List.take (Ev.hiOf Option.none (↑y17_2.length : Int) - Ev.loOf (Option.some (Go.IntKind.i64.wrap (x6 * y17_0)))).toNat y17_4 ++ List.drop ((Ev.loOf (Option.some (Go.IntKind.i64.wrap (x6 * y17_0)))).toNat + Min.min (Ev.hiOf Option.none (↑y17_2.length : Int) - Ev.loOf (Option.some (Go.IntKind.i64.wrap (x6 * y17_0)))).toNat y17_4.length) y17_2, y17_3)
                     else none))))
              (both (both (bif Decidable.decide ((0 : Int) ≤ Ev.loOf (Option.some (Go.IntKind.i64.wrap (x6 * x10))) ∧ Ev.loOf (Option.some (Go.IntKind.i64.wrap (x6 * x10))) ≤ Ev.hiOf Option.none (↑x12.length : Int) ∧ Ev.hiOf Option.none (↑x12.length : Int) ≤ (↑x12.length : Int)) then
                   (f162_3e8 (x6) (x7) (x8) (x9) (x10) (x11) (x12) (x13)
                      (fun (y20_0, y20_1, y20_2, y20_3, y20_4) =>
                        k0 ((0 : Int), y20_0, y20_1, List.take (Ev.loOf (Option.some (Go.IntKind.i64.wrap (x6 * x10)))).toNat y20_2 ++ List.take (Ev.hiOf Option.none (↑x12.length : Int) - Ev.loOf (Option.some (Go.IntKind.i64.wrap (x6 * x10)))).toNat y20_4 ++ List.drop ((Ev.loOf (Option.some (Go.IntKind.i64.wrap (x6 * x10)))).toNat + Min.min (Ev.hiOf Option.none (↑x12.length : Int) - Ev.loOf (Option.some (Go.IntKind.i64.wrap (x6 * x10)))).toNat y20_4.length) y20_2, y20_3)))
                   else none)
                  ((f162_3e8 (x6) (x7) (x8) (x9) (x10) (x11) (x12) (x13)
                     (fun (y19_0, y19_1, y19_2, y19_3, y19_4) =>
                       bif Decidable.decide ((0 : Int) ≤ Ev.loOf (Option.some (Go.IntKind.i64.wrap (x6 * x10))) ∧ Ev.loOf (Option.some (Go.IntKind.i64.wrap (x6 * x10))) ≤ Ev.hiOf Option.none (↑y19_2.length : Int) ∧ Ev.hiOf Option.none (↑y19_2.length : Int) ≤ (↑y19_2.length : Int)) then
                       k0 ((0 : Int), y19_0, y19_1, List.take (Ev.loOf (Option.some (Go.IntKind.i64.wrap (x6 * x10)))).toNat y19_2 ++ List.take (Ev.hiOf Option.none (↑y19_2.length : Int) - Ev.loOf (Option.some (Go.IntKind.i64.wrap (x6 * x10)))).toNat y19_4 ++ List.drop ((Ev.loOf (Option.some (Go.IntKind.i64.wrap (x6 * x10)))).toNat + Min.min (Ev.hiOf Option.none (↑y19_2.length : Int) - Ev.loOf (Option.some (Go.IntKind.i64.wrap (x6 * x10)))).toNat y19_4.length) y19_2, y19_3)
                       else none))))
                ((f162_3e8 (x6) (x7) (x8) (x9) (x10) (x11) (x12) (x13)
                   (fun (y17_0, y17_1, y17_2, y17_3, y17_4) =>
                     both (bif Decidable.decide ((0 : Int) ≤ Ev.loOf (Option.some (Go.IntKind.i64.wrap (x6 * y17_0))) ∧ Ev.loOf (Option.some (Go.IntKind.i64.wrap (x6 * y17_0))) ≤ Ev.hiOf Option.none (↑y17_2.length : Int) ∧ Ev.hiOf Option.none (↑y17_2.length : Int) ≤ (↑y17_2.length : Int)) then
                       k0 ((0 : Int), y17_0, y17_1, List.take (Ev.loOf (Option.some (Go.IntKind.i64.wrap (x6 * y17_0)))).toNat y17_2 ++ List.take (Ev.hiOf Option.none (↑y17_2.length : Int) - Ev.loOf (Option.some (Go.IntKind.i64.wrap (x6 * y17_0)))).toNat y17_4 ++ List.drop ((Ev.loOf (Option.some (Go.IntKind.i64.wrap (x6 * y17_0)))).toNat + Min.min (Ev.hiOf Option.none (↑y17_2.length : Int) - Ev.loOf (Option.some (Go.IntKind.i64.wrap (x6 * y17_0)))).toNat y17_4.length) y17_2, y17_3)
                       else none)
                      (bif Decidable.decide ((0 : Int) ≤ Ev.loOf (Option.some (Go.IntKind.i64.wrap (x6 * y17_0))) ∧ Ev.loOf (Option.some (Go.IntKind.i64.wrap (x6 * y17_0))) ≤ Ev.hiOf Option.none (↑y17_2.length : Int) ∧ Ev.hiOf Option.none (↑y17_2.length : Int) ≤ (↑y17_2.length : Int)) then
                       k0 ((0 : Int), y17_0, y17_1, List.take (Ev.loOf (Option.some (Go.IntKind.i64.wrap (x6 * y17_0)))).toNat y17_2 ++ List.take (Ev.hiOf Option.none (↑y17_2.length : Int) - Ev.loOf (Option.some (Go.IntKind.i64.wrap (x6 * y17_0)))).toNat y17_4 ++ List.drop ((Ev.loOf (Option.some (Go.IntKind.i64.wrap (x6 * y17_0)))).toNat + Min.min (Ev.hiOf Option.none (↑y17_2.length : Int) - Ev.loOf (Option.some (Go.IntKind.i64.wrap (x6 * y17_0)))).toNat y17_4.length) y17_2, y17_3)
                       else none)))))
            else
             (L_generic_plane_row_74f_0 fuel (x0, x6, x10, (0 : Int), x10, x11, x12, x13, x7, x8, x9)
               (fun (ret0_0, ret0_1, ret0_2, ret0_3, ret0_4) =>
                 k0 (ret0_0, ret0_1, ret0_2, ret0_3, ret0_4))
               (fun (b0_0, b0_1, b0_2, b0_3) =>
                 k0 ((0 : Int), b0_0, b0_1, b0_2, b0_3)))))))
  else
   (L_generic_plane_row_74f_0 fuel (x0, x6, x10, (0 : Int), x10, x11, x12, x13, x7, x8, x9)
     (fun (ret0_0, ret0_1, ret0_2, ret0_3, ret0_4) =>
       k0 (ret0_0, ret0_1, ret0_2, ret0_3, ret0_4))
     (fun (b0_0, b0_1, b0_2, b0_3) =>
       k0 ((0 : Int), b0_0, b0_1, b0_2, b0_3)))) (fun r => match r with | (r0, r1, r2, r3, r4) => k (.c (.int .i64 r0), [.cells 137 [.int .i64 r1, .int .i64 r2, .own 1, .own 2], .vec 5 (.int .u8) r3 false, .vec 44 (.pair (.int .i64) (.int .i64)) r4 false])) := by
  kernel_rfl
theorem F98_74f_eq (fuel : Nat) (x0 : Int) (x1 : Int) (x2 : Int) (x3 : Int) (x4 : Bool) (x5 : Int) (x6 : Int) (x7 : Int) (x8 : Int) (x9 : (List Int)) (x10 : Int) (x11 : Int) (x12 : (List Int)) (x13 : (List (Int × Int))) (k : Ev.Cont) : evalFn tab (G98_74f fuel) (J98_74f fuel) kp98_74f fuel Try.f98 [.c (.ptr 0 0), .c (.nilptr), .c (.int .i64 x0), .agg [.int .i64 x1, .int .i64 x2, .int .i64 x3, .bool x4, .int .i64 x5], .c (.int .i64 x6), .agg [.int .i64 x7, .int .i64 x8, .sl (.int .u8) x9]] [.cells 137 [.int .i64 x10, .int .i64 x11, .own 1, .own 2], .vec 5 (.int .u8) x12 false, .vec 44 (.pair (.int .i64) (.int .i64)) x13 false] k = F_generic_plane_row_74f fuel x0 x1 x2 x3 x4 x5 x6 x7 x8 x9 x10 x11 x12 x13 (fun r => match r with | (r0, r1, r2, r3, r4) => k (.c (.int .i64 r0), [.cells 137 [.int .i64 r1, .int .i64 r2, .own 1, .own 2], .vec 5 (.int .u8) r3 false, .vec 44 (.pair (.int .i64) (.int .i64)) r4 false])) :=
  F98_74f_eqg fuel (F_generic_contexts fuel) (F_coder_Decoder_Get_020 fuel) (F_generic_plane_context_b72 fuel) (F_generic_plane_above_3e8 fuel) (F_generic_skips fuel) x0 x1 x2 x3 x4 x5 x6 x7 x8 x9 x10 x11 x12 x13 k
theorem hG98_74f (fuel : Nat) : GOK Try.prog (G98_74f fuel) :=
  gok_cons ⟨ok90 fuel, enters_of Try.func90 (by kernel_rfl) rfl⟩ <|
  gok_cons ⟨ok93_020 fuel, enters_of Try.func93 (by kernel_rfl) rfl⟩ <|
  gok_cons ⟨ok158_b72 fuel, enters_of Try.func158 (by kernel_rfl) rfl⟩ <|
  gok_cons ⟨ok162_3e8 fuel, enters_of Try.func162 (by kernel_rfl) rfl⟩ <|
  gok_cons ⟨ok163 fuel, enters_of Try.func163 (by kernel_rfl) rfl⟩ <|
  gok_nil
theorem B98_74f_0_blk (fuel : Nat) : BlkOK Try.prog Try.f98.ntmps (.block 0 (.loop (bodyOf 0 Try.f98))) (B98_74f_0 fuel) :=
  blk_of (blk_of_code tab_ok (hG98_74f fuel) mixed (J := J98_74f_0 fuel) (kp := kp98_74f) (fuel := fuel) (by kernel_rfl) (fun q hq => by
    rw [(by kernel_rfl : obl (J98_74f_0 fuel) (.block 0 (.loop (bodyOf 0 Try.f98))) = [])] at hq
    cases hq)) (B98_74f_0_ok fuel)
theorem fok98_74f (fuel : Nat) : FnOK Try.prog 98 (evalFn tab (G98_74f fuel) (J98_74f fuel) kp98_74f fuel Try.f98) :=
  fn_ok tab_ok (hG98_74f fuel) mixed Try.func98 (c := (Try.f98.body).getD .skip) rfl (fun q hq => by
    rw [(by kernel_rfl : obl (J98_74f fuel) ((Try.f98.body).getD .skip) = [(.block 0 (.loop (bodyOf 0 Try.f98)), B98_74f_0 fuel)])] at hq
    simp only [List.mem_cons, List.not_mem_nil, or_false] at hq
    subst hq
    · exact B98_74f_0_blk fuel)
noncomputable def mt98_74f : List Ev.SV → List Ev.Ob → Bool := fun args objs => match args, objs with
  | [.c (.ptr q0 q1), .c (.nilptr), .c (.int .i64 _), .agg [.int .i64 _, .int .i64 _, .int .i64 _, .bool _, .int .i64 _], .c (.int .i64 _), .agg [.int .i64 _, .int .i64 _, .sl (.int .u8) _]], [.cells q2 [.int .i64 _, .int .i64 _, .own q3, .own q4], .vec q5 (.int .u8) _ false, .vec q6 (.pair (.int .i64) (.int .i64)) _ false] => Nat.beq q0 0 && Nat.beq q1 0 && Nat.beq q2 137 && Nat.beq q3 1 && Nat.beq q4 2 && Nat.beq q5 5 && Nat.beq q6 44
  | _, _ => false
noncomputable def spg98_74f (F : YF98_74f) : Ev.Spec := fun args objs k => match args, objs with
  | [.c (.ptr q0 q1), .c (.nilptr), .c (.int .i64 x0), .agg [.int .i64 x1, .int .i64 x2, .int .i64 x3, .bool x4, .int .i64 x5], .c (.int .i64 x6), .agg [.int .i64 x7, .int .i64 x8, .sl (.int .u8) x9]], [.cells q2 [.int .i64 x10, .int .i64 x11, .own q3, .own q4], .vec q5 (.int .u8) x12 false, .vec q6 (.pair (.int .i64) (.int .i64)) x13 false] => bif Nat.beq q0 0 && Nat.beq q1 0 && Nat.beq q2 137 && Nat.beq q3 1 && Nat.beq q4 2 && Nat.beq q5 5 && Nat.beq q6 44 then F x0 x1 x2 x3 x4 x5 x6 x7 x8 x9 x10 x11 x12 x13 (fun r => match r with | (r0, r1, r2, r3, r4) => k (.c (.int .i64 r0), [.cells 137 [.int .i64 r1, .int .i64 r2, .own 1, .own 2], .vec 5 (.int .u8) r3 false, .vec 44 (.pair (.int .i64) (.int .i64)) r4 false])) else none
  | _, _ => none
noncomputable def spec98_74f (fuel : Nat) : Ev.Spec := spg98_74f (F_generic_plane_row_74f fuel)
theorem ok98_74f (fuel : Nat) : FnOK Try.prog 98 (spec98_74f fuel) := by
  intro args objs kk r h
  unfold spec98_74f spg98_74f at h
  split at h
  · skip
    obtain ⟨hb, h⟩ := cond_some' h
    simp only [Bool.and_eq_true, Nat.beq_eq, decide_eq_true_eq] at hb
    obtain ⟨⟨⟨⟨⟨⟨rfl, rfl⟩, rfl⟩, rfl⟩, rfl⟩, rfl⟩, rfl⟩ := hb
    exact fok98_74f fuel _ _ kk r ((F98_74f_eq fuel _ _ _ _ _ _ _ _ _ _ _ _ _ _ kk).trans h)
  · cases h
end Go.Proofs.Ytihfgpfofmjbaaa

set_option linter.unusedVariables false
set_option linter.unusedSimpArgs false
set_option maxRecDepth 100000
set_option maxHeartbeats 2000000
namespace Go.Proofs.Ytihfgpfofmjbaaa
open Go Ev
def kp94 (i : Nat) : Option (List Nat) := Ev.look i []
noncomputable def Gg94 (f : Nat) : Option Ev.Spec := Ev.look f []
noncomputable def G94 (fuel : Nat) : Nat → Option Ev.Spec := Gg94
noncomputable def J94 (fuel : Nat) (i : Nat) : Option Ev.Blk := Ev.look i []
noncomputable def F_generic_sides (fuel : Nat) (x0 : Int) (x1 : Int) (x2 : (List Int)) (x3 : Int) (x4 : Int) (k0 : (Bool) → Option Ans) : Option Ans :=
  bif x0 == (0 : Int) then
   bif x1 == (0 : Int) then
    k0 Bool.true
   else
    bif x0 == x3 then
     k0 (x1 == x4)
    else
     k0 Bool.false
  else
   bif x0 == x3 then
    k0 (x1 == x4)
   else
    k0 Bool.false
abbrev YF94 : Type := (Int) → (Int) → ((List Int)) → (Int) → (Int) → ((Bool) → Option Ans) → Option Ans
theorem F94_eq (fuel : Nat) (x0 : Int) (x1 : Int) (x2 : (List Int)) (x3 : Int) (x4 : Int) (k : Ev.Cont) : evalFn tab (G94 fuel) (J94 fuel) kp94 fuel Try.f94 [.agg [.int .i64 x0, .int .i64 x1, .sl (.int .u8) x2], .c (.int .i64 x3), .c (.int .i64 x4)] [] k = F_generic_sides fuel x0 x1 x2 x3 x4 (fun r => match r with | r0 => k (.c (.bool r0), [])) := by
  kernel_rfl
theorem hG94 (fuel : Nat) : GOK Try.prog (G94 fuel) :=
  gok_nil
theorem fok94 (fuel : Nat) : FnOK Try.prog 94 (evalFn tab (G94 fuel) (J94 fuel) kp94 fuel Try.f94) :=
  fn_ok tab_ok (hG94 fuel) mixed Try.func94 (c := (Try.f94.body).getD .skip) rfl (fun q hq => by
    rw [(by kernel_rfl : obl (J94 fuel) ((Try.f94.body).getD .skip) = [])] at hq
    cases hq)
noncomputable def mt94 : List Ev.SV → List Ev.Ob → Bool := fun args objs => match args, objs with
  | [.agg [.int .i64 _, .int .i64 _, .sl (.int .u8) _], .c (.int .i64 _), .c (.int .i64 _)], [] => true
  | _, _ => false
noncomputable def spg94 (F : YF94) : Ev.Spec := fun args objs k => match args, objs with
  | [.agg [.int .i64 x0, .int .i64 x1, .sl (.int .u8) x2], .c (.int .i64 x3), .c (.int .i64 x4)], [] => bif true then F x0 x1 x2 x3 x4 (fun r => match r with | r0 => k (.c (.bool r0), [])) else none
  | _, _ => none
noncomputable def spec94 (fuel : Nat) : Ev.Spec := spg94 (F_generic_sides fuel)
theorem ok94 (fuel : Nat) : FnOK Try.prog 94 (spec94 fuel) := by
  intro args objs kk r h
  unfold spec94 spg94 at h
  split at h
  · skip
    obtain ⟨hb, h⟩ := cond_some' h
    simp only [Bool.and_eq_true, Nat.beq_eq, decide_eq_true_eq] at hb
    clear hb
    exact fok94 fuel _ _ kk r ((F94_eq fuel _ _ _ _ _ kk).trans h)
  · cases h
end Go.Proofs.Ytihfgpfofmjbaaa

set_option linter.unusedVariables false
set_option linter.unusedSimpArgs false
set_option maxRecDepth 100000
set_option maxHeartbeats 2000000
namespace Go.Proofs.Ytihfgpfofmjbaaa
open Go Ev
def kp32_4be (i : Nat) : Option (List Nat) := Ev.look i [(13, [0, 1, 3, 4, 8, 11, 12, 18, 66, 67]), (100000, [3, 4, 12, 18]), (200009, [8, 11]), (400000, [12, 13])]
noncomputable def Gg32_4be (f76 : YF76) (f88 : YF88) (f89 : YF89) (f93_020 : YF93_020) (f94 : YF94) (f95 : YF95) (f96_975 : YF96_975) (f97 : YF97) (f98_74f : YF98_74f) (f : Nat) : Option Ev.Spec := Ev.look f [(76, spg76 f76), (88, spg88 f88), (89, spg89 f89), (93, spg93_020 f93_020), (94, spg94 f94), (95, spg95 f95), (96, spg96_975 f96_975), (97, spg97 f97), (98, spg98_74f f98_74f)]
noncomputable def G32_4be (fuel : Nat) : Nat → Option Ev.Spec := Gg32_4be (F_bitmap_New fuel) (F_generic_Valid fuel) (F_bitmap_Valid fuel) (F_coder_Decoder_Get_020 fuel) (F_generic_sides fuel) (F_generic_fits fuel) (F_coder_Decoder_Model_975 fuel) (F_generic_newPlane fuel) (F_generic_plane_row_74f fuel)
noncomputable def S_generic_Get_4be_0 (fuel : Nat) (v : Int × Int × Int × Int × Int × Int × Int × Int × Bool × Int × Int × Int × (List Int) × Int × Int × Int × Int × (List Int) × (List Int) × (List (Int × Int))) (c : (Int × Int × Int × Int × Int × Int × Int × Int × Bool × Int × Int × Int × (List Int) × Int × Int × Int × Int × (List Int) × (List Int) × (List (Int × Int))) → Option Ans) (B : (Int × Int × Int × (List Int) → Option Ans) × (Int × Int × Int × Int × Int × Int × (List Int) × (List Int) × (List (Int × Int)) → Option Ans)) : Option Ans := match v, B with
  | (x0, x1, x2, x3, x4, x5, x6, x7, x8, x9, x10, x11, x12, x13, x14, x15, x16, x17, x18, x19), (ret, b) =>
   bif Decidable.decide (x4 < x3) then
      (F_generic_plane_row_74f fuel (x0) (x5) (x6) (x7) (x8) (x9) (x4) (x10) (x11) (x12) (x15) (x16) (x18) (x19)
        (fun (y3_0, y3_1, y3_2, y3_3, y3_4) =>
          bif y3_0 != (0 : Int) then
           ret (y3_0, (0 : Int), (0 : Int), [])
          else
           c (x0, x1, x2, x3, Go.IntKind.i64.wrap (x4 + (1 : Int)), x5, x6, x7, x8, x9, x10, x11, x12, x13, x14, y3_1, y3_2, x17, y3_3, y3_4)))
     else
      b (x1, x2, x13, x14, x15, x16, x17, x18, x19)
noncomputable def L_generic_Get_4be_0 (fuel : Nat) (v : Int × Int × Int × Int × Int × Int × Int × Int × Bool × Int × Int × Int × (List Int) × Int × Int × Int × Int × (List Int) × (List Int) × (List (Int × Int))) (ret : (Int × Int × Int × (List Int) → Option Ans)) (b : (Int × Int × Int × Int × Int × Int × (List Int) × (List Int) × (List (Int × Int)) → Option Ans)) : Option Ans := iter (S_generic_Get_4be_0 fuel) fuel v (ret, b)
noncomputable def J32_4be_0 (fuel : Nat) (i : Nat) : Option Ev.Blk := Ev.look i []
noncomputable def T32_4be_0 (v : Int × Int × Int × Int × Int × Int × Int × Int × Bool × Int × Int × Int × (List Int) × Int × Int × Int × Int × (List Int) × (List Int) × (List (Int × Int))) : Ev.St := match v with | (x0, x1, x2, x3, x4, x5, x6, x7, x8, x9, x10, x11, x12, x13, x14, x15, x16, x17, x18, x19) => ⟨[(0, .c (.nilptr)), (1, .c (.int .i64 x0)), (3, .c (.int .i64 x1)), (4, .c (.int .i64 x2)), (8, .c (.ptr 0 0)), (11, .c (.ptr 1 0)), (12, .c (.ptr 2 0)), (18, .c (.ptr 3 0)), (66, .c (.int .i64 x3)), (67, .c (.int .i64 x4))], [(0, .cells 46 [.int .i64 x5, .int .i64 x6, .int .i64 x7, .bool x8, .int .i64 x9]), (1, .cells 39 [.int .i64 x10, .int .i64 x11, .sl (.int .u8) x12]), (2, .cells 39 [.int .i64 x13, .int .i64 x14, .own 4]), (3, .cells 137 [.int .i64 x15, .int .i64 x16, .own 5, .own 6]), (4, .vec 5 (.int .u8) x17 true), (5, .vec 5 (.int .u8) x18 true), (6, .vec 44 (.pair (.int .i64) (.int .i64)) x19 true)], 7, 0⟩
noncomputable def E32_4be_0 (K : Ev.Ex → Ev.St → Option Ans) : (Int × Int × Int × (List Int) → Option Ans) × (Int × Int × Int × Int × Int × Int × (List Int) × (List Int) × (List (Int × Int)) → Option Ans) := ((fun v => match v with | (x0, x1, x2, x3) => K .ret ⟨[(12, .c (.ptr 0 0)), (13, .c (.int .i64 x0))], [(0, .cells 39 [.int .i64 x1, .int .i64 x2, .own 1]), (1, .vec 5 (.int .u8) x3 true)], 2, 0⟩), (fun v => match v with | (x0, x1, x2, x3, x4, x5, x6, x7, x8) => K .normal ⟨[(3, .c (.int .i64 x0)), (4, .c (.int .i64 x1)), (12, .c (.ptr 0 0)), (18, .c (.ptr 1 0))], [(0, .cells 39 [.int .i64 x2, .int .i64 x3, .own 2]), (1, .cells 137 [.int .i64 x4, .int .i64 x5, .own 3, .own 4]), (2, .vec 5 (.int .u8) x6 true), (3, .vec 5 (.int .u8) x7 true), (4, .vec 44 (.pair (.int .i64) (.int .i64)) x8 true)], 5, 0⟩))
theorem S32_4be_0_okg (fuel : Nat) (f76 : YF76) (f88 : YF88) (f89 : YF89) (f93_020 : YF93_020) (f94 : YF94) (f95 : YF95) (f96_975 : YF96_975) (f97 : YF97) (f98_74f : YF98_74f) (R : Ev.St → Option Ans) (K : Ev.Ex → Ev.St → Option Ans) (x0 : Int) (x1 : Int) (x2 : Int) (x3 : Int) (x4 : Int) (x5 : Int) (x6 : Int) (x7 : Int) (x8 : Bool) (x9 : Int) (x10 : Int) (x11 : Int) (x12 : (List Int)) (x13 : Int) (x14 : Int) (x15 : Int) (x16 : Int) (x17 : (List Int)) (x18 : (List Int)) (x19 : (List (Int × Int))) : evalCode tab (Gg32_4be f76 f88 f89 f93_020 f94 f95 f96_975 f97 f98_74f) (J32_4be_0 fuel) kp32_4be fuel (bodyOf 0 Try.f32) (T32_4be_0 (x0, x1, x2, x3, x4, x5, x6, x7, x8, x9, x10, x11, x12, x13, x14, x15, x16, x17, x18, x19)) (lc kp32_4be 13 0 R K) = (fun (c : (Int × Int × Int × Int × Int × Int × Int × Int × Bool × Int × Int × Int × (List Int) × Int × Int × Int × Int × (List Int) × (List Int) × (List (Int × Int))) → Option Ans) (B : (Int × Int × Int × (List Int) → Option Ans) × (Int × Int × Int × Int × Int × Int × (List Int) × (List Int) × (List (Int × Int)) → Option Ans)) => match B with
  | (ret, b) =>
   bif Decidable.decide (x4 < x3) then
      (f98_74f (x0) (x5) (x6) (x7) (x8) (x9) (x4) (x10) (x11) (x12) (x15) (x16) (x18) (x19)
        (fun (y3_0, y3_1, y3_2, y3_3, y3_4) =>
          bif y3_0 != (0 : Int) then
           ret (y3_0, (0 : Int), (0 : Int), [])
          else
           c (x0, x1, x2, x3, Go.IntKind.i64.wrap (x4 + (1 : Int)), x5, x6, x7, x8, x9, x10, x11, x12, x13, x14, y3_1, y3_2, x17, y3_3, y3_4)))
     else
      b (x1, x2, x13, x14, x15, x16, x17, x18, x19)) (fun v => R (T32_4be_0 v)) (E32_4be_0 K) := by
  kernel_rfl
theorem S32_4be_0_ok (fuel : Nat) (R : Ev.St → Option Ans) (K : Ev.Ex → Ev.St → Option Ans) (x0 : Int) (x1 : Int) (x2 : Int) (x3 : Int) (x4 : Int) (x5 : Int) (x6 : Int) (x7 : Int) (x8 : Bool) (x9 : Int) (x10 : Int) (x11 : Int) (x12 : (List Int)) (x13 : Int) (x14 : Int) (x15 : Int) (x16 : Int) (x17 : (List Int)) (x18 : (List Int)) (x19 : (List (Int × Int))) : evalCode tab (G32_4be fuel) (J32_4be_0 fuel) kp32_4be fuel (bodyOf 0 Try.f32) (T32_4be_0 (x0, x1, x2, x3, x4, x5, x6, x7, x8, x9, x10, x11, x12, x13, x14, x15, x16, x17, x18, x19)) (lc kp32_4be 13 0 R K) = S_generic_Get_4be_0 fuel (x0, x1, x2, x3, x4, x5, x6, x7, x8, x9, x10, x11, x12, x13, x14, x15, x16, x17, x18, x19) (fun v => R (T32_4be_0 v)) (E32_4be_0 K) :=
  S32_4be_0_okg fuel (F_bitmap_New fuel) (F_generic_Valid fuel) (F_bitmap_Valid fuel) (F_coder_Decoder_Get_020 fuel) (F_generic_sides fuel) (F_generic_fits fuel) (F_coder_Decoder_Model_975 fuel) (F_generic_newPlane fuel) (F_generic_plane_row_74f fuel) R K x0 x1 x2 x3 x4 x5 x6 x7 x8 x9 x10 x11 x12 x13 x14 x15 x16 x17 x18 x19
noncomputable def B32_4be_0 (fuel : Nat) : Ev.Blk := fun st K => match canonO (kp32_4be 13) st with
  | some s => (match s with
    | ⟨[(q0, .c (.nilptr)), (q1, .c (.int .i64 x0)), (q2, .c (.int .i64 x1)), (q3, .c (.int .i64 x2)), (q4, .c (.ptr q5 q6)), (q7, .c (.ptr q8 q9)), (q10, .c (.ptr q11 q12)), (q13, .c (.ptr q14 q15)), (q16, .c (.int .i64 x3)), (q17, .c (.int .i64 x4))], [(q18, .cells q19 [.int .i64 x5, .int .i64 x6, .int .i64 x7, .bool x8, .int .i64 x9]), (q20, .cells q21 [.int .i64 x10, .int .i64 x11, .sl (.int .u8) x12]), (q22, .cells q23 [.int .i64 x13, .int .i64 x14, .own q24]), (q25, .cells q26 [.int .i64 x15, .int .i64 x16, .own q27, .own q28]), (q29, .vec q30 (.int .u8) x17 true), (q31, .vec q32 (.int .u8) x18 true), (q33, .vec q34 (.pair (.int .i64) (.int .i64)) x19 true)], q35, q36⟩ => bif Nat.beq q0 0 && Nat.beq q1 1 && Nat.beq q2 3 && Nat.beq q3 4 && Nat.beq q4 8 && Nat.beq q5 0 && Nat.beq q6 0 && Nat.beq q7 11 && Nat.beq q8 1 && Nat.beq q9 0 && Nat.beq q10 12 && Nat.beq q11 2 && Nat.beq q12 0 && Nat.beq q13 18 && Nat.beq q14 3 && Nat.beq q15 0 && Nat.beq q16 66 && Nat.beq q17 67 && Nat.beq q18 0 && Nat.beq q19 46 && Nat.beq q20 1 && Nat.beq q21 39 && Nat.beq q22 2 && Nat.beq q23 39 && Nat.beq q24 4 && Nat.beq q25 3 && Nat.beq q26 137 && Nat.beq q27 5 && Nat.beq q28 6 && Nat.beq q29 4 && Nat.beq q30 5 && Nat.beq q31 5 && Nat.beq q32 5 && Nat.beq q33 6 && Nat.beq q34 44 && Nat.beq q35 7 && Nat.beq q36 0 then iter (S_generic_Get_4be_0 fuel) fuel (x0, x1, x2, x3, x4, x5, x6, x7, x8, x9, x10, x11, x12, x13, x14, x15, x16, x17, x18, x19) (E32_4be_0 K) else none
    | _ => none)
  | none => none
theorem B32_4be_0_ok (fuel : Nat) (st : Ev.St) (K : Ev.Ex → Ev.St → Option Ans) (r : Ans) (h : B32_4be_0 fuel st K = some r) : evalCode tab (G32_4be fuel) (J32_4be_0 fuel) kp32_4be fuel (.block 0 (.loop (bodyOf 0 Try.f32))) st K = some r := by
  unfold B32_4be_0 at h
  split at h
  · rename_i s hs
    split at h
    · skip
      obtain ⟨hb, h⟩ := cond_some' h
      simp only [Bool.and_eq_true, Nat.beq_eq, decide_eq_true_eq] at hb
      obtain ⟨⟨⟨⟨⟨⟨⟨⟨⟨⟨⟨⟨⟨⟨⟨⟨⟨⟨⟨⟨⟨⟨⟨⟨⟨⟨⟨⟨⟨⟨⟨⟨⟨⟨⟨⟨rfl, rfl⟩, rfl⟩, rfl⟩, rfl⟩, rfl⟩, rfl⟩, rfl⟩, rfl⟩, rfl⟩, rfl⟩, rfl⟩, rfl⟩, rfl⟩, rfl⟩, rfl⟩, rfl⟩, rfl⟩, rfl⟩, rfl⟩, rfl⟩, rfl⟩, rfl⟩, rfl⟩, rfl⟩, rfl⟩, rfl⟩, rfl⟩, rfl⟩, rfl⟩, rfl⟩, rfl⟩, rfl⟩, rfl⟩, rfl⟩, rfl⟩, rfl⟩ := hb
      exact blk_loop (S := T32_4be_0) (ks := E32_4be_0) (step := S_generic_Get_4be_0 fuel) (v := (_, _, _, _, _, _, _, _, _, _, _, _, _, _, _, _, _, _, _, _)) (by kernel_rfl) (by kernel_rfl) (fun R K v => by obtain ⟨x0, x1, x2, x3, x4, x5, x6, x7, x8, x9, x10, x11, x12, x13, x14, x15, x16, x17, x18, x19⟩ := v; exact S32_4be_0_ok fuel R K x0 x1 x2 x3 x4 x5 x6 x7 x8 x9 x10 x11 x12 x13 x14 x15 x16 x17 x18 x19) hs h
    · cases h
  · cases h
noncomputable def J32_4be (fuel : Nat) (i : Nat) : Option Ev.Blk := Ev.look i [(100000, B32_4be_0 fuel)]
noncomputable def F_generic_Get_4be (fuel : Nat) (x0 : Int) (x1 : Int) (x2 : Int) (x3 : Int) (x4 : Bool) (x5 : Int) (x6 : Int) (x7 : Int) (x8 : Int) (x9 : Int) (x10 : (List Int)) (k0 : (Int × Int × Int × (List Int)) → Option Ans) : Option Ans :=
  (F_coder_Decoder_Get_020 fuel ((-1 : Int))
    (fun (y2_0, y2_1) =>
      bif y2_1 == (7 : Int) then
       k0 ((0 : Int), (0 : Int), y2_1, [])
      else
       (F_generic_Valid fuel (x1) (x2) (x3) (x4) (x5)
         (fun y7 =>
           bif !y7 then
            k0 ((0 : Int), (0 : Int), (2 : Int), [])
           else
            (F_bitmap_New fuel (x6) (x7) ((0 : Int))
              (fun (y12_0, y12_1, y12_2, y12_3) =>
                bif y12_2 != (0 : Int) then
                 k0 ((0 : Int), (0 : Int), (30 : Int), [])
                else
                 (F_bitmap_Valid fuel (x8) (x9) (x10)
                   (fun y17 =>
                     bif !y17 then
                      k0 ((0 : Int), (0 : Int), (30 : Int), [])
                     else
                      (F_generic_sides fuel (x8) (x9) (x10) (x6) (x7)
                        (fun y22 =>
                          bif !y22 then
                           k0 ((0 : Int), (0 : Int), (2 : Int), [])
                          else
                           (F_coder_Decoder_Model_975 fuel
                             (fun (y27_0, y27_1) =>
                               (F_generic_fits fuel (y27_0) (y27_1) (x0) (x1) (x2) (x3) (x4) (x5)
                                 (fun y31 =>
                                   bif !y31 then
                                    k0 ((0 : Int), (0 : Int), (2 : Int), [])
                                   else
                                    (F_generic_newPlane fuel (x1) (x2) (x3) (x4) (x5) (x6) (x7)
                                      (fun (y36_0, y36_1, y36_2, y36_3) =>
                                        (L_generic_Get_4be_0 fuel (x0, x6, x7, x7, (0 : Int), x1, x2, x3, x4, x5, x8, x9, x10, (0 : Int), (0 : Int), y36_0, y36_1, [], y36_2, y36_3)
                                          (fun (ret0_0, ret0_1, ret0_2, ret0_3) =>
                                            k0 (ret0_1, ret0_2, ret0_0, ret0_3))
                                          (fun (b0_0, b0_1, b0_2, b0_3, b0_4, b0_5, b0_6, b0_7, b0_8) =>
                                            k0 (b0_0, b0_1, (0 : Int), b0_7)))))))))))))))))))
abbrev YF32_4be : Type := (Int) → (Int) → (Int) → (Int) → (Bool) → (Int) → (Int) → (Int) → (Int) → (Int) → ((List Int)) → ((Int × Int × Int × (List Int)) → Option Ans) → Option Ans
theorem F32_4be_eqg (fuel : Nat) (f76 : YF76) (f88 : YF88) (f89 : YF89) (f93_020 : YF93_020) (f94 : YF94) (f95 : YF95) (f96_975 : YF96_975) (f97 : YF97) (f98_74f : YF98_74f) (x0 : Int) (x1 : Int) (x2 : Int) (x3 : Int) (x4 : Bool) (x5 : Int) (x6 : Int) (x7 : Int) (x8 : Int) (x9 : Int) (x10 : (List Int)) (k : Ev.Cont) : evalFn tab (Gg32_4be f76 f88 f89 f93_020 f94 f95 f96_975 f97 f98_74f) (J32_4be fuel) kp32_4be fuel Try.f32 [.c (.nilptr), .c (.int .i64 x0), .agg [.int .i64 x1, .int .i64 x2, .int .i64 x3, .bool x4, .int .i64 x5], .c (.int .i64 x6), .c (.int .i64 x7), .agg [.int .i64 x8, .int .i64 x9, .sl (.int .u8) x10]] [] k = (fun  (k0 : (Int × Int × Int × (List Int)) → Option Ans) =>
  (f93_020 ((-1 : Int))
    (fun (y2_0, y2_1) =>
      bif y2_1 == (7 : Int) then
       k0 ((0 : Int), (0 : Int), y2_1, [])
      else
       (f88 (x1) (x2) (x3) (x4) (x5)
         (fun y7 =>
           bif !y7 then
            k0 ((0 : Int), (0 : Int), (2 : Int), [])
           else
            (f76 (x6) (x7) ((0 : Int))
              (fun (y12_0, y12_1, y12_2, y12_3) =>
                bif y12_2 != (0 : Int) then
                 k0 ((0 : Int), (0 : Int), (30 : Int), [])
                else
                 (f89 (x8) (x9) (x10)
                   (fun y17 =>
                     bif !y17 then
                      k0 ((0 : Int), (0 : Int), (30 : Int), [])
                     else
                      (f94 (x8) (x9) (x10) (x6) (x7)
                        (fun y22 =>
                          bif !y22 then
                           k0 ((0 : Int), (0 : Int), (2 : Int), [])
                          else
                           (f96_975
                             (fun (y27_0, y27_1) =>
                               (f95 (y27_0) (y27_1) (x0) (x1) (x2) (x3) (x4) (x5)
                                 (fun y31 =>
                                   bif !y31 then
                                    k0 ((0 : Int), (0 : Int), (2 : Int), [])
                                   else
                                    (f97 (x1) (x2) (x3) (x4) (x5) (x6) (x7)
                                      (fun (y36_0, y36_1, y36_2, y36_3) =>
                                        (L_generic_Get_4be_0 fuel (x0, x6, x7, x7, (0 : Int), x1, x2, x3, x4, x5, x8, x9, x10, (0 : Int), (0 : Int), y36_0, y36_1, [], y36_2, y36_3)
                                          (fun (ret0_0, ret0_1, ret0_2, ret0_3) =>
                                            k0 (ret0_1, ret0_2, ret0_0, ret0_3))
                                          (fun (b0_0, b0_1, b0_2, b0_3, b0_4, b0_5, b0_6, b0_7, b0_8) =>
                                            k0 (b0_0, b0_1, (0 : Int), b0_7)))))))))))))))))))) (fun r => match r with | (r0, r1, r2, r3) => k (.tup [(true, [.int .i64 r0, .int .i64 r1, .own 0]), (false, [.int .i64 r2])], [.vec 5 (.int .u8) r3 true])) := by
  kernel_rfl
theorem F32_4be_eq (fuel : Nat) (x0 : Int) (x1 : Int) (x2 : Int) (x3 : Int) (x4 : Bool) (x5 : Int) (x6 : Int) (x7 : Int) (x8 : Int) (x9 : Int) (x10 : (List Int)) (k : Ev.Cont) : evalFn tab (G32_4be fuel) (J32_4be fuel) kp32_4be fuel Try.f32 [.c (.nilptr), .c (.int .i64 x0), .agg [.int .i64 x1, .int .i64 x2, .int .i64 x3, .bool x4, .int .i64 x5], .c (.int .i64 x6), .c (.int .i64 x7), .agg [.int .i64 x8, .int .i64 x9, .sl (.int .u8) x10]] [] k = F_generic_Get_4be fuel x0 x1 x2 x3 x4 x5 x6 x7 x8 x9 x10 (fun r => match r with | (r0, r1, r2, r3) => k (.tup [(true, [.int .i64 r0, .int .i64 r1, .own 0]), (false, [.int .i64 r2])], [.vec 5 (.int .u8) r3 true])) :=
  F32_4be_eqg fuel (F_bitmap_New fuel) (F_generic_Valid fuel) (F_bitmap_Valid fuel) (F_coder_Decoder_Get_020 fuel) (F_generic_sides fuel) (F_generic_fits fuel) (F_coder_Decoder_Model_975 fuel) (F_generic_newPlane fuel) (F_generic_plane_row_74f fuel) x0 x1 x2 x3 x4 x5 x6 x7 x8 x9 x10 k
theorem hG32_4be (fuel : Nat) : GOK Try.prog (G32_4be fuel) :=
  gok_cons ⟨ok76 fuel, enters_of Try.func76 (by kernel_rfl) rfl⟩ <|
  gok_cons ⟨ok88 fuel, enters_of Try.func88 (by kernel_rfl) rfl⟩ <|
  gok_cons ⟨ok89 fuel, enters_of Try.func89 (by kernel_rfl) rfl⟩ <|
  gok_cons ⟨ok93_020 fuel, enters_of Try.func93 (by kernel_rfl) rfl⟩ <|
  gok_cons ⟨ok94 fuel, enters_of Try.func94 (by kernel_rfl) rfl⟩ <|
  gok_cons ⟨ok95 fuel, enters_of Try.func95 (by kernel_rfl) rfl⟩ <|
  gok_cons ⟨ok96_975 fuel, enters_of Try.func96 (by kernel_rfl) rfl⟩ <|
  gok_cons ⟨ok97 fuel, enters_of Try.func97 (by kernel_rfl) rfl⟩ <|
  gok_cons ⟨ok98_74f fuel, enters_of Try.func98 (by kernel_rfl) rfl⟩ <|
  gok_nil
theorem B32_4be_0_blk (fuel : Nat) : BlkOK Try.prog Try.f32.ntmps (.block 0 (.loop (bodyOf 0 Try.f32))) (B32_4be_0 fuel) :=
  blk_of (blk_of_code tab_ok (hG32_4be fuel) mixed (J := J32_4be_0 fuel) (kp := kp32_4be) (fuel := fuel) (by kernel_rfl) (fun q hq => by
    rw [(by kernel_rfl : obl (J32_4be_0 fuel) (.block 0 (.loop (bodyOf 0 Try.f32))) = [])] at hq
    cases hq)) (B32_4be_0_ok fuel)
theorem fok32_4be (fuel : Nat) : FnOK Try.prog 32 (evalFn tab (G32_4be fuel) (J32_4be fuel) kp32_4be fuel Try.f32) :=
  fn_ok tab_ok (hG32_4be fuel) mixed Try.func32 (c := (Try.f32.body).getD .skip) rfl (fun q hq => by
    rw [(by kernel_rfl : obl (J32_4be fuel) ((Try.f32.body).getD .skip) = [(.block 0 (.loop (bodyOf 0 Try.f32)), B32_4be_0 fuel)])] at hq
    simp only [List.mem_cons, List.not_mem_nil, or_false] at hq
    subst hq
    · exact B32_4be_0_blk fuel)
noncomputable def mt32_4be : List Ev.SV → List Ev.Ob → Bool := fun args objs => match args, objs with
  | [.c (.nilptr), .c (.int .i64 _), .agg [.int .i64 _, .int .i64 _, .int .i64 _, .bool _, .int .i64 _], .c (.int .i64 _), .c (.int .i64 _), .agg [.int .i64 _, .int .i64 _, .sl (.int .u8) _]], [] => true
  | _, _ => false
noncomputable def spg32_4be (F : YF32_4be) : Ev.Spec := fun args objs k => match args, objs with
  | [.c (.nilptr), .c (.int .i64 x0), .agg [.int .i64 x1, .int .i64 x2, .int .i64 x3, .bool x4, .int .i64 x5], .c (.int .i64 x6), .c (.int .i64 x7), .agg [.int .i64 x8, .int .i64 x9, .sl (.int .u8) x10]], [] => bif true then F x0 x1 x2 x3 x4 x5 x6 x7 x8 x9 x10 (fun r => match r with | (r0, r1, r2, r3) => k (.tup [(true, [.int .i64 r0, .int .i64 r1, .own 0]), (false, [.int .i64 r2])], [.vec 5 (.int .u8) r3 true])) else none
  | _, _ => none
noncomputable def spec32_4be (fuel : Nat) : Ev.Spec := spg32_4be (F_generic_Get_4be fuel)
theorem ok32_4be (fuel : Nat) : FnOK Try.prog 32 (spec32_4be fuel) := by
  intro args objs kk r h
  unfold spec32_4be spg32_4be at h
  split at h
  · skip
    obtain ⟨hb, h⟩ := cond_some' h
    simp only [Bool.and_eq_true, Nat.beq_eq, decide_eq_true_eq] at hb
    clear hb
    exact fok32_4be fuel _ _ kk r ((F32_4be_eq fuel _ _ _ _ _ _ _ _ _ _ _ kk).trans h)
  · cases h
end Go.Proofs.Ytihfgpfofmjbaaa

set_option linter.unusedVariables false
set_option linter.unusedSimpArgs false
set_option maxRecDepth 100000
set_option maxHeartbeats 2000000
namespace Go.Proofs.Ytihfgpfofmjbaaa
open Go Ev
def kp164_975 (i : Nat) : Option (List Nat) := Ev.look i []
noncomputable def Gg164_975 (f : Nat) : Option Ev.Spec := Ev.look f []
noncomputable def G164_975 (fuel : Nat) : Nat → Option Ev.Spec := Gg164_975
noncomputable def J164_975 (fuel : Nat) (i : Nat) : Option Ev.Blk := Ev.look i []
noncomputable def F_coder_Encoder_none_975 (fuel : Nat)  (k0 : (Bool) → Option Ans) : Option Ans :=
  k0 Bool.true
abbrev YF164_975 : Type := ((Bool) → Option Ans) → Option Ans
theorem F164_975_eq (fuel : Nat)  (k : Ev.Cont) : evalFn tab (G164_975 fuel) (J164_975 fuel) kp164_975 fuel Try.f164 [.c (.nilptr)] [] k = F_coder_Encoder_none_975 fuel  (fun r => match r with | r0 => k (.c (.bool r0), [])) := by
  kernel_rfl
theorem hG164_975 (fuel : Nat) : GOK Try.prog (G164_975 fuel) :=
  gok_nil
theorem fok164_975 (fuel : Nat) : FnOK Try.prog 164 (evalFn tab (G164_975 fuel) (J164_975 fuel) kp164_975 fuel Try.f164) :=
  fn_ok tab_ok (hG164_975 fuel) mixed Try.func164 (c := (Try.f164.body).getD .skip) rfl (fun q hq => by
    rw [(by kernel_rfl : obl (J164_975 fuel) ((Try.f164.body).getD .skip) = [])] at hq
    cases hq)
noncomputable def mt164_975 : List Ev.SV → List Ev.Ob → Bool := fun args objs => match args, objs with
  | [.c (.nilptr)], [] => true
  | _, _ => false
noncomputable def spg164_975 (F : YF164_975) : Ev.Spec := fun args objs k => match args, objs with
  | [.c (.nilptr)], [] => bif true then F  (fun r => match r with | r0 => k (.c (.bool r0), [])) else none
  | _, _ => none
noncomputable def spec164_975 (fuel : Nat) : Ev.Spec := spg164_975 (F_coder_Encoder_none_975 fuel)
theorem ok164_975 (fuel : Nat) : FnOK Try.prog 164 (spec164_975 fuel) := by
  intro args objs kk r h
  unfold spec164_975 spg164_975 at h
  split at h
  · skip
    obtain ⟨hb, h⟩ := cond_some' h
    simp only [Bool.and_eq_true, Nat.beq_eq, decide_eq_true_eq] at hb
    clear hb
    exact fok164_975 fuel _ _ kk r ((F164_975_eq fuel kk).trans h)
  · cases h
end Go.Proofs.Ytihfgpfofmjbaaa

set_option linter.unusedVariables false
set_option linter.unusedSimpArgs false
set_option maxRecDepth 100000
set_option maxHeartbeats 2000000
namespace Go.Proofs.Ytihfgpfofmjbaaa
open Go Ev
def kp101_975 (i : Nat) : Option (List Nat) := Ev.look i []
noncomputable def Gg101_975 (f164_975 : YF164_975) (f : Nat) : Option Ev.Spec := Ev.look f [(164, spg164_975 f164_975)]
noncomputable def G101_975 (fuel : Nat) : Nat → Option Ev.Spec := Gg101_975 (F_coder_Encoder_none_975 fuel)
noncomputable def J101_975 (fuel : Nat) (i : Nat) : Option Ev.Blk := Ev.look i []
noncomputable def F_coder_Encoder_Model_975 (fuel : Nat)  (k0 : (Int × (List Int)) → Option Ans) : Option Ans :=
  (F_coder_Encoder_none_975 fuel
    (fun y2 =>
      bif y2 then
      k0 ((0 : Int), [])
      else none))
abbrev YF101_975 : Type := ((Int × (List Int)) → Option Ans) → Option Ans
theorem F101_975_eqg (fuel : Nat) (f164_975 : YF164_975)  (k : Ev.Cont) : evalFn tab (Gg101_975 f164_975) (J101_975 fuel) kp101_975 fuel Try.f101 [.c (.nilptr)] [] k = (fun  (k0 : (Int × (List Int)) → Option Ans) =>
  (f164_975
    (fun y2 =>
      bif y2 then
      k0 ((0 : Int), [])
      else none))) (fun r => match r with | (r0, r1) => k (.agg [.int .i64 r0, .own 0], [.vec 3 (.int .i64) r1 true])) := by
  kernel_rfl
theorem F101_975_eq (fuel : Nat)  (k : Ev.Cont) : evalFn tab (G101_975 fuel) (J101_975 fuel) kp101_975 fuel Try.f101 [.c (.nilptr)] [] k = F_coder_Encoder_Model_975 fuel  (fun r => match r with | (r0, r1) => k (.agg [.int .i64 r0, .own 0], [.vec 3 (.int .i64) r1 true])) :=
  F101_975_eqg fuel (F_coder_Encoder_none_975 fuel)  k
theorem hG101_975 (fuel : Nat) : GOK Try.prog (G101_975 fuel) :=
  gok_cons ⟨ok164_975 fuel, enters_of Try.func164 (by kernel_rfl) rfl⟩ <|
  gok_nil
theorem fok101_975 (fuel : Nat) : FnOK Try.prog 101 (evalFn tab (G101_975 fuel) (J101_975 fuel) kp101_975 fuel Try.f101) :=
  fn_ok tab_ok (hG101_975 fuel) mixed Try.func101 (c := (Try.f101.body).getD .skip) rfl (fun q hq => by
    rw [(by kernel_rfl : obl (J101_975 fuel) ((Try.f101.body).getD .skip) = [])] at hq
    cases hq)
noncomputable def mt101_975 : List Ev.SV → List Ev.Ob → Bool := fun args objs => match args, objs with
  | [.c (.nilptr)], [] => true
  | _, _ => false
noncomputable def spg101_975 (F : YF101_975) : Ev.Spec := fun args objs k => match args, objs with
  | [.c (.nilptr)], [] => bif true then F  (fun r => match r with | (r0, r1) => k (.agg [.int .i64 r0, .own 0], [.vec 3 (.int .i64) r1 true])) else none
  | _, _ => none
noncomputable def spec101_975 (fuel : Nat) : Ev.Spec := spg101_975 (F_coder_Encoder_Model_975 fuel)
theorem ok101_975 (fuel : Nat) : FnOK Try.prog 101 (spec101_975 fuel) := by
  intro args objs kk r h
  unfold spec101_975 spg101_975 at h
  split at h
  · skip
    obtain ⟨hb, h⟩ := cond_some' h
    simp only [Bool.and_eq_true, Nat.beq_eq, decide_eq_true_eq] at hb
    clear hb
    exact fok101_975 fuel _ _ kk r ((F101_975_eq fuel kk).trans h)
  · cases h
end Go.Proofs.Ytihfgpfofmjbaaa

set_option linter.unusedVariables false
set_option linter.unusedSimpArgs false
set_option maxRecDepth 100000
set_option maxHeartbeats 2000000
namespace Go.Proofs.Ytihfgpfofmjbaaa
open Go Ev
def kp99_9ef (i : Nat) : Option (List Nat) := Ev.look i [(6, [0]), (100001, []), (400001, [6])]
noncomputable def Gg99_9ef (f164_975 : YF164_975) (f : Nat) : Option Ev.Spec := Ev.look f [(164, spg164_975 f164_975)]
noncomputable def G99_9ef (fuel : Nat) : Nat → Option Ev.Spec := Gg99_9ef (F_coder_Encoder_none_975 fuel)
noncomputable def J99_9ef (fuel : Nat) (i : Nat) : Option Ev.Blk := Ev.look i []
noncomputable def F_coder_Encoder_Put_9ef (fuel : Nat) (x0 : Int) (x1 : Int) (k0 : (Int) → Option Ans) : Option Ans :=
  (F_coder_Encoder_none_975 fuel
    (fun y2 =>
      bif y2 then
       k0 ((7 : Int))
      else
       bif Decidable.decide (x0 < (0 : Int)) then
       k0 ((2 : Int))
       else none))
abbrev YF99_9ef : Type := (Int) → (Int) → ((Int) → Option Ans) → Option Ans
theorem F99_9ef_eqg (fuel : Nat) (f164_975 : YF164_975) (x0 : Int) (x1 : Int) (k : Ev.Cont) : evalFn tab (Gg99_9ef f164_975) (J99_9ef fuel) kp99_9ef fuel Try.f99 [.c (.nilptr), .c (.int .i64 x0), .c (.int .i64 x1)] [] k = (fun  (k0 : (Int) → Option Ans) =>
  (f164_975
    (fun y2 =>
      bif y2 then
       k0 ((7 : Int))
      else
       bif Decidable.decide (x0 < (0 : Int)) then
       k0 ((2 : Int))
       else none))) (fun r => match r with | r0 => k (.c (.int .i64 r0), [])) := by
  kernel_rfl
theorem F99_9ef_eq (fuel : Nat) (x0 : Int) (x1 : Int) (k : Ev.Cont) : evalFn tab (G99_9ef fuel) (J99_9ef fuel) kp99_9ef fuel Try.f99 [.c (.nilptr), .c (.int .i64 x0), .c (.int .i64 x1)] [] k = F_coder_Encoder_Put_9ef fuel x0 x1 (fun r => match r with | r0 => k (.c (.int .i64 r0), [])) :=
  F99_9ef_eqg fuel (F_coder_Encoder_none_975 fuel) x0 x1 k
theorem hG99_9ef (fuel : Nat) : GOK Try.prog (G99_9ef fuel) :=
  gok_cons ⟨ok164_975 fuel, enters_of Try.func164 (by kernel_rfl) rfl⟩ <|
  gok_nil
theorem fok99_9ef (fuel : Nat) : FnOK Try.prog 99 (evalFn tab (G99_9ef fuel) (J99_9ef fuel) kp99_9ef fuel Try.f99) :=
  fn_ok tab_ok (hG99_9ef fuel) mixed Try.func99 (c := (Try.f99.body).getD .skip) rfl (fun q hq => by
    rw [(by kernel_rfl : obl (J99_9ef fuel) ((Try.f99.body).getD .skip) = [])] at hq
    cases hq)
noncomputable def mt99_9ef : List Ev.SV → List Ev.Ob → Bool := fun args objs => match args, objs with
  | [.c (.nilptr), .c (.int .i64 _), .c (.int .i64 _)], [] => true
  | _, _ => false
noncomputable def spg99_9ef (F : YF99_9ef) : Ev.Spec := fun args objs k => match args, objs with
  | [.c (.nilptr), .c (.int .i64 x0), .c (.int .i64 x1)], [] => bif true then F x0 x1 (fun r => match r with | r0 => k (.c (.int .i64 r0), [])) else none
  | _, _ => none
noncomputable def spec99_9ef (fuel : Nat) : Ev.Spec := spg99_9ef (F_coder_Encoder_Put_9ef fuel)
theorem ok99_9ef (fuel : Nat) : FnOK Try.prog 99 (spec99_9ef fuel) := by
  intro args objs kk r h
  unfold spec99_9ef spg99_9ef at h
  split at h
  · skip
    obtain ⟨hb, h⟩ := cond_some' h
    simp only [Bool.and_eq_true, Nat.beq_eq, decide_eq_true_eq] at hb
    clear hb
    exact fok99_9ef fuel _ _ kk r ((F99_9ef_eq fuel _ _ kk).trans h)
  · cases h
end Go.Proofs.Ytihfgpfofmjbaaa

set_option linter.unusedVariables false
set_option linter.unusedSimpArgs false
set_option maxRecDepth 100000
set_option maxHeartbeats 2000000
namespace Go.Proofs.Ytihfgpfofmjbaaa
open Go Ev
def kp100 (i : Nat) : Option (List Nat) := Ev.look i [(2, [2, 3, 8, 9, 10]), (100000, []), (400000, [4])]
noncomputable def Gg100 (f94 : YF94) (f163 : YF163) (f : Nat) : Option Ev.Spec := Ev.look f [(94, spg94 f94), (163, spg163 f163)]
noncomputable def G100 (fuel : Nat) : Nat → Option Ev.Spec := Gg100 (F_generic_sides fuel) (F_generic_skips fuel)
noncomputable def S_generic_clash_0 (fuel : Nat) (v : (List Int) × Int × Int × Int × Int × (List Int) × Int × Int × (List Int)) (c : ((List Int) × Int × Int × Int × Int × (List Int) × Int × Int × (List Int)) → Option Ans) (B : (Bool → Option Ans) × (Unit → Option Ans)) : Option Ans := match v, B with
  | (x0, x1, x2, x3, x4, x5, x6, x7, x8), (ret, b) =>
   bif Decidable.decide (x2 < x1) then
      bif Decidable.decide ((0 : Int) ≤ x2 ∧ x2 < (↑x0.length : Int)) then
      bif x0.getD x2.toNat (0 : Int) == (1 : Int) then
        (F_generic_sides fuel (x6) (x7) (x8) (x3) (x4)
          (fun y5 =>
            bif y5 then
             (F_generic_skips fuel (x6) (x7) (x8) (x2)
               (fun y10 =>
                 bif y10 then
                  ret Bool.true
                 else
                  c (x0, x1, Go.IntKind.i64.wrap (x2 + (1 : Int)), x3, x4, x5, x6, x7, x8)))
            else
             c (x0, x1, Go.IntKind.i64.wrap (x2 + (1 : Int)), x3, x4, x5, x6, x7, x8)))
       else
        c (x0, x1, Go.IntKind.i64.wrap (x2 + (1 : Int)), x3, x4, x5, x6, x7, x8)
      else none
     else
      b ()
noncomputable def L_generic_clash_0 (fuel : Nat) (v : (List Int) × Int × Int × Int × Int × (List Int) × Int × Int × (List Int)) (ret : (Bool → Option Ans)) (b : (Unit → Option Ans)) : Option Ans := iter (S_generic_clash_0 fuel) fuel v (ret, b)
noncomputable def J100_0 (fuel : Nat) (i : Nat) : Option Ev.Blk := Ev.look i []
noncomputable def T100_0 (v : (List Int) × Int × Int × Int × Int × (List Int) × Int × Int × (List Int)) : Ev.St := match v with | (x0, x1, x2, x3, x4, x5, x6, x7, x8) => ⟨[(2, .c (.ptr 0 0)), (3, .c (.ptr 1 0)), (8, .c (.sl (.int .u8) x0)), (9, .c (.int .i64 x1)), (10, .c (.int .i64 x2))], [(0, .cells 39 [.int .i64 x3, .int .i64 x4, .sl (.int .u8) x5]), (1, .cells 39 [.int .i64 x6, .int .i64 x7, .sl (.int .u8) x8])], 2, 0⟩
noncomputable def E100_0 (K : Ev.Ex → Ev.St → Option Ans) : (Bool → Option Ans) × (Unit → Option Ans) := ((fun v => match v with | x0 => K .ret ⟨[(4, .c (.bool x0))], [], 0, 0⟩), (fun v => match v with | () => K .normal ⟨[], [], 0, 0⟩))
theorem S100_0_okg (fuel : Nat) (f94 : YF94) (f163 : YF163) (R : Ev.St → Option Ans) (K : Ev.Ex → Ev.St → Option Ans) (x0 : (List Int)) (x1 : Int) (x2 : Int) (x3 : Int) (x4 : Int) (x5 : (List Int)) (x6 : Int) (x7 : Int) (x8 : (List Int)) : evalCode tab (Gg100 f94 f163) (J100_0 fuel) kp100 fuel (bodyOf 0 Try.f100) (T100_0 (x0, x1, x2, x3, x4, x5, x6, x7, x8)) (lc kp100 2 0 R K) = (fun (c : ((List Int) × Int × Int × Int × Int × (List Int) × Int × Int × (List Int)) → Option Ans) (B : (Bool → Option Ans) × (Unit → Option Ans)) => match B with
  | (ret, b) =>
   bif Decidable.decide (x2 < x1) then
      bif Decidable.decide ((0 : Int) ≤ x2 ∧ x2 < (↑x0.length : Int)) then
      bif x0.getD x2.toNat (0 : Int) == (1 : Int) then
        (f94 (x6) (x7) (x8) (x3) (x4)
          (fun y5 =>
            bif y5 then
             (f163 (x6) (x7) (x8) (x2)
               (fun y10 =>
                 bif y10 then
                  ret Bool.true
                 else
                  c (x0, x1, Go.IntKind.i64.wrap (x2 + (1 : Int)), x3, x4, x5, x6, x7, x8)))
            else
             c (x0, x1, Go.IntKind.i64.wrap (x2 + (1 : Int)), x3, x4, x5, x6, x7, x8)))
       else
        c (x0, x1, Go.IntKind.i64.wrap (x2 + (1 : Int)), x3, x4, x5, x6, x7, x8)
      else none
     else
      b ()) (fun v => R (T100_0 v)) (E100_0 K) := by
  kernel_rfl
theorem S100_0_ok (fuel : Nat) (R : Ev.St → Option Ans) (K : Ev.Ex → Ev.St → Option Ans) (x0 : (List Int)) (x1 : Int) (x2 : Int) (x3 : Int) (x4 : Int) (x5 : (List Int)) (x6 : Int) (x7 : Int) (x8 : (List Int)) : evalCode tab (G100 fuel) (J100_0 fuel) kp100 fuel (bodyOf 0 Try.f100) (T100_0 (x0, x1, x2, x3, x4, x5, x6, x7, x8)) (lc kp100 2 0 R K) = S_generic_clash_0 fuel (x0, x1, x2, x3, x4, x5, x6, x7, x8) (fun v => R (T100_0 v)) (E100_0 K) :=
  S100_0_okg fuel (F_generic_sides fuel) (F_generic_skips fuel) R K x0 x1 x2 x3 x4 x5 x6 x7 x8
noncomputable def B100_0 (fuel : Nat) : Ev.Blk := fun st K => match canonO (kp100 2) st with
  | some s => (match s with
    | ⟨[(q0, .c (.ptr q1 q2)), (q3, .c (.ptr q4 q5)), (q6, .c (.sl (.int .u8) x0)), (q7, .c (.int .i64 x1)), (q8, .c (.int .i64 x2))], [(q9, .cells q10 [.int .i64 x3, .int .i64 x4, .sl (.int .u8) x5]), (q11, .cells q12 [.int .i64 x6, .int .i64 x7, .sl (.int .u8) x8])], q13, q14⟩ => bif Nat.beq q0 2 && Nat.beq q1 0 && Nat.beq q2 0 && Nat.beq q3 3 && Nat.beq q4 1 && Nat.beq q5 0 && Nat.beq q6 8 && Nat.beq q7 9 && Nat.beq q8 10 && Nat.beq q9 0 && Nat.beq q10 39 && Nat.beq q11 1 && Nat.beq q12 39 && Nat.beq q13 2 && Nat.beq q14 0 then iter (S_generic_clash_0 fuel) fuel (x0, x1, x2, x3, x4, x5, x6, x7, x8) (E100_0 K) else none
    | _ => none)
  | none => none
theorem B100_0_ok (fuel : Nat) (st : Ev.St) (K : Ev.Ex → Ev.St → Option Ans) (r : Ans) (h : B100_0 fuel st K = some r) : evalCode tab (G100 fuel) (J100_0 fuel) kp100 fuel (.block 0 (.loop (bodyOf 0 Try.f100))) st K = some r := by
  unfold B100_0 at h
  split at h
  · rename_i s hs
    split at h
    · skip
      obtain ⟨hb, h⟩ := cond_some' h
      simp only [Bool.and_eq_true, Nat.beq_eq, decide_eq_true_eq] at hb
      obtain ⟨⟨⟨⟨⟨⟨⟨⟨⟨⟨⟨⟨⟨⟨rfl, rfl⟩, rfl⟩, rfl⟩, rfl⟩, rfl⟩, rfl⟩, rfl⟩, rfl⟩, rfl⟩, rfl⟩, rfl⟩, rfl⟩, rfl⟩, rfl⟩ := hb
      exact blk_loop (S := T100_0) (ks := E100_0) (step := S_generic_clash_0 fuel) (v := (_, _, _, _, _, _, _, _, _)) (by kernel_rfl) (by kernel_rfl) (fun R K v => by obtain ⟨x0, x1, x2, x3, x4, x5, x6, x7, x8⟩ := v; exact S100_0_ok fuel R K x0 x1 x2 x3 x4 x5 x6 x7 x8) hs h
    · cases h
  · cases h
noncomputable def J100 (fuel : Nat) (i : Nat) : Option Ev.Blk := Ev.look i [(100000, B100_0 fuel)]
noncomputable def F_generic_clash (fuel : Nat) (x0 : Int) (x1 : Int) (x2 : (List Int)) (x3 : Int) (x4 : Int) (x5 : (List Int)) (k0 : (Bool) → Option Ans) : Option Ans :=
  (L_generic_clash_0 fuel (x2, (↑x2.length : Int), (0 : Int), x0, x1, x2, x3, x4, x5)
    (fun ret0_0 =>
      k0 ret0_0)
    (fun () =>
      k0 Bool.false))
abbrev YF100 : Type := (Int) → (Int) → ((List Int)) → (Int) → (Int) → ((List Int)) → ((Bool) → Option Ans) → Option Ans
theorem F100_eqg (fuel : Nat) (f94 : YF94) (f163 : YF163) (x0 : Int) (x1 : Int) (x2 : (List Int)) (x3 : Int) (x4 : Int) (x5 : (List Int)) (k : Ev.Cont) : evalFn tab (Gg100 f94 f163) (J100 fuel) kp100 fuel Try.f100 [.agg [.int .i64 x0, .int .i64 x1, .sl (.int .u8) x2], .agg [.int .i64 x3, .int .i64 x4, .sl (.int .u8) x5]] [] k = (fun  (k0 : (Bool) → Option Ans) =>
  (L_generic_clash_0 fuel (x2, (↑x2.length : Int), (0 : Int), x0, x1, x2, x3, x4, x5)
    (fun ret0_0 =>
      k0 ret0_0)
    (fun () =>
      k0 Bool.false))) (fun r => match r with | r0 => k (.c (.bool r0), [])) := by
  kernel_rfl
theorem F100_eq (fuel : Nat) (x0 : Int) (x1 : Int) (x2 : (List Int)) (x3 : Int) (x4 : Int) (x5 : (List Int)) (k : Ev.Cont) : evalFn tab (G100 fuel) (J100 fuel) kp100 fuel Try.f100 [.agg [.int .i64 x0, .int .i64 x1, .sl (.int .u8) x2], .agg [.int .i64 x3, .int .i64 x4, .sl (.int .u8) x5]] [] k = F_generic_clash fuel x0 x1 x2 x3 x4 x5 (fun r => match r with | r0 => k (.c (.bool r0), [])) :=
  F100_eqg fuel (F_generic_sides fuel) (F_generic_skips fuel) x0 x1 x2 x3 x4 x5 k
theorem hG100 (fuel : Nat) : GOK Try.prog (G100 fuel) :=
  gok_cons ⟨ok94 fuel, enters_of Try.func94 (by kernel_rfl) rfl⟩ <|
  gok_cons ⟨ok163 fuel, enters_of Try.func163 (by kernel_rfl) rfl⟩ <|
  gok_nil
theorem B100_0_blk (fuel : Nat) : BlkOK Try.prog Try.f100.ntmps (.block 0 (.loop (bodyOf 0 Try.f100))) (B100_0 fuel) :=
  blk_of (blk_of_code tab_ok (hG100 fuel) mixed (J := J100_0 fuel) (kp := kp100) (fuel := fuel) (by kernel_rfl) (fun q hq => by
    rw [(by kernel_rfl : obl (J100_0 fuel) (.block 0 (.loop (bodyOf 0 Try.f100))) = [])] at hq
    cases hq)) (B100_0_ok fuel)
theorem fok100 (fuel : Nat) : FnOK Try.prog 100 (evalFn tab (G100 fuel) (J100 fuel) kp100 fuel Try.f100) :=
  fn_ok tab_ok (hG100 fuel) mixed Try.func100 (c := (Try.f100.body).getD .skip) rfl (fun q hq => by
    rw [(by kernel_rfl : obl (J100 fuel) ((Try.f100.body).getD .skip) = [(.block 0 (.loop (bodyOf 0 Try.f100)), B100_0 fuel)])] at hq
    simp only [List.mem_cons, List.not_mem_nil, or_false] at hq
    subst hq
    · exact B100_0_blk fuel)
noncomputable def mt100 : List Ev.SV → List Ev.Ob → Bool := fun args objs => match args, objs with
  | [.agg [.int .i64 _, .int .i64 _, .sl (.int .u8) _], .agg [.int .i64 _, .int .i64 _, .sl (.int .u8) _]], [] => true
  | _, _ => false
noncomputable def spg100 (F : YF100) : Ev.Spec := fun args objs k => match args, objs with
  | [.agg [.int .i64 x0, .int .i64 x1, .sl (.int .u8) x2], .agg [.int .i64 x3, .int .i64 x4, .sl (.int .u8) x5]], [] => bif true then F x0 x1 x2 x3 x4 x5 (fun r => match r with | r0 => k (.c (.bool r0), [])) else none
  | _, _ => none
noncomputable def spec100 (fuel : Nat) : Ev.Spec := spg100 (F_generic_clash fuel)
theorem ok100 (fuel : Nat) : FnOK Try.prog 100 (spec100 fuel) := by
  intro args objs kk r h
  unfold spec100 spg100 at h
  split at h
  · skip
    obtain ⟨hb, h⟩ := cond_some' h
    simp only [Bool.and_eq_true, Nat.beq_eq, decide_eq_true_eq] at hb
    clear hb
    exact fok100 fuel _ _ kk r ((F100_eq fuel _ _ _ _ _ _ kk).trans h)
  · cases h
end Go.Proofs.Ytihfgpfofmjbaaa

set_option linter.unusedVariables false
set_option linter.unusedSimpArgs false
set_option maxRecDepth 100000
set_option maxHeartbeats 2000000
namespace Go.Proofs.Ytihfgpfofmjbaaa
open Go Ev
def kp161 (i : Nat) : Option (List Nat) := Ev.look i []
noncomputable def Gg161 (f : Nat) : Option Ev.Spec := Ev.look f []
noncomputable def G161 (fuel : Nat) : Nat → Option Ev.Spec := Gg161
noncomputable def J161 (fuel : Nat) (i : Nat) : Option Ev.Blk := Ev.look i []
noncomputable def F_bytes_Equal (fuel : Nat) (x0 : (List Int)) (x1 : (List Int)) (k0 : (Bool) → Option Ans) : Option Ans :=
  k0 ((Go.strOfNums x0).toList == (Go.strOfNums x1).toList)
abbrev YF161 : Type := ((List Int)) → ((List Int)) → ((Bool) → Option Ans) → Option Ans
theorem F161_eq (fuel : Nat) (x0 : (List Int)) (x1 : (List Int)) (k : Ev.Cont) : evalFn tab (G161 fuel) (J161 fuel) kp161 fuel Try.f161 [.c (.sl (.int .u8) x0), .c (.sl (.int .u8) x1)] [] k = F_bytes_Equal fuel x0 x1 (fun r => match r with | r0 => k (.c (.bool r0), [])) := by
  kernel_rfl
theorem hG161 (fuel : Nat) : GOK Try.prog (G161 fuel) :=
  gok_nil
theorem fok161 (fuel : Nat) : FnOK Try.prog 161 (evalFn tab (G161 fuel) (J161 fuel) kp161 fuel Try.f161) :=
  fn_ok tab_ok (hG161 fuel) mixed Try.func161 (c := (Try.f161.body).getD .skip) rfl (fun q hq => by
    rw [(by kernel_rfl : obl (J161 fuel) ((Try.f161.body).getD .skip) = [])] at hq
    cases hq)
noncomputable def mt161 : List Ev.SV → List Ev.Ob → Bool := fun args objs => match args, objs with
  | [.c (.sl (.int .u8) _), .c (.sl (.int .u8) _)], [] => true
  | _, _ => false
noncomputable def spg161 (F : YF161) : Ev.Spec := fun args objs k => match args, objs with
  | [.c (.sl (.int .u8) x0), .c (.sl (.int .u8) x1)], [] => bif true then F x0 x1 (fun r => match r with | r0 => k (.c (.bool r0), [])) else none
  | _, _ => none
noncomputable def spec161 (fuel : Nat) : Ev.Spec := spg161 (F_bytes_Equal fuel)
theorem ok161 (fuel : Nat) : FnOK Try.prog 161 (spec161 fuel) := by
  intro args objs kk r h
  unfold spec161 spg161 at h
  split at h
  · skip
    obtain ⟨hb, h⟩ := cond_some' h
    simp only [Bool.and_eq_true, Nat.beq_eq, decide_eq_true_eq] at hb
    clear hb
    exact fok161 fuel _ _ kk r ((F161_eq fuel _ _ kk).trans h)
  · cases h
end Go.Proofs.Ytihfgpfofmjbaaa

set_option linter.unusedVariables false
set_option linter.unusedSimpArgs false
set_option maxRecDepth 100000
set_option maxHeartbeats 2000000
namespace Go.Proofs.Ytihfgpfofmjbaaa
open Go Ev
def kp199_a34 (i : Nat) : Option (List Nat) := Ev.look i [(200003, [0])]
noncomputable def Gg199_a34 (f : Nat) : Option Ev.Spec := Ev.look f []
noncomputable def G199_a34 (fuel : Nat) : Nat → Option Ev.Spec := Gg199_a34
noncomputable def J199_a34 (fuel : Nat) (i : Nat) : Option Ev.Blk := Ev.look i []
noncomputable def F_generic_plane_at_a34 (fuel : Nat) (x0 : Int) (x1 : Int) (x2 : Int) (x3 : Int) (x4 : (List Int)) (x5 : (List (Int × Int))) (k0 : (Int × Int × Int × (List Int) × (List (Int × Int))) → Option Ans) : Option Ans :=
  bif Decidable.decide (x0 < (0 : Int)) then
   k0 ((0 : Int), x2, x3, x4, x5)
  else
   bif Decidable.decide (x1 < (0 : Int)) then
    k0 ((0 : Int), x2, x3, x4, x5)
   else
    bif Decidable.decide (x0 ≥ x2) then
     k0 ((0 : Int), x2, x3, x4, x5)
    else
     bif Decidable.decide (x1 ≥ x3) then
      k0 ((0 : Int), x2, x3, x4, x5)
     else
      bif Decidable.decide ((0 : Int) ≤ Go.IntKind.i64.wrap (Go.IntKind.i64.wrap (x1 * x2) + x0) ∧ Go.IntKind.i64.wrap (Go.IntKind.i64.wrap (x1 * x2) + x0) < (↑x4.length : Int)) then
      k0 (x4.getD (Go.IntKind.i64.wrap (Go.IntKind.i64.wrap (x1 * x2) + x0)).toNat (0 : Int), x2, x3, x4, x5)
      else none
abbrev YF199_a34 : Type := (Int) → (Int) → (Int) → (Int) → ((List Int)) → ((List (Int × Int))) → ((Int × Int × Int × (List Int) × (List (Int × Int))) → Option Ans) → Option Ans
theorem F199_a34_eq (fuel : Nat) (x0 : Int) (x1 : Int) (x2 : Int) (x3 : Int) (x4 : (List Int)) (x5 : (List (Int × Int))) (k : Ev.Cont) : evalFn tab (G199_a34 fuel) (J199_a34 fuel) kp199_a34 fuel Try.f199 [.c (.ptr 0 0), .c (.int .i64 x0), .c (.int .i64 x1)] [.cells 137 [.int .i64 x2, .int .i64 x3, .sl (.int .u8) x4, .own 1], .vec 44 (.pair (.int .i64) (.int .i64)) x5 false] k = F_generic_plane_at_a34 fuel x0 x1 x2 x3 x4 x5 (fun r => match r with | (r0, r1, r2, r3, r4) => k (.c (.int .u8 r0), [.cells 137 [.int .i64 r1, .int .i64 r2, .sl (.int .u8) r3, .own 1], .vec 44 (.pair (.int .i64) (.int .i64)) r4 false])) := by
  kernel_rfl
theorem hG199_a34 (fuel : Nat) : GOK Try.prog (G199_a34 fuel) :=
  gok_nil
theorem fok199_a34 (fuel : Nat) : FnOK Try.prog 199 (evalFn tab (G199_a34 fuel) (J199_a34 fuel) kp199_a34 fuel Try.f199) :=
  fn_ok tab_ok (hG199_a34 fuel) mixed Try.func199 (c := (Try.f199.body).getD .skip) rfl (fun q hq => by
    rw [(by kernel_rfl : obl (J199_a34 fuel) ((Try.f199.body).getD .skip) = [])] at hq
    cases hq)
noncomputable def mt199_a34 : List Ev.SV → List Ev.Ob → Bool := fun args objs => match args, objs with
  | [.c (.ptr q0 q1), .c (.int .i64 _), .c (.int .i64 _)], [.cells q2 [.int .i64 _, .int .i64 _, .sl (.int .u8) _, .own q3], .vec q4 (.pair (.int .i64) (.int .i64)) _ false] => Nat.beq q0 0 && Nat.beq q1 0 && Nat.beq q2 137 && Nat.beq q3 1 && Nat.beq q4 44
  | _, _ => false
noncomputable def spg199_a34 (F : YF199_a34) : Ev.Spec := fun args objs k => match args, objs with
  | [.c (.ptr q0 q1), .c (.int .i64 x0), .c (.int .i64 x1)], [.cells q2 [.int .i64 x2, .int .i64 x3, .sl (.int .u8) x4, .own q3], .vec q4 (.pair (.int .i64) (.int .i64)) x5 false] => bif Nat.beq q0 0 && Nat.beq q1 0 && Nat.beq q2 137 && Nat.beq q3 1 && Nat.beq q4 44 then F x0 x1 x2 x3 x4 x5 (fun r => match r with | (r0, r1, r2, r3, r4) => k (.c (.int .u8 r0), [.cells 137 [.int .i64 r1, .int .i64 r2, .sl (.int .u8) r3, .own 1], .vec 44 (.pair (.int .i64) (.int .i64)) r4 false])) else none
  | _, _ => none
noncomputable def spec199_a34 (fuel : Nat) : Ev.Spec := spg199_a34 (F_generic_plane_at_a34 fuel)
theorem ok199_a34 (fuel : Nat) : FnOK Try.prog 199 (spec199_a34 fuel) := by
  intro args objs kk r h
  unfold spec199_a34 spg199_a34 at h
  split at h
  · skip
    obtain ⟨hb, h⟩ := cond_some' h
    simp only [Bool.and_eq_true, Nat.beq_eq, decide_eq_true_eq] at hb
    obtain ⟨⟨⟨⟨rfl, rfl⟩, rfl⟩, rfl⟩, rfl⟩ := hb
    exact fok199_a34 fuel _ _ kk r ((F199_a34_eq fuel _ _ _ _ _ _ kk).trans h)
  · cases h
end Go.Proofs.Ytihfgpfofmjbaaa

set_option linter.unusedVariables false
set_option linter.unusedSimpArgs false
set_option maxRecDepth 100000
set_option maxHeartbeats 2000000
namespace Go.Proofs.Ytihfgpfofmjbaaa
open Go Ev
def kp162_b9e (i : Nat) : Option (List Nat) := Ev.look i [(3, [0, 1, 5, 7, 15, 16]), (100000, [7]), (200005, [0, 5]), (400000, [6])]
noncomputable def Gg162_b9e (f163 : YF163) (f199_a34 : YF199_a34) (f : Nat) : Option Ev.Spec := Ev.look f [(163, spg163 f163), (199, spg199_a34 f199_a34)]
noncomputable def G162_b9e (fuel : Nat) : Nat → Option Ev.Spec := Gg162_b9e (F_generic_skips fuel) (F_generic_plane_at_a34 fuel)
noncomputable def S_generic_plane_above_b9e_0 (fuel : Nat) (v : Int × Int × Int × Int × Int × (List Int) × (List (Int × Int)) × Int × Int × (List Int) × (List Int)) (c : (Int × Int × Int × Int × Int × (List Int) × (List (Int × Int)) × Int × Int × (List Int) × (List Int)) → Option Ans) (B : (Int × Int × (List Int) × (List (Int × Int)) × (List Int) → Option Ans)) : Option Ans := match v, B with
  | (x0, x1, x2, x3, x4, x5, x6, x7, x8, x9, x10), b =>
   bif Decidable.decide (x2 < x1) then
      (F_generic_skips fuel (x7) (x8) (x9) (Go.IntKind.i64.wrap (Go.IntKind.i64.wrap (x0 * x3) + x2))
        (fun y3 =>
          bif !y3 then
           (F_generic_plane_at_a34 fuel (x2) (Go.IntKind.i64.wrap (x0 - (1 : Int))) (x3) (x4) (x5) (x6)
             (fun (y8_0, y8_1, y8_2, y8_3, y8_4) =>
               bif Decidable.decide ((0 : Int) ≤ x2 ∧ x2 < (↑x10.length : Int)) then
               c (x0, x1, Go.IntKind.i64.wrap (x2 + (1 : Int)), y8_1, y8_2, y8_3, y8_4, x7, x8, x9, x10.set x2.toNat y8_0)
               else none))
          else
           c (x0, x1, Go.IntKind.i64.wrap (x2 + (1 : Int)), x3, x4, x5, x6, x7, x8, x9, x10)))
     else
      b (x3, x4, x5, x6, x10)
noncomputable def L_generic_plane_above_b9e_0 (fuel : Nat) (v : Int × Int × Int × Int × Int × (List Int) × (List (Int × Int)) × Int × Int × (List Int) × (List Int)) (b : (Int × Int × (List Int) × (List (Int × Int)) × (List Int) → Option Ans)) : Option Ans := iter (S_generic_plane_above_b9e_0 fuel) fuel v b
noncomputable def J162_b9e_0 (fuel : Nat) (i : Nat) : Option Ev.Blk := Ev.look i []
noncomputable def T162_b9e_0 (v : Int × Int × Int × Int × Int × (List Int) × (List (Int × Int)) × Int × Int × (List Int) × (List Int)) : Ev.St := match v with | (x0, x1, x2, x3, x4, x5, x6, x7, x8, x9, x10) => ⟨[(0, .c (.ptr 0 0)), (1, .c (.int .i64 x0)), (5, .c (.ptr 2 0)), (7, .c (.own 3)), (15, .c (.int .i64 x1)), (16, .c (.int .i64 x2))], [(0, .cells 137 [.int .i64 x3, .int .i64 x4, .sl (.int .u8) x5, .own 1]), (1, .vec 44 (.pair (.int .i64) (.int .i64)) x6 false), (2, .cells 39 [.int .i64 x7, .int .i64 x8, .sl (.int .u8) x9]), (3, .vec 5 (.int .u8) x10 true)], 4, 2⟩
noncomputable def E162_b9e_0 (K : Ev.Ex → Ev.St → Option Ans) : (Int × Int × (List Int) × (List (Int × Int)) × (List Int) → Option Ans) := (fun v => match v with | (x0, x1, x2, x3, x4) => K .normal ⟨[(7, .c (.own 2))], [(0, .cells 137 [.int .i64 x0, .int .i64 x1, .sl (.int .u8) x2, .own 1]), (1, .vec 44 (.pair (.int .i64) (.int .i64)) x3 false), (2, .vec 5 (.int .u8) x4 true)], 3, 2⟩)
theorem S162_b9e_0_okg (fuel : Nat) (f163 : YF163) (f199_a34 : YF199_a34) (R : Ev.St → Option Ans) (K : Ev.Ex → Ev.St → Option Ans) (x0 : Int) (x1 : Int) (x2 : Int) (x3 : Int) (x4 : Int) (x5 : (List Int)) (x6 : (List (Int × Int))) (x7 : Int) (x8 : Int) (x9 : (List Int)) (x10 : (List Int)) : evalCode tab (Gg162_b9e f163 f199_a34) (J162_b9e_0 fuel) kp162_b9e fuel (bodyOf 0 Try.f162) (T162_b9e_0 (x0, x1, x2, x3, x4, x5, x6, x7, x8, x9, x10)) (lc kp162_b9e 3 0 R K) = (fun (c : (Int × Int × Int × Int × Int × (List Int) × (List (Int × Int)) × Int × Int × (List Int) × (List Int)) → Option Ans) (B : (Int × Int × (List Int) × (List (Int × Int)) × (List Int) → Option Ans)) => match B with
  | b =>
   bif Decidable.decide (x2 < x1) then
      (f163 (x7) (x8) (x9) (Go.IntKind.i64.wrap (Go.IntKind.i64.wrap (x0 * x3) + x2))
        (fun y3 =>
          bif !y3 then
           (f199_a34 (x2) (Go.IntKind.i64.wrap (x0 - (1 : Int))) (x3) (x4) (x5) (x6)
             (fun (y8_0, y8_1, y8_2, y8_3, y8_4) =>
               bif Decidable.decide ((0 : Int) ≤ x2 ∧ x2 < (↑x10.length : Int)) then
               c (x0, x1, Go.IntKind.i64.wrap (x2 + (1 : Int)), y8_1, y8_2, y8_3, y8_4, x7, x8, x9, x10.set x2.toNat y8_0)
               else none))
          else
           c (x0, x1, Go.IntKind.i64.wrap (x2 + (1 : Int)), x3, x4, x5, x6, x7, x8, x9, x10)))
     else
      b (x3, x4, x5, x6, x10)) (fun v => R (T162_b9e_0 v)) (E162_b9e_0 K) := by
  kernel_rfl
theorem S162_b9e_0_ok (fuel : Nat) (R : Ev.St → Option Ans) (K : Ev.Ex → Ev.St → Option Ans) (x0 : Int) (x1 : Int) (x2 : Int) (x3 : Int) (x4 : Int) (x5 : (List Int)) (x6 : (List (Int × Int))) (x7 : Int) (x8 : Int) (x9 : (List Int)) (x10 : (List Int)) : evalCode tab (G162_b9e fuel) (J162_b9e_0 fuel) kp162_b9e fuel (bodyOf 0 Try.f162) (T162_b9e_0 (x0, x1, x2, x3, x4, x5, x6, x7, x8, x9, x10)) (lc kp162_b9e 3 0 R K) = S_generic_plane_above_b9e_0 fuel (x0, x1, x2, x3, x4, x5, x6, x7, x8, x9, x10) (fun v => R (T162_b9e_0 v)) (E162_b9e_0 K) :=
  S162_b9e_0_okg fuel (F_generic_skips fuel) (F_generic_plane_at_a34 fuel) R K x0 x1 x2 x3 x4 x5 x6 x7 x8 x9 x10
noncomputable def B162_b9e_0 (fuel : Nat) : Ev.Blk := fun st K => match canonO (kp162_b9e 3) st with
  | some s => (match s with
    | ⟨[(q0, .c (.ptr q1 q2)), (q3, .c (.int .i64 x0)), (q4, .c (.ptr q5 q6)), (q7, .c (.own q8)), (q9, .c (.int .i64 x1)), (q10, .c (.int .i64 x2))], [(q11, .cells q12 [.int .i64 x3, .int .i64 x4, .sl (.int .u8) x5, .own q13]), (q14, .vec q15 (.pair (.int .i64) (.int .i64)) x6 false), (q16, .cells q17 [.int .i64 x7, .int .i64 x8, .sl (.int .u8) x9]), (q18, .vec q19 (.int .u8) x10 true)], q20, q21⟩ => bif Nat.beq q0 0 && Nat.beq q1 0 && Nat.beq q2 0 && Nat.beq q3 1 && Nat.beq q4 5 && Nat.beq q5 2 && Nat.beq q6 0 && Nat.beq q7 7 && Nat.beq q8 3 && Nat.beq q9 15 && Nat.beq q10 16 && Nat.beq q11 0 && Nat.beq q12 137 && Nat.beq q13 1 && Nat.beq q14 1 && Nat.beq q15 44 && Nat.beq q16 2 && Nat.beq q17 39 && Nat.beq q18 3 && Nat.beq q19 5 && Nat.beq q20 4 && Nat.beq q21 2 then iter (S_generic_plane_above_b9e_0 fuel) fuel (x0, x1, x2, x3, x4, x5, x6, x7, x8, x9, x10) (E162_b9e_0 K) else none
    | _ => none)
  | none => none
theorem B162_b9e_0_ok (fuel : Nat) (st : Ev.St) (K : Ev.Ex → Ev.St → Option Ans) (r : Ans) (h : B162_b9e_0 fuel st K = some r) : evalCode tab (G162_b9e fuel) (J162_b9e_0 fuel) kp162_b9e fuel (.block 0 (.loop (bodyOf 0 Try.f162))) st K = some r := by
  unfold B162_b9e_0 at h
  split at h
  · rename_i s hs
    split at h
    · skip
      obtain ⟨hb, h⟩ := cond_some' h
      simp only [Bool.and_eq_true, Nat.beq_eq, decide_eq_true_eq] at hb
      obtain ⟨⟨⟨⟨⟨⟨⟨⟨⟨⟨⟨⟨⟨⟨⟨⟨⟨⟨⟨⟨⟨rfl, rfl⟩, rfl⟩, rfl⟩, rfl⟩, rfl⟩, rfl⟩, rfl⟩, rfl⟩, rfl⟩, rfl⟩, rfl⟩, rfl⟩, rfl⟩, rfl⟩, rfl⟩, rfl⟩, rfl⟩, rfl⟩, rfl⟩, rfl⟩, rfl⟩ := hb
      exact blk_loop (S := T162_b9e_0) (ks := E162_b9e_0) (step := S_generic_plane_above_b9e_0 fuel) (v := (_, _, _, _, _, _, _, _, _, _, _)) (by kernel_rfl) (by kernel_rfl) (fun R K v => by obtain ⟨x0, x1, x2, x3, x4, x5, x6, x7, x8, x9, x10⟩ := v; exact S162_b9e_0_ok fuel R K x0 x1 x2 x3 x4 x5 x6 x7 x8 x9 x10) hs h
    · cases h
  · cases h
noncomputable def J162_b9e (fuel : Nat) (i : Nat) : Option Ev.Blk := Ev.look i [(100000, B162_b9e_0 fuel)]
noncomputable def F_generic_plane_above_b9e (fuel : Nat) (x0 : Int) (x1 : Int) (x2 : Int) (x3 : (List Int)) (x4 : Int) (x5 : Int) (x6 : (List Int)) (x7 : (List (Int × Int))) (k0 : (Int × Int × (List Int) × (List (Int × Int)) × (List Int)) → Option Ans) : Option Ans :=
  bif Decidable.decide ((0 : Int) ≤ x4 ∧ x4 = x4 ∧ (↑(1 : Nat) : Int) * x4 ≤ (281474976710656 : Int) ∧ x4 ≤ (281474976710656 : Int)) then
  (L_generic_plane_above_b9e_0 fuel (x0, (↑(List.replicate x4.toNat (0 : Int)).length : Int), (0 : Int), x4, x5, x6, x7, x1, x2, x3, List.replicate x4.toNat (0 : Int))
     (fun (b0_0, b0_1, b0_2, b0_3, b0_4) =>
       k0 (b0_0, b0_1, b0_2, b0_3, b0_4)))
  else none
abbrev YF162_b9e : Type := (Int) → (Int) → (Int) → ((List Int)) → (Int) → (Int) → ((List Int)) → ((List (Int × Int))) → ((Int × Int × (List Int) × (List (Int × Int)) × (List Int)) → Option Ans) → Option Ans
theorem F162_b9e_eqg (fuel : Nat) (f163 : YF163) (f199_a34 : YF199_a34) (x0 : Int) (x1 : Int) (x2 : Int) (x3 : (List Int)) (x4 : Int) (x5 : Int) (x6 : (List Int)) (x7 : (List (Int × Int))) (k : Ev.Cont) : evalFn tab (Gg162_b9e f163 f199_a34) (J162_b9e fuel) kp162_b9e fuel Try.f162 [.c (.ptr 0 0), .c (.int .i64 x0), .agg [.int .i64 x1, .int .i64 x2, .sl (.int .u8) x3]] [.cells 137 [.int .i64 x4, .int .i64 x5, .sl (.int .u8) x6, .own 1], .vec 44 (.pair (.int .i64) (.int .i64)) x7 false] k = (fun  (k0 : (Int × Int × (List Int) × (List (Int × Int)) × (List Int)) → Option Ans) =>
  bif Decidable.decide ((0 : Int) ≤ x4 ∧ x4 = x4 ∧ (↑(1 : Nat) : Int) * x4 ≤ (281474976710656 : Int) ∧ x4 ≤ (281474976710656 : Int)) then
  (L_generic_plane_above_b9e_0 fuel (x0, (↑(List.replicate x4.toNat (0 : Int)).length : Int), (0 : Int), x4, x5, x6, x7, x1, x2, x3, List.replicate x4.toNat (0 : Int))
     (fun (b0_0, b0_1, b0_2, b0_3, b0_4) =>
       k0 (b0_0, b0_1, b0_2, b0_3, b0_4)))
  else none) (fun r => match r with | (r0, r1, r2, r3, r4) => k (.c (.own 2), [.cells 137 [.int .i64 r0, .int .i64 r1, .sl (.int .u8) r2, .own 1], .vec 44 (.pair (.int .i64) (.int .i64)) r3 false, .vec 5 (.int .u8) r4 true])) := by
  kernel_rfl
theorem F162_b9e_eq (fuel : Nat) (x0 : Int) (x1 : Int) (x2 : Int) (x3 : (List Int)) (x4 : Int) (x5 : Int) (x6 : (List Int)) (x7 : (List (Int × Int))) (k : Ev.Cont) : evalFn tab (G162_b9e fuel) (J162_b9e fuel) kp162_b9e fuel Try.f162 [.c (.ptr 0 0), .c (.int .i64 x0), .agg [.int .i64 x1, .int .i64 x2, .sl (.int .u8) x3]] [.cells 137 [.int .i64 x4, .int .i64 x5, .sl (.int .u8) x6, .own 1], .vec 44 (.pair (.int .i64) (.int .i64)) x7 false] k = F_generic_plane_above_b9e fuel x0 x1 x2 x3 x4 x5 x6 x7 (fun r => match r with | (r0, r1, r2, r3, r4) => k (.c (.own 2), [.cells 137 [.int .i64 r0, .int .i64 r1, .sl (.int .u8) r2, .own 1], .vec 44 (.pair (.int .i64) (.int .i64)) r3 false, .vec 5 (.int .u8) r4 true])) :=
  F162_b9e_eqg fuel (F_generic_skips fuel) (F_generic_plane_at_a34 fuel) x0 x1 x2 x3 x4 x5 x6 x7 k
theorem hG162_b9e (fuel : Nat) : GOK Try.prog (G162_b9e fuel) :=
  gok_cons ⟨ok163 fuel, enters_of Try.func163 (by kernel_rfl) rfl⟩ <|
  gok_cons ⟨ok199_a34 fuel, enters_of Try.func199 (by kernel_rfl) rfl⟩ <|
  gok_nil
theorem B162_b9e_0_blk (fuel : Nat) : BlkOK Try.prog Try.f162.ntmps (.block 0 (.loop (bodyOf 0 Try.f162))) (B162_b9e_0 fuel) :=
  blk_of (blk_of_code tab_ok (hG162_b9e fuel) mixed (J := J162_b9e_0 fuel) (kp := kp162_b9e) (fuel := fuel) (by kernel_rfl) (fun q hq => by
    rw [(by kernel_rfl : obl (J162_b9e_0 fuel) (.block 0 (.loop (bodyOf 0 Try.f162))) = [])] at hq
    cases hq)) (B162_b9e_0_ok fuel)
theorem fok162_b9e (fuel : Nat) : FnOK Try.prog 162 (evalFn tab (G162_b9e fuel) (J162_b9e fuel) kp162_b9e fuel Try.f162) :=
  fn_ok tab_ok (hG162_b9e fuel) mixed Try.func162 (c := (Try.f162.body).getD .skip) rfl (fun q hq => by
    rw [(by kernel_rfl : obl (J162_b9e fuel) ((Try.f162.body).getD .skip) = [(.block 0 (.loop (bodyOf 0 Try.f162)), B162_b9e_0 fuel)])] at hq
    simp only [List.mem_cons, List.not_mem_nil, or_false] at hq
    subst hq
    · exact B162_b9e_0_blk fuel)
noncomputable def mt162_b9e : List Ev.SV → List Ev.Ob → Bool := fun args objs => match args, objs with
  | [.c (.ptr q0 q1), .c (.int .i64 _), .agg [.int .i64 _, .int .i64 _, .sl (.int .u8) _]], [.cells q2 [.int .i64 _, .int .i64 _, .sl (.int .u8) _, .own q3], .vec q4 (.pair (.int .i64) (.int .i64)) _ false] => Nat.beq q0 0 && Nat.beq q1 0 && Nat.beq q2 137 && Nat.beq q3 1 && Nat.beq q4 44
  | _, _ => false
noncomputable def spg162_b9e (F : YF162_b9e) : Ev.Spec := fun args objs k => match args, objs with
  | [.c (.ptr q0 q1), .c (.int .i64 x0), .agg [.int .i64 x1, .int .i64 x2, .sl (.int .u8) x3]], [.cells q2 [.int .i64 x4, .int .i64 x5, .sl (.int .u8) x6, .own q3], .vec q4 (.pair (.int .i64) (.int .i64)) x7 false] => bif Nat.beq q0 0 && Nat.beq q1 0 && Nat.beq q2 137 && Nat.beq q3 1 && Nat.beq q4 44 then F x0 x1 x2 x3 x4 x5 x6 x7 (fun r => match r with | (r0, r1, r2, r3, r4) => k (.c (.own 2), [.cells 137 [.int .i64 r0, .int .i64 r1, .sl (.int .u8) r2, .own 1], .vec 44 (.pair (.int .i64) (.int .i64)) r3 false, .vec 5 (.int .u8) r4 true])) else none
  | _, _ => none
noncomputable def spec162_b9e (fuel : Nat) : Ev.Spec := spg162_b9e (F_generic_plane_above_b9e fuel)
theorem ok162_b9e (fuel : Nat) : FnOK Try.prog 162 (spec162_b9e fuel) := by
  intro args objs kk r h
  unfold spec162_b9e spg162_b9e at h
  split at h
  · skip
    obtain ⟨hb, h⟩ := cond_some' h
    simp only [Bool.and_eq_true, Nat.beq_eq, decide_eq_true_eq] at hb
    obtain ⟨⟨⟨⟨rfl, rfl⟩, rfl⟩, rfl⟩, rfl⟩ := hb
    exact fok162_b9e fuel _ _ kk r ((F162_b9e_eq fuel _ _ _ _ _ _ _ _ kk).trans h)
  · cases h
end Go.Proofs.Ytihfgpfofmjbaaa

set_option linter.unusedVariables false
set_option linter.unusedSimpArgs false
set_option maxRecDepth 100000
set_option maxHeartbeats 2000000
namespace Go.Proofs.Ytihfgpfofmjbaaa
open Go Ev
def kp158_a34 (i : Nat) : Option (List Nat) := Ev.look i [(3, [0, 1, 2, 7, 13, 14, 15]), (100000, [7]), (400000, [6])]
noncomputable def Gg158_a34 (f199_a34 : YF199_a34) (f : Nat) : Option Ev.Spec := Ev.look f [(199, spg199_a34 f199_a34)]
noncomputable def G158_a34 (fuel : Nat) : Nat → Option Ev.Spec := Gg158_a34 (F_generic_plane_at_a34 fuel)
noncomputable def S_generic_plane_context_a34_0 (fuel : Nat) (v : Int × Int × Int × Int × Int × Int × Int × (List Int) × (List (Int × Int))) (c : (Int × Int × Int × Int × Int × Int × Int × (List Int) × (List (Int × Int))) → Option Ans) (B : (Int × Int × Int × (List Int) × (List (Int × Int)) → Option Ans)) : Option Ans := match v, B with
  | (x0, x1, x2, x3, x4, x5, x6, x7, x8), b =>
   bif Decidable.decide (x4 < x3) then
      bif Decidable.decide ((0 : Int) ≤ x4 ∧ x4 < (↑x8.length : Int)) then
      (F_generic_plane_at_a34 fuel (Go.IntKind.i64.wrap (x0 + (x8.getD x4.toNat ((0 : Int), (0 : Int))).fst)) (Go.IntKind.i64.wrap (x1 + (x8.getD x4.toNat ((0 : Int), (0 : Int))).snd)) (x5) (x6) (x7) (x8)
         (fun (y4_0, y4_1, y4_2, y4_3, y4_4) =>
           c (x0, x1, Go.IntKind.i64.wrap (Go.IntKind.i64.wrap ((2 : Int) * x2) + Go.IntKind.i64.wrap y4_0), x3, Go.IntKind.i64.wrap (x4 + (1 : Int)), y4_1, y4_2, y4_3, y4_4)))
      else none
     else
      b (x2, x5, x6, x7, x8)
noncomputable def L_generic_plane_context_a34_0 (fuel : Nat) (v : Int × Int × Int × Int × Int × Int × Int × (List Int) × (List (Int × Int))) (b : (Int × Int × Int × (List Int) × (List (Int × Int)) → Option Ans)) : Option Ans := iter (S_generic_plane_context_a34_0 fuel) fuel v b
noncomputable def J158_a34_0 (fuel : Nat) (i : Nat) : Option Ev.Blk := Ev.look i []
noncomputable def T158_a34_0 (v : Int × Int × Int × Int × Int × Int × Int × (List Int) × (List (Int × Int))) : Ev.St := match v with | (x0, x1, x2, x3, x4, x5, x6, x7, x8) => ⟨[(0, .c (.ptr 0 0)), (1, .c (.int .i64 x0)), (2, .c (.int .i64 x1)), (7, .c (.int .i64 x2)), (13, .c (.own 1)), (14, .c (.int .i64 x3)), (15, .c (.int .i64 x4))], [(0, .cells 137 [.int .i64 x5, .int .i64 x6, .sl (.int .u8) x7, .own 1]), (1, .vec 44 (.pair (.int .i64) (.int .i64)) x8 false)], 2, 2⟩
noncomputable def E158_a34_0 (K : Ev.Ex → Ev.St → Option Ans) : (Int × Int × Int × (List Int) × (List (Int × Int)) → Option Ans) := (fun v => match v with | (x0, x1, x2, x3, x4) => K .normal ⟨[(7, .c (.int .i64 x0))], [(0, .cells 137 [.int .i64 x1, .int .i64 x2, .sl (.int .u8) x3, .own 1]), (1, .vec 44 (.pair (.int .i64) (.int .i64)) x4 false)], 2, 2⟩)
theorem S158_a34_0_okg (fuel : Nat) (f199_a34 : YF199_a34) (R : Ev.St → Option Ans) (K : Ev.Ex → Ev.St → Option Ans) (x0 : Int) (x1 : Int) (x2 : Int) (x3 : Int) (x4 : Int) (x5 : Int) (x6 : Int) (x7 : (List Int)) (x8 : (List (Int × Int))) : evalCode tab (Gg158_a34 f199_a34) (J158_a34_0 fuel) kp158_a34 fuel (bodyOf 0 Try.f158) (T158_a34_0 (x0, x1, x2, x3, x4, x5, x6, x7, x8)) (lc kp158_a34 3 0 R K) = (fun (c : (Int × Int × Int × Int × Int × Int × Int × (List Int) × (List (Int × Int))) → Option Ans) (B : (Int × Int × Int × (List Int) × (List (Int × Int)) → Option Ans)) => match B with
  | b =>
   bif Decidable.decide (x4 < x3) then
      bif Decidable.decide ((0 : Int) ≤ x4 ∧ x4 < (↑x8.length : Int)) then
      (f199_a34 (Go.IntKind.i64.wrap (x0 + (x8.getD x4.toNat ((0 : Int), (0 : Int))).fst)) (Go.IntKind.i64.wrap (x1 + (x8.getD x4.toNat ((0 : Int), (0 : Int))).snd)) (x5) (x6) (x7) (x8)
         (fun (y4_0, y4_1, y4_2, y4_3, y4_4) =>
           c (x0, x1, Go.IntKind.i64.wrap (Go.IntKind.i64.wrap ((2 : Int) * x2) + Go.IntKind.i64.wrap y4_0), x3, Go.IntKind.i64.wrap (x4 + (1 : Int)), y4_1, y4_2, y4_3, y4_4)))
      else none
     else
      b (x2, x5, x6, x7, x8)) (fun v => R (T158_a34_0 v)) (E158_a34_0 K) := by
  kernel_rfl
theorem S158_a34_0_ok (fuel : Nat) (R : Ev.St → Option Ans) (K : Ev.Ex → Ev.St → Option Ans) (x0 : Int) (x1 : Int) (x2 : Int) (x3 : Int) (x4 : Int) (x5 : Int) (x6 : Int) (x7 : (List Int)) (x8 : (List (Int × Int))) : evalCode tab (G158_a34 fuel) (J158_a34_0 fuel) kp158_a34 fuel (bodyOf 0 Try.f158) (T158_a34_0 (x0, x1, x2, x3, x4, x5, x6, x7, x8)) (lc kp158_a34 3 0 R K) = S_generic_plane_context_a34_0 fuel (x0, x1, x2, x3, x4, x5, x6, x7, x8) (fun v => R (T158_a34_0 v)) (E158_a34_0 K) :=
  S158_a34_0_okg fuel (F_generic_plane_at_a34 fuel) R K x0 x1 x2 x3 x4 x5 x6 x7 x8
noncomputable def B158_a34_0 (fuel : Nat) : Ev.Blk := fun st K => match canonO (kp158_a34 3) st with
  | some s => (match s with
    | ⟨[(q0, .c (.ptr q1 q2)), (q3, .c (.int .i64 x0)), (q4, .c (.int .i64 x1)), (q5, .c (.int .i64 x2)), (q6, .c (.own q7)), (q8, .c (.int .i64 x3)), (q9, .c (.int .i64 x4))], [(q10, .cells q11 [.int .i64 x5, .int .i64 x6, .sl (.int .u8) x7, .own q12]), (q13, .vec q14 (.pair (.int .i64) (.int .i64)) x8 false)], q15, q16⟩ => bif Nat.beq q0 0 && Nat.beq q1 0 && Nat.beq q2 0 && Nat.beq q3 1 && Nat.beq q4 2 && Nat.beq q5 7 && Nat.beq q6 13 && Nat.beq q7 1 && Nat.beq q8 14 && Nat.beq q9 15 && Nat.beq q10 0 && Nat.beq q11 137 && Nat.beq q12 1 && Nat.beq q13 1 && Nat.beq q14 44 && Nat.beq q15 2 && Nat.beq q16 2 then iter (S_generic_plane_context_a34_0 fuel) fuel (x0, x1, x2, x3, x4, x5, x6, x7, x8) (E158_a34_0 K) else none
    | _ => none)
  | none => none
theorem B158_a34_0_ok (fuel : Nat) (st : Ev.St) (K : Ev.Ex → Ev.St → Option Ans) (r : Ans) (h : B158_a34_0 fuel st K = some r) : evalCode tab (G158_a34 fuel) (J158_a34_0 fuel) kp158_a34 fuel (.block 0 (.loop (bodyOf 0 Try.f158))) st K = some r := by
  unfold B158_a34_0 at h
  split at h
  · rename_i s hs
    split at h
    · skip
      obtain ⟨hb, h⟩ := cond_some' h
      simp only [Bool.and_eq_true, Nat.beq_eq, decide_eq_true_eq] at hb
      obtain ⟨⟨⟨⟨⟨⟨⟨⟨⟨⟨⟨⟨⟨⟨⟨⟨rfl, rfl⟩, rfl⟩, rfl⟩, rfl⟩, rfl⟩, rfl⟩, rfl⟩, rfl⟩, rfl⟩, rfl⟩, rfl⟩, rfl⟩, rfl⟩, rfl⟩, rfl⟩, rfl⟩ := hb
      exact blk_loop (S := T158_a34_0) (ks := E158_a34_0) (step := S_generic_plane_context_a34_0 fuel) (v := (_, _, _, _, _, _, _, _, _)) (by kernel_rfl) (by kernel_rfl) (fun R K v => by obtain ⟨x0, x1, x2, x3, x4, x5, x6, x7, x8⟩ := v; exact S158_a34_0_ok fuel R K x0 x1 x2 x3 x4 x5 x6 x7 x8) hs h
    · cases h
  · cases h
noncomputable def J158_a34 (fuel : Nat) (i : Nat) : Option Ev.Blk := Ev.look i [(100000, B158_a34_0 fuel)]
noncomputable def F_generic_plane_context_a34 (fuel : Nat) (x0 : Int) (x1 : Int) (x2 : Int) (x3 : Int) (x4 : (List Int)) (x5 : (List (Int × Int))) (k0 : (Int × Int × Int × (List Int) × (List (Int × Int))) → Option Ans) : Option Ans :=
  (L_generic_plane_context_a34_0 fuel (x0, x1, (0 : Int), (↑x5.length : Int), (0 : Int), x2, x3, x4, x5)
    (fun (b0_0, b0_1, b0_2, b0_3, b0_4) =>
      k0 (b0_0, b0_1, b0_2, b0_3, b0_4)))
abbrev YF158_a34 : Type := (Int) → (Int) → (Int) → (Int) → ((List Int)) → ((List (Int × Int))) → ((Int × Int × Int × (List Int) × (List (Int × Int))) → Option Ans) → Option Ans
theorem F158_a34_eqg (fuel : Nat) (f199_a34 : YF199_a34) (x0 : Int) (x1 : Int) (x2 : Int) (x3 : Int) (x4 : (List Int)) (x5 : (List (Int × Int))) (k : Ev.Cont) : evalFn tab (Gg158_a34 f199_a34) (J158_a34 fuel) kp158_a34 fuel Try.f158 [.c (.ptr 0 0), .c (.int .i64 x0), .c (.int .i64 x1)] [.cells 137 [.int .i64 x2, .int .i64 x3, .sl (.int .u8) x4, .own 1], .vec 44 (.pair (.int .i64) (.int .i64)) x5 false] k = (fun  (k0 : (Int × Int × Int × (List Int) × (List (Int × Int))) → Option Ans) =>
  (L_generic_plane_context_a34_0 fuel (x0, x1, (0 : Int), (↑x5.length : Int), (0 : Int), x2, x3, x4, x5)
    (fun (b0_0, b0_1, b0_2, b0_3, b0_4) =>
      k0 (b0_0, b0_1, b0_2, b0_3, b0_4)))) (fun r => match r with | (r0, r1, r2, r3, r4) => k (.c (.int .i64 r0), [.cells 137 [.int .i64 r1, .int .i64 r2, .sl (.int .u8) r3, .own 1], .vec 44 (.pair (.int .i64) (.int .i64)) r4 false])) := by
  kernel_rfl
theorem F158_a34_eq (fuel : Nat) (x0 : Int) (x1 : Int) (x2 : Int) (x3 : Int) (x4 : (List Int)) (x5 : (List (Int × Int))) (k : Ev.Cont) : evalFn tab (G158_a34 fuel) (J158_a34 fuel) kp158_a34 fuel Try.f158 [.c (.ptr 0 0), .c (.int .i64 x0), .c (.int .i64 x1)] [.cells 137 [.int .i64 x2, .int .i64 x3, .sl (.int .u8) x4, .own 1], .vec 44 (.pair (.int .i64) (.int .i64)) x5 false] k = F_generic_plane_context_a34 fuel x0 x1 x2 x3 x4 x5 (fun r => match r with | (r0, r1, r2, r3, r4) => k (.c (.int .i64 r0), [.cells 137 [.int .i64 r1, .int .i64 r2, .sl (.int .u8) r3, .own 1], .vec 44 (.pair (.int .i64) (.int .i64)) r4 false])) :=
  F158_a34_eqg fuel (F_generic_plane_at_a34 fuel) x0 x1 x2 x3 x4 x5 k
theorem hG158_a34 (fuel : Nat) : GOK Try.prog (G158_a34 fuel) :=
  gok_cons ⟨ok199_a34 fuel, enters_of Try.func199 (by kernel_rfl) rfl⟩ <|
  gok_nil
theorem B158_a34_0_blk (fuel : Nat) : BlkOK Try.prog Try.f158.ntmps (.block 0 (.loop (bodyOf 0 Try.f158))) (B158_a34_0 fuel) :=
  blk_of (blk_of_code tab_ok (hG158_a34 fuel) mixed (J := J158_a34_0 fuel) (kp := kp158_a34) (fuel := fuel) (by kernel_rfl) (fun q hq => by
    rw [(by kernel_rfl : obl (J158_a34_0 fuel) (.block 0 (.loop (bodyOf 0 Try.f158))) = [])] at hq
    cases hq)) (B158_a34_0_ok fuel)
theorem fok158_a34 (fuel : Nat) : FnOK Try.prog 158 (evalFn tab (G158_a34 fuel) (J158_a34 fuel) kp158_a34 fuel Try.f158) :=
  fn_ok tab_ok (hG158_a34 fuel) mixed Try.func158 (c := (Try.f158.body).getD .skip) rfl (fun q hq => by
    rw [(by kernel_rfl : obl (J158_a34 fuel) ((Try.f158.body).getD .skip) = [(.block 0 (.loop (bodyOf 0 Try.f158)), B158_a34_0 fuel)])] at hq
    simp only [List.mem_cons, List.not_mem_nil, or_false] at hq
    subst hq
    · exact B158_a34_0_blk fuel)
noncomputable def mt158_a34 : List Ev.SV → List Ev.Ob → Bool := fun args objs => match args, objs with
  | [.c (.ptr q0 q1), .c (.int .i64 _), .c (.int .i64 _)], [.cells q2 [.int .i64 _, .int .i64 _, .sl (.int .u8) _, .own q3], .vec q4 (.pair (.int .i64) (.int .i64)) _ false] => Nat.beq q0 0 && Nat.beq q1 0 && Nat.beq q2 137 && Nat.beq q3 1 && Nat.beq q4 44
  | _, _ => false
noncomputable def spg158_a34 (F : YF158_a34) : Ev.Spec := fun args objs k => match args, objs with
  | [.c (.ptr q0 q1), .c (.int .i64 x0), .c (.int .i64 x1)], [.cells q2 [.int .i64 x2, .int .i64 x3, .sl (.int .u8) x4, .own q3], .vec q4 (.pair (.int .i64) (.int .i64)) x5 false] => bif Nat.beq q0 0 && Nat.beq q1 0 && Nat.beq q2 137 && Nat.beq q3 1 && Nat.beq q4 44 then F x0 x1 x2 x3 x4 x5 (fun r => match r with | (r0, r1, r2, r3, r4) => k (.c (.int .i64 r0), [.cells 137 [.int .i64 r1, .int .i64 r2, .sl (.int .u8) r3, .own 1], .vec 44 (.pair (.int .i64) (.int .i64)) r4 false])) else none
  | _, _ => none
noncomputable def spec158_a34 (fuel : Nat) : Ev.Spec := spg158_a34 (F_generic_plane_context_a34 fuel)
theorem ok158_a34 (fuel : Nat) : FnOK Try.prog 158 (spec158_a34 fuel) := by
  intro args objs kk r h
  unfold spec158_a34 spg158_a34 at h
  split at h
  · skip
    obtain ⟨hb, h⟩ := cond_some' h
    simp only [Bool.and_eq_true, Nat.beq_eq, decide_eq_true_eq] at hb
    obtain ⟨⟨⟨⟨rfl, rfl⟩, rfl⟩, rfl⟩, rfl⟩ := hb
    exact fok158_a34 fuel _ _ kk r ((F158_a34_eq fuel _ _ _ _ _ _ kk).trans h)
  · cases h
end Go.Proofs.Ytihfgpfofmjbaaa

set_option linter.unusedVariables false
set_option linter.unusedSimpArgs false
set_option maxRecDepth 100000
set_option maxHeartbeats 2000000
namespace Go.Proofs.Ytihfgpfofmjbaaa
open Go Ev
def kp91_f4f (i : Nat) : Option (List Nat) := Ev.look i [(4, [0, 1, 7, 8, 9, 10, 27, 28]), (13, [0, 1, 7, 8, 9, 10, 11, 27, 28, 60, 61]), (100000, []), (100002, [0, 1, 7, 8, 9, 10, 27, 28]), (200008, [8, 9]), (200017, [8]), (400000, []), (400002, [])]
noncomputable def Gg91_f4f (f90 : YF90) (f97 : YF97) (f99_9ef : YF99_9ef) (f158_a34 : YF158_a34) (f161 : YF161) (f162_b9e : YF162_b9e) (f163 : YF163) (f : Nat) : Option Ev.Spec := Ev.look f [(90, spg90 f90), (97, spg97 f97), (99, spg99_9ef f99_9ef), (158, spg158_a34 f158_a34), (161, spg161 f161), (162, spg162_b9e f162_b9e), (163, spg163 f163)]
noncomputable def G91_f4f (fuel : Nat) : Nat → Option Ev.Spec := Gg91_f4f (F_generic_contexts fuel) (F_generic_newPlane fuel) (F_coder_Encoder_Put_9ef fuel) (F_generic_plane_context_a34 fuel) (F_bytes_Equal fuel) (F_generic_plane_above_b9e fuel) (F_generic_skips fuel)
noncomputable def S_generic_put_f4f_2 (fuel : Nat) (v : Int × Int × Int × Int × Int × Int × Int × Int × Int × Bool × Int × Int × Int × (List Int) × Int × Int × (List Int) × Int × Int × (List Int) × (List (Int × Int))) (c : (Int × Int × Int × Int × Int × Int × Int × Int × Int × Bool × Int × Int × Int × (List Int) × Int × Int × (List Int) × Int × Int × (List Int) × (List (Int × Int))) → Option Ans) (B : (Int × Int × Int × Int × Int × Int × Bool × Int × Int × Int × (List Int) × Int × Int × (List Int) × Int × Int × (List Int) × (List (Int × Int)) → Option Ans)) : Option Ans := match v, B with
  | (x0, x1, x2, x3, x4, x5, x6, x7, x8, x9, x10, x11, x12, x13, x14, x15, x16, x17, x18, x19, x20), b =>
   bif Decidable.decide (x5 < x4) then
      (F_generic_skips fuel (x14) (x15) (x16) (Go.IntKind.i64.wrap (Go.IntKind.i64.wrap (x1 * x11) + x5))
        (fun y3 =>
          bif !y3 then
           bif Decidable.decide ((0 : Int) ≤ Go.IntKind.i64.wrap (Go.IntKind.i64.wrap (x1 * x11) + x5) ∧ Go.IntKind.i64.wrap (Go.IntKind.i64.wrap (x1 * x11) + x5) < (↑x13.length : Int)) then
           (F_generic_plane_context_a34 fuel (x5) (x1) (x17) (x18) (x19) (x20)
              (fun (y9_0, y9_1, y9_2, y9_3, y9_4) =>
                (F_coder_Encoder_Put_9ef fuel (Go.IntKind.i64.wrap (x0 + y9_0)) (Go.IntKind.i64.wrap (x13.getD (Go.IntKind.i64.wrap (Go.IntKind.i64.wrap (x1 * x11) + x5)).toNat (0 : Int)))
                  (fun y13 =>
                    c (x0, x1, x2, x3, x4, Go.IntKind.i64.wrap (x5 + (1 : Int)), x6, x7, x8, x9, x10, x11, x12, x13, x14, x15, x16, y9_1, y9_2, y9_3, y9_4)))))
           else none
          else
           c (x0, x1, x2, x3, x4, Go.IntKind.i64.wrap (x5 + (1 : Int)), x6, x7, x8, x9, x10, x11, x12, x13, x14, x15, x16, x17, x18, x19, x20)))
     else
      b (x0, x2, x3, x6, x7, x8, x9, x10, x11, x12, x13, x14, x15, x16, x17, x18, x19, x20)
noncomputable def L_generic_put_f4f_2 (fuel : Nat) (v : Int × Int × Int × Int × Int × Int × Int × Int × Int × Bool × Int × Int × Int × (List Int) × Int × Int × (List Int) × Int × Int × (List Int) × (List (Int × Int))) (b : (Int × Int × Int × Int × Int × Int × Bool × Int × Int × Int × (List Int) × Int × Int × (List Int) × Int × Int × (List Int) × (List (Int × Int)) → Option Ans)) : Option Ans := iter (S_generic_put_f4f_2 fuel) fuel v b
noncomputable def J91_f4f_2 (fuel : Nat) (i : Nat) : Option Ev.Blk := Ev.look i []
noncomputable def T91_f4f_2 (v : Int × Int × Int × Int × Int × Int × Int × Int × Int × Bool × Int × Int × Int × (List Int) × Int × Int × (List Int) × Int × Int × (List Int) × (List (Int × Int))) : Ev.St := match v with | (x0, x1, x2, x3, x4, x5, x6, x7, x8, x9, x10, x11, x12, x13, x14, x15, x16, x17, x18, x19, x20) => ⟨[(0, .c (.nilptr)), (1, .c (.int .i64 x0)), (7, .c (.ptr 0 0)), (8, .c (.ptr 1 0)), (9, .c (.ptr 2 0)), (10, .c (.ptr 3 0)), (11, .c (.int .i64 x1)), (27, .c (.int .i64 x2)), (28, .c (.int .i64 x3)), (60, .c (.int .i64 x4)), (61, .c (.int .i64 x5))], [(0, .cells 46 [.int .i64 x6, .int .i64 x7, .int .i64 x8, .bool x9, .int .i64 x10]), (1, .cells 39 [.int .i64 x11, .int .i64 x12, .sl (.int .u8) x13]), (2, .cells 39 [.int .i64 x14, .int .i64 x15, .sl (.int .u8) x16]), (3, .cells 137 [.int .i64 x17, .int .i64 x18, .sl (.int .u8) x19, .own 4]), (4, .vec 44 (.pair (.int .i64) (.int .i64)) x20 true)], 5, 0⟩
noncomputable def E91_f4f_2 (K : Ev.Ex → Ev.St → Option Ans) : (Int × Int × Int × Int × Int × Int × Bool × Int × Int × Int × (List Int) × Int × Int × (List Int) × Int × Int × (List Int) × (List (Int × Int)) → Option Ans) := (fun v => match v with | (x0, x1, x2, x3, x4, x5, x6, x7, x8, x9, x10, x11, x12, x13, x14, x15, x16, x17) => K .normal ⟨[(0, .c (.nilptr)), (1, .c (.int .i64 x0)), (7, .c (.ptr 0 0)), (8, .c (.ptr 1 0)), (9, .c (.ptr 2 0)), (10, .c (.ptr 3 0)), (27, .c (.int .i64 x1)), (28, .c (.int .i64 x2))], [(0, .cells 46 [.int .i64 x3, .int .i64 x4, .int .i64 x5, .bool x6, .int .i64 x7]), (1, .cells 39 [.int .i64 x8, .int .i64 x9, .sl (.int .u8) x10]), (2, .cells 39 [.int .i64 x11, .int .i64 x12, .sl (.int .u8) x13]), (3, .cells 137 [.int .i64 x14, .int .i64 x15, .sl (.int .u8) x16, .own 4]), (4, .vec 44 (.pair (.int .i64) (.int .i64)) x17 true)], 5, 0⟩)
theorem S91_f4f_2_okg (fuel : Nat) (f90 : YF90) (f97 : YF97) (f99_9ef : YF99_9ef) (f158_a34 : YF158_a34) (f161 : YF161) (f162_b9e : YF162_b9e) (f163 : YF163) (R : Ev.St → Option Ans) (K : Ev.Ex → Ev.St → Option Ans) (x0 : Int) (x1 : Int) (x2 : Int) (x3 : Int) (x4 : Int) (x5 : Int) (x6 : Int) (x7 : Int) (x8 : Int) (x9 : Bool) (x10 : Int) (x11 : Int) (x12 : Int) (x13 : (List Int)) (x14 : Int) (x15 : Int) (x16 : (List Int)) (x17 : Int) (x18 : Int) (x19 : (List Int)) (x20 : (List (Int × Int))) : evalCode tab (Gg91_f4f f90 f97 f99_9ef f158_a34 f161 f162_b9e f163) (J91_f4f_2 fuel) kp91_f4f fuel (bodyOf 2 Try.f91) (T91_f4f_2 (x0, x1, x2, x3, x4, x5, x6, x7, x8, x9, x10, x11, x12, x13, x14, x15, x16, x17, x18, x19, x20)) (lc kp91_f4f 13 2 R K) = (fun (c : (Int × Int × Int × Int × Int × Int × Int × Int × Int × Bool × Int × Int × Int × (List Int) × Int × Int × (List Int) × Int × Int × (List Int) × (List (Int × Int))) → Option Ans) (B : (Int × Int × Int × Int × Int × Int × Bool × Int × Int × Int × (List Int) × Int × Int × (List Int) × Int × Int × (List Int) × (List (Int × Int)) → Option Ans)) => match B with
  | b =>
   bif Decidable.decide (x5 < x4) then
      (f163 (x14) (x15) (x16) (Go.IntKind.i64.wrap (Go.IntKind.i64.wrap (x1 * x11) + x5))
        (fun y3 =>
          bif !y3 then
           bif Decidable.decide ((0 : Int) ≤ Go.IntKind.i64.wrap (Go.IntKind.i64.wrap (x1 * x11) + x5) ∧ Go.IntKind.i64.wrap (Go.IntKind.i64.wrap (x1 * x11) + x5) < (↑x13.length : Int)) then
           (f158_a34 (x5) (x1) (x17) (x18) (x19) (x20)
              (fun (y9_0, y9_1, y9_2, y9_3, y9_4) =>
                (f99_9ef (Go.IntKind.i64.wrap (x0 + y9_0)) (Go.IntKind.i64.wrap (x13.getD (Go.IntKind.i64.wrap (Go.IntKind.i64.wrap (x1 * x11) + x5)).toNat (0 : Int)))
                  (fun y13 =>
                    c (x0, x1, x2, x3, x4, Go.IntKind.i64.wrap (x5 + (1 : Int)), x6, x7, x8, x9, x10, x11, x12, x13, x14, x15, x16, y9_1, y9_2, y9_3, y9_4)))))
           else none
          else
           c (x0, x1, x2, x3, x4, Go.IntKind.i64.wrap (x5 + (1 : Int)), x6, x7, x8, x9, x10, x11, x12, x13, x14, x15, x16, x17, x18, x19, x20)))
     else
      b (x0, x2, x3, x6, x7, x8, x9, x10, x11, x12, x13, x14, x15, x16, x17, x18, x19, x20)) (fun v => R (T91_f4f_2 v)) (E91_f4f_2 K) := by
  kernel_rfl
theorem S91_f4f_2_ok (fuel : Nat) (R : Ev.St → Option Ans) (K : Ev.Ex → Ev.St → Option Ans) (x0 : Int) (x1 : Int) (x2 : Int) (x3 : Int) (x4 : Int) (x5 : Int) (x6 : Int) (x7 : Int) (x8 : Int) (x9 : Bool) (x10 : Int) (x11 : Int) (x12 : Int) (x13 : (List Int)) (x14 : Int) (x15 : Int) (x16 : (List Int)) (x17 : Int) (x18 : Int) (x19 : (List Int)) (x20 : (List (Int × Int))) : evalCode tab (G91_f4f fuel) (J91_f4f_2 fuel) kp91_f4f fuel (bodyOf 2 Try.f91) (T91_f4f_2 (x0, x1, x2, x3, x4, x5, x6, x7, x8, x9, x10, x11, x12, x13, x14, x15, x16, x17, x18, x19, x20)) (lc kp91_f4f 13 2 R K) = S_generic_put_f4f_2 fuel (x0, x1, x2, x3, x4, x5, x6, x7, x8, x9, x10, x11, x12, x13, x14, x15, x16, x17, x18, x19, x20) (fun v => R (T91_f4f_2 v)) (E91_f4f_2 K) :=
  S91_f4f_2_okg fuel (F_generic_contexts fuel) (F_generic_newPlane fuel) (F_coder_Encoder_Put_9ef fuel) (F_generic_plane_context_a34 fuel) (F_bytes_Equal fuel) (F_generic_plane_above_b9e fuel) (F_generic_skips fuel) R K x0 x1 x2 x3 x4 x5 x6 x7 x8 x9 x10 x11 x12 x13 x14 x15 x16 x17 x18 x19 x20
noncomputable def B91_f4f_2 (fuel : Nat) : Ev.Blk := fun st K => match canonO (kp91_f4f 13) st with
  | some s => (match s with
    | ⟨[(q0, .c (.nilptr)), (q1, .c (.int .i64 x0)), (q2, .c (.ptr q3 q4)), (q5, .c (.ptr q6 q7)), (q8, .c (.ptr q9 q10)), (q11, .c (.ptr q12 q13)), (q14, .c (.int .i64 x1)), (q15, .c (.int .i64 x2)), (q16, .c (.int .i64 x3)), (q17, .c (.int .i64 x4)), (q18, .c (.int .i64 x5))], [(q19, .cells q20 [.int .i64 x6, .int .i64 x7, .int .i64 x8, .bool x9, .int .i64 x10]), (q21, .cells q22 [.int .i64 x11, .int .i64 x12, .sl (.int .u8) x13]), (q23, .cells q24 [.int .i64 x14, .int .i64 x15, .sl (.int .u8) x16]), (q25, .cells q26 [.int .i64 x17, .int .i64 x18, .sl (.int .u8) x19, .own q27]), (q28, .vec q29 (.pair (.int .i64) (.int .i64)) x20 true)], q30, q31⟩ => bif Nat.beq q0 0 && Nat.beq q1 1 && Nat.beq q2 7 && Nat.beq q3 0 && Nat.beq q4 0 && Nat.beq q5 8 && Nat.beq q6 1 && Nat.beq q7 0 && Nat.beq q8 9 && Nat.beq q9 2 && Nat.beq q10 0 && Nat.beq q11 10 && Nat.beq q12 3 && Nat.beq q13 0 && Nat.beq q14 11 && Nat.beq q15 27 && Nat.beq q16 28 && Nat.beq q17 60 && Nat.beq q18 61 && Nat.beq q19 0 && Nat.beq q20 46 && Nat.beq q21 1 && Nat.beq q22 39 && Nat.beq q23 2 && Nat.beq q24 39 && Nat.beq q25 3 && Nat.beq q26 137 && Nat.beq q27 4 && Nat.beq q28 4 && Nat.beq q29 44 && Nat.beq q30 5 && Nat.beq q31 0 then iter (S_generic_put_f4f_2 fuel) fuel (x0, x1, x2, x3, x4, x5, x6, x7, x8, x9, x10, x11, x12, x13, x14, x15, x16, x17, x18, x19, x20) (E91_f4f_2 K) else none
    | _ => none)
  | none => none
theorem B91_f4f_2_ok (fuel : Nat) (st : Ev.St) (K : Ev.Ex → Ev.St → Option Ans) (r : Ans) (h : B91_f4f_2 fuel st K = some r) : evalCode tab (G91_f4f fuel) (J91_f4f_2 fuel) kp91_f4f fuel (.block 2 (.loop (bodyOf 2 Try.f91))) st K = some r := by
  unfold B91_f4f_2 at h
  split at h
  · rename_i s hs
    split at h
    · skip
      obtain ⟨hb, h⟩ := cond_some' h
      simp only [Bool.and_eq_true, Nat.beq_eq, decide_eq_true_eq] at hb
      obtain ⟨⟨⟨⟨⟨⟨⟨⟨⟨⟨⟨⟨⟨⟨⟨⟨⟨⟨⟨⟨⟨⟨⟨⟨⟨⟨⟨⟨⟨⟨⟨rfl, rfl⟩, rfl⟩, rfl⟩, rfl⟩, rfl⟩, rfl⟩, rfl⟩, rfl⟩, rfl⟩, rfl⟩, rfl⟩, rfl⟩, rfl⟩, rfl⟩, rfl⟩, rfl⟩, rfl⟩, rfl⟩, rfl⟩, rfl⟩, rfl⟩, rfl⟩, rfl⟩, rfl⟩, rfl⟩, rfl⟩, rfl⟩, rfl⟩, rfl⟩, rfl⟩, rfl⟩ := hb
      exact blk_loop (S := T91_f4f_2) (ks := E91_f4f_2) (step := S_generic_put_f4f_2 fuel) (v := (_, _, _, _, _, _, _, _, _, _, _, _, _, _, _, _, _, _, _, _, _)) (by kernel_rfl) (by kernel_rfl) (fun R K v => by obtain ⟨x0, x1, x2, x3, x4, x5, x6, x7, x8, x9, x10, x11, x12, x13, x14, x15, x16, x17, x18, x19, x20⟩ := v; exact S91_f4f_2_ok fuel R K x0 x1 x2 x3 x4 x5 x6 x7 x8 x9 x10 x11 x12 x13 x14 x15 x16 x17 x18 x19 x20) hs h
    · cases h
  · cases h
noncomputable def S_generic_put_f4f_0 (fuel : Nat) (v : Int × Int × Int × Int × Int × Int × Bool × Int × Int × Int × (List Int) × Int × Int × (List Int) × Int × Int × (List Int) × (List (Int × Int))) (c : (Int × Int × Int × Int × Int × Int × Bool × Int × Int × Int × (List Int) × Int × Int × (List Int) × Int × Int × (List Int) × (List (Int × Int))) → Option Ans) (B : (Unit → Option Ans)) : Option Ans := match v, B with
  | (x0, x1, x2, x3, x4, x5, x6, x7, x8, x9, x10, x11, x12, x13, x14, x15, x16, x17), b =>
   bif Decidable.decide (x2 < x1) then
      bif x6 then
       bif Decidable.decide ((0 : Int) ≤ Ev.loOf (Option.some (Go.IntKind.i64.wrap (x2 * x8))) ∧ Ev.loOf (Option.some (Go.IntKind.i64.wrap (x2 * x8))) ≤ Ev.hiOf (Option.some (Go.IntKind.i64.wrap (Go.IntKind.i64.wrap (x2 + (1 : Int)) * x8))) (↑x10.length : Int) ∧ Ev.hiOf (Option.some (Go.IntKind.i64.wrap (Go.IntKind.i64.wrap (x2 + (1 : Int)) * x8))) (↑x10.length : Int) ≤ (↑x10.length : Int)) then
       (F_generic_plane_above_b9e fuel (x2) (x11) (x12) (x13) (x14) (x15) (x16) (x17)
          (fun (y5_0, y5_1, y5_2, y5_3, y5_4) =>
            (F_bytes_Equal fuel (y5_4) (List.take (Ev.hiOf (Option.some (Go.IntKind.i64.wrap (Go.IntKind.i64.wrap (x2 + (1 : Int)) * x8))) (↑x10.length : Int) - Ev.loOf (Option.some (Go.IntKind.i64.wrap (x2 * x8)))).toNat (List.drop (Ev.loOf (Option.some (Go.IntKind.i64.wrap (x2 * x8)))).toNat x10))
              (fun y9 =>
                bif y9 then
                 (F_generic_contexts fuel (x3) (x4) (x5) (x6) (x7)
                   (fun y14 =>
                     (F_coder_Encoder_Put_9ef fuel (Go.IntKind.i64.wrap (x0 + y14)) ((1 : Int))
                       (fun y18 =>
                         c (x0, x1, Go.IntKind.i64.wrap (x2 + (1 : Int)), x3, x4, x5, x6, x7, x8, x9, x10, x11, x12, x13, y5_0, y5_1, y5_2, y5_3)))))
                else
                 (F_generic_contexts fuel (x3) (x4) (x5) (x6) (x7)
                   (fun y14 =>
                     (F_coder_Encoder_Put_9ef fuel (Go.IntKind.i64.wrap (x0 + y14)) ((0 : Int))
                       (fun y18 =>
                         (L_generic_put_f4f_2 fuel (x0, x2, x1, x2, x8, (0 : Int), x3, x4, x5, x6, x7, x8, x9, x10, x11, x12, x13, y5_0, y5_1, y5_2, y5_3)
                           (fun (b2_0, b2_1, b2_2, b2_3, b2_4, b2_5, b2_6, b2_7, b2_8, b2_9, b2_10, b2_11, b2_12, b2_13, b2_14, b2_15, b2_16, b2_17) =>
                             c (b2_0, b2_1, Go.IntKind.i64.wrap (b2_2 + (1 : Int)), b2_3, b2_4, b2_5, b2_6, b2_7, b2_8, b2_9, b2_10, b2_11, b2_12, b2_13, b2_14, b2_15, b2_16, b2_17)))))))))))
       else none
      else
       (L_generic_put_f4f_2 fuel (x0, x2, x1, x2, x8, (0 : Int), x3, x4, x5, x6, x7, x8, x9, x10, x11, x12, x13, x14, x15, x16, x17)
         (fun (b2_0, b2_1, b2_2, b2_3, b2_4, b2_5, b2_6, b2_7, b2_8, b2_9, b2_10, b2_11, b2_12, b2_13, b2_14, b2_15, b2_16, b2_17) =>
           c (b2_0, b2_1, Go.IntKind.i64.wrap (b2_2 + (1 : Int)), b2_3, b2_4, b2_5, b2_6, b2_7, b2_8, b2_9, b2_10, b2_11, b2_12, b2_13, b2_14, b2_15, b2_16, b2_17)))
     else
      b ()
noncomputable def L_generic_put_f4f_0 (fuel : Nat) (v : Int × Int × Int × Int × Int × Int × Bool × Int × Int × Int × (List Int) × Int × Int × (List Int) × Int × Int × (List Int) × (List (Int × Int))) (b : (Unit → Option Ans)) : Option Ans := iter (S_generic_put_f4f_0 fuel) fuel v b
noncomputable def J91_f4f_0 (fuel : Nat) (i : Nat) : Option Ev.Blk := Ev.look i [(100002, B91_f4f_2 fuel)]
noncomputable def T91_f4f_0 (v : Int × Int × Int × Int × Int × Int × Bool × Int × Int × Int × (List Int) × Int × Int × (List Int) × Int × Int × (List Int) × (List (Int × Int))) : Ev.St := match v with | (x0, x1, x2, x3, x4, x5, x6, x7, x8, x9, x10, x11, x12, x13, x14, x15, x16, x17) => ⟨[(0, .c (.nilptr)), (1, .c (.int .i64 x0)), (7, .c (.ptr 0 0)), (8, .c (.ptr 1 0)), (9, .c (.ptr 2 0)), (10, .c (.ptr 3 0)), (27, .c (.int .i64 x1)), (28, .c (.int .i64 x2))], [(0, .cells 46 [.int .i64 x3, .int .i64 x4, .int .i64 x5, .bool x6, .int .i64 x7]), (1, .cells 39 [.int .i64 x8, .int .i64 x9, .sl (.int .u8) x10]), (2, .cells 39 [.int .i64 x11, .int .i64 x12, .sl (.int .u8) x13]), (3, .cells 137 [.int .i64 x14, .int .i64 x15, .sl (.int .u8) x16, .own 4]), (4, .vec 44 (.pair (.int .i64) (.int .i64)) x17 true)], 5, 0⟩
noncomputable def E91_f4f_0 (K : Ev.Ex → Ev.St → Option Ans) : (Unit → Option Ans) := (fun v => match v with | () => K .normal ⟨[], [], 0, 0⟩)
theorem S91_f4f_0_okg (fuel : Nat) (f90 : YF90) (f97 : YF97) (f99_9ef : YF99_9ef) (f158_a34 : YF158_a34) (f161 : YF161) (f162_b9e : YF162_b9e) (f163 : YF163) (R : Ev.St → Option Ans) (K : Ev.Ex → Ev.St → Option Ans) (x0 : Int) (x1 : Int) (x2 : Int) (x3 : Int) (x4 : Int) (x5 : Int) (x6 : Bool) (x7 : Int) (x8 : Int) (x9 : Int) (x10 : (List Int)) (x11 : Int) (x12 : Int) (x13 : (List Int)) (x14 : Int) (x15 : Int) (x16 : (List Int)) (x17 : (List (Int × Int))) : evalCode tab (Gg91_f4f f90 f97 f99_9ef f158_a34 f161 f162_b9e f163) (J91_f4f_0 fuel) kp91_f4f fuel (bodyOf 0 Try.f91) (T91_f4f_0 (x0, x1, x2, x3, x4, x5, x6, x7, x8, x9, x10, x11, x12, x13, x14, x15, x16, x17)) (lc kp91_f4f 4 0 R K) = (fun (c : (Int × Int × Int × Int × Int × Int × Bool × Int × Int × Int × (List Int) × Int × Int × (List Int) × Int × Int × (List Int) × (List (Int × Int))) → Option Ans) (B : (Unit → Option Ans)) => match B with
  | b =>
   bif Decidable.decide (x2 < x1) then
      bif x6 then
       bif Decidable.decide ((0 : Int) ≤ Ev.loOf (Option.some (Go.IntKind.i64.wrap (x2 * x8))) ∧ Ev.loOf (Option.some (Go.IntKind.i64.wrap (x2 * x8))) ≤ Ev.hiOf (Option.some (Go.IntKind.i64.wrap (Go.IntKind.i64.wrap (x2 + (1 : Int)) * x8))) (↑x10.length : Int) ∧ Ev.hiOf (Option.some (Go.IntKind.i64.wrap (Go.IntKind.i64.wrap (x2 + (1 : Int)) * x8))) (↑x10.length : Int) ≤ (↑x10.length : Int)) then
       (f162_b9e (x2) (x11) (x12) (x13) (x14) (x15) (x16) (x17)
          (fun (y5_0, y5_1, y5_2, y5_3, y5_4) =>
            (f161 (y5_4) (List.take (Ev.hiOf (Option.some (Go.IntKind.i64.wrap (Go.IntKind.i64.wrap (x2 + (1 : Int)) * x8))) (↑x10.length : Int) - Ev.loOf (Option.some (Go.IntKind.i64.wrap (x2 * x8)))).toNat (List.drop (Ev.loOf (Option.some (Go.IntKind.i64.wrap (x2 * x8)))).toNat x10))
              (fun y9 =>
                bif y9 then
                 (f90 (x3) (x4) (x5) (x6) (x7)
                   (fun y14 =>
                     (f99_9ef (Go.IntKind.i64.wrap (x0 + y14)) ((1 : Int))
                       (fun y18 =>
                         c (x0, x1, Go.IntKind.i64.wrap (x2 + (1 : Int)), x3, x4, x5, x6, x7, x8, x9, x10, x11, x12, x13, y5_0, y5_1, y5_2, y5_3)))))
                else
                 (f90 (x3) (x4) (x5) (x6) (x7)
                   (fun y14 =>
                     (f99_9ef (Go.IntKind.i64.wrap (x0 + y14)) ((0 : Int))
                       (fun y18 =>
                         (L_generic_put_f4f_2 fuel (x0, x2, x1, x2, x8, (0 : Int), x3, x4, x5, x6, x7, x8, x9, x10, x11, x12, x13, y5_0, y5_1, y5_2, y5_3)
                           (fun (b2_0, b2_1, b2_2, b2_3, b2_4, b2_5, b2_6, b2_7, b2_8, b2_9, b2_10, b2_11, b2_12, b2_13, b2_14, b2_15, b2_16, b2_17) =>
                             c (b2_0, b2_1, Go.IntKind.i64.wrap (b2_2 + (1 : Int)), b2_3, b2_4, b2_5, b2_6, b2_7, b2_8, b2_9, b2_10, b2_11, b2_12, b2_13, b2_14, b2_15, b2_16, b2_17)))))))))))
       else none
      else
       (L_generic_put_f4f_2 fuel (x0, x2, x1, x2, x8, (0 : Int), x3, x4, x5, x6, x7, x8, x9, x10, x11, x12, x13, x14, x15, x16, x17)
         (fun (b2_0, b2_1, b2_2, b2_3, b2_4, b2_5, b2_6, b2_7, b2_8, b2_9, b2_10, b2_11, b2_12, b2_13, b2_14, b2_15, b2_16, b2_17) =>
           c (b2_0, b2_1, Go.IntKind.i64.wrap (b2_2 + (1 : Int)), b2_3, b2_4, b2_5, b2_6, b2_7, b2_8, b2_9, b2_10, b2_11, b2_12, b2_13, b2_14, b2_15, b2_16, b2_17)))
     else
      b ()) (fun v => R (T91_f4f_0 v)) (E91_f4f_0 K) := by
  kernel_rfl
theorem S91_f4f_0_ok (fuel : Nat) (R : Ev.St → Option Ans) (K : Ev.Ex → Ev.St → Option Ans) (x0 : Int) (x1 : Int) (x2 : Int) (x3 : Int) (x4 : Int) (x5 : Int) (x6 : Bool) (x7 : Int) (x8 : Int) (x9 : Int) (x10 : (List Int)) (x11 : Int) (x12 : Int) (x13 : (List Int)) (x14 : Int) (x15 : Int) (x16 : (List Int)) (x17 : (List (Int × Int))) : evalCode tab (G91_f4f fuel) (J91_f4f_0 fuel) kp91_f4f fuel (bodyOf 0 Try.f91) (T91_f4f_0 (x0, x1, x2, x3, x4, x5, x6, x7, x8, x9, x10, x11, x12, x13, x14, x15, x16, x17)) (lc kp91_f4f 4 0 R K) = S_generic_put_f4f_0 fuel (x0, x1, x2, x3, x4, x5, x6, x7, x8, x9, x10, x11, x12, x13, x14, x15, x16, x17) (fun v => R (T91_f4f_0 v)) (E91_f4f_0 K) :=
  S91_f4f_0_okg fuel (F_generic_contexts fuel) (F_generic_newPlane fuel) (F_coder_Encoder_Put_9ef fuel) (F_generic_plane_context_a34 fuel) (F_bytes_Equal fuel) (F_generic_plane_above_b9e fuel) (F_generic_skips fuel) R K x0 x1 x2 x3 x4 x5 x6 x7 x8 x9 x10 x11 x12 x13 x14 x15 x16 x17
noncomputable def B91_f4f_0 (fuel : Nat) : Ev.Blk := fun st K => match canonO (kp91_f4f 4) st with
  | some s => (match s with
    | ⟨[(q0, .c (.nilptr)), (q1, .c (.int .i64 x0)), (q2, .c (.ptr q3 q4)), (q5, .c (.ptr q6 q7)), (q8, .c (.ptr q9 q10)), (q11, .c (.ptr q12 q13)), (q14, .c (.int .i64 x1)), (q15, .c (.int .i64 x2))], [(q16, .cells q17 [.int .i64 x3, .int .i64 x4, .int .i64 x5, .bool x6, .int .i64 x7]), (q18, .cells q19 [.int .i64 x8, .int .i64 x9, .sl (.int .u8) x10]), (q20, .cells q21 [.int .i64 x11, .int .i64 x12, .sl (.int .u8) x13]), (q22, .cells q23 [.int .i64 x14, .int .i64 x15, .sl (.int .u8) x16, .own q24]), (q25, .vec q26 (.pair (.int .i64) (.int .i64)) x17 true)], q27, q28⟩ => bif Nat.beq q0 0 && Nat.beq q1 1 && Nat.beq q2 7 && Nat.beq q3 0 && Nat.beq q4 0 && Nat.beq q5 8 && Nat.beq q6 1 && Nat.beq q7 0 && Nat.beq q8 9 && Nat.beq q9 2 && Nat.beq q10 0 && Nat.beq q11 10 && Nat.beq q12 3 && Nat.beq q13 0 && Nat.beq q14 27 && Nat.beq q15 28 && Nat.beq q16 0 && Nat.beq q17 46 && Nat.beq q18 1 && Nat.beq q19 39 && Nat.beq q20 2 && Nat.beq q21 39 && Nat.beq q22 3 && Nat.beq q23 137 && Nat.beq q24 4 && Nat.beq q25 4 && Nat.beq q26 44 && Nat.beq q27 5 && Nat.beq q28 0 then iter (S_generic_put_f4f_0 fuel) fuel (x0, x1, x2, x3, x4, x5, x6, x7, x8, x9, x10, x11, x12, x13, x14, x15, x16, x17) (E91_f4f_0 K) else none
    | _ => none)
  | none => none
theorem B91_f4f_0_ok (fuel : Nat) (st : Ev.St) (K : Ev.Ex → Ev.St → Option Ans) (r : Ans) (h : B91_f4f_0 fuel st K = some r) : evalCode tab (G91_f4f fuel) (J91_f4f_0 fuel) kp91_f4f fuel (.block 0 (.loop (bodyOf 0 Try.f91))) st K = some r := by
  unfold B91_f4f_0 at h
  split at h
  · rename_i s hs
    split at h
    · skip
      obtain ⟨hb, h⟩ := cond_some' h
      simp only [Bool.and_eq_true, Nat.beq_eq, decide_eq_true_eq] at hb
      obtain ⟨⟨⟨⟨⟨⟨⟨⟨⟨⟨⟨⟨⟨⟨⟨⟨⟨⟨⟨⟨⟨⟨⟨⟨⟨⟨⟨⟨rfl, rfl⟩, rfl⟩, rfl⟩, rfl⟩, rfl⟩, rfl⟩, rfl⟩, rfl⟩, rfl⟩, rfl⟩, rfl⟩, rfl⟩, rfl⟩, rfl⟩, rfl⟩, rfl⟩, rfl⟩, rfl⟩, rfl⟩, rfl⟩, rfl⟩, rfl⟩, rfl⟩, rfl⟩, rfl⟩, rfl⟩, rfl⟩, rfl⟩ := hb
      exact blk_loop (S := T91_f4f_0) (ks := E91_f4f_0) (step := S_generic_put_f4f_0 fuel) (v := (_, _, _, _, _, _, _, _, _, _, _, _, _, _, _, _, _, _)) (by kernel_rfl) (by kernel_rfl) (fun R K v => by obtain ⟨x0, x1, x2, x3, x4, x5, x6, x7, x8, x9, x10, x11, x12, x13, x14, x15, x16, x17⟩ := v; exact S91_f4f_0_ok fuel R K x0 x1 x2 x3 x4 x5 x6 x7 x8 x9 x10 x11 x12 x13 x14 x15 x16 x17) hs h
    · cases h
  · cases h
noncomputable def J91_f4f (fuel : Nat) (i : Nat) : Option Ev.Blk := Ev.look i [(100002, B91_f4f_2 fuel), (100000, B91_f4f_0 fuel)]
noncomputable def F_generic_put_f4f (fuel : Nat) (x0 : Int) (x1 : Int) (x2 : Int) (x3 : Int) (x4 : Bool) (x5 : Int) (x6 : Int) (x7 : Int) (x8 : (List Int)) (x9 : Int) (x10 : Int) (x11 : (List Int)) (k0 : (Unit) → Option Ans) : Option Ans :=
  (F_generic_newPlane fuel (x1) (x2) (x3) (x4) (x5) (x6) (x7)
    (fun (y2_0, y2_1, y2_2, y2_3) =>
      (L_generic_put_f4f_0 fuel (x0, x7, (0 : Int), x1, x2, x3, x4, x5, x6, x7, x8, x9, x10, x11, y2_0, y2_1, x8, y2_3)
        (fun () =>
          k0 ()))))
abbrev YF91_f4f : Type := (Int) → (Int) → (Int) → (Int) → (Bool) → (Int) → (Int) → (Int) → ((List Int)) → (Int) → (Int) → ((List Int)) → ((Unit) → Option Ans) → Option Ans
theorem F91_f4f_eqg (fuel : Nat) (f90 : YF90) (f97 : YF97) (f99_9ef : YF99_9ef) (f158_a34 : YF158_a34) (f161 : YF161) (f162_b9e : YF162_b9e) (f163 : YF163) (x0 : Int) (x1 : Int) (x2 : Int) (x3 : Int) (x4 : Bool) (x5 : Int) (x6 : Int) (x7 : Int) (x8 : (List Int)) (x9 : Int) (x10 : Int) (x11 : (List Int)) (k : Ev.Cont) : evalFn tab (Gg91_f4f f90 f97 f99_9ef f158_a34 f161 f162_b9e f163) (J91_f4f fuel) kp91_f4f fuel Try.f91 [.c (.nilptr), .c (.int .i64 x0), .agg [.int .i64 x1, .int .i64 x2, .int .i64 x3, .bool x4, .int .i64 x5], .agg [.int .i64 x6, .int .i64 x7, .sl (.int .u8) x8], .agg [.int .i64 x9, .int .i64 x10, .sl (.int .u8) x11]] [] k = (fun  (k0 : (Unit) → Option Ans) =>
  (f97 (x1) (x2) (x3) (x4) (x5) (x6) (x7)
    (fun (y2_0, y2_1, y2_2, y2_3) =>
      (L_generic_put_f4f_0 fuel (x0, x7, (0 : Int), x1, x2, x3, x4, x5, x6, x7, x8, x9, x10, x11, y2_0, y2_1, x8, y2_3)
        (fun () =>
          k0 ()))))) (fun r => match r with | () => k (.tup [], [])) := by
  kernel_rfl
theorem F91_f4f_eq (fuel : Nat) (x0 : Int) (x1 : Int) (x2 : Int) (x3 : Int) (x4 : Bool) (x5 : Int) (x6 : Int) (x7 : Int) (x8 : (List Int)) (x9 : Int) (x10 : Int) (x11 : (List Int)) (k : Ev.Cont) : evalFn tab (G91_f4f fuel) (J91_f4f fuel) kp91_f4f fuel Try.f91 [.c (.nilptr), .c (.int .i64 x0), .agg [.int .i64 x1, .int .i64 x2, .int .i64 x3, .bool x4, .int .i64 x5], .agg [.int .i64 x6, .int .i64 x7, .sl (.int .u8) x8], .agg [.int .i64 x9, .int .i64 x10, .sl (.int .u8) x11]] [] k = F_generic_put_f4f fuel x0 x1 x2 x3 x4 x5 x6 x7 x8 x9 x10 x11 (fun r => match r with | () => k (.tup [], [])) :=
  F91_f4f_eqg fuel (F_generic_contexts fuel) (F_generic_newPlane fuel) (F_coder_Encoder_Put_9ef fuel) (F_generic_plane_context_a34 fuel) (F_bytes_Equal fuel) (F_generic_plane_above_b9e fuel) (F_generic_skips fuel) x0 x1 x2 x3 x4 x5 x6 x7 x8 x9 x10 x11 k
theorem hG91_f4f (fuel : Nat) : GOK Try.prog (G91_f4f fuel) :=
  gok_cons ⟨ok90 fuel, enters_of Try.func90 (by kernel_rfl) rfl⟩ <|
  gok_cons ⟨ok97 fuel, enters_of Try.func97 (by kernel_rfl) rfl⟩ <|
  gok_cons ⟨ok99_9ef fuel, enters_of Try.func99 (by kernel_rfl) rfl⟩ <|
  gok_cons ⟨ok158_a34 fuel, enters_of Try.func158 (by kernel_rfl) rfl⟩ <|
  gok_cons ⟨ok161 fuel, enters_of Try.func161 (by kernel_rfl) rfl⟩ <|
  gok_cons ⟨ok162_b9e fuel, enters_of Try.func162 (by kernel_rfl) rfl⟩ <|
  gok_cons ⟨ok163 fuel, enters_of Try.func163 (by kernel_rfl) rfl⟩ <|
  gok_nil
theorem B91_f4f_2_blk (fuel : Nat) : BlkOK Try.prog Try.f91.ntmps (.block 2 (.loop (bodyOf 2 Try.f91))) (B91_f4f_2 fuel) :=
  blk_of (blk_of_code tab_ok (hG91_f4f fuel) mixed (J := J91_f4f_2 fuel) (kp := kp91_f4f) (fuel := fuel) (by kernel_rfl) (fun q hq => by
    rw [(by kernel_rfl : obl (J91_f4f_2 fuel) (.block 2 (.loop (bodyOf 2 Try.f91))) = [])] at hq
    cases hq)) (B91_f4f_2_ok fuel)
theorem B91_f4f_0_blk (fuel : Nat) : BlkOK Try.prog Try.f91.ntmps (.block 0 (.loop (bodyOf 0 Try.f91))) (B91_f4f_0 fuel) :=
  blk_of (blk_of_code tab_ok (hG91_f4f fuel) mixed (J := J91_f4f_0 fuel) (kp := kp91_f4f) (fuel := fuel) (by kernel_rfl) (fun q hq => by
    rw [(by kernel_rfl : obl (J91_f4f_0 fuel) (.block 0 (.loop (bodyOf 0 Try.f91))) = [(.block 2 (.loop (bodyOf 2 Try.f91)), B91_f4f_2 fuel)])] at hq
    simp only [List.mem_cons, List.not_mem_nil, or_false] at hq
    subst hq
    · exact B91_f4f_2_blk fuel)) (B91_f4f_0_ok fuel)
theorem fok91_f4f (fuel : Nat) : FnOK Try.prog 91 (evalFn tab (G91_f4f fuel) (J91_f4f fuel) kp91_f4f fuel Try.f91) :=
  fn_ok tab_ok (hG91_f4f fuel) mixed Try.func91 (c := (Try.f91.body).getD .skip) rfl (fun q hq => by
    rw [(by kernel_rfl : obl (J91_f4f fuel) ((Try.f91.body).getD .skip) = [(.block 0 (.loop (bodyOf 0 Try.f91)), B91_f4f_0 fuel)])] at hq
    simp only [List.mem_cons, List.not_mem_nil, or_false] at hq
    subst hq
    · exact B91_f4f_0_blk fuel)
noncomputable def mt91_f4f : List Ev.SV → List Ev.Ob → Bool := fun args objs => match args, objs with
  | [.c (.nilptr), .c (.int .i64 _), .agg [.int .i64 _, .int .i64 _, .int .i64 _, .bool _, .int .i64 _], .agg [.int .i64 _, .int .i64 _, .sl (.int .u8) _], .agg [.int .i64 _, .int .i64 _, .sl (.int .u8) _]], [] => true
  | _, _ => false
noncomputable def spg91_f4f (F : YF91_f4f) : Ev.Spec := fun args objs k => match args, objs with
  | [.c (.nilptr), .c (.int .i64 x0), .agg [.int .i64 x1, .int .i64 x2, .int .i64 x3, .bool x4, .int .i64 x5], .agg [.int .i64 x6, .int .i64 x7, .sl (.int .u8) x8], .agg [.int .i64 x9, .int .i64 x10, .sl (.int .u8) x11]], [] => bif true then F x0 x1 x2 x3 x4 x5 x6 x7 x8 x9 x10 x11 (fun r => match r with | () => k (.tup [], [])) else none
  | _, _ => none
noncomputable def spec91_f4f (fuel : Nat) : Ev.Spec := spg91_f4f (F_generic_put_f4f fuel)
theorem ok91_f4f (fuel : Nat) : FnOK Try.prog 91 (spec91_f4f fuel) := by
  intro args objs kk r h
  unfold spec91_f4f spg91_f4f at h
  split at h
  · skip
    obtain ⟨hb, h⟩ := cond_some' h
    simp only [Bool.and_eq_true, Nat.beq_eq, decide_eq_true_eq] at hb
    clear hb
    exact fok91_f4f fuel _ _ kk r ((F91_f4f_eq fuel _ _ _ _ _ _ _ _ _ _ _ _ kk).trans h)
  · cases h
end Go.Proofs.Ytihfgpfofmjbaaa

set_option linter.unusedVariables false
set_option linter.unusedSimpArgs false
set_option maxRecDepth 100000
set_option maxHeartbeats 2000000
namespace Go.Proofs.Ytihfgpfofmjbaaa
open Go Ev
def kp33_f4f (i : Nat) : Option (List Nat) := Ev.look i [(200009, [7, 8, 9])]
noncomputable def Gg33_f4f (f88 : YF88) (f89 : YF89) (f91_f4f : YF91_f4f) (f94 : YF94) (f95 : YF95) (f99_9ef : YF99_9ef) (f100 : YF100) (f101_975 : YF101_975) (f : Nat) : Option Ev.Spec := Ev.look f [(88, spg88 f88), (89, spg89 f89), (91, spg91_f4f f91_f4f), (94, spg94 f94), (95, spg95 f95), (99, spg99_9ef f99_9ef), (100, spg100 f100), (101, spg101_975 f101_975)]
noncomputable def G33_f4f (fuel : Nat) : Nat → Option Ev.Spec := Gg33_f4f (F_generic_Valid fuel) (F_bitmap_Valid fuel) (F_generic_put_f4f fuel) (F_generic_sides fuel) (F_generic_fits fuel) (F_coder_Encoder_Put_9ef fuel) (F_generic_clash fuel) (F_coder_Encoder_Model_975 fuel)
noncomputable def J33_f4f (fuel : Nat) (i : Nat) : Option Ev.Blk := Ev.look i []
noncomputable def F_generic_Put_f4f (fuel : Nat) (x0 : Int) (x1 : Int) (x2 : Int) (x3 : Int) (x4 : Bool) (x5 : Int) (x6 : Int) (x7 : Int) (x8 : (List Int)) (x9 : Int) (x10 : Int) (x11 : (List Int)) (k0 : (Int) → Option Ans) : Option Ans :=
  (F_coder_Encoder_Put_9ef fuel ((-1 : Int)) ((0 : Int))
    (fun y2 =>
      bif y2 == (7 : Int) then
       k0 ((7 : Int))
      else
       (F_generic_Valid fuel (x1) (x2) (x3) (x4) (x5)
         (fun y7 =>
           bif !y7 then
            k0 ((2 : Int))
           else
            (F_bitmap_Valid fuel (x6) (x7) (x8)
              (fun y12 =>
                bif !y12 then
                 k0 ((30 : Int))
                else
                 (F_bitmap_Valid fuel (x9) (x10) (x11)
                   (fun y17 =>
                     bif !y17 then
                      k0 ((30 : Int))
                     else
                      (F_generic_clash fuel (x6) (x7) (x8) (x9) (x10) (x11)
                        (fun y22 =>
                          bif y22 then
                           k0 ((30 : Int))
                          else
                           (F_generic_sides fuel (x9) (x10) (x11) (x6) (x7)
                             (fun y27 =>
                               bif !y27 then
                                k0 ((2 : Int))
                               else
                                (F_coder_Encoder_Model_975 fuel
                                  (fun (y32_0, y32_1) =>
                                    (F_generic_fits fuel (y32_0) (y32_1) (x0) (x1) (x2) (x3) (x4) (x5)
                                      (fun y36 =>
                                        bif !y36 then
                                         k0 ((2 : Int))
                                        else
                                         (F_generic_put_f4f fuel (x0) (x1) (x2) (x3) (x4) (x5) (x6) (x7) (x8) (x9) (x10) (x11)
                                           (fun y41 =>
                                             k0 ((0 : Int))))))))))))))))))))
abbrev YF33_f4f : Type := (Int) → (Int) → (Int) → (Int) → (Bool) → (Int) → (Int) → (Int) → ((List Int)) → (Int) → (Int) → ((List Int)) → ((Int) → Option Ans) → Option Ans
theorem F33_f4f_eqg (fuel : Nat) (f88 : YF88) (f89 : YF89) (f91_f4f : YF91_f4f) (f94 : YF94) (f95 : YF95) (f99_9ef : YF99_9ef) (f100 : YF100) (f101_975 : YF101_975) (x0 : Int) (x1 : Int) (x2 : Int) (x3 : Int) (x4 : Bool) (x5 : Int) (x6 : Int) (x7 : Int) (x8 : (List Int)) (x9 : Int) (x10 : Int) (x11 : (List Int)) (k : Ev.Cont) : evalFn tab (Gg33_f4f f88 f89 f91_f4f f94 f95 f99_9ef f100 f101_975) (J33_f4f fuel) kp33_f4f fuel Try.f33 [.c (.nilptr), .c (.int .i64 x0), .agg [.int .i64 x1, .int .i64 x2, .int .i64 x3, .bool x4, .int .i64 x5], .agg [.int .i64 x6, .int .i64 x7, .sl (.int .u8) x8], .agg [.int .i64 x9, .int .i64 x10, .sl (.int .u8) x11]] [] k = (fun  (k0 : (Int) → Option Ans) =>
  (f99_9ef ((-1 : Int)) ((0 : Int))
    (fun y2 =>
      bif y2 == (7 : Int) then
       k0 ((7 : Int))
      else
       (f88 (x1) (x2) (x3) (x4) (x5)
         (fun y7 =>
           bif !y7 then
            k0 ((2 : Int))
           else
            (f89 (x6) (x7) (x8)
              (fun y12 =>
                bif !y12 then
                 k0 ((30 : Int))
                else
                 (f89 (x9) (x10) (x11)
                   (fun y17 =>
                     bif !y17 then
                      k0 ((30 : Int))
                     else
                      (f100 (x6) (x7) (x8) (x9) (x10) (x11)
                        (fun y22 =>
                          bif y22 then
                           k0 ((30 : Int))
                          else
                           (f94 (x9) (x10) (x11) (x6) (x7)
                             (fun y27 =>
                               bif !y27 then
                                k0 ((2 : Int))
                               else
                                (f101_975
                                  (fun (y32_0, y32_1) =>
                                    (f95 (y32_0) (y32_1) (x0) (x1) (x2) (x3) (x4) (x5)
                                      (fun y36 =>
                                        bif !y36 then
                                         k0 ((2 : Int))
                                        else
                                         (f91_f4f (x0) (x1) (x2) (x3) (x4) (x5) (x6) (x7) (x8) (x9) (x10) (x11)
                                           (fun y41 =>
                                             k0 ((0 : Int))))))))))))))))))))) (fun r => match r with | r0 => k (.c (.int .i64 r0), [])) := by
  kernel_rfl
theorem F33_f4f_eq (fuel : Nat) (x0 : Int) (x1 : Int) (x2 : Int) (x3 : Int) (x4 : Bool) (x5 : Int) (x6 : Int) (x7 : Int) (x8 : (List Int)) (x9 : Int) (x10 : Int) (x11 : (List Int)) (k : Ev.Cont) : evalFn tab (G33_f4f fuel) (J33_f4f fuel) kp33_f4f fuel Try.f33 [.c (.nilptr), .c (.int .i64 x0), .agg [.int .i64 x1, .int .i64 x2, .int .i64 x3, .bool x4, .int .i64 x5], .agg [.int .i64 x6, .int .i64 x7, .sl (.int .u8) x8], .agg [.int .i64 x9, .int .i64 x10, .sl (.int .u8) x11]] [] k = F_generic_Put_f4f fuel x0 x1 x2 x3 x4 x5 x6 x7 x8 x9 x10 x11 (fun r => match r with | r0 => k (.c (.int .i64 r0), [])) :=
  F33_f4f_eqg fuel (F_generic_Valid fuel) (F_bitmap_Valid fuel) (F_generic_put_f4f fuel) (F_generic_sides fuel) (F_generic_fits fuel) (F_coder_Encoder_Put_9ef fuel) (F_generic_clash fuel) (F_coder_Encoder_Model_975 fuel) x0 x1 x2 x3 x4 x5 x6 x7 x8 x9 x10 x11 k
theorem hG33_f4f (fuel : Nat) : GOK Try.prog (G33_f4f fuel) :=
  gok_cons ⟨ok88 fuel, enters_of Try.func88 (by kernel_rfl) rfl⟩ <|
  gok_cons ⟨ok89 fuel, enters_of Try.func89 (by kernel_rfl) rfl⟩ <|
  gok_cons ⟨ok91_f4f fuel, enters_of Try.func91 (by kernel_rfl) rfl⟩ <|
  gok_cons ⟨ok94 fuel, enters_of Try.func94 (by kernel_rfl) rfl⟩ <|
  gok_cons ⟨ok95 fuel, enters_of Try.func95 (by kernel_rfl) rfl⟩ <|
  gok_cons ⟨ok99_9ef fuel, enters_of Try.func99 (by kernel_rfl) rfl⟩ <|
  gok_cons ⟨ok100 fuel, enters_of Try.func100 (by kernel_rfl) rfl⟩ <|
  gok_cons ⟨ok101_975 fuel, enters_of Try.func101 (by kernel_rfl) rfl⟩ <|
  gok_nil
theorem fok33_f4f (fuel : Nat) : FnOK Try.prog 33 (evalFn tab (G33_f4f fuel) (J33_f4f fuel) kp33_f4f fuel Try.f33) :=
  fn_ok tab_ok (hG33_f4f fuel) mixed Try.func33 (c := (Try.f33.body).getD .skip) rfl (fun q hq => by
    rw [(by kernel_rfl : obl (J33_f4f fuel) ((Try.f33.body).getD .skip) = [])] at hq
    cases hq)
noncomputable def mt33_f4f : List Ev.SV → List Ev.Ob → Bool := fun args objs => match args, objs with
  | [.c (.nilptr), .c (.int .i64 _), .agg [.int .i64 _, .int .i64 _, .int .i64 _, .bool _, .int .i64 _], .agg [.int .i64 _, .int .i64 _, .sl (.int .u8) _], .agg [.int .i64 _, .int .i64 _, .sl (.int .u8) _]], [] => true
  | _, _ => false
noncomputable def spg33_f4f (F : YF33_f4f) : Ev.Spec := fun args objs k => match args, objs with
  | [.c (.nilptr), .c (.int .i64 x0), .agg [.int .i64 x1, .int .i64 x2, .int .i64 x3, .bool x4, .int .i64 x5], .agg [.int .i64 x6, .int .i64 x7, .sl (.int .u8) x8], .agg [.int .i64 x9, .int .i64 x10, .sl (.int .u8) x11]], [] => bif true then F x0 x1 x2 x3 x4 x5 x6 x7 x8 x9 x10 x11 (fun r => match r with | r0 => k (.c (.int .i64 r0), [])) else none
  | _, _ => none
noncomputable def spec33_f4f (fuel : Nat) : Ev.Spec := spg33_f4f (F_generic_Put_f4f fuel)
theorem ok33_f4f (fuel : Nat) : FnOK Try.prog 33 (spec33_f4f fuel) := by
  intro args objs kk r h
  unfold spec33_f4f spg33_f4f at h
  split at h
  · skip
    obtain ⟨hb, h⟩ := cond_some' h
    simp only [Bool.and_eq_true, Nat.beq_eq, decide_eq_true_eq] at hb
    clear hb
    exact fok33_f4f fuel _ _ kk r ((F33_f4f_eq fuel _ _ _ _ _ _ _ _ _ _ _ _ kk).trans h)
  · cases h
end Go.Proofs.Ytihfgpfofmjbaaa

