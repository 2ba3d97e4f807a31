/- incunable/tone.Planes: its typed text, and that the machine does it. -/
import Derived.Test.YtajidgilfkineaaEvU
import Derived.Test.YtajidgilfkineaaFslicesContainsFuncintint69c
set_option linter.unusedVariables false
set_option linter.unusedSimpArgs false
set_option maxRecDepth 100000
namespace Go.Proofs.Ytajidgilfkineaa
open Go Ev
def kp16 (i : Nat) : Option (List Nat) := Ev.look i [(5, [0, 6, 7]), (9, [0, 6, 7, 8, 28, 29, 30]), (100000, [6]), (100002, [0, 6, 7, 8]), (400000, [4, 5]), (400002, [4, 5])]
def Gg16 (f57_69c : YF57_69c) (f : Nat) : Option Ev.Spec := Ev.look f [(57, spg57_69c f57_69c)]
def G16 (fuel : Nat) : Nat → Option Ev.Spec := Gg16 (F_slices_ContainsFunc_int_int_69c fuel)
def S_tone_Planes_2 (fuel : Nat) (v : (List Int) × Int × (List Int) × Int × Int × (List (List Int)) × (List Int)) (c : ((List Int) × Int × (List Int) × Int × Int × (List (List Int)) × (List Int)) → Option Ans) (B : ((List Int) × Int × (List (List Int)) × (List Int) → Option Ans)) : Option Ans := match v, B with
  | (x0, x1, x2, x3, x4, x5, x6), b =>
   bif Decidable.decide (x4 < x3) then
      bif Decidable.decide ((0 : Int) ≤ x4 ∧ x4 < (↑x2.length : Int)) then
      bif Decidable.decide (x1 < (0 : Int)) then
        none
       else
        bif Decidable.decide (Go.IntKind.i64.wrap (x1 + (1 : Int)) < (0 : Int)) then
         none
        else
         bif Decidable.decide ((x6.length + [Go.IntKind.u8.wrap (Ev.iand Go.IntKind.i64 (Ev.ixor Go.IntKind.i64 (Ev.ishr Go.IntKind.i64 (x2.getD x4.toNat (0 : Int)) x1) (Ev.ishr Go.IntKind.i64 (x2.getD x4.toNat (0 : Int)) (Go.IntKind.i64.wrap (x1 + (1 : Int))))) (1 : Int))].length) * (1 : Nat) ≤ (140737488355328 : Nat) ∧ x6.length + [Go.IntKind.u8.wrap (Ev.iand Go.IntKind.i64 (Ev.ixor Go.IntKind.i64 (Ev.ishr Go.IntKind.i64 (x2.getD x4.toNat (0 : Int)) x1) (Ev.ishr Go.IntKind.i64 (x2.getD x4.toNat (0 : Int)) (Go.IntKind.i64.wrap (x1 + (1 : Int))))) (1 : Int))].length ≤ (140737488355328 : Nat)) then
         c (x0, x1, x2, x3, Go.IntKind.i64.wrap (x4 + (1 : Int)), x5, x6 ++ [Go.IntKind.u8.wrap (Ev.iand Go.IntKind.i64 (Ev.ixor Go.IntKind.i64 (Ev.ishr Go.IntKind.i64 (x2.getD x4.toNat (0 : Int)) x1) (Ev.ishr Go.IntKind.i64 (x2.getD x4.toNat (0 : Int)) (Go.IntKind.i64.wrap (x1 + (1 : Int))))) (1 : Int))])
         else none
      else none
     else
      b (x0, x1, x5, x6)
def L_tone_Planes_2 (fuel : Nat) (v : (List Int) × Int × (List Int) × Int × Int × (List (List Int)) × (List Int)) (b : ((List Int) × Int × (List (List Int)) × (List Int) → Option Ans)) : Option Ans := iter (S_tone_Planes_2 fuel) fuel v b
def J16_2 (fuel : Nat) (i : Nat) : Option Ev.Blk := Ev.look i []
def T16_2 (v : (List Int) × Int × (List Int) × Int × Int × (List (List Int)) × (List Int)) : Ev.St := match v with | (x0, x1, x2, x3, x4, x5, x6) => ⟨[(0, .c (.sl (.int .i64) x0)), (6, .c (.own 0)), (7, .c (.int .i64 x1)), (8, .c (.own 1)), (28, .c (.sl (.int .i64) x2)), (29, .c (.int .i64 x3)), (30, .c (.int .i64 x4))], [(0, .vec 28 (.sl (.int .u8)) x5 true), (1, .vec 5 (.int .u8) x6 true)], 2, 0⟩
def E16_2 (K : Ev.Ex → Ev.St → Option Ans) : ((List Int) × Int × (List (List Int)) × (List Int) → Option Ans) := (fun v => match v with | (x0, x1, x2, x3) => K .normal ⟨[(0, .c (.sl (.int .i64) x0)), (6, .c (.own 0)), (7, .c (.int .i64 x1)), (8, .c (.own 1))], [(0, .vec 28 (.sl (.int .u8)) x2 true), (1, .vec 5 (.int .u8) x3 true)], 2, 0⟩)
theorem S16_2_okg (fuel : Nat) (f57_69c : YF57_69c) (R : Ev.St → Option Ans) (K : Ev.Ex → Ev.St → Option Ans) (x0 : (List Int)) (x1 : Int) (x2 : (List Int)) (x3 : Int) (x4 : Int) (x5 : (List (List Int))) (x6 : (List Int)) : evalCode tab (Gg16 f57_69c) (J16_2 fuel) kp16 fuel (bodyOf 2 Try.f16) (T16_2 (x0, x1, x2, x3, x4, x5, x6)) (lc kp16 9 2 R K) = (fun (c : ((List Int) × Int × (List Int) × Int × Int × (List (List Int)) × (List Int)) → Option Ans) (B : ((List Int) × Int × (List (List Int)) × (List Int) → Option Ans)) => match B with
  | b =>
   bif Decidable.decide (x4 < x3) then
      bif Decidable.decide ((0 : Int) ≤ x4 ∧ x4 < (↑x2.length : Int)) then
      bif Decidable.decide (x1 < (0 : Int)) then
        none
       else
        bif Decidable.decide (Go.IntKind.i64.wrap (x1 + (1 : Int)) < (0 : Int)) then
         none
        else
         bif Decidable.decide ((x6.length + [Go.IntKind.u8.wrap (Ev.iand Go.IntKind.i64 (Ev.ixor Go.IntKind.i64 (Ev.ishr Go.IntKind.i64 (x2.getD x4.toNat (0 : Int)) x1) (Ev.ishr Go.IntKind.i64 (x2.getD x4.toNat (0 : Int)) (Go.IntKind.i64.wrap (x1 + (1 : Int))))) (1 : Int))].length) * (1 : Nat) ≤ (140737488355328 : Nat) ∧ x6.length + [Go.IntKind.u8.wrap (Ev.iand Go.IntKind.i64 (Ev.ixor Go.IntKind.i64 (Ev.ishr Go.IntKind.i64 (x2.getD x4.toNat (0 : Int)) x1) (Ev.ishr Go.IntKind.i64 (x2.getD x4.toNat (0 : Int)) (Go.IntKind.i64.wrap (x1 + (1 : Int))))) (1 : Int))].length ≤ (140737488355328 : Nat)) then
         c (x0, x1, x2, x3, Go.IntKind.i64.wrap (x4 + (1 : Int)), x5, x6 ++ [Go.IntKind.u8.wrap (Ev.iand Go.IntKind.i64 (Ev.ixor Go.IntKind.i64 (Ev.ishr Go.IntKind.i64 (x2.getD x4.toNat (0 : Int)) x1) (Ev.ishr Go.IntKind.i64 (x2.getD x4.toNat (0 : Int)) (Go.IntKind.i64.wrap (x1 + (1 : Int))))) (1 : Int))])
         else none
      else none
     else
      b (x0, x1, x5, x6)) (fun v => R (T16_2 v)) (E16_2 K) := by
  kernel_rfl
theorem S16_2_ok (fuel : Nat) (R : Ev.St → Option Ans) (K : Ev.Ex → Ev.St → Option Ans) (x0 : (List Int)) (x1 : Int) (x2 : (List Int)) (x3 : Int) (x4 : Int) (x5 : (List (List Int))) (x6 : (List Int)) : evalCode tab (G16 fuel) (J16_2 fuel) kp16 fuel (bodyOf 2 Try.f16) (T16_2 (x0, x1, x2, x3, x4, x5, x6)) (lc kp16 9 2 R K) = S_tone_Planes_2 fuel (x0, x1, x2, x3, x4, x5, x6) (fun v => R (T16_2 v)) (E16_2 K) :=
  S16_2_okg fuel (F_slices_ContainsFunc_int_int_69c fuel) R K x0 x1 x2 x3 x4 x5 x6
def B16_2 (fuel : Nat) : Ev.Blk := fun st K => match canonO (kp16 9) st with
  | some s => (match s with
    | ⟨[(q0, .c (.sl (.int .i64) x0)), (q1, .c (.own q2)), (q3, .c (.int .i64 x1)), (q4, .c (.own q5)), (q6, .c (.sl (.int .i64) x2)), (q7, .c (.int .i64 x3)), (q8, .c (.int .i64 x4))], [(q9, .vec q10 (.sl (.int .u8)) x5 true), (q11, .vec q12 (.int .u8) x6 true)], q13, q14⟩ => bif Nat.beq q0 0 && Nat.beq q1 6 && Nat.beq q2 0 && Nat.beq q3 7 && Nat.beq q4 8 && Nat.beq q5 1 && Nat.beq q6 28 && Nat.beq q7 29 && Nat.beq q8 30 && Nat.beq q9 0 && Nat.beq q10 28 && Nat.beq q11 1 && Nat.beq q12 5 && Nat.beq q13 2 && Nat.beq q14 0 then iter (S_tone_Planes_2 fuel) fuel (x0, x1, x2, x3, x4, x5, x6) (E16_2 K) else none
    | _ => none)
  | none => none
theorem B16_2_ok (fuel : Nat) (st : Ev.St) (K : Ev.Ex → Ev.St → Option Ans) (r : Ans) (h : B16_2 fuel st K = some r) : evalCode tab (G16 fuel) (J16_2 fuel) kp16 fuel (.block 2 (.loop (bodyOf 2 Try.f16))) st K = some r := by
  unfold B16_2 at h
  split at h
  · rename_i s hs
    split at h
    · obtain ⟨hb, h⟩ := cond_some' h
      simp only [Bool.and_eq_true, Nat.beq_eq, decide_eq_true_eq] at hb
      obtain ⟨⟨⟨⟨⟨⟨⟨⟨⟨⟨⟨⟨⟨⟨rfl, rfl⟩, rfl⟩, rfl⟩, rfl⟩, rfl⟩, rfl⟩, rfl⟩, rfl⟩, rfl⟩, rfl⟩, rfl⟩, rfl⟩, rfl⟩, rfl⟩ := hb
      exact blk_loop (S := T16_2) (ks := E16_2) (step := S_tone_Planes_2 fuel) (v := (_, _, _, _, _, _, _)) (by kernel_rfl) (by kernel_rfl) (fun R K v => by obtain ⟨x0, x1, x2, x3, x4, x5, x6⟩ := v; exact S16_2_ok fuel R K x0 x1 x2 x3 x4 x5 x6) hs h
    · cases h
  · cases h
def S_tone_Planes_0 (fuel : Nat) (v : (List Int) × Int × (List (List Int))) (c : ((List Int) × Int × (List (List Int))) → Option Ans) (B : ((List (List Int)) → Option Ans)) : Option Ans := match v, B with
  | (x0, x1, x2), b =>
   bif Decidable.decide (x1 ≥ (0 : Int)) then
      (L_tone_Planes_2 fuel (x0, x1, x0, (↑x0.length : Int), (0 : Int), x2, [])
        (fun (b2_0, b2_1, b2_2, b2_3) =>
          bif Decidable.decide ((b2_2.length + [b2_3].length) * (24 : Nat) ≤ (140737488355328 : Nat) ∧ b2_2.length + [b2_3].length ≤ (140737488355328 : Nat)) then
          c (b2_0, Go.IntKind.i64.wrap (b2_1 - (1 : Int)), b2_2 ++ [b2_3])
          else none))
     else
      b x2
def L_tone_Planes_0 (fuel : Nat) (v : (List Int) × Int × (List (List Int))) (b : ((List (List Int)) → Option Ans)) : Option Ans := iter (S_tone_Planes_0 fuel) fuel v b
def J16_0 (fuel : Nat) (i : Nat) : Option Ev.Blk := Ev.look i [(100002, B16_2 fuel)]
def T16_0 (v : (List Int) × Int × (List (List Int))) : Ev.St := match v with | (x0, x1, x2) => ⟨[(0, .c (.sl (.int .i64) x0)), (6, .c (.own 0)), (7, .c (.int .i64 x1))], [(0, .vec 28 (.sl (.int .u8)) x2 true)], 1, 0⟩
def E16_0 (K : Ev.Ex → Ev.St → Option Ans) : ((List (List Int)) → Option Ans) := (fun v => match v with | x0 => K .normal ⟨[(6, .c (.own 0))], [(0, .vec 28 (.sl (.int .u8)) x0 true)], 1, 0⟩)
theorem S16_0_okg (fuel : Nat) (f57_69c : YF57_69c) (R : Ev.St → Option Ans) (K : Ev.Ex → Ev.St → Option Ans) (x0 : (List Int)) (x1 : Int) (x2 : (List (List Int))) : evalCode tab (Gg16 f57_69c) (J16_0 fuel) kp16 fuel (bodyOf 0 Try.f16) (T16_0 (x0, x1, x2)) (lc kp16 5 0 R K) = (fun (c : ((List Int) × Int × (List (List Int))) → Option Ans) (B : ((List (List Int)) → Option Ans)) => match B with
  | b =>
   bif Decidable.decide (x1 ≥ (0 : Int)) then
      (L_tone_Planes_2 fuel (x0, x1, x0, (↑x0.length : Int), (0 : Int), x2, [])
        (fun (b2_0, b2_1, b2_2, b2_3) =>
          bif Decidable.decide ((b2_2.length + [b2_3].length) * (24 : Nat) ≤ (140737488355328 : Nat) ∧ b2_2.length + [b2_3].length ≤ (140737488355328 : Nat)) then
          c (b2_0, Go.IntKind.i64.wrap (b2_1 - (1 : Int)), b2_2 ++ [b2_3])
          else none))
     else
      b x2) (fun v => R (T16_0 v)) (E16_0 K) := by
  kernel_rfl
theorem S16_0_ok (fuel : Nat) (R : Ev.St → Option Ans) (K : Ev.Ex → Ev.St → Option Ans) (x0 : (List Int)) (x1 : Int) (x2 : (List (List Int))) : evalCode tab (G16 fuel) (J16_0 fuel) kp16 fuel (bodyOf 0 Try.f16) (T16_0 (x0, x1, x2)) (lc kp16 5 0 R K) = S_tone_Planes_0 fuel (x0, x1, x2) (fun v => R (T16_0 v)) (E16_0 K) :=
  S16_0_okg fuel (F_slices_ContainsFunc_int_int_69c fuel) R K x0 x1 x2
def B16_0 (fuel : Nat) : Ev.Blk := fun st K => match canonO (kp16 5) st with
  | some s => (match s with
    | ⟨[(q0, .c (.sl (.int .i64) x0)), (q1, .c (.own q2)), (q3, .c (.int .i64 x1))], [(q4, .vec q5 (.sl (.int .u8)) x2 true)], q6, q7⟩ => bif Nat.beq q0 0 && Nat.beq q1 6 && Nat.beq q2 0 && Nat.beq q3 7 && Nat.beq q4 0 && Nat.beq q5 28 && Nat.beq q6 1 && Nat.beq q7 0 then iter (S_tone_Planes_0 fuel) fuel (x0, x1, x2) (E16_0 K) else none
    | _ => none)
  | none => none
theorem B16_0_ok (fuel : Nat) (st : Ev.St) (K : Ev.Ex → Ev.St → Option Ans) (r : Ans) (h : B16_0 fuel st K = some r) : evalCode tab (G16 fuel) (J16_0 fuel) kp16 fuel (.block 0 (.loop (bodyOf 0 Try.f16))) st K = some r := by
  unfold B16_0 at h
  split at h
  · rename_i s hs
    split at h
    · obtain ⟨hb, h⟩ := cond_some' h
      simp only [Bool.and_eq_true, Nat.beq_eq, decide_eq_true_eq] at hb
      obtain ⟨⟨⟨⟨⟨⟨⟨rfl, rfl⟩, rfl⟩, rfl⟩, rfl⟩, rfl⟩, rfl⟩, rfl⟩ := hb
      exact blk_loop (S := T16_0) (ks := E16_0) (step := S_tone_Planes_0 fuel) (v := (_, _, _)) (by kernel_rfl) (by kernel_rfl) (fun R K v => by obtain ⟨x0, x1, x2⟩ := v; exact S16_0_ok fuel R K x0 x1 x2) hs h
    · cases h
  · cases h
def J16 (fuel : Nat) (i : Nat) : Option Ev.Blk := Ev.look i [(100002, B16_2 fuel), (100000, B16_0 fuel)]
def F_tone_Planes (fuel : Nat) (x0 : (List Int)) (x1 : Int) (k0 : (Int × (List (List Int))) → Option Ans) : Option Ans :=
  bif Decidable.decide (x1 < (0 : Int)) then
   k0 ((2 : Int), [])
  else
   bif Decidable.decide (x1 > (8 : Int)) then
    k0 ((2 : Int), [])
   else
    (F_slices_ContainsFunc_int_int_69c fuel (x0) (x1)
      (fun (y4_0, y4_1) =>
        bif y4_0 then
         k0 ((2 : Int), [])
        else
         (L_tone_Planes_0 fuel (x0, Go.IntKind.i64.wrap (y4_1 - (1 : Int)), [])
           (fun b0_0 =>
             k0 ((0 : Int), b0_0)))))
abbrev YF16 : Type := ((List Int)) → (Int) → ((Int × (List (List Int))) → Option Ans) → Option Ans
theorem F16_eqg (fuel : Nat) (f57_69c : YF57_69c) (x0 : (List Int)) (x1 : Int) (k : Ev.Cont) : evalFn tab (Gg16 f57_69c) (J16 fuel) kp16 fuel Try.f16 [.c (.sl (.int .i64) x0), .c (.int .i64 x1)] [] k = (fun  (k0 : (Int × (List (List Int))) → Option Ans) =>
  bif Decidable.decide (x1 < (0 : Int)) then
   k0 ((2 : Int), [])
  else
   bif Decidable.decide (x1 > (8 : Int)) then
    k0 ((2 : Int), [])
   else
    (f57_69c (x0) (x1)
      (fun (y4_0, y4_1) =>
        bif y4_0 then
         k0 ((2 : Int), [])
        else
         (L_tone_Planes_0 fuel (x0, Go.IntKind.i64.wrap (y4_1 - (1 : Int)), [])
           (fun b0_0 =>
             k0 ((0 : Int), b0_0)))))) (fun r => match r with | (r0, r1) => k (.tup [(false, [.own 0]), (false, [.int .i64 r0])], [.vec 28 (.sl (.int .u8)) r1 true])) := by
  kernel_rfl
theorem F16_eq (fuel : Nat) (x0 : (List Int)) (x1 : Int) (k : Ev.Cont) : evalFn tab (G16 fuel) (J16 fuel) kp16 fuel Try.f16 [.c (.sl (.int .i64) x0), .c (.int .i64 x1)] [] k = F_tone_Planes fuel x0 x1 (fun r => match r with | (r0, r1) => k (.tup [(false, [.own 0]), (false, [.int .i64 r0])], [.vec 28 (.sl (.int .u8)) r1 true])) :=
  F16_eqg fuel (F_slices_ContainsFunc_int_int_69c fuel) x0 x1 k
theorem hG16 (fuel : Nat) : GOK Try.prog (G16 fuel) :=
  gok_cons ⟨ok57_69c fuel, enters_of Try.func57 (by kernel_rfl) rfl⟩ <|
  gok_nil
theorem B16_2_blk (fuel : Nat) : BlkOK Try.prog Try.f16.ntmps (.block 2 (.loop (bodyOf 2 Try.f16))) (B16_2 fuel) :=
  blk_of (blk_of_code tab_ok (hG16 fuel) mixed (J := J16_2 fuel) (kp := kp16) (fuel := fuel) (by kernel_rfl) (fun q hq => by
    rw [(by kernel_rfl : obl (J16_2 fuel) (.block 2 (.loop (bodyOf 2 Try.f16))) = [])] at hq
    cases hq)) (B16_2_ok fuel)
theorem B16_0_blk (fuel : Nat) : BlkOK Try.prog Try.f16.ntmps (.block 0 (.loop (bodyOf 0 Try.f16))) (B16_0 fuel) :=
  blk_of (blk_of_code tab_ok (hG16 fuel) mixed (J := J16_0 fuel) (kp := kp16) (fuel := fuel) (by kernel_rfl) (fun q hq => by
    rw [(by kernel_rfl : obl (J16_0 fuel) (.block 0 (.loop (bodyOf 0 Try.f16))) = [(.block 2 (.loop (bodyOf 2 Try.f16)), B16_2 fuel)])] at hq
    simp only [List.mem_cons, List.not_mem_nil, or_false] at hq
    subst hq
    · exact B16_2_blk fuel)) (B16_0_ok fuel)
theorem fok16 (fuel : Nat) : FnOK Try.prog 16 (evalFn tab (G16 fuel) (J16 fuel) kp16 fuel Try.f16) :=
  fn_ok tab_ok (hG16 fuel) mixed Try.func16 (c := (Try.f16.body).getD .skip) rfl (fun q hq => by
    rw [(by kernel_rfl : obl (J16 fuel) ((Try.f16.body).getD .skip) = [(.block 0 (.loop (bodyOf 0 Try.f16)), B16_0 fuel)])] at hq
    simp only [List.mem_cons, List.not_mem_nil, or_false] at hq
    subst hq
    · exact B16_0_blk fuel)
def mt16 : List Ev.SV → List Ev.Ob → Bool := fun args objs => match args, objs with
  | [.c (.sl (.int .i64) _), .c (.int .i64 _)], [] => true
  | _, _ => false
def spg16 (F : YF16) : Ev.Spec := fun args objs k => match args, objs with
  | [.c (.sl (.int .i64) x0), .c (.int .i64 x1)], [] => bif true then F x0 x1 (fun r => match r with | (r0, r1) => k (.tup [(false, [.own 0]), (false, [.int .i64 r0])], [.vec 28 (.sl (.int .u8)) r1 true])) else none
  | _, _ => none
def spec16 (fuel : Nat) : Ev.Spec := spg16 (F_tone_Planes fuel)
theorem ok16 (fuel : Nat) : FnOK Try.prog 16 (spec16 fuel) := by
  intro args objs kk r h
  unfold spec16 spg16 at h
  split at h
  · obtain ⟨hb, h⟩ := cond_some' h
    simp only [Bool.and_eq_true, Nat.beq_eq, decide_eq_true_eq] at hb
    clear hb
    exact fok16 fuel _ _ kk r ((F16_eq fuel _ _ kk).trans h)
  · cases h
end Go.Proofs.Ytajidgilfkineaa
