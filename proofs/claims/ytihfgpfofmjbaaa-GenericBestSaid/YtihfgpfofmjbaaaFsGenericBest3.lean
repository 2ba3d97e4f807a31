/- What the functions that GenericBest reaches do: their typed texts, each with the proof that the machine does it. No condition. -/
import Derived.Test.YtihfgpfofmjbaaaEvX
import Derived.Test.YtihfgpfofmjbaaaFsGenericBest2
import Derived.Test.YtihfgpfofmjbaaaFsGenericBest1
set_option linter.unusedVariables false
set_option linter.unusedSimpArgs false
set_option linter.unusedVariables false
set_option linter.unusedSimpArgs false
set_option maxRecDepth 100000
set_option maxHeartbeats 2000000
namespace Go.Proofs.Ytihfgpfofmjbaaa
open Go Ev
def kp180 (i : Nat) : Option (List Nat) := Ev.look i [(200001, [1])]
noncomputable def Gg180 (f205 : YF205) (f : Nat) : Option Ev.Spec := Ev.look f [(205, spg205 f205)]
noncomputable def G180 (fuel : Nat) : Nat → Option Ev.Spec := Gg180 (F_ref07_template fuel)
noncomputable def J180 (fuel : Nat) (i : Nat) : Option Ev.Blk := Ev.look i []
noncomputable def F_ref07_pixels (fuel : Nat) (x0 : Int) (x1 : Int) (x2 : Int) (x3 : Bool) (x4 : Int) (k0 : ((List (Int × Int))) → Option Ans) : Option Ans :=
  both ((F_ref07_template fuel (x0)
      (fun y4 =>
        bif Decidable.decide ((y4.length + [(x1, x2)].length) * (16 : Nat) ≤ (140737488355328 : Nat) ∧ y4.length + [(x1, x2)].length ≤ (140737488355328 : Nat)) then
        k0 (y4 ++ [(x1, x2)])
        else none)))
   (both ((F_ref07_template fuel (x0)
        (fun y6 =>
          bif Decidable.decide ((y6.length + [(x1, x2)].length) * (16 : Nat) ≤ (140737488355328 : Nat) ∧ y6.length + [(x1, x2)].length ≤ (140737488355328 : Nat)) then
          k0 (y6 ++ [(x1, x2)])
          else none)))
     ((F_ref07_template fuel (x0)
        (fun y6 =>
          bif Decidable.decide ((y6.length + [(x1, x2)].length) * (16 : Nat) ≤ (140737488355328 : Nat) ∧ y6.length + [(x1, x2)].length ≤ (140737488355328 : Nat)) then
          k0 (y6 ++ [(x1, x2)])
          else none))))
abbrev YF180 : Type := (Int) → (Int) → (Int) → (Bool) → (Int) → (((List (Int × Int))) → Option Ans) → Option Ans
theorem F180_eqg (fuel : Nat) (f205 : YF205) (x0 : Int) (x1 : Int) (x2 : Int) (x3 : Bool) (x4 : Int) (k : Ev.Cont) : evalFn tab (Gg180 f205) (J180 fuel) kp180 fuel Try.f180 [.agg [.int .i64 x0, .int .i64 x1, .int .i64 x2, .bool x3, .int .i64 x4]] [] k = (fun  (k0 : ((List (Int × Int))) → Option Ans) =>
  both ((f205 (x0)
      (fun y4 =>
        bif Decidable.decide ((y4.length + [(x1, x2)].length) * (16 : Nat) ≤ (140737488355328 : Nat) ∧ y4.length + [(x1, x2)].length ≤ (140737488355328 : Nat)) then
        k0 (y4 ++ [(x1, x2)])
        else none)))
   (both ((f205 (x0)
        (fun y6 =>
          bif Decidable.decide ((y6.length + [(x1, x2)].length) * (16 : Nat) ≤ (140737488355328 : Nat) ∧ y6.length + [(x1, x2)].length ≤ (140737488355328 : Nat)) then
          k0 (y6 ++ [(x1, x2)])
          else none)))
     ((f205 (x0)
        (fun y6 =>
          bif Decidable.decide ((y6.length + [(x1, x2)].length) * (16 : Nat) ≤ (140737488355328 : Nat) ∧ y6.length + [(x1, x2)].length ≤ (140737488355328 : Nat)) then
          k0 (y6 ++ [(x1, x2)])
          else none))))) (fun r => match r with | r0 => k (.c (.own 0), [.vec 223 (.pair (.int .i64) (.int .i64)) r0 true])) := by
  kernel_rfl
theorem F180_eq (fuel : Nat) (x0 : Int) (x1 : Int) (x2 : Int) (x3 : Bool) (x4 : Int) (k : Ev.Cont) : evalFn tab (G180 fuel) (J180 fuel) kp180 fuel Try.f180 [.agg [.int .i64 x0, .int .i64 x1, .int .i64 x2, .bool x3, .int .i64 x4]] [] k = F_ref07_pixels fuel x0 x1 x2 x3 x4 (fun r => match r with | r0 => k (.c (.own 0), [.vec 223 (.pair (.int .i64) (.int .i64)) r0 true])) :=
  F180_eqg fuel (F_ref07_template fuel) x0 x1 x2 x3 x4 k
theorem hG180 (fuel : Nat) : GOK Try.prog (G180 fuel) :=
  gok_cons ⟨ok205 fuel, enters_of Try.func205 (by kernel_rfl) rfl⟩ <|
  gok_nil
theorem fok180 (fuel : Nat) : FnOK Try.prog 180 (evalFn tab (G180 fuel) (J180 fuel) kp180 fuel Try.f180) :=
  fn_ok tab_ok (hG180 fuel) mixed Try.func180 (c := (Try.f180.body).getD .skip) rfl (fun q hq => by
    rw [(by kernel_rfl : obl (J180 fuel) ((Try.f180.body).getD .skip) = [])] at hq
    cases hq)
noncomputable def mt180 : List Ev.SV → List Ev.Ob → Bool := fun args objs => match args, objs with
  | [.agg [.int .i64 _, .int .i64 _, .int .i64 _, .bool _, .int .i64 _]], [] => true
  | _, _ => false
noncomputable def spg180 (F : YF180) : Ev.Spec := fun args objs k => match args, objs with
  | [.agg [.int .i64 x0, .int .i64 x1, .int .i64 x2, .bool x3, .int .i64 x4]], [] => bif true then F x0 x1 x2 x3 x4 (fun r => match r with | r0 => k (.c (.own 0), [.vec 223 (.pair (.int .i64) (.int .i64)) r0 true])) else none
  | _, _ => none
noncomputable def spec180 (fuel : Nat) : Ev.Spec := spg180 (F_ref07_pixels fuel)
theorem ok180 (fuel : Nat) : FnOK Try.prog 180 (spec180 fuel) := by
  intro args objs kk r h
  unfold spec180 spg180 at h
  split at h
  · skip
    obtain ⟨hb, h⟩ := cond_some' h
    simp only [Bool.and_eq_true, Nat.beq_eq, decide_eq_true_eq] at hb
    clear hb
    exact fok180 fuel _ _ kk r ((F180_eq fuel _ _ _ _ _ kk).trans h)
  · cases h
end Go.Proofs.Ytihfgpfofmjbaaa

set_option linter.unusedVariables false
set_option linter.unusedSimpArgs false
set_option maxRecDepth 100000
set_option maxHeartbeats 2000000
namespace Go.Proofs.Ytihfgpfofmjbaaa
open Go Ev
def kp122 (i : Nat) : Option (List Nat) := Ev.look i []
noncomputable def Gg122 (f109 : YF109) (f180 : YF180) (f : Nat) : Option Ev.Spec := Ev.look f [(109, spg109 f109), (180, spg180 f180)]
noncomputable def G122 (fuel : Nat) : Nat → Option Ev.Spec := Gg122 (F_ref07_Valid fuel) (F_ref07_pixels fuel)
noncomputable def J122 (fuel : Nat) (i : Nat) : Option Ev.Blk := Ev.look i []
noncomputable def F_ref07_Size (fuel : Nat) (x0 : Int) (x1 : Int) (x2 : Int) (x3 : Bool) (x4 : Int) (k0 : (Int × Int) → Option Ans) : Option Ans :=
  (F_ref07_Valid fuel (x0) (x1) (x2) (x3) (x4)
    (fun y2 =>
      bif !y2 then
       k0 ((0 : Int), (2 : Int))
      else
       (F_ref07_pixels fuel (x0) (x1) (x2) (x3) (x4)
         (fun y7 =>
           k0 (Go.IntKind.i64.wrap (Ev.ishl Go.IntKind.i64 (1 : Int) (↑y7.length : Int) + (1 : Int)), (0 : Int))))))
abbrev YF122 : Type := (Int) → (Int) → (Int) → (Bool) → (Int) → ((Int × Int) → Option Ans) → Option Ans
theorem F122_eqg (fuel : Nat) (f109 : YF109) (f180 : YF180) (x0 : Int) (x1 : Int) (x2 : Int) (x3 : Bool) (x4 : Int) (k : Ev.Cont) : evalFn tab (Gg122 f109 f180) (J122 fuel) kp122 fuel Try.f122 [.agg [.int .i64 x0, .int .i64 x1, .int .i64 x2, .bool x3, .int .i64 x4]] [] k = (fun  (k0 : (Int × Int) → Option Ans) =>
  (f109 (x0) (x1) (x2) (x3) (x4)
    (fun y2 =>
      bif !y2 then
       k0 ((0 : Int), (2 : Int))
      else
       (f180 (x0) (x1) (x2) (x3) (x4)
         (fun y7 =>
           k0 (Go.IntKind.i64.wrap (Ev.ishl Go.IntKind.i64 (1 : Int) (↑y7.length : Int) + (1 : Int)), (0 : Int))))))) (fun r => match r with | (r0, r1) => k (.tup [(false, [.int .i64 r0]), (false, [.int .i64 r1])], [])) := by
  kernel_rfl
theorem F122_eq (fuel : Nat) (x0 : Int) (x1 : Int) (x2 : Int) (x3 : Bool) (x4 : Int) (k : Ev.Cont) : evalFn tab (G122 fuel) (J122 fuel) kp122 fuel Try.f122 [.agg [.int .i64 x0, .int .i64 x1, .int .i64 x2, .bool x3, .int .i64 x4]] [] k = F_ref07_Size fuel x0 x1 x2 x3 x4 (fun r => match r with | (r0, r1) => k (.tup [(false, [.int .i64 r0]), (false, [.int .i64 r1])], [])) :=
  F122_eqg fuel (F_ref07_Valid fuel) (F_ref07_pixels fuel) x0 x1 x2 x3 x4 k
theorem hG122 (fuel : Nat) : GOK Try.prog (G122 fuel) :=
  gok_cons ⟨ok109 fuel, enters_of Try.func109 (by kernel_rfl) rfl⟩ <|
  gok_cons ⟨ok180 fuel, enters_of Try.func180 (by kernel_rfl) rfl⟩ <|
  gok_nil
theorem fok122 (fuel : Nat) : FnOK Try.prog 122 (evalFn tab (G122 fuel) (J122 fuel) kp122 fuel Try.f122) :=
  fn_ok tab_ok (hG122 fuel) mixed Try.func122 (c := (Try.f122.body).getD .skip) rfl (fun q hq => by
    rw [(by kernel_rfl : obl (J122 fuel) ((Try.f122.body).getD .skip) = [])] at hq
    cases hq)
noncomputable def mt122 : List Ev.SV → List Ev.Ob → Bool := fun args objs => match args, objs with
  | [.agg [.int .i64 _, .int .i64 _, .int .i64 _, .bool _, .int .i64 _]], [] => true
  | _, _ => false
noncomputable def spg122 (F : YF122) : Ev.Spec := fun args objs k => match args, objs with
  | [.agg [.int .i64 x0, .int .i64 x1, .int .i64 x2, .bool x3, .int .i64 x4]], [] => bif true then F x0 x1 x2 x3 x4 (fun r => match r with | (r0, r1) => k (.tup [(false, [.int .i64 r0]), (false, [.int .i64 r1])], [])) else none
  | _, _ => none
noncomputable def spec122 (fuel : Nat) : Ev.Spec := spg122 (F_ref07_Size fuel)
theorem ok122 (fuel : Nat) : FnOK Try.prog 122 (spec122 fuel) := by
  intro args objs kk r h
  unfold spec122 spg122 at h
  split at h
  · skip
    obtain ⟨hb, h⟩ := cond_some' h
    simp only [Bool.and_eq_true, Nat.beq_eq, decide_eq_true_eq] at hb
    clear hb
    exact fok122 fuel _ _ kk r ((F122_eq fuel _ _ _ _ _ kk).trans h)
  · cases h
end Go.Proofs.Ytihfgpfofmjbaaa

set_option linter.unusedVariables false
set_option linter.unusedSimpArgs false
set_option maxRecDepth 100000
set_option maxHeartbeats 2000000
namespace Go.Proofs.Ytihfgpfofmjbaaa
open Go Ev
def kp126 (i : Nat) : Option (List Nat) := Ev.look i [(4, [2, 3, 5, 9, 10, 11]), (100000, [10]), (200006, [5, 9]), (400000, [8])]
noncomputable def Gg126 (f125 : YF125) (f180 : YF180) (f : Nat) : Option Ev.Spec := Ev.look f [(125, spg125 f125), (180, spg180 f180)]
noncomputable def G126 (fuel : Nat) : Nat → Option Ev.Spec := Gg126 (F_ref05_At fuel) (F_ref07_pixels fuel)
noncomputable def S_ref07_context_0 (fuel : Nat) (v : Int × Int × Int × Int × Int × Int × (List Int) × (List (Int × Int))) (c : (Int × Int × Int × Int × Int × Int × (List Int) × (List (Int × Int))) → Option Ans) (B : (Int → Option Ans)) : Option Ans := match v, B with
  | (x0, x1, x2, x3, x4, x5, x6, x7), b =>
   bif Decidable.decide (x3 < (↑x7.length : Int)) then
      bif Decidable.decide ((0 : Int) ≤ x3 ∧ x3 < (↑x7.length : Int)) then
      bif Decidable.decide ((0 : Int) ≤ x3 ∧ x3 < (↑x7.length : Int)) then
       both ((F_ref05_At fuel (x4) (x5) (x6) (Go.IntKind.i64.wrap (x0 + (x7.getD x3.toNat ((0 : Int), (0 : Int))).fst)) (Go.IntKind.i64.wrap (x1 + (x7.getD x3.toNat ((0 : Int), (0 : Int))).snd))
            (fun y7 =>
              c (x0, x1, Go.IntKind.i64.wrap (Go.IntKind.i64.wrap ((2 : Int) * x2) + y7), Go.IntKind.i64.wrap (x3 + (1 : Int)), x4, x5, x6, x7))))
         ((F_ref05_At fuel (x4) (x5) (x6) (Go.IntKind.i64.wrap (x0 + (x7.getD x3.toNat ((0 : Int), (0 : Int))).fst)) (Go.IntKind.i64.wrap (x1 + (x7.getD x3.toNat ((0 : Int), (0 : Int))).snd))
            (fun y7 =>
              c (x0, x1, Go.IntKind.i64.wrap (Go.IntKind.i64.wrap ((2 : Int) * x2) + y7), Go.IntKind.i64.wrap (x3 + (1 : Int)), x4, x5, x6, x7))))
       else none
      else none
     else
      b x2
noncomputable def L_ref07_context_0 (fuel : Nat) (v : Int × Int × Int × Int × Int × Int × (List Int) × (List (Int × Int))) (b : (Int → Option Ans)) : Option Ans := iter (S_ref07_context_0 fuel) fuel v b
noncomputable def J126_0 (fuel : Nat) (i : Nat) : Option Ev.Blk := Ev.look i []
noncomputable def T126_0 (v : Int × Int × Int × Int × Int × Int × (List Int) × (List (Int × Int))) : Ev.St := match v with | (x0, x1, x2, x3, x4, x5, x6, x7) => ⟨[(2, .c (.int .i64 x0)), (3, .c (.int .i64 x1)), (5, .c (.ptr 0 0)), (9, .c (.own 1)), (10, .c (.int .i64 x2)), (11, .c (.int .i64 x3))], [(0, .cells 39 [.int .i64 x4, .int .i64 x5, .sl (.int .u8) x6]), (1, .vec 223 (.pair (.int .i64) (.int .i64)) x7 true)], 2, 0⟩
noncomputable def E126_0 (K : Ev.Ex → Ev.St → Option Ans) : (Int → Option Ans) := (fun v => match v with | x0 => K .normal ⟨[(10, .c (.int .i64 x0))], [], 0, 0⟩)
theorem S126_0_okg (fuel : Nat) (f125 : YF125) (f180 : YF180) (R : Ev.St → Option Ans) (K : Ev.Ex → Ev.St → Option Ans) (x0 : Int) (x1 : Int) (x2 : Int) (x3 : Int) (x4 : Int) (x5 : Int) (x6 : (List Int)) (x7 : (List (Int × Int))) : evalCode tab (Gg126 f125 f180) (J126_0 fuel) kp126 fuel (bodyOf 0 Try.f126) (T126_0 (x0, x1, x2, x3, x4, x5, x6, x7)) (lc kp126 4 0 R K) = (fun (c : (Int × Int × Int × Int × Int × Int × (List Int) × (List (Int × Int))) → Option Ans) (B : (Int → Option Ans)) => match B with
  | b =>
   bif Decidable.decide (x3 < (↑x7.length : Int)) then
      bif Decidable.decide ((0 : Int) ≤ x3 ∧ x3 < (↑x7.length : Int)) then
      bif Decidable.decide ((0 : Int) ≤ x3 ∧ x3 < (↑x7.length : Int)) then
       both ((f125 (x4) (x5) (x6) (Go.IntKind.i64.wrap (x0 + (x7.getD x3.toNat ((0 : Int), (0 : Int))).fst)) (Go.IntKind.i64.wrap (x1 + (x7.getD x3.toNat ((0 : Int), (0 : Int))).snd))
            (fun y7 =>
              c (x0, x1, Go.IntKind.i64.wrap (Go.IntKind.i64.wrap ((2 : Int) * x2) + y7), Go.IntKind.i64.wrap (x3 + (1 : Int)), x4, x5, x6, x7))))
         ((f125 (x4) (x5) (x6) (Go.IntKind.i64.wrap (x0 + (x7.getD x3.toNat ((0 : Int), (0 : Int))).fst)) (Go.IntKind.i64.wrap (x1 + (x7.getD x3.toNat ((0 : Int), (0 : Int))).snd))
            (fun y7 =>
              c (x0, x1, Go.IntKind.i64.wrap (Go.IntKind.i64.wrap ((2 : Int) * x2) + y7), Go.IntKind.i64.wrap (x3 + (1 : Int)), x4, x5, x6, x7))))
       else none
      else none
     else
      b x2) (fun v => R (T126_0 v)) (E126_0 K) := by
  kernel_rfl
theorem S126_0_ok (fuel : Nat) (R : Ev.St → Option Ans) (K : Ev.Ex → Ev.St → Option Ans) (x0 : Int) (x1 : Int) (x2 : Int) (x3 : Int) (x4 : Int) (x5 : Int) (x6 : (List Int)) (x7 : (List (Int × Int))) : evalCode tab (G126 fuel) (J126_0 fuel) kp126 fuel (bodyOf 0 Try.f126) (T126_0 (x0, x1, x2, x3, x4, x5, x6, x7)) (lc kp126 4 0 R K) = S_ref07_context_0 fuel (x0, x1, x2, x3, x4, x5, x6, x7) (fun v => R (T126_0 v)) (E126_0 K) :=
  S126_0_okg fuel (F_ref05_At fuel) (F_ref07_pixels fuel) R K x0 x1 x2 x3 x4 x5 x6 x7
noncomputable def B126_0 (fuel : Nat) : Ev.Blk := fun st K => match canonO (kp126 4) st with
  | some s => (match s with
    | ⟨[(q0, .c (.int .i64 x0)), (q1, .c (.int .i64 x1)), (q2, .c (.ptr q3 q4)), (q5, .c (.own q6)), (q7, .c (.int .i64 x2)), (q8, .c (.int .i64 x3))], [(q9, .cells q10 [.int .i64 x4, .int .i64 x5, .sl (.int .u8) x6]), (q11, .vec q12 (.pair (.int .i64) (.int .i64)) x7 true)], q13, q14⟩ => bif Nat.beq q0 2 && Nat.beq q1 3 && Nat.beq q2 5 && Nat.beq q3 0 && Nat.beq q4 0 && Nat.beq q5 9 && Nat.beq q6 1 && Nat.beq q7 10 && Nat.beq q8 11 && Nat.beq q9 0 && Nat.beq q10 39 && Nat.beq q11 1 && Nat.beq q12 223 && Nat.beq q13 2 && Nat.beq q14 0 then iter (S_ref07_context_0 fuel) fuel (x0, x1, x2, x3, x4, x5, x6, x7) (E126_0 K) else none
    | _ => none)
  | none => none
theorem B126_0_ok (fuel : Nat) (st : Ev.St) (K : Ev.Ex → Ev.St → Option Ans) (r : Ans) (h : B126_0 fuel st K = some r) : evalCode tab (G126 fuel) (J126_0 fuel) kp126 fuel (.block 0 (.loop (bodyOf 0 Try.f126))) st K = some r := by
  unfold B126_0 at h
  split at h
  · rename_i s hs
    split at h
    · skip
      obtain ⟨hb, h⟩ := cond_some' h
      simp only [Bool.and_eq_true, Nat.beq_eq, decide_eq_true_eq] at hb
      obtain ⟨⟨⟨⟨⟨⟨⟨⟨⟨⟨⟨⟨⟨⟨rfl, rfl⟩, rfl⟩, rfl⟩, rfl⟩, rfl⟩, rfl⟩, rfl⟩, rfl⟩, rfl⟩, rfl⟩, rfl⟩, rfl⟩, rfl⟩, rfl⟩ := hb
      exact blk_loop (S := T126_0) (ks := E126_0) (step := S_ref07_context_0 fuel) (v := (_, _, _, _, _, _, _, _)) (by kernel_rfl) (by kernel_rfl) (fun R K v => by obtain ⟨x0, x1, x2, x3, x4, x5, x6, x7⟩ := v; exact S126_0_ok fuel R K x0 x1 x2 x3 x4 x5 x6 x7) hs h
    · cases h
  · cases h
noncomputable def J126 (fuel : Nat) (i : Nat) : Option Ev.Blk := Ev.look i [(100000, B126_0 fuel)]
noncomputable def F_ref07_context (fuel : Nat) (x0 : Int) (x1 : Int) (x2 : Int) (x3 : Bool) (x4 : Int) (x5 : Int) (x6 : Int) (x7 : (List Int)) (x8 : Int) (x9 : Int) (k0 : (Int) → Option Ans) : Option Ans :=
  (F_ref07_pixels fuel (x0) (x1) (x2) (x3) (x4)
    (fun y2 =>
      (L_ref07_context_0 fuel (x8, x9, (0 : Int), (0 : Int), x5, x6, x7, y2)
        (fun b0_0 =>
          k0 b0_0))))
abbrev YF126 : Type := (Int) → (Int) → (Int) → (Bool) → (Int) → (Int) → (Int) → ((List Int)) → (Int) → (Int) → ((Int) → Option Ans) → Option Ans
theorem F126_eqg (fuel : Nat) (f125 : YF125) (f180 : YF180) (x0 : Int) (x1 : Int) (x2 : Int) (x3 : Bool) (x4 : Int) (x5 : Int) (x6 : Int) (x7 : (List Int)) (x8 : Int) (x9 : Int) (k : Ev.Cont) : evalFn tab (Gg126 f125 f180) (J126 fuel) kp126 fuel Try.f126 [.agg [.int .i64 x0, .int .i64 x1, .int .i64 x2, .bool x3, .int .i64 x4], .agg [.int .i64 x5, .int .i64 x6, .sl (.int .u8) x7], .c (.int .i64 x8), .c (.int .i64 x9)] [] k = (fun  (k0 : (Int) → Option Ans) =>
  (f180 (x0) (x1) (x2) (x3) (x4)
    (fun y2 =>
      (L_ref07_context_0 fuel (x8, x9, (0 : Int), (0 : Int), x5, x6, x7, y2)
        (fun b0_0 =>
          k0 b0_0))))) (fun r => match r with | r0 => k (.c (.int .i64 r0), [])) := by
  kernel_rfl
theorem F126_eq (fuel : Nat) (x0 : Int) (x1 : Int) (x2 : Int) (x3 : Bool) (x4 : Int) (x5 : Int) (x6 : Int) (x7 : (List Int)) (x8 : Int) (x9 : Int) (k : Ev.Cont) : evalFn tab (G126 fuel) (J126 fuel) kp126 fuel Try.f126 [.agg [.int .i64 x0, .int .i64 x1, .int .i64 x2, .bool x3, .int .i64 x4], .agg [.int .i64 x5, .int .i64 x6, .sl (.int .u8) x7], .c (.int .i64 x8), .c (.int .i64 x9)] [] k = F_ref07_context fuel x0 x1 x2 x3 x4 x5 x6 x7 x8 x9 (fun r => match r with | r0 => k (.c (.int .i64 r0), [])) :=
  F126_eqg fuel (F_ref05_At fuel) (F_ref07_pixels fuel) x0 x1 x2 x3 x4 x5 x6 x7 x8 x9 k
theorem hG126 (fuel : Nat) : GOK Try.prog (G126 fuel) :=
  gok_cons ⟨ok125 fuel, enters_of Try.func125 (by kernel_rfl) rfl⟩ <|
  gok_cons ⟨ok180 fuel, enters_of Try.func180 (by kernel_rfl) rfl⟩ <|
  gok_nil
theorem B126_0_blk (fuel : Nat) : BlkOK Try.prog Try.f126.ntmps (.block 0 (.loop (bodyOf 0 Try.f126))) (B126_0 fuel) :=
  blk_of (blk_of_code tab_ok (hG126 fuel) mixed (J := J126_0 fuel) (kp := kp126) (fuel := fuel) (by kernel_rfl) (fun q hq => by
    rw [(by kernel_rfl : obl (J126_0 fuel) (.block 0 (.loop (bodyOf 0 Try.f126))) = [])] at hq
    cases hq)) (B126_0_ok fuel)
theorem fok126 (fuel : Nat) : FnOK Try.prog 126 (evalFn tab (G126 fuel) (J126 fuel) kp126 fuel Try.f126) :=
  fn_ok tab_ok (hG126 fuel) mixed Try.func126 (c := (Try.f126.body).getD .skip) rfl (fun q hq => by
    rw [(by kernel_rfl : obl (J126 fuel) ((Try.f126.body).getD .skip) = [(.block 0 (.loop (bodyOf 0 Try.f126)), B126_0 fuel)])] at hq
    simp only [List.mem_cons, List.not_mem_nil, or_false] at hq
    subst hq
    · exact B126_0_blk fuel)
noncomputable def mt126 : List Ev.SV → List Ev.Ob → Bool := fun args objs => match args, objs with
  | [.agg [.int .i64 _, .int .i64 _, .int .i64 _, .bool _, .int .i64 _], .agg [.int .i64 _, .int .i64 _, .sl (.int .u8) _], .c (.int .i64 _), .c (.int .i64 _)], [] => true
  | _, _ => false
noncomputable def spg126 (F : YF126) : Ev.Spec := fun args objs k => match args, objs with
  | [.agg [.int .i64 x0, .int .i64 x1, .int .i64 x2, .bool x3, .int .i64 x4], .agg [.int .i64 x5, .int .i64 x6, .sl (.int .u8) x7], .c (.int .i64 x8), .c (.int .i64 x9)], [] => bif true then F x0 x1 x2 x3 x4 x5 x6 x7 x8 x9 (fun r => match r with | r0 => k (.c (.int .i64 r0), [])) else none
  | _, _ => none
noncomputable def spec126 (fuel : Nat) : Ev.Spec := spg126 (F_ref07_context fuel)
theorem ok126 (fuel : Nat) : FnOK Try.prog 126 (spec126 fuel) := by
  intro args objs kk r h
  unfold spec126 spg126 at h
  split at h
  · skip
    obtain ⟨hb, h⟩ := cond_some' h
    simp only [Bool.and_eq_true, Nat.beq_eq, decide_eq_true_eq] at hb
    clear hb
    exact fok126 fuel _ _ kk r ((F126_eq fuel _ _ _ _ _ _ _ _ _ _ kk).trans h)
  · cases h
end Go.Proofs.Ytihfgpfofmjbaaa

set_option linter.unusedVariables false
set_option linter.unusedSimpArgs false
set_option maxRecDepth 100000
set_option maxHeartbeats 2000000
namespace Go.Proofs.Ytihfgpfofmjbaaa
open Go Ev
def kp179 (i : Nat) : Option (List Nat) := Ev.look i []
noncomputable def Gg179 (f : Nat) : Option Ev.Spec := Ev.look f []
noncomputable def G179 (fuel : Nat) : Nat → Option Ev.Spec := Gg179
noncomputable def J179 (fuel : Nat) (i : Nat) : Option Ev.Blk := Ev.look i []
noncomputable def F_ref07_none (fuel : Nat) (x0 : Int) (x1 : Int) (x2 : (List Int)) (k0 : (Bool) → Option Ans) : Option Ans :=
  bif x0 == (0 : Int) then
   k0 (x1 == (0 : Int))
  else
   k0 Bool.false
abbrev YF179 : Type := (Int) → (Int) → ((List Int)) → ((Bool) → Option Ans) → Option Ans
theorem F179_eq (fuel : Nat) (x0 : Int) (x1 : Int) (x2 : (List Int)) (k : Ev.Cont) : evalFn tab (G179 fuel) (J179 fuel) kp179 fuel Try.f179 [.agg [.int .i64 x0, .int .i64 x1, .sl (.int .u8) x2]] [] k = F_ref07_none fuel x0 x1 x2 (fun r => match r with | r0 => k (.c (.bool r0), [])) := by
  kernel_rfl
theorem hG179 (fuel : Nat) : GOK Try.prog (G179 fuel) :=
  gok_nil
theorem fok179 (fuel : Nat) : FnOK Try.prog 179 (evalFn tab (G179 fuel) (J179 fuel) kp179 fuel Try.f179) :=
  fn_ok tab_ok (hG179 fuel) mixed Try.func179 (c := (Try.f179.body).getD .skip) rfl (fun q hq => by
    rw [(by kernel_rfl : obl (J179 fuel) ((Try.f179.body).getD .skip) = [])] at hq
    cases hq)
noncomputable def mt179 : List Ev.SV → List Ev.Ob → Bool := fun args objs => match args, objs with
  | [.agg [.int .i64 _, .int .i64 _, .sl (.int .u8) _]], [] => true
  | _, _ => false
noncomputable def spg179 (F : YF179) : Ev.Spec := fun args objs k => match args, objs with
  | [.agg [.int .i64 x0, .int .i64 x1, .sl (.int .u8) x2]], [] => bif true then F x0 x1 x2 (fun r => match r with | r0 => k (.c (.bool r0), [])) else none
  | _, _ => none
noncomputable def spec179 (fuel : Nat) : Ev.Spec := spg179 (F_ref07_none fuel)
theorem ok179 (fuel : Nat) : FnOK Try.prog 179 (spec179 fuel) := by
  intro args objs kk r h
  unfold spec179 spg179 at h
  split at h
  · skip
    obtain ⟨hb, h⟩ := cond_some' h
    simp only [Bool.and_eq_true, Nat.beq_eq, decide_eq_true_eq] at hb
    clear hb
    exact fok179 fuel _ _ kk r ((F179_eq fuel _ _ _ kk).trans h)
  · cases h
end Go.Proofs.Ytihfgpfofmjbaaa

set_option linter.unusedVariables false
set_option linter.unusedSimpArgs false
set_option maxRecDepth 100000
set_option maxHeartbeats 2000000
namespace Go.Proofs.Ytihfgpfofmjbaaa
open Go Ev
def kp120 (i : Nat) : Option (List Nat) := Ev.look i []
noncomputable def Gg120 (f122 : YF122) (f179 : YF179) (f : Nat) : Option Ev.Spec := Ev.look f [(122, spg122 f122), (179, spg179 f179)]
noncomputable def G120 (fuel : Nat) : Nat → Option Ev.Spec := Gg120 (F_ref07_Size fuel) (F_ref07_none fuel)
noncomputable def J120 (fuel : Nat) (i : Nat) : Option Ev.Blk := Ev.look i []
noncomputable def F_ref07_room (fuel : Nat) (x0 : Int) (x1 : Int) (x2 : Int) (x3 : Bool) (x4 : Int) (x5 : Int) (x6 : Int) (x7 : Int) (x8 : Int) (x9 : Int) (x10 : Int) (x11 : (List Int)) (k0 : (Int) → Option Ans) : Option Ans :=
  (F_ref07_Size fuel (x0) (x1) (x2) (x3) (x4)
    (fun (y2_0, y2_1) =>
      (F_ref07_none fuel (x9) (x10) (x11)
        (fun y6 =>
          bif !y6 then
           bif x9 != x7 then
            k0 ((2 : Int))
           else
            bif x10 != x8 then
             k0 ((2 : Int))
            else
             bif Decidable.decide (x5 < (0 : Int)) then
              k0 ((2 : Int))
             else
              bif Decidable.decide (x5 > x6) then
               k0 ((2 : Int))
              else
               bif Decidable.decide (y2_0 > Go.IntKind.i64.wrap (x6 - x5)) then
                k0 ((2 : Int))
               else
                k0 ((0 : Int))
          else
           bif Decidable.decide (x5 < (0 : Int)) then
            k0 ((2 : Int))
           else
            bif Decidable.decide (x5 > x6) then
             k0 ((2 : Int))
            else
             bif Decidable.decide (y2_0 > Go.IntKind.i64.wrap (x6 - x5)) then
              k0 ((2 : Int))
             else
              k0 ((0 : Int))))))
abbrev YF120 : Type := (Int) → (Int) → (Int) → (Bool) → (Int) → (Int) → (Int) → (Int) → (Int) → (Int) → (Int) → ((List Int)) → ((Int) → Option Ans) → Option Ans
theorem F120_eqg (fuel : Nat) (f122 : YF122) (f179 : YF179) (x0 : Int) (x1 : Int) (x2 : Int) (x3 : Bool) (x4 : Int) (x5 : Int) (x6 : Int) (x7 : Int) (x8 : Int) (x9 : Int) (x10 : Int) (x11 : (List Int)) (k : Ev.Cont) : evalFn tab (Gg120 f122 f179) (J120 fuel) kp120 fuel Try.f120 [.agg [.int .i64 x0, .int .i64 x1, .int .i64 x2, .bool x3, .int .i64 x4], .c (.int .i64 x5), .c (.int .i64 x6), .c (.int .i64 x7), .c (.int .i64 x8), .agg [.int .i64 x9, .int .i64 x10, .sl (.int .u8) x11]] [] k = (fun  (k0 : (Int) → Option Ans) =>
  (f122 (x0) (x1) (x2) (x3) (x4)
    (fun (y2_0, y2_1) =>
      (f179 (x9) (x10) (x11)
        (fun y6 =>
          bif !y6 then
           bif x9 != x7 then
            k0 ((2 : Int))
           else
            bif x10 != x8 then
             k0 ((2 : Int))
            else
             bif Decidable.decide (x5 < (0 : Int)) then
              k0 ((2 : Int))
             else
              bif Decidable.decide (x5 > x6) then
               k0 ((2 : Int))
              else
               bif Decidable.decide (y2_0 > Go.IntKind.i64.wrap (x6 - x5)) then
                k0 ((2 : Int))
               else
                k0 ((0 : Int))
          else
           bif Decidable.decide (x5 < (0 : Int)) then
            k0 ((2 : Int))
           else
            bif Decidable.decide (x5 > x6) then
             k0 ((2 : Int))
            else
             bif Decidable.decide (y2_0 > Go.IntKind.i64.wrap (x6 - x5)) then
              k0 ((2 : Int))
             else
              k0 ((0 : Int))))))) (fun r => match r with | r0 => k (.c (.int .i64 r0), [])) := by
  kernel_rfl
theorem F120_eq (fuel : Nat) (x0 : Int) (x1 : Int) (x2 : Int) (x3 : Bool) (x4 : Int) (x5 : Int) (x6 : Int) (x7 : Int) (x8 : Int) (x9 : Int) (x10 : Int) (x11 : (List Int)) (k : Ev.Cont) : evalFn tab (G120 fuel) (J120 fuel) kp120 fuel Try.f120 [.agg [.int .i64 x0, .int .i64 x1, .int .i64 x2, .bool x3, .int .i64 x4], .c (.int .i64 x5), .c (.int .i64 x6), .c (.int .i64 x7), .c (.int .i64 x8), .agg [.int .i64 x9, .int .i64 x10, .sl (.int .u8) x11]] [] k = F_ref07_room fuel x0 x1 x2 x3 x4 x5 x6 x7 x8 x9 x10 x11 (fun r => match r with | r0 => k (.c (.int .i64 r0), [])) :=
  F120_eqg fuel (F_ref07_Size fuel) (F_ref07_none fuel) x0 x1 x2 x3 x4 x5 x6 x7 x8 x9 x10 x11 k
theorem hG120 (fuel : Nat) : GOK Try.prog (G120 fuel) :=
  gok_cons ⟨ok122 fuel, enters_of Try.func122 (by kernel_rfl) rfl⟩ <|
  gok_cons ⟨ok179 fuel, enters_of Try.func179 (by kernel_rfl) rfl⟩ <|
  gok_nil
theorem fok120 (fuel : Nat) : FnOK Try.prog 120 (evalFn tab (G120 fuel) (J120 fuel) kp120 fuel Try.f120) :=
  fn_ok tab_ok (hG120 fuel) mixed Try.func120 (c := (Try.f120.body).getD .skip) rfl (fun q hq => by
    rw [(by kernel_rfl : obl (J120 fuel) ((Try.f120.body).getD .skip) = [])] at hq
    cases hq)
noncomputable def mt120 : List Ev.SV → List Ev.Ob → Bool := fun args objs => match args, objs with
  | [.agg [.int .i64 _, .int .i64 _, .int .i64 _, .bool _, .int .i64 _], .c (.int .i64 _), .c (.int .i64 _), .c (.int .i64 _), .c (.int .i64 _), .agg [.int .i64 _, .int .i64 _, .sl (.int .u8) _]], [] => true
  | _, _ => false
noncomputable def spg120 (F : YF120) : Ev.Spec := fun args objs k => match args, objs with
  | [.agg [.int .i64 x0, .int .i64 x1, .int .i64 x2, .bool x3, .int .i64 x4], .c (.int .i64 x5), .c (.int .i64 x6), .c (.int .i64 x7), .c (.int .i64 x8), .agg [.int .i64 x9, .int .i64 x10, .sl (.int .u8) x11]], [] => bif true then F x0 x1 x2 x3 x4 x5 x6 x7 x8 x9 x10 x11 (fun r => match r with | r0 => k (.c (.int .i64 r0), [])) else none
  | _, _ => none
noncomputable def spec120 (fuel : Nat) : Ev.Spec := spg120 (F_ref07_room fuel)
theorem ok120 (fuel : Nat) : FnOK Try.prog 120 (spec120 fuel) := by
  intro args objs kk r h
  unfold spec120 spg120 at h
  split at h
  · skip
    obtain ⟨hb, h⟩ := cond_some' h
    simp only [Bool.and_eq_true, Nat.beq_eq, decide_eq_true_eq] at hb
    clear hb
    exact fok120 fuel _ _ kk r ((F120_eq fuel _ _ _ _ _ _ _ _ _ _ _ _ kk).trans h)
  · cases h
end Go.Proofs.Ytihfgpfofmjbaaa

set_option linter.unusedVariables false
set_option linter.unusedSimpArgs false
set_option maxRecDepth 100000
set_option maxHeartbeats 2000000
namespace Go.Proofs.Ytihfgpfofmjbaaa
open Go Ev
def kp124 (i : Nat) : Option (List Nat) := Ev.look i [(3, [2, 3, 4, 7, 8]), (100000, [7]), (400000, [6])]
noncomputable def Gg124 (f125 : YF125) (f : Nat) : Option Ev.Spec := Ev.look f [(125, spg125 f125)]
noncomputable def G124 (fuel : Nat) : Nat → Option Ev.Spec := Gg124 (F_ref05_At fuel)
noncomputable def S_ref07_typical_0 (fuel : Nat) (v : Int × Int × Int × Int × (List Int) × Int × Int × (List Int) × (List Int)) (c : (Int × Int × Int × Int × (List Int) × Int × Int × (List Int) × (List Int)) → Option Ans) (B : ((List Int) → Option Ans)) : Option Ans := match v, B with
  | (x0, x1, x2, x3, x4, x5, x6, x7, x8), b =>
   bif Decidable.decide (x1 < x2) then
      (F_ref05_At fuel (x2) (x3) (x4) (x1) (Go.IntKind.i64.wrap (x0 - (1 : Int)))
        (fun y3 =>
          (F_ref05_At fuel (x5) (x6) (x7) (x1) (x0)
            (fun y7 =>
              bif y7 == (1 : Int) then
               bif Decidable.decide ((x8.length + [Go.IntKind.u8.wrap (0 : Int)].length) * (1 : Nat) ≤ (140737488355328 : Nat) ∧ x8.length + [Go.IntKind.u8.wrap (0 : Int)].length ≤ (140737488355328 : Nat)) then
               c (x0, Go.IntKind.i64.wrap (x1 + (1 : Int)), x2, x3, x4, x5, x6, x7, x8 ++ [Go.IntKind.u8.wrap (0 : Int)])
               else none
              else
               bif Decidable.decide ((x8.length + [Go.IntKind.u8.wrap y3].length) * (1 : Nat) ≤ (140737488355328 : Nat) ∧ x8.length + [Go.IntKind.u8.wrap y3].length ≤ (140737488355328 : Nat)) then
               c (x0, Go.IntKind.i64.wrap (x1 + (1 : Int)), x2, x3, x4, x5, x6, x7, x8 ++ [Go.IntKind.u8.wrap y3])
               else none))))
     else
      b x8
noncomputable def L_ref07_typical_0 (fuel : Nat) (v : Int × Int × Int × Int × (List Int) × Int × Int × (List Int) × (List Int)) (b : ((List Int) → Option Ans)) : Option Ans := iter (S_ref07_typical_0 fuel) fuel v b
noncomputable def J124_0 (fuel : Nat) (i : Nat) : Option Ev.Blk := Ev.look i []
noncomputable def T124_0 (v : Int × Int × Int × Int × (List Int) × Int × Int × (List Int) × (List Int)) : Ev.St := match v with | (x0, x1, x2, x3, x4, x5, x6, x7, x8) => ⟨[(2, .c (.int .i64 x0)), (3, .c (.ptr 0 0)), (4, .c (.ptr 1 0)), (7, .c (.own 2)), (8, .c (.int .i64 x1))], [(0, .cells 39 [.int .i64 x2, .int .i64 x3, .sl (.int .u8) x4]), (1, .cells 39 [.int .i64 x5, .int .i64 x6, .sl (.int .u8) x7]), (2, .vec 5 (.int .u8) x8 true)], 3, 0⟩
noncomputable def E124_0 (K : Ev.Ex → Ev.St → Option Ans) : ((List Int) → Option Ans) := (fun v => match v with | x0 => K .normal ⟨[(7, .c (.own 0))], [(0, .vec 5 (.int .u8) x0 true)], 1, 0⟩)
theorem S124_0_okg (fuel : Nat) (f125 : YF125) (R : Ev.St → Option Ans) (K : Ev.Ex → Ev.St → Option Ans) (x0 : Int) (x1 : Int) (x2 : Int) (x3 : Int) (x4 : (List Int)) (x5 : Int) (x6 : Int) (x7 : (List Int)) (x8 : (List Int)) : evalCode tab (Gg124 f125) (J124_0 fuel) kp124 fuel (bodyOf 0 Try.f124) (T124_0 (x0, x1, x2, x3, x4, x5, x6, x7, x8)) (lc kp124 3 0 R K) = (fun (c : (Int × Int × Int × Int × (List Int) × Int × Int × (List Int) × (List Int)) → Option Ans) (B : ((List Int) → Option Ans)) => match B with
  | b =>
   bif Decidable.decide (x1 < x2) then
      (f125 (x2) (x3) (x4) (x1) (Go.IntKind.i64.wrap (x0 - (1 : Int)))
        (fun y3 =>
          (f125 (x5) (x6) (x7) (x1) (x0)
            (fun y7 =>
              bif y7 == (1 : Int) then
               bif Decidable.decide ((x8.length + [Go.IntKind.u8.wrap (0 : Int)].length) * (1 : Nat) ≤ (140737488355328 : Nat) ∧ x8.length + [Go.IntKind.u8.wrap (0 : Int)].length ≤ (140737488355328 : Nat)) then
               c (x0, Go.IntKind.i64.wrap (x1 + (1 : Int)), x2, x3, x4, x5, x6, x7, x8 ++ [Go.IntKind.u8.wrap (0 : Int)])
               else none
              else
               bif Decidable.decide ((x8.length + [Go.IntKind.u8.wrap y3].length) * (1 : Nat) ≤ (140737488355328 : Nat) ∧ x8.length + [Go.IntKind.u8.wrap y3].length ≤ (140737488355328 : Nat)) then
               c (x0, Go.IntKind.i64.wrap (x1 + (1 : Int)), x2, x3, x4, x5, x6, x7, x8 ++ [Go.IntKind.u8.wrap y3])
               else none))))
     else
      b x8) (fun v => R (T124_0 v)) (E124_0 K) := by
  kernel_rfl
theorem S124_0_ok (fuel : Nat) (R : Ev.St → Option Ans) (K : Ev.Ex → Ev.St → Option Ans) (x0 : Int) (x1 : Int) (x2 : Int) (x3 : Int) (x4 : (List Int)) (x5 : Int) (x6 : Int) (x7 : (List Int)) (x8 : (List Int)) : evalCode tab (G124 fuel) (J124_0 fuel) kp124 fuel (bodyOf 0 Try.f124) (T124_0 (x0, x1, x2, x3, x4, x5, x6, x7, x8)) (lc kp124 3 0 R K) = S_ref07_typical_0 fuel (x0, x1, x2, x3, x4, x5, x6, x7, x8) (fun v => R (T124_0 v)) (E124_0 K) :=
  S124_0_okg fuel (F_ref05_At fuel) R K x0 x1 x2 x3 x4 x5 x6 x7 x8
noncomputable def B124_0 (fuel : Nat) : Ev.Blk := fun st K => match canonO (kp124 3) st with
  | some s => (match s with
    | ⟨[(q0, .c (.int .i64 x0)), (q1, .c (.ptr q2 q3)), (q4, .c (.ptr q5 q6)), (q7, .c (.own q8)), (q9, .c (.int .i64 x1))], [(q10, .cells q11 [.int .i64 x2, .int .i64 x3, .sl (.int .u8) x4]), (q12, .cells q13 [.int .i64 x5, .int .i64 x6, .sl (.int .u8) x7]), (q14, .vec q15 (.int .u8) x8 true)], q16, q17⟩ => bif Nat.beq q0 2 && Nat.beq q1 3 && Nat.beq q2 0 && Nat.beq q3 0 && Nat.beq q4 4 && Nat.beq q5 1 && Nat.beq q6 0 && Nat.beq q7 7 && Nat.beq q8 2 && Nat.beq q9 8 && Nat.beq q10 0 && Nat.beq q11 39 && Nat.beq q12 1 && Nat.beq q13 39 && Nat.beq q14 2 && Nat.beq q15 5 && Nat.beq q16 3 && Nat.beq q17 0 then iter (S_ref07_typical_0 fuel) fuel (x0, x1, x2, x3, x4, x5, x6, x7, x8) (E124_0 K) else none
    | _ => none)
  | none => none
theorem B124_0_ok (fuel : Nat) (st : Ev.St) (K : Ev.Ex → Ev.St → Option Ans) (r : Ans) (h : B124_0 fuel st K = some r) : evalCode tab (G124 fuel) (J124_0 fuel) kp124 fuel (.block 0 (.loop (bodyOf 0 Try.f124))) st K = some r := by
  unfold B124_0 at h
  split at h
  · rename_i s hs
    split at h
    · skip
      obtain ⟨hb, h⟩ := cond_some' h
      simp only [Bool.and_eq_true, Nat.beq_eq, decide_eq_true_eq] at hb
      obtain ⟨⟨⟨⟨⟨⟨⟨⟨⟨⟨⟨⟨⟨⟨⟨⟨⟨rfl, rfl⟩, rfl⟩, rfl⟩, rfl⟩, rfl⟩, rfl⟩, rfl⟩, rfl⟩, rfl⟩, rfl⟩, rfl⟩, rfl⟩, rfl⟩, rfl⟩, rfl⟩, rfl⟩, rfl⟩ := hb
      exact blk_loop (S := T124_0) (ks := E124_0) (step := S_ref07_typical_0 fuel) (v := (_, _, _, _, _, _, _, _, _)) (by kernel_rfl) (by kernel_rfl) (fun R K v => by obtain ⟨x0, x1, x2, x3, x4, x5, x6, x7, x8⟩ := v; exact S124_0_ok fuel R K x0 x1 x2 x3 x4 x5 x6 x7 x8) hs h
    · cases h
  · cases h
noncomputable def J124 (fuel : Nat) (i : Nat) : Option Ev.Blk := Ev.look i [(100000, B124_0 fuel)]
noncomputable def F_ref07_typical (fuel : Nat) (x0 : Int) (x1 : Int) (x2 : (List Int)) (x3 : Int) (x4 : Int) (x5 : (List Int)) (x6 : Int) (k0 : ((List Int)) → Option Ans) : Option Ans :=
  (L_ref07_typical_0 fuel (x6, (0 : Int), x0, x1, x2, x3, x4, x5, [])
    (fun b0_0 =>
      k0 b0_0))
abbrev YF124 : Type := (Int) → (Int) → ((List Int)) → (Int) → (Int) → ((List Int)) → (Int) → (((List Int)) → Option Ans) → Option Ans
theorem F124_eqg (fuel : Nat) (f125 : YF125) (x0 : Int) (x1 : Int) (x2 : (List Int)) (x3 : Int) (x4 : Int) (x5 : (List Int)) (x6 : Int) (k : Ev.Cont) : evalFn tab (Gg124 f125) (J124 fuel) kp124 fuel Try.f124 [.agg [.int .i64 x0, .int .i64 x1, .sl (.int .u8) x2], .agg [.int .i64 x3, .int .i64 x4, .sl (.int .u8) x5], .c (.int .i64 x6)] [] k = (fun  (k0 : ((List Int)) → Option Ans) =>
  (L_ref07_typical_0 fuel (x6, (0 : Int), x0, x1, x2, x3, x4, x5, [])
    (fun b0_0 =>
      k0 b0_0))) (fun r => match r with | r0 => k (.c (.own 0), [.vec 5 (.int .u8) r0 true])) := by
  kernel_rfl
theorem F124_eq (fuel : Nat) (x0 : Int) (x1 : Int) (x2 : (List Int)) (x3 : Int) (x4 : Int) (x5 : (List Int)) (x6 : Int) (k : Ev.Cont) : evalFn tab (G124 fuel) (J124 fuel) kp124 fuel Try.f124 [.agg [.int .i64 x0, .int .i64 x1, .sl (.int .u8) x2], .agg [.int .i64 x3, .int .i64 x4, .sl (.int .u8) x5], .c (.int .i64 x6)] [] k = F_ref07_typical fuel x0 x1 x2 x3 x4 x5 x6 (fun r => match r with | r0 => k (.c (.own 0), [.vec 5 (.int .u8) r0 true])) :=
  F124_eqg fuel (F_ref05_At fuel) x0 x1 x2 x3 x4 x5 x6 k
theorem hG124 (fuel : Nat) : GOK Try.prog (G124 fuel) :=
  gok_cons ⟨ok125 fuel, enters_of Try.func125 (by kernel_rfl) rfl⟩ <|
  gok_nil
theorem B124_0_blk (fuel : Nat) : BlkOK Try.prog Try.f124.ntmps (.block 0 (.loop (bodyOf 0 Try.f124))) (B124_0 fuel) :=
  blk_of (blk_of_code tab_ok (hG124 fuel) mixed (J := J124_0 fuel) (kp := kp124) (fuel := fuel) (by kernel_rfl) (fun q hq => by
    rw [(by kernel_rfl : obl (J124_0 fuel) (.block 0 (.loop (bodyOf 0 Try.f124))) = [])] at hq
    cases hq)) (B124_0_ok fuel)
theorem fok124 (fuel : Nat) : FnOK Try.prog 124 (evalFn tab (G124 fuel) (J124 fuel) kp124 fuel Try.f124) :=
  fn_ok tab_ok (hG124 fuel) mixed Try.func124 (c := (Try.f124.body).getD .skip) rfl (fun q hq => by
    rw [(by kernel_rfl : obl (J124 fuel) ((Try.f124.body).getD .skip) = [(.block 0 (.loop (bodyOf 0 Try.f124)), B124_0 fuel)])] at hq
    simp only [List.mem_cons, List.not_mem_nil, or_false] at hq
    subst hq
    · exact B124_0_blk fuel)
noncomputable def mt124 : List Ev.SV → List Ev.Ob → Bool := fun args objs => match args, objs with
  | [.agg [.int .i64 _, .int .i64 _, .sl (.int .u8) _], .agg [.int .i64 _, .int .i64 _, .sl (.int .u8) _], .c (.int .i64 _)], [] => true
  | _, _ => false
noncomputable def spg124 (F : YF124) : Ev.Spec := fun args objs k => match args, objs with
  | [.agg [.int .i64 x0, .int .i64 x1, .sl (.int .u8) x2], .agg [.int .i64 x3, .int .i64 x4, .sl (.int .u8) x5], .c (.int .i64 x6)], [] => bif true then F x0 x1 x2 x3 x4 x5 x6 (fun r => match r with | r0 => k (.c (.own 0), [.vec 5 (.int .u8) r0 true])) else none
  | _, _ => none
noncomputable def spec124 (fuel : Nat) : Ev.Spec := spg124 (F_ref07_typical fuel)
theorem ok124 (fuel : Nat) : FnOK Try.prog 124 (spec124 fuel) := by
  intro args objs kk r h
  unfold spec124 spg124 at h
  split at h
  · skip
    obtain ⟨hb, h⟩ := cond_some' h
    simp only [Bool.and_eq_true, Nat.beq_eq, decide_eq_true_eq] at hb
    clear hb
    exact fok124 fuel _ _ kk r ((F124_eq fuel _ _ _ _ _ _ _ kk).trans h)
  · cases h
end Go.Proofs.Ytihfgpfofmjbaaa

set_option linter.unusedVariables false
set_option linter.unusedSimpArgs false
set_option maxRecDepth 100000
set_option maxHeartbeats 2000000
namespace Go.Proofs.Ytihfgpfofmjbaaa
open Go Ev
def kp129_6c1 (i : Nat) : Option (List Nat) := Ev.look i [(6, [0, 1, 7, 8, 9, 11]), (9, [0, 1, 7, 8, 9, 11, 12]), (18, [0, 1, 7, 8, 9, 14, 16, 1000002]), (27, [0, 1, 7, 8, 9, 14, 16, 18]), (100000, [0, 1, 7, 8, 9]), (100002, [0, 1, 7, 8, 9, 11]), (100004, []), (100006, [0, 1, 7, 8, 9, 14, 16]), (200013, [7, 8, 9]), (200022, [8, 9]), (200030, [7, 8]), (400000, [10]), (400002, [10]), (400004, [10]), (400006, [10]), (600000, [])]
noncomputable def Gg129_6c1 (f86 : YF86) (f109 : YF109) (f120 : YF120) (f122 : YF122) (f124 : YF124) (f125 : YF125) (f126 : YF126) (f187_2fe : YF187_2fe) (f188_e89 : YF188_e89) (f : Nat) : Option Ev.Spec := Ev.look f [(86, spg86 f86), (109, spg109 f109), (120, spg120 f120), (122, spg122 f122), (124, spg124 f124), (125, spg125 f125), (126, spg126 f126), (187, spg187_2fe f187_2fe), (188, spg188_e89 f188_e89)]
noncomputable def G129_6c1 (fuel : Nat) : Nat → Option Ev.Spec := Gg129_6c1 (F_ref05_Valid fuel) (F_ref07_Valid fuel) (F_ref07_room fuel) (F_ref07_Size fuel) (F_ref07_typical fuel) (F_ref05_At fuel) (F_ref07_context fuel) (F_ref02_Encoder_Model_2fe fuel) (F_ref02_Encoder_Put_e89 fuel)
noncomputable def S_ref07_Put_6c1_2 (fuel : Nat) (v : Int × Int × Int × Int × Int × Int × (List Int) × (List Int) × Int × Int × Int × Bool × Int × Int × Int × (List Int) × Int × Int × (List Int)) (c : (Int × Int × Int × Int × Int × Int × (List Int) × (List Int) × Int × Int × Int × Bool × Int × Int × Int × (List Int) × Int × Int × (List Int)) → Option Ans) (B : (Int × Int × Int × Int × (List Int) × (List Int) → Option Ans) × (Int × Int × Int × Int × Int × (List Int) × (List Int) × Int × Int × Int × Bool × Int × Int × Int × (List Int) × Int × Int × (List Int) → Option Ans)) : Option Ans := match v, B with
  | (x0, x1, x2, x3, x4, x5, x6, x7, x8, x9, x10, x11, x12, x13, x14, x15, x16, x17, x18), (ret, b) =>
   bif Decidable.decide (x2 < x13) then
      (F_ref05_At fuel (x13) (x14) (x15) (x2) (x1)
        (fun y3 =>
          bif y3 == (1 : Int) then
           (F_ref05_At fuel (x16) (x17) (x18) (x2) (x1)
             (fun y8 =>
               bif y8 == (1 : Int) then
                ret ((30 : Int), x3, x4, x5, x6, x7)
               else
                c (x0, x1, Go.IntKind.i64.wrap (x2 + (1 : Int)), x3, x4, x5, x6, x7, x8, x9, x10, x11, x12, x13, x14, x15, x16, x17, x18)))
          else
           c (x0, x1, Go.IntKind.i64.wrap (x2 + (1 : Int)), x3, x4, x5, x6, x7, x8, x9, x10, x11, x12, x13, x14, x15, x16, x17, x18)))
     else
      b (x0, x1, x3, x4, x5, x6, x7, x8, x9, x10, x11, x12, x13, x14, x15, x16, x17, x18)
noncomputable def L_ref07_Put_6c1_2 (fuel : Nat) (v : Int × Int × Int × Int × Int × Int × (List Int) × (List Int) × Int × Int × Int × Bool × Int × Int × Int × (List Int) × Int × Int × (List Int)) (ret : (Int × Int × Int × Int × (List Int) × (List Int) → Option Ans)) (b : (Int × Int × Int × Int × Int × (List Int) × (List Int) × Int × Int × Int × Bool × Int × Int × Int × (List Int) × Int × Int × (List Int) → Option Ans)) : Option Ans := iter (S_ref07_Put_6c1_2 fuel) fuel v (ret, b)
noncomputable def J129_6c1_2 (fuel : Nat) (i : Nat) : Option Ev.Blk := Ev.look i []
noncomputable def T129_6c1_2 (v : Int × Int × Int × Int × Int × Int × (List Int) × (List Int) × Int × Int × Int × Bool × Int × Int × Int × (List Int) × Int × Int × (List Int)) : Ev.St := match v with | (x0, x1, x2, x3, x4, x5, x6, x7, x8, x9, x10, x11, x12, x13, x14, x15, x16, x17, x18) => ⟨[(0, .c (.ptr 0 0)), (1, .c (.int .i64 x0)), (7, .c (.ptr 3 0)), (8, .c (.ptr 4 0)), (9, .c (.ptr 5 0)), (11, .c (.int .i64 x1)), (12, .c (.int .i64 x2))], [(0, .cells 225 [.int .i64 x3, .own 1, .int .u64 x4, .int .u64 x5, .own 2]), (1, .vec 3 (.int .i64) x6 false), (2, .vec 5 (.int .u8) x7 false), (3, .cells 46 [.int .i64 x8, .int .i64 x9, .int .i64 x10, .bool x11, .int .i64 x12]), (4, .cells 39 [.int .i64 x13, .int .i64 x14, .sl (.int .u8) x15]), (5, .cells 39 [.int .i64 x16, .int .i64 x17, .sl (.int .u8) x18])], 6, 3⟩
noncomputable def E129_6c1_2 (K : Ev.Ex → Ev.St → Option Ans) : (Int × Int × Int × Int × (List Int) × (List Int) → Option Ans) × (Int × Int × Int × Int × Int × (List Int) × (List Int) × Int × Int × Int × Bool × Int × Int × Int × (List Int) × Int × Int × (List Int) → Option Ans) := ((fun v => match v with | (x0, x1, x2, x3, x4, x5) => K .ret ⟨[(10, .c (.int .i64 x0))], [(0, .cells 225 [.int .i64 x1, .own 1, .int .u64 x2, .int .u64 x3, .own 2]), (1, .vec 3 (.int .i64) x4 false), (2, .vec 5 (.int .u8) x5 false)], 3, 3⟩), (fun v => match v with | (x0, x1, x2, x3, x4, x5, x6, x7, x8, x9, x10, x11, x12, x13, x14, x15, x16, x17) => K .normal ⟨[(0, .c (.ptr 0 0)), (1, .c (.int .i64 x0)), (7, .c (.ptr 3 0)), (8, .c (.ptr 4 0)), (9, .c (.ptr 5 0)), (11, .c (.int .i64 x1))], [(0, .cells 225 [.int .i64 x2, .own 1, .int .u64 x3, .int .u64 x4, .own 2]), (1, .vec 3 (.int .i64) x5 false), (2, .vec 5 (.int .u8) x6 false), (3, .cells 46 [.int .i64 x7, .int .i64 x8, .int .i64 x9, .bool x10, .int .i64 x11]), (4, .cells 39 [.int .i64 x12, .int .i64 x13, .sl (.int .u8) x14]), (5, .cells 39 [.int .i64 x15, .int .i64 x16, .sl (.int .u8) x17])], 6, 3⟩))
theorem S129_6c1_2_okg (fuel : Nat) (f86 : YF86) (f109 : YF109) (f120 : YF120) (f122 : YF122) (f124 : YF124) (f125 : YF125) (f126 : YF126) (f187_2fe : YF187_2fe) (f188_e89 : YF188_e89) (R : Ev.St → Option Ans) (K : Ev.Ex → Ev.St → Option Ans) (x0 : Int) (x1 : Int) (x2 : Int) (x3 : Int) (x4 : Int) (x5 : Int) (x6 : (List Int)) (x7 : (List Int)) (x8 : Int) (x9 : Int) (x10 : Int) (x11 : Bool) (x12 : Int) (x13 : Int) (x14 : Int) (x15 : (List Int)) (x16 : Int) (x17 : Int) (x18 : (List Int)) : evalCode tab (Gg129_6c1 f86 f109 f120 f122 f124 f125 f126 f187_2fe f188_e89) (J129_6c1_2 fuel) kp129_6c1 fuel (bodyOf 2 Try.f129) (T129_6c1_2 (x0, x1, x2, x3, x4, x5, x6, x7, x8, x9, x10, x11, x12, x13, x14, x15, x16, x17, x18)) (lc kp129_6c1 9 2 R K) = (fun (c : (Int × Int × Int × Int × Int × Int × (List Int) × (List Int) × Int × Int × Int × Bool × Int × Int × Int × (List Int) × Int × Int × (List Int)) → Option Ans) (B : (Int × Int × Int × Int × (List Int) × (List Int) → Option Ans) × (Int × Int × Int × Int × Int × (List Int) × (List Int) × Int × Int × Int × Bool × Int × Int × Int × (List Int) × Int × Int × (List Int) → Option Ans)) => match B with
  | (ret, b) =>
   bif Decidable.decide (x2 < x13) then
      (f125 (x13) (x14) (x15) (x2) (x1)
        (fun y3 =>
          bif y3 == (1 : Int) then
           (f125 (x16) (x17) (x18) (x2) (x1)
             (fun y8 =>
               bif y8 == (1 : Int) then
                ret ((30 : Int), x3, x4, x5, x6, x7)
               else
                c (x0, x1, Go.IntKind.i64.wrap (x2 + (1 : Int)), x3, x4, x5, x6, x7, x8, x9, x10, x11, x12, x13, x14, x15, x16, x17, x18)))
          else
           c (x0, x1, Go.IntKind.i64.wrap (x2 + (1 : Int)), x3, x4, x5, x6, x7, x8, x9, x10, x11, x12, x13, x14, x15, x16, x17, x18)))
     else
      b (x0, x1, x3, x4, x5, x6, x7, x8, x9, x10, x11, x12, x13, x14, x15, x16, x17, x18)) (fun v => R (T129_6c1_2 v)) (E129_6c1_2 K) := by
  kernel_rfl
theorem S129_6c1_2_ok (fuel : Nat) (R : Ev.St → Option Ans) (K : Ev.Ex → Ev.St → Option Ans) (x0 : Int) (x1 : Int) (x2 : Int) (x3 : Int) (x4 : Int) (x5 : Int) (x6 : (List Int)) (x7 : (List Int)) (x8 : Int) (x9 : Int) (x10 : Int) (x11 : Bool) (x12 : Int) (x13 : Int) (x14 : Int) (x15 : (List Int)) (x16 : Int) (x17 : Int) (x18 : (List Int)) : evalCode tab (G129_6c1 fuel) (J129_6c1_2 fuel) kp129_6c1 fuel (bodyOf 2 Try.f129) (T129_6c1_2 (x0, x1, x2, x3, x4, x5, x6, x7, x8, x9, x10, x11, x12, x13, x14, x15, x16, x17, x18)) (lc kp129_6c1 9 2 R K) = S_ref07_Put_6c1_2 fuel (x0, x1, x2, x3, x4, x5, x6, x7, x8, x9, x10, x11, x12, x13, x14, x15, x16, x17, x18) (fun v => R (T129_6c1_2 v)) (E129_6c1_2 K) :=
  S129_6c1_2_okg fuel (F_ref05_Valid fuel) (F_ref07_Valid fuel) (F_ref07_room fuel) (F_ref07_Size fuel) (F_ref07_typical fuel) (F_ref05_At fuel) (F_ref07_context fuel) (F_ref02_Encoder_Model_2fe fuel) (F_ref02_Encoder_Put_e89 fuel) R K x0 x1 x2 x3 x4 x5 x6 x7 x8 x9 x10 x11 x12 x13 x14 x15 x16 x17 x18
noncomputable def B129_6c1_2 (fuel : Nat) : Ev.Blk := fun st K => match canonO (kp129_6c1 9) st with
  | some s => (match s with
    | ⟨[(q0, .c (.ptr q1 q2)), (q3, .c (.int .i64 x0)), (q4, .c (.ptr q5 q6)), (q7, .c (.ptr q8 q9)), (q10, .c (.ptr q11 q12)), (q13, .c (.int .i64 x1)), (q14, .c (.int .i64 x2))], [(q15, .cells q16 [.int .i64 x3, .own q17, .int .u64 x4, .int .u64 x5, .own q18]), (q19, .vec q20 (.int .i64) x6 false), (q21, .vec q22 (.int .u8) x7 false), (q23, .cells q24 [.int .i64 x8, .int .i64 x9, .int .i64 x10, .bool x11, .int .i64 x12]), (q25, .cells q26 [.int .i64 x13, .int .i64 x14, .sl (.int .u8) x15]), (q27, .cells q28 [.int .i64 x16, .int .i64 x17, .sl (.int .u8) x18])], q29, q30⟩ => bif Nat.beq q0 0 && Nat.beq q1 0 && Nat.beq q2 0 && Nat.beq q3 1 && Nat.beq q4 7 && Nat.beq q5 3 && Nat.beq q6 0 && Nat.beq q7 8 && Nat.beq q8 4 && Nat.beq q9 0 && Nat.beq q10 9 && Nat.beq q11 5 && Nat.beq q12 0 && Nat.beq q13 11 && Nat.beq q14 12 && Nat.beq q15 0 && Nat.beq q16 225 && Nat.beq q17 1 && Nat.beq q18 2 && Nat.beq q19 1 && Nat.beq q20 3 && Nat.beq q21 2 && Nat.beq q22 5 && Nat.beq q23 3 && Nat.beq q24 46 && Nat.beq q25 4 && Nat.beq q26 39 && Nat.beq q27 5 && Nat.beq q28 39 && Nat.beq q29 6 && Nat.beq q30 3 then iter (S_ref07_Put_6c1_2 fuel) fuel (x0, x1, x2, x3, x4, x5, x6, x7, x8, x9, x10, x11, x12, x13, x14, x15, x16, x17, x18) (E129_6c1_2 K) else none
    | _ => none)
  | none => none
theorem B129_6c1_2_ok (fuel : Nat) (st : Ev.St) (K : Ev.Ex → Ev.St → Option Ans) (r : Ans) (h : B129_6c1_2 fuel st K = some r) : evalCode tab (G129_6c1 fuel) (J129_6c1_2 fuel) kp129_6c1 fuel (.block 2 (.loop (bodyOf 2 Try.f129))) st K = some r := by
  unfold B129_6c1_2 at h
  split at h
  · rename_i s hs
    split at h
    · skip
      obtain ⟨hb, h⟩ := cond_some' h
      simp only [Bool.and_eq_true, Nat.beq_eq, decide_eq_true_eq] at hb
      obtain ⟨⟨⟨⟨⟨⟨⟨⟨⟨⟨⟨⟨⟨⟨⟨⟨⟨⟨⟨⟨⟨⟨⟨⟨⟨⟨⟨⟨⟨⟨rfl, rfl⟩, rfl⟩, rfl⟩, rfl⟩, rfl⟩, rfl⟩, rfl⟩, rfl⟩, rfl⟩, rfl⟩, rfl⟩, rfl⟩, rfl⟩, rfl⟩, rfl⟩, rfl⟩, rfl⟩, rfl⟩, rfl⟩, rfl⟩, rfl⟩, rfl⟩, rfl⟩, rfl⟩, rfl⟩, rfl⟩, rfl⟩, rfl⟩, rfl⟩, rfl⟩ := hb
      exact blk_loop (S := T129_6c1_2) (ks := E129_6c1_2) (step := S_ref07_Put_6c1_2 fuel) (v := (_, _, _, _, _, _, _, _, _, _, _, _, _, _, _, _, _, _, _)) (by kernel_rfl) (by kernel_rfl) (fun R K v => by obtain ⟨x0, x1, x2, x3, x4, x5, x6, x7, x8, x9, x10, x11, x12, x13, x14, x15, x16, x17, x18⟩ := v; exact S129_6c1_2_ok fuel R K x0 x1 x2 x3 x4 x5 x6 x7 x8 x9 x10 x11 x12 x13 x14 x15 x16 x17 x18) hs h
    · cases h
  · cases h
noncomputable def S_ref07_Put_6c1_0 (fuel : Nat) (v : Int × Int × Int × Int × Int × (List Int) × (List Int) × Int × Int × Int × Bool × Int × Int × Int × (List Int) × Int × Int × (List Int)) (c : (Int × Int × Int × Int × Int × (List Int) × (List Int) × Int × Int × Int × Bool × Int × Int × Int × (List Int) × Int × Int × (List Int)) → Option Ans) (B : (Int × Int × Int × Int × (List Int) × (List Int) → Option Ans) × (Int × Int × Int × Int × (List Int) × (List Int) × Int × Int × Int × Bool × Int × Int × Int × (List Int) × Int × Int × (List Int) → Option Ans)) : Option Ans := match v, B with
  | (x0, x1, x2, x3, x4, x5, x6, x7, x8, x9, x10, x11, x12, x13, x14, x15, x16, x17), (ret, b) =>
   bif Decidable.decide (x1 < x13) then
      bif x12 == x15 then
       bif x13 == x16 then
        (L_ref07_Put_6c1_2 fuel (x0, x1, (0 : Int), x2, x3, x4, x5, x6, x7, x8, x9, x10, x11, x12, x13, x14, x15, x16, x17)
          (fun (ret2_0, ret2_1, ret2_2, ret2_3, ret2_4, ret2_5) =>
            ret (ret2_0, ret2_1, ret2_2, ret2_3, ret2_4, ret2_5))
          (fun (b2_0, b2_1, b2_2, b2_3, b2_4, b2_5, b2_6, b2_7, b2_8, b2_9, b2_10, b2_11, b2_12, b2_13, b2_14, b2_15, b2_16, b2_17) =>
            c (b2_0, Go.IntKind.i64.wrap (b2_1 + (1 : Int)), b2_2, b2_3, b2_4, b2_5, b2_6, b2_7, b2_8, b2_9, b2_10, b2_11, b2_12, b2_13, b2_14, b2_15, b2_16, b2_17)))
       else
        b (x0, x2, x3, x4, x5, x6, x7, x8, x9, x10, x11, x12, x13, x14, x15, x16, x17)
      else
       b (x0, x2, x3, x4, x5, x6, x7, x8, x9, x10, x11, x12, x13, x14, x15, x16, x17)
     else
      b (x0, x2, x3, x4, x5, x6, x7, x8, x9, x10, x11, x12, x13, x14, x15, x16, x17)
noncomputable def L_ref07_Put_6c1_0 (fuel : Nat) (v : Int × Int × Int × Int × Int × (List Int) × (List Int) × Int × Int × Int × Bool × Int × Int × Int × (List Int) × Int × Int × (List Int)) (ret : (Int × Int × Int × Int × (List Int) × (List Int) → Option Ans)) (b : (Int × Int × Int × Int × (List Int) × (List Int) × Int × Int × Int × Bool × Int × Int × Int × (List Int) × Int × Int × (List Int) → Option Ans)) : Option Ans := iter (S_ref07_Put_6c1_0 fuel) fuel v (ret, b)
noncomputable def J129_6c1_0 (fuel : Nat) (i : Nat) : Option Ev.Blk := Ev.look i [(100002, B129_6c1_2 fuel)]
noncomputable def T129_6c1_0 (v : Int × Int × Int × Int × Int × (List Int) × (List Int) × Int × Int × Int × Bool × Int × Int × Int × (List Int) × Int × Int × (List Int)) : Ev.St := match v with | (x0, x1, x2, x3, x4, x5, x6, x7, x8, x9, x10, x11, x12, x13, x14, x15, x16, x17) => ⟨[(0, .c (.ptr 0 0)), (1, .c (.int .i64 x0)), (7, .c (.ptr 3 0)), (8, .c (.ptr 4 0)), (9, .c (.ptr 5 0)), (11, .c (.int .i64 x1))], [(0, .cells 225 [.int .i64 x2, .own 1, .int .u64 x3, .int .u64 x4, .own 2]), (1, .vec 3 (.int .i64) x5 false), (2, .vec 5 (.int .u8) x6 false), (3, .cells 46 [.int .i64 x7, .int .i64 x8, .int .i64 x9, .bool x10, .int .i64 x11]), (4, .cells 39 [.int .i64 x12, .int .i64 x13, .sl (.int .u8) x14]), (5, .cells 39 [.int .i64 x15, .int .i64 x16, .sl (.int .u8) x17])], 6, 3⟩
noncomputable def E129_6c1_0 (K : Ev.Ex → Ev.St → Option Ans) : (Int × Int × Int × Int × (List Int) × (List Int) → Option Ans) × (Int × Int × Int × Int × (List Int) × (List Int) × Int × Int × Int × Bool × Int × Int × Int × (List Int) × Int × Int × (List Int) → Option Ans) := ((fun v => match v with | (x0, x1, x2, x3, x4, x5) => K .ret ⟨[(10, .c (.int .i64 x0))], [(0, .cells 225 [.int .i64 x1, .own 1, .int .u64 x2, .int .u64 x3, .own 2]), (1, .vec 3 (.int .i64) x4 false), (2, .vec 5 (.int .u8) x5 false)], 3, 3⟩), (fun v => match v with | (x0, x1, x2, x3, x4, x5, x6, x7, x8, x9, x10, x11, x12, x13, x14, x15, x16) => K .normal ⟨[(0, .c (.ptr 0 0)), (1, .c (.int .i64 x0)), (7, .c (.ptr 3 0)), (8, .c (.ptr 4 0)), (9, .c (.ptr 5 0))], [(0, .cells 225 [.int .i64 x1, .own 1, .int .u64 x2, .int .u64 x3, .own 2]), (1, .vec 3 (.int .i64) x4 false), (2, .vec 5 (.int .u8) x5 false), (3, .cells 46 [.int .i64 x6, .int .i64 x7, .int .i64 x8, .bool x9, .int .i64 x10]), (4, .cells 39 [.int .i64 x11, .int .i64 x12, .sl (.int .u8) x13]), (5, .cells 39 [.int .i64 x14, .int .i64 x15, .sl (.int .u8) x16])], 6, 3⟩))
theorem S129_6c1_0_okg (fuel : Nat) (f86 : YF86) (f109 : YF109) (f120 : YF120) (f122 : YF122) (f124 : YF124) (f125 : YF125) (f126 : YF126) (f187_2fe : YF187_2fe) (f188_e89 : YF188_e89) (R : Ev.St → Option Ans) (K : Ev.Ex → Ev.St → Option Ans) (x0 : Int) (x1 : Int) (x2 : Int) (x3 : Int) (x4 : Int) (x5 : (List Int)) (x6 : (List Int)) (x7 : Int) (x8 : Int) (x9 : Int) (x10 : Bool) (x11 : Int) (x12 : Int) (x13 : Int) (x14 : (List Int)) (x15 : Int) (x16 : Int) (x17 : (List Int)) : evalCode tab (Gg129_6c1 f86 f109 f120 f122 f124 f125 f126 f187_2fe f188_e89) (J129_6c1_0 fuel) kp129_6c1 fuel (bodyOf 0 Try.f129) (T129_6c1_0 (x0, x1, x2, x3, x4, x5, x6, x7, x8, x9, x10, x11, x12, x13, x14, x15, x16, x17)) (lc kp129_6c1 6 0 R K) = (fun (c : (Int × Int × Int × Int × Int × (List Int) × (List Int) × Int × Int × Int × Bool × Int × Int × Int × (List Int) × Int × Int × (List Int)) → Option Ans) (B : (Int × Int × Int × Int × (List Int) × (List Int) → Option Ans) × (Int × Int × Int × Int × (List Int) × (List Int) × Int × Int × Int × Bool × Int × Int × Int × (List Int) × Int × Int × (List Int) → Option Ans)) => match B with
  | (ret, b) =>
   bif Decidable.decide (x1 < x13) then
      bif x12 == x15 then
       bif x13 == x16 then
        (L_ref07_Put_6c1_2 fuel (x0, x1, (0 : Int), x2, x3, x4, x5, x6, x7, x8, x9, x10, x11, x12, x13, x14, x15, x16, x17)
          (fun (ret2_0, ret2_1, ret2_2, ret2_3, ret2_4, ret2_5) =>
            ret (ret2_0, ret2_1, ret2_2, ret2_3, ret2_4, ret2_5))
          (fun (b2_0, b2_1, b2_2, b2_3, b2_4, b2_5, b2_6, b2_7, b2_8, b2_9, b2_10, b2_11, b2_12, b2_13, b2_14, b2_15, b2_16, b2_17) =>
            c (b2_0, Go.IntKind.i64.wrap (b2_1 + (1 : Int)), b2_2, b2_3, b2_4, b2_5, b2_6, b2_7, b2_8, b2_9, b2_10, b2_11, b2_12, b2_13, b2_14, b2_15, b2_16, b2_17)))
       else
        b (x0, x2, x3, x4, x5, x6, x7, x8, x9, x10, x11, x12, x13, x14, x15, x16, x17)
      else
       b (x0, x2, x3, x4, x5, x6, x7, x8, x9, x10, x11, x12, x13, x14, x15, x16, x17)
     else
      b (x0, x2, x3, x4, x5, x6, x7, x8, x9, x10, x11, x12, x13, x14, x15, x16, x17)) (fun v => R (T129_6c1_0 v)) (E129_6c1_0 K) := by
  kernel_rfl
theorem S129_6c1_0_ok (fuel : Nat) (R : Ev.St → Option Ans) (K : Ev.Ex → Ev.St → Option Ans) (x0 : Int) (x1 : Int) (x2 : Int) (x3 : Int) (x4 : Int) (x5 : (List Int)) (x6 : (List Int)) (x7 : Int) (x8 : Int) (x9 : Int) (x10 : Bool) (x11 : Int) (x12 : Int) (x13 : Int) (x14 : (List Int)) (x15 : Int) (x16 : Int) (x17 : (List Int)) : evalCode tab (G129_6c1 fuel) (J129_6c1_0 fuel) kp129_6c1 fuel (bodyOf 0 Try.f129) (T129_6c1_0 (x0, x1, x2, x3, x4, x5, x6, x7, x8, x9, x10, x11, x12, x13, x14, x15, x16, x17)) (lc kp129_6c1 6 0 R K) = S_ref07_Put_6c1_0 fuel (x0, x1, x2, x3, x4, x5, x6, x7, x8, x9, x10, x11, x12, x13, x14, x15, x16, x17) (fun v => R (T129_6c1_0 v)) (E129_6c1_0 K) :=
  S129_6c1_0_okg fuel (F_ref05_Valid fuel) (F_ref07_Valid fuel) (F_ref07_room fuel) (F_ref07_Size fuel) (F_ref07_typical fuel) (F_ref05_At fuel) (F_ref07_context fuel) (F_ref02_Encoder_Model_2fe fuel) (F_ref02_Encoder_Put_e89 fuel) R K x0 x1 x2 x3 x4 x5 x6 x7 x8 x9 x10 x11 x12 x13 x14 x15 x16 x17
noncomputable def B129_6c1_0 (fuel : Nat) : Ev.Blk := fun st K => match canonO (kp129_6c1 6) st with
  | some s => (match s with
    | ⟨[(q0, .c (.ptr q1 q2)), (q3, .c (.int .i64 x0)), (q4, .c (.ptr q5 q6)), (q7, .c (.ptr q8 q9)), (q10, .c (.ptr q11 q12)), (q13, .c (.int .i64 x1))], [(q14, .cells q15 [.int .i64 x2, .own q16, .int .u64 x3, .int .u64 x4, .own q17]), (q18, .vec q19 (.int .i64) x5 false), (q20, .vec q21 (.int .u8) x6 false), (q22, .cells q23 [.int .i64 x7, .int .i64 x8, .int .i64 x9, .bool x10, .int .i64 x11]), (q24, .cells q25 [.int .i64 x12, .int .i64 x13, .sl (.int .u8) x14]), (q26, .cells q27 [.int .i64 x15, .int .i64 x16, .sl (.int .u8) x17])], q28, q29⟩ => bif Nat.beq q0 0 && Nat.beq q1 0 && Nat.beq q2 0 && Nat.beq q3 1 && Nat.beq q4 7 && Nat.beq q5 3 && Nat.beq q6 0 && Nat.beq q7 8 && Nat.beq q8 4 && Nat.beq q9 0 && Nat.beq q10 9 && Nat.beq q11 5 && Nat.beq q12 0 && Nat.beq q13 11 && Nat.beq q14 0 && Nat.beq q15 225 && Nat.beq q16 1 && Nat.beq q17 2 && Nat.beq q18 1 && Nat.beq q19 3 && Nat.beq q20 2 && Nat.beq q21 5 && Nat.beq q22 3 && Nat.beq q23 46 && Nat.beq q24 4 && Nat.beq q25 39 && Nat.beq q26 5 && Nat.beq q27 39 && Nat.beq q28 6 && Nat.beq q29 3 then iter (S_ref07_Put_6c1_0 fuel) fuel (x0, x1, x2, x3, x4, x5, x6, x7, x8, x9, x10, x11, x12, x13, x14, x15, x16, x17) (E129_6c1_0 K) else none
    | _ => none)
  | none => none
theorem B129_6c1_0_ok (fuel : Nat) (st : Ev.St) (K : Ev.Ex → Ev.St → Option Ans) (r : Ans) (h : B129_6c1_0 fuel st K = some r) : evalCode tab (G129_6c1 fuel) (J129_6c1_0 fuel) kp129_6c1 fuel (.block 0 (.loop (bodyOf 0 Try.f129))) st K = some r := by
  unfold B129_6c1_0 at h
  split at h
  · rename_i s hs
    split at h
    · skip
      obtain ⟨hb, h⟩ := cond_some' h
      simp only [Bool.and_eq_true, Nat.beq_eq, decide_eq_true_eq] at hb
      obtain ⟨⟨⟨⟨⟨⟨⟨⟨⟨⟨⟨⟨⟨⟨⟨⟨⟨⟨⟨⟨⟨⟨⟨⟨⟨⟨⟨⟨⟨rfl, rfl⟩, rfl⟩, rfl⟩, rfl⟩, rfl⟩, rfl⟩, rfl⟩, rfl⟩, rfl⟩, rfl⟩, rfl⟩, rfl⟩, rfl⟩, rfl⟩, rfl⟩, rfl⟩, rfl⟩, rfl⟩, rfl⟩, rfl⟩, rfl⟩, rfl⟩, rfl⟩, rfl⟩, rfl⟩, rfl⟩, rfl⟩, rfl⟩, rfl⟩ := hb
      exact blk_loop (S := T129_6c1_0) (ks := E129_6c1_0) (step := S_ref07_Put_6c1_0 fuel) (v := (_, _, _, _, _, _, _, _, _, _, _, _, _, _, _, _, _, _)) (by kernel_rfl) (by kernel_rfl) (fun R K v => by obtain ⟨x0, x1, x2, x3, x4, x5, x6, x7, x8, x9, x10, x11, x12, x13, x14, x15, x16, x17⟩ := v; exact S129_6c1_0_ok fuel R K x0 x1 x2 x3 x4 x5 x6 x7 x8 x9 x10 x11 x12 x13 x14 x15 x16 x17) hs h
    · cases h
  · cases h
noncomputable def S_ref07_Put_6c1_6 (fuel : Nat) (v : Int × Int × Int × Int × Int × Int × Int × (List Int) × (List Int) × Int × Int × Int × Bool × Int × Int × Int × (List Int) × Int × Int × (List Int)) (c : (Int × Int × Int × Int × Int × Int × Int × (List Int) × (List Int) × Int × Int × Int × Bool × Int × Int × Int × (List Int) × Int × Int × (List Int)) → Option Ans) (B : (Int × Int × Int × Int × Int × Int × (List Int) × (List Int) × Int × Int × Int × Bool × Int × Int × Int × (List Int) × Int × Int × (List Int) → Option Ans)) : Option Ans := match v, B with
  | (x0, x1, x2, x3, x4, x5, x6, x7, x8, x9, x10, x11, x12, x13, x14, x15, x16, x17, x18, x19), b =>
   bif Decidable.decide (x3 < x14) then
      (F_ref05_At fuel (x17) (x18) (x19) (x3) (x2)
        (fun y3 =>
          bif y3 == (0 : Int) then
           (F_ref07_context fuel (x9) (x10) (x11) (x12) (x13) (x14) (x15) (x16) (x3) (x2)
             (fun y8 =>
               (F_ref05_At fuel (x14) (x15) (x16) (x3) (x2)
                 (fun y12 =>
                   (F_ref02_Encoder_Put_e89 fuel (Go.IntKind.i64.wrap (x0 + y8)) (y12) (x4) (x5) (x6) (x7) (x8)
                     (fun (y16_0, y16_1, y16_2, y16_3, y16_4, y16_5) =>
                       c (x0, x1, x2, Go.IntKind.i64.wrap (x3 + (1 : Int)), y16_1, y16_2, y16_3, y16_4, y16_5, x9, x10, x11, x12, x13, x14, x15, x16, x17, x18, x19))
                     (fun (y16_0, y16_1, y16_2, y16_3, y16_4, y16_5) =>
                       c (x0, x1, x2, Go.IntKind.i64.wrap (x3 + (1 : Int)), y16_1, y16_2, y16_3, y16_4, y16_5, x9, x10, x11, x12, x13, x14, x15, x16, x17, x18, x19)))))))
          else
           c (x0, x1, x2, Go.IntKind.i64.wrap (x3 + (1 : Int)), x4, x5, x6, x7, x8, x9, x10, x11, x12, x13, x14, x15, x16, x17, x18, x19)))
     else
      b (x0, x1, x2, x4, x5, x6, x7, x8, x9, x10, x11, x12, x13, x14, x15, x16, x17, x18, x19)
noncomputable def L_ref07_Put_6c1_6 (fuel : Nat) (v : Int × Int × Int × Int × Int × Int × Int × (List Int) × (List Int) × Int × Int × Int × Bool × Int × Int × Int × (List Int) × Int × Int × (List Int)) (b : (Int × Int × Int × Int × Int × Int × (List Int) × (List Int) × Int × Int × Int × Bool × Int × Int × Int × (List Int) × Int × Int × (List Int) → Option Ans)) : Option Ans := iter (S_ref07_Put_6c1_6 fuel) fuel v b
noncomputable def J129_6c1_6 (fuel : Nat) (i : Nat) : Option Ev.Blk := Ev.look i [(100002, B129_6c1_2 fuel), (100000, B129_6c1_0 fuel)]
noncomputable def T129_6c1_6 (v : Int × Int × Int × Int × Int × Int × Int × (List Int) × (List Int) × Int × Int × Int × Bool × Int × Int × Int × (List Int) × Int × Int × (List Int)) : Ev.St := match v with | (x0, x1, x2, x3, x4, x5, x6, x7, x8, x9, x10, x11, x12, x13, x14, x15, x16, x17, x18, x19) => ⟨[(0, .c (.ptr 0 0)), (1, .c (.int .i64 x0)), (7, .c (.ptr 3 0)), (8, .c (.ptr 4 0)), (9, .c (.ptr 5 0)), (14, .c (.int .i64 x1)), (16, .c (.int .i64 x2)), (18, .c (.int .i64 x3))], [(0, .cells 225 [.int .i64 x4, .own 1, .int .u64 x5, .int .u64 x6, .own 2]), (1, .vec 3 (.int .i64) x7 false), (2, .vec 5 (.int .u8) x8 true), (3, .cells 46 [.int .i64 x9, .int .i64 x10, .int .i64 x11, .bool x12, .int .i64 x13]), (4, .cells 39 [.int .i64 x14, .int .i64 x15, .sl (.int .u8) x16]), (5, .cells 39 [.int .i64 x17, .int .i64 x18, .sl (.int .u8) x19])], 6, 3⟩
noncomputable def E129_6c1_6 (K : Ev.Ex → Ev.St → Option Ans) : (Int × Int × Int × Int × Int × Int × (List Int) × (List Int) × Int × Int × Int × Bool × Int × Int × Int × (List Int) × Int × Int × (List Int) → Option Ans) := (fun v => match v with | (x0, x1, x2, x3, x4, x5, x6, x7, x8, x9, x10, x11, x12, x13, x14, x15, x16, x17, x18) => K .normal ⟨[(0, .c (.ptr 0 0)), (1, .c (.int .i64 x0)), (7, .c (.ptr 3 0)), (8, .c (.ptr 4 0)), (9, .c (.ptr 5 0)), (14, .c (.int .i64 x1)), (16, .c (.int .i64 x2))], [(0, .cells 225 [.int .i64 x3, .own 1, .int .u64 x4, .int .u64 x5, .own 2]), (1, .vec 3 (.int .i64) x6 false), (2, .vec 5 (.int .u8) x7 true), (3, .cells 46 [.int .i64 x8, .int .i64 x9, .int .i64 x10, .bool x11, .int .i64 x12]), (4, .cells 39 [.int .i64 x13, .int .i64 x14, .sl (.int .u8) x15]), (5, .cells 39 [.int .i64 x16, .int .i64 x17, .sl (.int .u8) x18])], 6, 3⟩)
theorem S129_6c1_6_okg (fuel : Nat) (f86 : YF86) (f109 : YF109) (f120 : YF120) (f122 : YF122) (f124 : YF124) (f125 : YF125) (f126 : YF126) (f187_2fe : YF187_2fe) (f188_e89 : YF188_e89) (R : Ev.St → Option Ans) (K : Ev.Ex → Ev.St → Option Ans) (x0 : Int) (x1 : Int) (x2 : Int) (x3 : Int) (x4 : Int) (x5 : Int) (x6 : Int) (x7 : (List Int)) (x8 : (List Int)) (x9 : Int) (x10 : Int) (x11 : Int) (x12 : Bool) (x13 : Int) (x14 : Int) (x15 : Int) (x16 : (List Int)) (x17 : Int) (x18 : Int) (x19 : (List Int)) : evalCode tab (Gg129_6c1 f86 f109 f120 f122 f124 f125 f126 f187_2fe f188_e89) (J129_6c1_6 fuel) kp129_6c1 fuel (bodyOf 6 Try.f129) (T129_6c1_6 (x0, x1, x2, x3, x4, x5, x6, x7, x8, x9, x10, x11, x12, x13, x14, x15, x16, x17, x18, x19)) (lc kp129_6c1 27 6 R K) = (fun (c : (Int × Int × Int × Int × Int × Int × Int × (List Int) × (List Int) × Int × Int × Int × Bool × Int × Int × Int × (List Int) × Int × Int × (List Int)) → Option Ans) (B : (Int × Int × Int × Int × Int × Int × (List Int) × (List Int) × Int × Int × Int × Bool × Int × Int × Int × (List Int) × Int × Int × (List Int) → Option Ans)) => match B with
  | b =>
   bif Decidable.decide (x3 < x14) then
      (f125 (x17) (x18) (x19) (x3) (x2)
        (fun y3 =>
          bif y3 == (0 : Int) then
           (f126 (x9) (x10) (x11) (x12) (x13) (x14) (x15) (x16) (x3) (x2)
             (fun y8 =>
               (f125 (x14) (x15) (x16) (x3) (x2)
                 (fun y12 =>
                   (f188_e89 (Go.IntKind.i64.wrap (x0 + y8)) (y12) (x4) (x5) (x6) (x7) (x8)
                     (fun (y16_0, y16_1, y16_2, y16_3, y16_4, y16_5) =>
                       c (x0, x1, x2, Go.IntKind.i64.wrap (x3 + (1 : Int)), y16_1, y16_2, y16_3, y16_4, y16_5, x9, x10, x11, x12, x13, x14, x15, x16, x17, x18, x19))
                     (fun (y16_0, y16_1, y16_2, y16_3, y16_4, y16_5) =>
                       c (x0, x1, x2, Go.IntKind.i64.wrap (x3 + (1 : Int)), y16_1, y16_2, y16_3, y16_4, y16_5, x9, x10, x11, x12, x13, x14, x15, x16, x17, x18, x19)))))))
          else
           c (x0, x1, x2, Go.IntKind.i64.wrap (x3 + (1 : Int)), x4, x5, x6, x7, x8, x9, x10, x11, x12, x13, x14, x15, x16, x17, x18, x19)))
     else
      b (x0, x1, x2, x4, x5, x6, x7, x8, x9, x10, x11, x12, x13, x14, x15, x16, x17, x18, x19)) (fun v => R (T129_6c1_6 v)) (E129_6c1_6 K) := by
  kernel_rfl
theorem S129_6c1_6_ok (fuel : Nat) (R : Ev.St → Option Ans) (K : Ev.Ex → Ev.St → Option Ans) (x0 : Int) (x1 : Int) (x2 : Int) (x3 : Int) (x4 : Int) (x5 : Int) (x6 : Int) (x7 : (List Int)) (x8 : (List Int)) (x9 : Int) (x10 : Int) (x11 : Int) (x12 : Bool) (x13 : Int) (x14 : Int) (x15 : Int) (x16 : (List Int)) (x17 : Int) (x18 : Int) (x19 : (List Int)) : evalCode tab (G129_6c1 fuel) (J129_6c1_6 fuel) kp129_6c1 fuel (bodyOf 6 Try.f129) (T129_6c1_6 (x0, x1, x2, x3, x4, x5, x6, x7, x8, x9, x10, x11, x12, x13, x14, x15, x16, x17, x18, x19)) (lc kp129_6c1 27 6 R K) = S_ref07_Put_6c1_6 fuel (x0, x1, x2, x3, x4, x5, x6, x7, x8, x9, x10, x11, x12, x13, x14, x15, x16, x17, x18, x19) (fun v => R (T129_6c1_6 v)) (E129_6c1_6 K) :=
  S129_6c1_6_okg fuel (F_ref05_Valid fuel) (F_ref07_Valid fuel) (F_ref07_room fuel) (F_ref07_Size fuel) (F_ref07_typical fuel) (F_ref05_At fuel) (F_ref07_context fuel) (F_ref02_Encoder_Model_2fe fuel) (F_ref02_Encoder_Put_e89 fuel) R K x0 x1 x2 x3 x4 x5 x6 x7 x8 x9 x10 x11 x12 x13 x14 x15 x16 x17 x18 x19
noncomputable def B129_6c1_6 (fuel : Nat) : Ev.Blk := fun st K => match canonO (kp129_6c1 27) st with
  | some s => (match s with
    | ⟨[(q0, .c (.ptr q1 q2)), (q3, .c (.int .i64 x0)), (q4, .c (.ptr q5 q6)), (q7, .c (.ptr q8 q9)), (q10, .c (.ptr q11 q12)), (q13, .c (.int .i64 x1)), (q14, .c (.int .i64 x2)), (q15, .c (.int .i64 x3))], [(q16, .cells q17 [.int .i64 x4, .own q18, .int .u64 x5, .int .u64 x6, .own q19]), (q20, .vec q21 (.int .i64) x7 false), (q22, .vec q23 (.int .u8) x8 true), (q24, .cells q25 [.int .i64 x9, .int .i64 x10, .int .i64 x11, .bool x12, .int .i64 x13]), (q26, .cells q27 [.int .i64 x14, .int .i64 x15, .sl (.int .u8) x16]), (q28, .cells q29 [.int .i64 x17, .int .i64 x18, .sl (.int .u8) x19])], q30, q31⟩ => bif Nat.beq q0 0 && Nat.beq q1 0 && Nat.beq q2 0 && Nat.beq q3 1 && Nat.beq q4 7 && Nat.beq q5 3 && Nat.beq q6 0 && Nat.beq q7 8 && Nat.beq q8 4 && Nat.beq q9 0 && Nat.beq q10 9 && Nat.beq q11 5 && Nat.beq q12 0 && Nat.beq q13 14 && Nat.beq q14 16 && Nat.beq q15 18 && Nat.beq q16 0 && Nat.beq q17 225 && Nat.beq q18 1 && Nat.beq q19 2 && Nat.beq q20 1 && Nat.beq q21 3 && Nat.beq q22 2 && Nat.beq q23 5 && Nat.beq q24 3 && Nat.beq q25 46 && Nat.beq q26 4 && Nat.beq q27 39 && Nat.beq q28 5 && Nat.beq q29 39 && Nat.beq q30 6 && Nat.beq q31 3 then iter (S_ref07_Put_6c1_6 fuel) fuel (x0, x1, x2, x3, x4, x5, x6, x7, x8, x9, x10, x11, x12, x13, x14, x15, x16, x17, x18, x19) (E129_6c1_6 K) else none
    | _ => none)
  | none => none
theorem B129_6c1_6_ok (fuel : Nat) (st : Ev.St) (K : Ev.Ex → Ev.St → Option Ans) (r : Ans) (h : B129_6c1_6 fuel st K = some r) : evalCode tab (G129_6c1 fuel) (J129_6c1_6 fuel) kp129_6c1 fuel (.block 6 (.loop (bodyOf 6 Try.f129))) st K = some r := by
  unfold B129_6c1_6 at h
  split at h
  · rename_i s hs
    split at h
    · skip
      obtain ⟨hb, h⟩ := cond_some' h
      simp only [Bool.and_eq_true, Nat.beq_eq, decide_eq_true_eq] at hb
      obtain ⟨⟨⟨⟨⟨⟨⟨⟨⟨⟨⟨⟨⟨⟨⟨⟨⟨⟨⟨⟨⟨⟨⟨⟨⟨⟨⟨⟨⟨⟨⟨rfl, rfl⟩, rfl⟩, rfl⟩, rfl⟩, rfl⟩, rfl⟩, rfl⟩, rfl⟩, rfl⟩, rfl⟩, rfl⟩, rfl⟩, rfl⟩, rfl⟩, rfl⟩, rfl⟩, rfl⟩, rfl⟩, rfl⟩, rfl⟩, rfl⟩, rfl⟩, rfl⟩, rfl⟩, rfl⟩, rfl⟩, rfl⟩, rfl⟩, rfl⟩, rfl⟩, rfl⟩ := hb
      exact blk_loop (S := T129_6c1_6) (ks := E129_6c1_6) (step := S_ref07_Put_6c1_6 fuel) (v := (_, _, _, _, _, _, _, _, _, _, _, _, _, _, _, _, _, _, _, _)) (by kernel_rfl) (by kernel_rfl) (fun R K v => by obtain ⟨x0, x1, x2, x3, x4, x5, x6, x7, x8, x9, x10, x11, x12, x13, x14, x15, x16, x17, x18, x19⟩ := v; exact S129_6c1_6_ok fuel R K x0 x1 x2 x3 x4 x5 x6 x7 x8 x9 x10 x11 x12 x13 x14 x15 x16 x17 x18 x19) hs h
    · cases h
  · cases h
noncomputable def S_ref07_Put_6c1_4 (fuel : Nat) (v : Int × Int × Int × Int × Int × Int × (List Int) × (List Int) × Int × Int × Int × Bool × Int × Int × Int × (List Int) × Int × Int × (List Int)) (c : (Int × Int × Int × Int × Int × Int × (List Int) × (List Int) × Int × Int × Int × Bool × Int × Int × Int × (List Int) × Int × Int × (List Int)) → Option Ans) (B : (Int × Int × Int × (List Int) × (List Int) → Option Ans)) : Option Ans := match v, B with
  | (x0, x1, x2, x3, x4, x5, x6, x7, x8, x9, x10, x11, x12, x13, x14, x15, x16, x17, x18), b =>
   bif Decidable.decide (x2 < x14) then
      bif x11 then
       bif Decidable.decide ((0 : Int) ≤ Ev.loOf (Option.some (Go.IntKind.i64.wrap (x2 * x13))) ∧ Ev.loOf (Option.some (Go.IntKind.i64.wrap (x2 * x13))) ≤ Ev.hiOf (Option.some (Go.IntKind.i64.wrap (Go.IntKind.i64.wrap (x2 + (1 : Int)) * x13))) (↑x15.length : Int) ∧ Ev.hiOf (Option.some (Go.IntKind.i64.wrap (Go.IntKind.i64.wrap (x2 + (1 : Int)) * x13))) (↑x15.length : Int) ≤ (↑x15.length : Int)) then
       both ((F_ref07_typical fuel (x13) (x14) (x15) (x16) (x17) (x18) (x2)
            (fun y7 =>
              both (bif (Go.strOfNums y7).toList == (Go.strOfNums (List.take (Ev.hiOf (Option.some (Go.IntKind.i64.wrap (Go.IntKind.i64.wrap (x2 + (1 : Int)) * x13))) (↑x15.length : Int) - Ev.loOf (Option.some (Go.IntKind.i64.wrap (x2 * x13)))).toNat (List.drop (Ev.loOf (Option.some (Go.IntKind.i64.wrap (x2 * x13)))).toNat x15))).toList then
                 (F_ref02_Encoder_Put_e89 fuel (Go.IntKind.i64.wrap (Go.IntKind.i64.wrap (x0 + x1) - (1 : Int))) ((1 : Int)) (x3) (x4) (x5) (x6) (x7)
                   (fun (y14_0, y14_1, y14_2, y14_3, y14_4, y14_5) =>
                     c (x0, x1, Go.IntKind.i64.wrap (x2 + (1 : Int)), y14_1, y14_2, y14_3, y14_4, y14_5, x8, x9, x10, x11, x12, x13, x14, x15, x16, x17, x18))
                   (fun (y14_0, y14_1, y14_2, y14_3, y14_4, y14_5) =>
                     c (x0, x1, Go.IntKind.i64.wrap (x2 + (1 : Int)), y14_1, y14_2, y14_3, y14_4, y14_5, x8, x9, x10, x11, x12, x13, x14, x15, x16, x17, x18)))
                else
                 (F_ref02_Encoder_Put_e89 fuel (Go.IntKind.i64.wrap (Go.IntKind.i64.wrap (x0 + x1) - (1 : Int))) ((0 : Int)) (x3) (x4) (x5) (x6) (x7)
                   (fun (y14_0, y14_1, y14_2, y14_3, y14_4, y14_5) =>
                     (L_ref07_Put_6c1_6 fuel (x0, x1, x2, (0 : Int), y14_1, y14_2, y14_3, y14_4, y14_5, x8, x9, x10, x11, x12, x13, x14, x15, x16, x17, x18)
                       (fun (b6_0, b6_1, b6_2, b6_3, b6_4, b6_5, b6_6, b6_7, b6_8, b6_9, b6_10, b6_11, b6_12, b6_13, b6_14, b6_15, b6_16, b6_17, b6_18) =>
                         c (b6_0, b6_1, Go.IntKind.i64.wrap (b6_2 + (1 : Int)), b6_3, b6_4, b6_5, b6_6, b6_7, b6_8, b6_9, b6_10, b6_11, b6_12, b6_13, b6_14, b6_15, b6_16, b6_17, b6_18))))
                   (fun (y14_0, y14_1, y14_2, y14_3, y14_4, y14_5) =>
                     (L_ref07_Put_6c1_6 fuel (x0, x1, x2, (0 : Int), y14_1, y14_2, y14_3, y14_4, y14_5, x8, x9, x10, x11, x12, x13, x14, x15, x16, x17, x18)
                       (fun (b6_0, b6_1, b6_2, b6_3, b6_4, b6_5, b6_6, b6_7, b6_8, b6_9, b6_10, b6_11, b6_12, b6_13, b6_14, b6_15, b6_16, b6_17, b6_18) =>
                         c (b6_0, b6_1, Go.IntKind.i64.wrap (b6_2 + (1 : Int)), b6_3, b6_4, b6_5, b6_6, b6_7, b6_8, b6_9, b6_10, b6_11, b6_12, b6_13, b6_14, b6_15, b6_16, b6_17, b6_18))))))
               (bif (Go.strOfNums y7).toList == (Go.strOfNums (List.take (Ev.hiOf (Option.some (Go.IntKind.i64.wrap (Go.IntKind.i64.wrap (x2 + (1 : Int)) * x13))) (↑x15.length : Int) - Ev.loOf (Option.some (Go.IntKind.i64.wrap (x2 * x13)))).toNat (List.drop (Ev.loOf (Option.some (Go.IntKind.i64.wrap (x2 * x13)))).toNat x15))).toList then
                 (F_ref02_Encoder_Put_e89 fuel (Go.IntKind.i64.wrap (Go.IntKind.i64.wrap (x0 + x1) - (1 : Int))) ((1 : Int)) (x3) (x4) (x5) (x6) (x7)
                   (fun (y14_0, y14_1, y14_2, y14_3, y14_4, y14_5) =>
                     c (x0, x1, Go.IntKind.i64.wrap (x2 + (1 : Int)), y14_1, y14_2, y14_3, y14_4, y14_5, x8, x9, x10, x11, x12, x13, x14, x15, x16, x17, x18))
                   (fun (y14_0, y14_1, y14_2, y14_3, y14_4, y14_5) =>
                     c (x0, x1, Go.IntKind.i64.wrap (x2 + (1 : Int)), y14_1, y14_2, y14_3, y14_4, y14_5, x8, x9, x10, x11, x12, x13, x14, x15, x16, x17, x18)))
                else
                 (F_ref02_Encoder_Put_e89 fuel (Go.IntKind.i64.wrap (Go.IntKind.i64.wrap (x0 + x1) - (1 : Int))) ((0 : Int)) (x3) (x4) (x5) (x6) (x7)
                   (fun (y14_0, y14_1, y14_2, y14_3, y14_4, y14_5) =>
                     (L_ref07_Put_6c1_6 fuel (x0, x1, x2, (0 : Int), y14_1, y14_2, y14_3, y14_4, y14_5, x8, x9, x10, x11, x12, x13, x14, x15, x16, x17, x18)
                       (fun (b6_0, b6_1, b6_2, b6_3, b6_4, b6_5, b6_6, b6_7, b6_8, b6_9, b6_10, b6_11, b6_12, b6_13, b6_14, b6_15, b6_16, b6_17, b6_18) =>
                         c (b6_0, b6_1, Go.IntKind.i64.wrap (b6_2 + (1 : Int)), b6_3, b6_4, b6_5, b6_6, b6_7, b6_8, b6_9, b6_10, b6_11, b6_12, b6_13, b6_14, b6_15, b6_16, b6_17, b6_18))))
                   (fun (y14_0, y14_1, y14_2, y14_3, y14_4, y14_5) =>
                     (L_ref07_Put_6c1_6 fuel (x0, x1, x2, (0 : Int), y14_1, y14_2, y14_3, y14_4, y14_5, x8, x9, x10, x11, x12, x13, x14, x15, x16, x17, x18)
                       (fun (b6_0, b6_1, b6_2, b6_3, b6_4, b6_5, b6_6, b6_7, b6_8, b6_9, b6_10, b6_11, b6_12, b6_13, b6_14, b6_15, b6_16, b6_17, b6_18) =>
                         c (b6_0, b6_1, Go.IntKind.i64.wrap (b6_2 + (1 : Int)), b6_3, b6_4, b6_5, b6_6, b6_7, b6_8, b6_9, b6_10, b6_11, b6_12, b6_13, b6_14, b6_15, b6_16, b6_17, b6_18)))))))))
         ((F_ref07_typical fuel (x13) (x14) (x15) (x16) (x17) (x18) (x2)
            (fun y7 =>
              bif (Go.strOfNums y7).toList == (Go.strOfNums (List.take (Ev.hiOf (Option.some (Go.IntKind.i64.wrap (Go.IntKind.i64.wrap (x2 + (1 : Int)) * x13))) (↑x15.length : Int) - Ev.loOf (Option.some (Go.IntKind.i64.wrap (x2 * x13)))).toNat (List.drop (Ev.loOf (Option.some (Go.IntKind.i64.wrap (x2 * x13)))).toNat x15))).toList then
               (F_ref02_Encoder_Put_e89 fuel (Go.IntKind.i64.wrap (Go.IntKind.i64.wrap (x0 + x1) - (1 : Int))) ((1 : Int)) (x3) (x4) (x5) (x6) (x7)
                 (fun (y12_0, y12_1, y12_2, y12_3, y12_4, y12_5) =>
                   c (x0, x1, Go.IntKind.i64.wrap (x2 + (1 : Int)), y12_1, y12_2, y12_3, y12_4, y12_5, x8, x9, x10, x11, x12, x13, x14, x15, x16, x17, x18))
                 (fun (y12_0, y12_1, y12_2, y12_3, y12_4, y12_5) =>
                   c (x0, x1, Go.IntKind.i64.wrap (x2 + (1 : Int)), y12_1, y12_2, y12_3, y12_4, y12_5, x8, x9, x10, x11, x12, x13, x14, x15, x16, x17, x18)))
              else
               (F_ref02_Encoder_Put_e89 fuel (Go.IntKind.i64.wrap (Go.IntKind.i64.wrap (x0 + x1) - (1 : Int))) ((0 : Int)) (x3) (x4) (x5) (x6) (x7)
                 (fun (y12_0, y12_1, y12_2, y12_3, y12_4, y12_5) =>
                   (L_ref07_Put_6c1_6 fuel (x0, x1, x2, (0 : Int), y12_1, y12_2, y12_3, y12_4, y12_5, x8, x9, x10, x11, x12, x13, x14, x15, x16, x17, x18)
                     (fun (b6_0, b6_1, b6_2, b6_3, b6_4, b6_5, b6_6, b6_7, b6_8, b6_9, b6_10, b6_11, b6_12, b6_13, b6_14, b6_15, b6_16, b6_17, b6_18) =>
                       c (b6_0, b6_1, Go.IntKind.i64.wrap (b6_2 + (1 : Int)), b6_3, b6_4, b6_5, b6_6, b6_7, b6_8, b6_9, b6_10, b6_11, b6_12, b6_13, b6_14, b6_15, b6_16, b6_17, b6_18))))
                 (fun (y12_0, y12_1, y12_2, y12_3, y12_4, y12_5) =>
                   (L_ref07_Put_6c1_6 fuel (x0, x1, x2, (0 : Int), y12_1, y12_2, y12_3, y12_4, y12_5, x8, x9, x10, x11, x12, x13, x14, x15, x16, x17, x18)
                     (fun (b6_0, b6_1, b6_2, b6_3, b6_4, b6_5, b6_6, b6_7, b6_8, b6_9, b6_10, b6_11, b6_12, b6_13, b6_14, b6_15, b6_16, b6_17, b6_18) =>
                       c (b6_0, b6_1, Go.IntKind.i64.wrap (b6_2 + (1 : Int)), b6_3, b6_4, b6_5, b6_6, b6_7, b6_8, b6_9, b6_10, b6_11, b6_12, b6_13, b6_14, b6_15, b6_16, b6_17, b6_18))))))))
       else none
      else
       (L_ref07_Put_6c1_6 fuel (x0, x1, x2, (0 : Int), x3, x4, x5, x6, x7, x8, x9, x10, x11, x12, x13, x14, x15, x16, x17, x18)
         (fun (b6_0, b6_1, b6_2, b6_3, b6_4, b6_5, b6_6, b6_7, b6_8, b6_9, b6_10, b6_11, b6_12, b6_13, b6_14, b6_15, b6_16, b6_17, b6_18) =>
           c (b6_0, b6_1, Go.IntKind.i64.wrap (b6_2 + (1 : Int)), b6_3, b6_4, b6_5, b6_6, b6_7, b6_8, b6_9, b6_10, b6_11, b6_12, b6_13, b6_14, b6_15, b6_16, b6_17, b6_18)))
     else
      b (x3, x4, x5, x6, x7)
noncomputable def L_ref07_Put_6c1_4 (fuel : Nat) (v : Int × Int × Int × Int × Int × Int × (List Int) × (List Int) × Int × Int × Int × Bool × Int × Int × Int × (List Int) × Int × Int × (List Int)) (b : (Int × Int × Int × (List Int) × (List Int) → Option Ans)) : Option Ans := iter (S_ref07_Put_6c1_4 fuel) fuel v b
noncomputable def J129_6c1_4 (fuel : Nat) (i : Nat) : Option Ev.Blk := Ev.look i [(100002, B129_6c1_2 fuel), (100000, B129_6c1_0 fuel), (100006, B129_6c1_6 fuel)]
noncomputable def T129_6c1_4 (v : Int × Int × Int × Int × Int × Int × (List Int) × (List Int) × Int × Int × Int × Bool × Int × Int × Int × (List Int) × Int × Int × (List Int)) : Ev.St := match v with | (x0, x1, x2, x3, x4, x5, x6, x7, x8, x9, x10, x11, x12, x13, x14, x15, x16, x17, x18) => ⟨[(0, .c (.ptr 0 0)), (1, .c (.int .i64 x0)), (7, .c (.ptr 3 0)), (8, .c (.ptr 4 0)), (9, .c (.ptr 5 0)), (14, .c (.int .i64 x1)), (16, .c (.int .i64 x2))], [(0, .cells 225 [.int .i64 x3, .own 1, .int .u64 x4, .int .u64 x5, .own 2]), (1, .vec 3 (.int .i64) x6 false), (2, .vec 5 (.int .u8) x7 true), (3, .cells 46 [.int .i64 x8, .int .i64 x9, .int .i64 x10, .bool x11, .int .i64 x12]), (4, .cells 39 [.int .i64 x13, .int .i64 x14, .sl (.int .u8) x15]), (5, .cells 39 [.int .i64 x16, .int .i64 x17, .sl (.int .u8) x18])], 6, 3⟩
noncomputable def E129_6c1_4 (K : Ev.Ex → Ev.St → Option Ans) : (Int × Int × Int × (List Int) × (List Int) → Option Ans) := (fun v => match v with | (x0, x1, x2, x3, x4) => K .normal ⟨[], [(0, .cells 225 [.int .i64 x0, .own 1, .int .u64 x1, .int .u64 x2, .own 2]), (1, .vec 3 (.int .i64) x3 false), (2, .vec 5 (.int .u8) x4 true)], 3, 3⟩)
theorem S129_6c1_4_okg (fuel : Nat) (f86 : YF86) (f109 : YF109) (f120 : YF120) (f122 : YF122) (f124 : YF124) (f125 : YF125) (f126 : YF126) (f187_2fe : YF187_2fe) (f188_e89 : YF188_e89) (R : Ev.St → Option Ans) (K : Ev.Ex → Ev.St → Option Ans) (x0 : Int) (x1 : Int) (x2 : Int) (x3 : Int) (x4 : Int) (x5 : Int) (x6 : (List Int)) (x7 : (List Int)) (x8 : Int) (x9 : Int) (x10 : Int) (x11 : Bool) (x12 : Int) (x13 : Int) (x14 : Int) (x15 : (List Int)) (x16 : Int) (x17 : Int) (x18 : (List Int)) : evalCode tab (Gg129_6c1 f86 f109 f120 f122 f124 f125 f126 f187_2fe f188_e89) (J129_6c1_4 fuel) kp129_6c1 fuel (bodyOf 4 Try.f129) (T129_6c1_4 (x0, x1, x2, x3, x4, x5, x6, x7, x8, x9, x10, x11, x12, x13, x14, x15, x16, x17, x18)) (lc kp129_6c1 18 4 R K) = (fun (c : (Int × Int × Int × Int × Int × Int × (List Int) × (List Int) × Int × Int × Int × Bool × Int × Int × Int × (List Int) × Int × Int × (List Int)) → Option Ans) (B : (Int × Int × Int × (List Int) × (List Int) → Option Ans)) => match B with
  | b =>
   bif Decidable.decide (x2 < x14) then
      bif x11 then
       bif Decidable.decide ((0 : Int) ≤ Ev.loOf (Option.some (Go.IntKind.i64.wrap (x2 * x13))) ∧ Ev.loOf (Option.some (Go.IntKind.i64.wrap (x2 * x13))) ≤ Ev.hiOf (Option.some (Go.IntKind.i64.wrap (Go.IntKind.i64.wrap (x2 + (1 : Int)) * x13))) (↑x15.length : Int) ∧ Ev.hiOf (Option.some (Go.IntKind.i64.wrap (Go.IntKind.i64.wrap (x2 + (1 : Int)) * x13))) (↑x15.length : Int) ≤ (↑x15.length : Int)) then
       both ((f124 (x13) (x14) (x15) (x16) (x17) (x18) (x2)
            (fun y7 =>
              both (bif (Go.strOfNums y7).toList == (Go.strOfNums (List.take (Ev.hiOf (Option.some (Go.IntKind.i64.wrap (Go.IntKind.i64.wrap (x2 + (1 : Int)) * x13))) (↑x15.length : Int) - Ev.loOf (Option.some (Go.IntKind.i64.wrap (x2 * x13)))).toNat (List.drop (Ev.loOf (Option.some (Go.IntKind.i64.wrap (x2 * x13)))).toNat x15))).toList then
                 (f188_e89 (Go.IntKind.i64.wrap (Go.IntKind.i64.wrap (x0 + x1) - (1 : Int))) ((1 : Int)) (x3) (x4) (x5) (x6) (x7)
                   (fun (y14_0, y14_1, y14_2, y14_3, y14_4, y14_5) =>
                     c (x0, x1, Go.IntKind.i64.wrap (x2 + (1 : Int)), y14_1, y14_2, y14_3, y14_4, y14_5, x8, x9, x10, x11, x12, x13, x14, x15, x16, x17, x18))
                   (fun (y14_0, y14_1, y14_2, y14_3, y14_4, y14_5) =>
                     c (x0, x1, Go.IntKind.i64.wrap (x2 + (1 : Int)), y14_1, y14_2, y14_3, y14_4, y14_5, x8, x9, x10, x11, x12, x13, x14, x15, x16, x17, x18)))
                else
                 (f188_e89 (Go.IntKind.i64.wrap (Go.IntKind.i64.wrap (x0 + x1) - (1 : Int))) ((0 : Int)) (x3) (x4) (x5) (x6) (x7)
                   (fun (y14_0, y14_1, y14_2, y14_3, y14_4, y14_5) =>
                     (L_ref07_Put_6c1_6 fuel (x0, x1, x2, (0 : Int), y14_1, y14_2, y14_3, y14_4, y14_5, x8, x9, x10, x11, x12, x13, x14, x15, x16, x17, x18)
                       (fun (b6_0, b6_1, b6_2, b6_3, b6_4, b6_5, b6_6, b6_7, b6_8, b6_9, b6_10, b6_11, b6_12, b6_13, b6_14, b6_15, b6_16, b6_17, b6_18) =>
                         c (b6_0, b6_1, Go.IntKind.i64.wrap (b6_2 + (1 : Int)), b6_3, b6_4, b6_5, b6_6, b6_7, b6_8, b6_9, b6_10, b6_11, b6_12, b6_13, b6_14, b6_15, b6_16, b6_17, b6_18))))
                   (fun (y14_0, y14_1, y14_2, y14_3, y14_4, y14_5) =>
                     (L_ref07_Put_6c1_6 fuel (x0, x1, x2, (0 : Int), y14_1, y14_2, y14_3, y14_4, y14_5, x8, x9, x10, x11, x12, x13, x14, x15, x16, x17, x18)
                       (fun (b6_0, b6_1, b6_2, b6_3, b6_4, b6_5, b6_6, b6_7, b6_8, b6_9, b6_10, b6_11, b6_12, b6_13, b6_14, b6_15, b6_16, b6_17, b6_18) =>
                         c (b6_0, b6_1, Go.IntKind.i64.wrap (b6_2 + (1 : Int)), b6_3, b6_4, b6_5, b6_6, b6_7, b6_8, b6_9, b6_10, b6_11, b6_12, b6_13, b6_14, b6_15, b6_16, b6_17, b6_18))))))
               (bif (Go.strOfNums y7).toList == (Go.strOfNums (List.take (Ev.hiOf (Option.some (Go.IntKind.i64.wrap (Go.IntKind.i64.wrap (x2 + (1 : Int)) * x13))) (↑x15.length : Int) - Ev.loOf (Option.some (Go.IntKind.i64.wrap (x2 * x13)))).toNat (List.drop (Ev.loOf (Option.some (Go.IntKind.i64.wrap (x2 * x13)))).toNat x15))).toList then
                 (f188_e89 (Go.IntKind.i64.wrap (Go.IntKind.i64.wrap (x0 + x1) - (1 : Int))) ((1 : Int)) (x3) (x4) (x5) (x6) (x7)
                   (fun (y14_0, y14_1, y14_2, y14_3, y14_4, y14_5) =>
                     c (x0, x1, Go.IntKind.i64.wrap (x2 + (1 : Int)), y14_1, y14_2, y14_3, y14_4, y14_5, x8, x9, x10, x11, x12, x13, x14, x15, x16, x17, x18))
                   (fun (y14_0, y14_1, y14_2, y14_3, y14_4, y14_5) =>
                     c (x0, x1, Go.IntKind.i64.wrap (x2 + (1 : Int)), y14_1, y14_2, y14_3, y14_4, y14_5, x8, x9, x10, x11, x12, x13, x14, x15, x16, x17, x18)))
                else
                 (f188_e89 (Go.IntKind.i64.wrap (Go.IntKind.i64.wrap (x0 + x1) - (1 : Int))) ((0 : Int)) (x3) (x4) (x5) (x6) (x7)
                   (fun (y14_0, y14_1, y14_2, y14_3, y14_4, y14_5) =>
                     (L_ref07_Put_6c1_6 fuel (x0, x1, x2, (0 : Int), y14_1, y14_2, y14_3, y14_4, y14_5, x8, x9, x10, x11, x12, x13, x14, x15, x16, x17, x18)
                       (fun (b6_0, b6_1, b6_2, b6_3, b6_4, b6_5, b6_6, b6_7, b6_8, b6_9, b6_10, b6_11, b6_12, b6_13, b6_14, b6_15, b6_16, b6_17, b6_18) =>
                         c (b6_0, b6_1, Go.IntKind.i64.wrap (b6_2 + (1 : Int)), b6_3, b6_4, b6_5, b6_6, b6_7, b6_8, b6_9, b6_10, b6_11, b6_12, b6_13, b6_14, b6_15, b6_16, b6_17, b6_18))))
                   (fun (y14_0, y14_1, y14_2, y14_3, y14_4, y14_5) =>
                     (L_ref07_Put_6c1_6 fuel (x0, x1, x2, (0 : Int), y14_1, y14_2, y14_3, y14_4, y14_5, x8, x9, x10, x11, x12, x13, x14, x15, x16, x17, x18)
                       (fun (b6_0, b6_1, b6_2, b6_3, b6_4, b6_5, b6_6, b6_7, b6_8, b6_9, b6_10, b6_11, b6_12, b6_13, b6_14, b6_15, b6_16, b6_17, b6_18) =>
                         c (b6_0, b6_1, Go.IntKind.i64.wrap (b6_2 + (1 : Int)), b6_3, b6_4, b6_5, b6_6, b6_7, b6_8, b6_9, b6_10, b6_11, b6_12, b6_13, b6_14, b6_15, b6_16, b6_17, b6_18)))))))))
         ((f124 (x13) (x14) (x15) (x16) (x17) (x18) (x2)
            (fun y7 =>
              bif (Go.strOfNums y7).toList == (Go.strOfNums (List.take (Ev.hiOf (Option.some (Go.IntKind.i64.wrap (Go.IntKind.i64.wrap (x2 + (1 : Int)) * x13))) (↑x15.length : Int) - Ev.loOf (Option.some (Go.IntKind.i64.wrap (x2 * x13)))).toNat (List.drop (Ev.loOf (Option.some (Go.IntKind.i64.wrap (x2 * x13)))).toNat x15))).toList then
               (f188_e89 (Go.IntKind.i64.wrap (Go.IntKind.i64.wrap (x0 + x1) - (1 : Int))) ((1 : Int)) (x3) (x4) (x5) (x6) (x7)
                 (fun (y12_0, y12_1, y12_2, y12_3, y12_4, y12_5) =>
                   c (x0, x1, Go.IntKind.i64.wrap (x2 + (1 : Int)), y12_1, y12_2, y12_3, y12_4, y12_5, x8, x9, x10, x11, x12, x13, x14, x15, x16, x17, x18))
                 (fun (y12_0, y12_1, y12_2, y12_3, y12_4, y12_5) =>
                   c (x0, x1, Go.IntKind.i64.wrap (x2 + (1 : Int)), y12_1, y12_2, y12_3, y12_4, y12_5, x8, x9, x10, x11, x12, x13, x14, x15, x16, x17, x18)))
              else
               (f188_e89 (Go.IntKind.i64.wrap (Go.IntKind.i64.wrap (x0 + x1) - (1 : Int))) ((0 : Int)) (x3) (x4) (x5) (x6) (x7)
                 (fun (y12_0, y12_1, y12_2, y12_3, y12_4, y12_5) =>
                   (L_ref07_Put_6c1_6 fuel (x0, x1, x2, (0 : Int), y12_1, y12_2, y12_3, y12_4, y12_5, x8, x9, x10, x11, x12, x13, x14, x15, x16, x17, x18)
                     (fun (b6_0, b6_1, b6_2, b6_3, b6_4, b6_5, b6_6, b6_7, b6_8, b6_9, b6_10, b6_11, b6_12, b6_13, b6_14, b6_15, b6_16, b6_17, b6_18) =>
                       c (b6_0, b6_1, Go.IntKind.i64.wrap (b6_2 + (1 : Int)), b6_3, b6_4, b6_5, b6_6, b6_7, b6_8, b6_9, b6_10, b6_11, b6_12, b6_13, b6_14, b6_15, b6_16, b6_17, b6_18))))
                 (fun (y12_0, y12_1, y12_2, y12_3, y12_4, y12_5) =>
                   (L_ref07_Put_6c1_6 fuel (x0, x1, x2, (0 : Int), y12_1, y12_2, y12_3, y12_4, y12_5, x8, x9, x10, x11, x12, x13, x14, x15, x16, x17, x18)
                     (fun (b6_0, b6_1, b6_2, b6_3, b6_4, b6_5, b6_6, b6_7, b6_8, b6_9, b6_10, b6_11, b6_12, b6_13, b6_14, b6_15, b6_16, b6_17, b6_18) =>
                       c (b6_0, b6_1, Go.IntKind.i64.wrap (b6_2 + (1 : Int)), b6_3, b6_4, b6_5, b6_6, b6_7, b6_8, b6_9, b6_10, b6_11, b6_12, b6_13, b6_14, b6_15, b6_16, b6_17, b6_18))))))))
       else none
      else
       (L_ref07_Put_6c1_6 fuel (x0, x1, x2, (0 : Int), x3, x4, x5, x6, x7, x8, x9, x10, x11, x12, x13, x14, x15, x16, x17, x18)
         (fun (b6_0, b6_1, b6_2, b6_3, b6_4, b6_5, b6_6, b6_7, b6_8, b6_9, b6_10, b6_11, b6_12, b6_13, b6_14, b6_15, b6_16, b6_17, b6_18) =>
           c (b6_0, b6_1, Go.IntKind.i64.wrap (b6_2 + (1 : Int)), b6_3, b6_4, b6_5, b6_6, b6_7, b6_8, b6_9, b6_10, b6_11, b6_12, b6_13, b6_14, b6_15, b6_16, b6_17, b6_18)))
     else
      b (x3, x4, x5, x6, x7)) (fun v => R (T129_6c1_4 v)) (E129_6c1_4 K) := by
  kernel_rfl
theorem S129_6c1_4_ok (fuel : Nat) (R : Ev.St → Option Ans) (K : Ev.Ex → Ev.St → Option Ans) (x0 : Int) (x1 : Int) (x2 : Int) (x3 : Int) (x4 : Int) (x5 : Int) (x6 : (List Int)) (x7 : (List Int)) (x8 : Int) (x9 : Int) (x10 : Int) (x11 : Bool) (x12 : Int) (x13 : Int) (x14 : Int) (x15 : (List Int)) (x16 : Int) (x17 : Int) (x18 : (List Int)) : evalCode tab (G129_6c1 fuel) (J129_6c1_4 fuel) kp129_6c1 fuel (bodyOf 4 Try.f129) (T129_6c1_4 (x0, x1, x2, x3, x4, x5, x6, x7, x8, x9, x10, x11, x12, x13, x14, x15, x16, x17, x18)) (lc kp129_6c1 18 4 R K) = S_ref07_Put_6c1_4 fuel (x0, x1, x2, x3, x4, x5, x6, x7, x8, x9, x10, x11, x12, x13, x14, x15, x16, x17, x18) (fun v => R (T129_6c1_4 v)) (E129_6c1_4 K) :=
  S129_6c1_4_okg fuel (F_ref05_Valid fuel) (F_ref07_Valid fuel) (F_ref07_room fuel) (F_ref07_Size fuel) (F_ref07_typical fuel) (F_ref05_At fuel) (F_ref07_context fuel) (F_ref02_Encoder_Model_2fe fuel) (F_ref02_Encoder_Put_e89 fuel) R K x0 x1 x2 x3 x4 x5 x6 x7 x8 x9 x10 x11 x12 x13 x14 x15 x16 x17 x18
noncomputable def B129_6c1_4 (fuel : Nat) : Ev.Blk := fun st K => match canonO (kp129_6c1 18) st with
  | some s => (match s with
    | ⟨[(q0, .c (.ptr q1 q2)), (q3, .c (.int .i64 x0)), (q4, .c (.ptr q5 q6)), (q7, .c (.ptr q8 q9)), (q10, .c (.ptr q11 q12)), (q13, .c (.int .i64 x1)), (q14, .c (.int .i64 x2))], [(q15, .cells q16 [.int .i64 x3, .own q17, .int .u64 x4, .int .u64 x5, .own q18]), (q19, .vec q20 (.int .i64) x6 false), (q21, .vec q22 (.int .u8) x7 true), (q23, .cells q24 [.int .i64 x8, .int .i64 x9, .int .i64 x10, .bool x11, .int .i64 x12]), (q25, .cells q26 [.int .i64 x13, .int .i64 x14, .sl (.int .u8) x15]), (q27, .cells q28 [.int .i64 x16, .int .i64 x17, .sl (.int .u8) x18])], q29, q30⟩ => bif Nat.beq q0 0 && Nat.beq q1 0 && Nat.beq q2 0 && Nat.beq q3 1 && Nat.beq q4 7 && Nat.beq q5 3 && Nat.beq q6 0 && Nat.beq q7 8 && Nat.beq q8 4 && Nat.beq q9 0 && Nat.beq q10 9 && Nat.beq q11 5 && Nat.beq q12 0 && Nat.beq q13 14 && Nat.beq q14 16 && Nat.beq q15 0 && Nat.beq q16 225 && Nat.beq q17 1 && Nat.beq q18 2 && Nat.beq q19 1 && Nat.beq q20 3 && Nat.beq q21 2 && Nat.beq q22 5 && Nat.beq q23 3 && Nat.beq q24 46 && Nat.beq q25 4 && Nat.beq q26 39 && Nat.beq q27 5 && Nat.beq q28 39 && Nat.beq q29 6 && Nat.beq q30 3 then iter (S_ref07_Put_6c1_4 fuel) fuel (x0, x1, x2, x3, x4, x5, x6, x7, x8, x9, x10, x11, x12, x13, x14, x15, x16, x17, x18) (E129_6c1_4 K) else none
    | _ => none)
  | none => none
theorem B129_6c1_4_ok (fuel : Nat) (st : Ev.St) (K : Ev.Ex → Ev.St → Option Ans) (r : Ans) (h : B129_6c1_4 fuel st K = some r) : evalCode tab (G129_6c1 fuel) (J129_6c1_4 fuel) kp129_6c1 fuel (.block 4 (.loop (bodyOf 4 Try.f129))) st K = some r := by
  unfold B129_6c1_4 at h
  split at h
  · rename_i s hs
    split at h
    · skip
      obtain ⟨hb, h⟩ := cond_some' h
      simp only [Bool.and_eq_true, Nat.beq_eq, decide_eq_true_eq] at hb
      obtain ⟨⟨⟨⟨⟨⟨⟨⟨⟨⟨⟨⟨⟨⟨⟨⟨⟨⟨⟨⟨⟨⟨⟨⟨⟨⟨⟨⟨⟨⟨rfl, rfl⟩, rfl⟩, rfl⟩, rfl⟩, rfl⟩, rfl⟩, rfl⟩, rfl⟩, rfl⟩, rfl⟩, rfl⟩, rfl⟩, rfl⟩, rfl⟩, rfl⟩, rfl⟩, rfl⟩, rfl⟩, rfl⟩, rfl⟩, rfl⟩, rfl⟩, rfl⟩, rfl⟩, rfl⟩, rfl⟩, rfl⟩, rfl⟩, rfl⟩, rfl⟩ := hb
      exact blk_loop (S := T129_6c1_4) (ks := E129_6c1_4) (step := S_ref07_Put_6c1_4 fuel) (v := (_, _, _, _, _, _, _, _, _, _, _, _, _, _, _, _, _, _, _)) (by kernel_rfl) (by kernel_rfl) (fun R K v => by obtain ⟨x0, x1, x2, x3, x4, x5, x6, x7, x8, x9, x10, x11, x12, x13, x14, x15, x16, x17, x18⟩ := v; exact S129_6c1_4_ok fuel R K x0 x1 x2 x3 x4 x5 x6 x7 x8 x9 x10 x11 x12 x13 x14 x15 x16 x17 x18) hs h
    · cases h
  · cases h
noncomputable def J129_6c1 (fuel : Nat) (i : Nat) : Option Ev.Blk := Ev.look i [(100002, B129_6c1_2 fuel), (100000, B129_6c1_0 fuel), (100006, B129_6c1_6 fuel), (100004, B129_6c1_4 fuel)]
noncomputable def F_ref07_Put_6c1 (fuel : Nat) (x0 : Int) (x1 : Int) (x2 : Int) (x3 : Int) (x4 : Bool) (x5 : Int) (x6 : Int) (x7 : Int) (x8 : (List Int)) (x9 : Int) (x10 : Int) (x11 : (List Int)) (x12 : Int) (x13 : Int) (x14 : Int) (x15 : (List Int)) (x16 : (List Int)) (k0 : (Int × Int × Int × Int × (List Int) × (List Int)) → Option Ans) (k1 : (Int × Int × Int × Int × (List Int) × (List Int)) → Option Ans) : Option Ans :=
  (F_ref07_Valid fuel (x1) (x2) (x3) (x4) (x5)
    (fun y2 =>
      bif !y2 then
       k0 ((2 : Int), x12, x13, x14, x15, x16)
      else
       (F_ref05_Valid fuel (x6) (x7) (x8)
         (fun y7 =>
           bif !y7 then
            k0 ((30 : Int), x12, x13, x14, x15, x16)
           else
            (F_ref05_Valid fuel (x9) (x10) (x11)
              (fun y12 =>
                bif !y12 then
                 k0 ((30 : Int), x12, x13, x14, x15, x16)
                else
                 (L_ref07_Put_6c1_0 fuel (x0, (0 : Int), x12, x13, x14, x15, x16, x1, x2, x3, x4, x5, x6, x7, x8, x9, x10, x11)
                   (fun (ret0_0, ret0_1, ret0_2, ret0_3, ret0_4, ret0_5) =>
                     k0 (ret0_0, ret0_1, ret0_2, ret0_3, ret0_4, ret0_5))
                   (fun (b0_0, b0_1, b0_2, b0_3, b0_4, b0_5, b0_6, b0_7, b0_8, b0_9, b0_10, b0_11, b0_12, b0_13, b0_14, b0_15, b0_16) =>
                     (F_ref02_Encoder_Model_2fe fuel (b0_1) (b0_2) (b0_3) (b0_4) (b0_5)
                       (fun (y21_0, y21_1, y21_2, y21_3, y21_4, y21_5, y21_6) =>
                         (F_ref07_room fuel (b0_6) (b0_7) (b0_8) (b0_9) (b0_10) (b0_0) ((↑y21_6.length : Int)) (b0_11) (b0_12) (b0_14) (b0_15) (b0_16)
                           (fun y25 =>
                             bif y25 != (0 : Int) then
                              k0 (y25, y21_1, y21_2, y21_3, y21_4, y21_5)
                             else
                              (F_ref07_Size fuel (b0_6) (b0_7) (b0_8) (b0_9) (b0_10)
                                (fun (y30_0, y30_1) =>
                                  (L_ref07_Put_6c1_4 fuel (b0_0, y30_0, (0 : Int), y21_1, y21_2, y21_3, y21_4, y21_5, b0_6, b0_7, b0_8, b0_9, b0_10, b0_11, b0_12, b0_13, b0_14, b0_15, b0_16)
                                    (fun (b4_0, b4_1, b4_2, b4_3, b4_4) =>
                                      k1 ((0 : Int), b4_0, b4_1, b4_2, b4_3, b4_4)))))))))))))))))
abbrev YF129_6c1 : Type := (Int) → (Int) → (Int) → (Int) → (Bool) → (Int) → (Int) → (Int) → ((List Int)) → (Int) → (Int) → ((List Int)) → (Int) → (Int) → (Int) → ((List Int)) → ((List Int)) → ((Int × Int × Int × Int × (List Int) × (List Int)) → Option Ans) → ((Int × Int × Int × Int × (List Int) × (List Int)) → Option Ans) → Option Ans
theorem F129_6c1_eqg (fuel : Nat) (f86 : YF86) (f109 : YF109) (f120 : YF120) (f122 : YF122) (f124 : YF124) (f125 : YF125) (f126 : YF126) (f187_2fe : YF187_2fe) (f188_e89 : YF188_e89) (x0 : Int) (x1 : Int) (x2 : Int) (x3 : Int) (x4 : Bool) (x5 : Int) (x6 : Int) (x7 : Int) (x8 : (List Int)) (x9 : Int) (x10 : Int) (x11 : (List Int)) (x12 : Int) (x13 : Int) (x14 : Int) (x15 : (List Int)) (x16 : (List Int)) (k : Ev.Cont) : evalFn tab (Gg129_6c1 f86 f109 f120 f122 f124 f125 f126 f187_2fe f188_e89) (J129_6c1 fuel) kp129_6c1 fuel Try.f129 [.c (.ptr 0 0), .c (.int .i64 x0), .agg [.int .i64 x1, .int .i64 x2, .int .i64 x3, .bool x4, .int .i64 x5], .agg [.int .i64 x6, .int .i64 x7, .sl (.int .u8) x8], .agg [.int .i64 x9, .int .i64 x10, .sl (.int .u8) x11]] [.cells 225 [.int .i64 x12, .own 1, .int .u64 x13, .int .u64 x14, .own 2], .vec 3 (.int .i64) x15 false, .vec 5 (.int .u8) x16 false] k = (fun  (k0 : (Int × Int × Int × Int × (List Int) × (List Int)) → Option Ans) (k1 : (Int × Int × Int × Int × (List Int) × (List Int)) → Option Ans) =>
  (f109 (x1) (x2) (x3) (x4) (x5)
    (fun y2 =>
      bif !y2 then
       k0 ((2 : Int), x12, x13, x14, x15, x16)
      else
       (f86 (x6) (x7) (x8)
         (fun y7 =>
           bif !y7 then
            k0 ((30 : Int), x12, x13, x14, x15, x16)
           else
            (f86 (x9) (x10) (x11)
              (fun y12 =>
                bif !y12 then
                 k0 ((30 : Int), x12, x13, x14, x15, x16)
                else
                 (L_ref07_Put_6c1_0 fuel (x0, (0 : Int), x12, x13, x14, x15, x16, x1, x2, x3, x4, x5, x6, x7, x8, x9, x10, x11)
                   (fun (ret0_0, ret0_1, ret0_2, ret0_3, ret0_4, ret0_5) =>
                     k0 (ret0_0, ret0_1, ret0_2, ret0_3, ret0_4, ret0_5))
                   (fun (b0_0, b0_1, b0_2, b0_3, b0_4, b0_5, b0_6, b0_7, b0_8, b0_9, b0_10, b0_11, b0_12, b0_13, b0_14, b0_15, b0_16) =>
                     (f187_2fe (b0_1) (b0_2) (b0_3) (b0_4) (b0_5)
                       (fun (y21_0, y21_1, y21_2, y21_3, y21_4, y21_5, y21_6) =>
                         (f120 (b0_6) (b0_7) (b0_8) (b0_9) (b0_10) (b0_0) ((↑y21_6.length : Int)) (b0_11) (b0_12) (b0_14) (b0_15) (b0_16)
                           (fun y25 =>
                             bif y25 != (0 : Int) then
                              k0 (y25, y21_1, y21_2, y21_3, y21_4, y21_5)
                             else
                              (f122 (b0_6) (b0_7) (b0_8) (b0_9) (b0_10)
                                (fun (y30_0, y30_1) =>
                                  (L_ref07_Put_6c1_4 fuel (b0_0, y30_0, (0 : Int), y21_1, y21_2, y21_3, y21_4, y21_5, b0_6, b0_7, b0_8, b0_9, b0_10, b0_11, b0_12, b0_13, b0_14, b0_15, b0_16)
                                    (fun (b4_0, b4_1, b4_2, b4_3, b4_4) =>
                                      k1 ((0 : Int), b4_0, b4_1, b4_2, b4_3, b4_4)))))))))))))))))) (fun r => match r with | (r0, r1, r2, r3, r4, r5) => k (.c (.int .i64 r0), [.cells 225 [.int .i64 r1, .own 1, .int .u64 r2, .int .u64 r3, .own 2], .vec 3 (.int .i64) r4 false, .vec 5 (.int .u8) r5 false])) (fun r => match r with | (r0, r1, r2, r3, r4, r5) => k (.c (.int .i64 r0), [.cells 225 [.int .i64 r1, .own 1, .int .u64 r2, .int .u64 r3, .own 2], .vec 3 (.int .i64) r4 false, .vec 5 (.int .u8) r5 true])) := by
  kernel_rfl
theorem F129_6c1_eq (fuel : Nat) (x0 : Int) (x1 : Int) (x2 : Int) (x3 : Int) (x4 : Bool) (x5 : Int) (x6 : Int) (x7 : Int) (x8 : (List Int)) (x9 : Int) (x10 : Int) (x11 : (List Int)) (x12 : Int) (x13 : Int) (x14 : Int) (x15 : (List Int)) (x16 : (List Int)) (k : Ev.Cont) : evalFn tab (G129_6c1 fuel) (J129_6c1 fuel) kp129_6c1 fuel Try.f129 [.c (.ptr 0 0), .c (.int .i64 x0), .agg [.int .i64 x1, .int .i64 x2, .int .i64 x3, .bool x4, .int .i64 x5], .agg [.int .i64 x6, .int .i64 x7, .sl (.int .u8) x8], .agg [.int .i64 x9, .int .i64 x10, .sl (.int .u8) x11]] [.cells 225 [.int .i64 x12, .own 1, .int .u64 x13, .int .u64 x14, .own 2], .vec 3 (.int .i64) x15 false, .vec 5 (.int .u8) x16 false] k = F_ref07_Put_6c1 fuel x0 x1 x2 x3 x4 x5 x6 x7 x8 x9 x10 x11 x12 x13 x14 x15 x16 (fun r => match r with | (r0, r1, r2, r3, r4, r5) => k (.c (.int .i64 r0), [.cells 225 [.int .i64 r1, .own 1, .int .u64 r2, .int .u64 r3, .own 2], .vec 3 (.int .i64) r4 false, .vec 5 (.int .u8) r5 false])) (fun r => match r with | (r0, r1, r2, r3, r4, r5) => k (.c (.int .i64 r0), [.cells 225 [.int .i64 r1, .own 1, .int .u64 r2, .int .u64 r3, .own 2], .vec 3 (.int .i64) r4 false, .vec 5 (.int .u8) r5 true])) :=
  F129_6c1_eqg fuel (F_ref05_Valid fuel) (F_ref07_Valid fuel) (F_ref07_room fuel) (F_ref07_Size fuel) (F_ref07_typical fuel) (F_ref05_At fuel) (F_ref07_context fuel) (F_ref02_Encoder_Model_2fe fuel) (F_ref02_Encoder_Put_e89 fuel) x0 x1 x2 x3 x4 x5 x6 x7 x8 x9 x10 x11 x12 x13 x14 x15 x16 k
theorem hG129_6c1 (fuel : Nat) : GOK Try.prog (G129_6c1 fuel) :=
  gok_cons ⟨ok86 fuel, enters_of Try.func86 (by kernel_rfl) rfl⟩ <|
  gok_cons ⟨ok109 fuel, enters_of Try.func109 (by kernel_rfl) rfl⟩ <|
  gok_cons ⟨ok120 fuel, enters_of Try.func120 (by kernel_rfl) rfl⟩ <|
  gok_cons ⟨ok122 fuel, enters_of Try.func122 (by kernel_rfl) rfl⟩ <|
  gok_cons ⟨ok124 fuel, enters_of Try.func124 (by kernel_rfl) rfl⟩ <|
  gok_cons ⟨ok125 fuel, enters_of Try.func125 (by kernel_rfl) rfl⟩ <|
  gok_cons ⟨ok126 fuel, enters_of Try.func126 (by kernel_rfl) rfl⟩ <|
  gok_cons ⟨ok187_2fe fuel, enters_of Try.func187 (by kernel_rfl) rfl⟩ <|
  gok_cons ⟨ok188_e89 fuel, enters_of Try.func188 (by kernel_rfl) rfl⟩ <|
  gok_nil
theorem B129_6c1_2_blk (fuel : Nat) : BlkOK Try.prog Try.f129.ntmps (.block 2 (.loop (bodyOf 2 Try.f129))) (B129_6c1_2 fuel) :=
  blk_of (blk_of_code tab_ok (hG129_6c1 fuel) mixed (J := J129_6c1_2 fuel) (kp := kp129_6c1) (fuel := fuel) (by kernel_rfl) (fun q hq => by
    rw [(by kernel_rfl : obl (J129_6c1_2 fuel) (.block 2 (.loop (bodyOf 2 Try.f129))) = [])] at hq
    cases hq)) (B129_6c1_2_ok fuel)
theorem B129_6c1_0_blk (fuel : Nat) : BlkOK Try.prog Try.f129.ntmps (.block 0 (.loop (bodyOf 0 Try.f129))) (B129_6c1_0 fuel) :=
  blk_of (blk_of_code tab_ok (hG129_6c1 fuel) mixed (J := J129_6c1_0 fuel) (kp := kp129_6c1) (fuel := fuel) (by kernel_rfl) (fun q hq => by
    rw [(by kernel_rfl : obl (J129_6c1_0 fuel) (.block 0 (.loop (bodyOf 0 Try.f129))) = [(.block 2 (.loop (bodyOf 2 Try.f129)), B129_6c1_2 fuel)])] at hq
    simp only [List.mem_cons, List.not_mem_nil, or_false] at hq
    subst hq
    · exact B129_6c1_2_blk fuel)) (B129_6c1_0_ok fuel)
theorem B129_6c1_6_blk (fuel : Nat) : BlkOK Try.prog Try.f129.ntmps (.block 6 (.loop (bodyOf 6 Try.f129))) (B129_6c1_6 fuel) :=
  blk_of (blk_of_code tab_ok (hG129_6c1 fuel) mixed (J := J129_6c1_6 fuel) (kp := kp129_6c1) (fuel := fuel) (by kernel_rfl) (fun q hq => by
    rw [(by kernel_rfl : obl (J129_6c1_6 fuel) (.block 6 (.loop (bodyOf 6 Try.f129))) = [])] at hq
    cases hq)) (B129_6c1_6_ok fuel)
theorem B129_6c1_4_blk (fuel : Nat) : BlkOK Try.prog Try.f129.ntmps (.block 4 (.loop (bodyOf 4 Try.f129))) (B129_6c1_4 fuel) :=
  blk_of (blk_of_code tab_ok (hG129_6c1 fuel) mixed (J := J129_6c1_4 fuel) (kp := kp129_6c1) (fuel := fuel) (by kernel_rfl) (fun q hq => by
    rw [(by kernel_rfl : obl (J129_6c1_4 fuel) (.block 4 (.loop (bodyOf 4 Try.f129))) = [(.block 6 (.loop (bodyOf 6 Try.f129)), B129_6c1_6 fuel)])] at hq
    simp only [List.mem_cons, List.not_mem_nil, or_false] at hq
    subst hq
    · exact B129_6c1_6_blk fuel)) (B129_6c1_4_ok fuel)
theorem fok129_6c1 (fuel : Nat) : FnOK Try.prog 129 (evalFn tab (G129_6c1 fuel) (J129_6c1 fuel) kp129_6c1 fuel Try.f129) :=
  fn_ok tab_ok (hG129_6c1 fuel) mixed Try.func129 (c := (Try.f129.body).getD .skip) rfl (fun q hq => by
    rw [(by kernel_rfl : obl (J129_6c1 fuel) ((Try.f129.body).getD .skip) = [(.block 0 (.loop (bodyOf 0 Try.f129)), B129_6c1_0 fuel), (.block 4 (.loop (bodyOf 4 Try.f129)), B129_6c1_4 fuel)])] at hq
    simp only [List.mem_cons, List.not_mem_nil, or_false] at hq
    rcases hq with rfl | rfl
    · exact B129_6c1_0_blk fuel
    · exact B129_6c1_4_blk fuel)
noncomputable def mt129_6c1 : List Ev.SV → List Ev.Ob → Bool := fun args objs => match args, objs with
  | [.c (.ptr q0 q1), .c (.int .i64 _), .agg [.int .i64 _, .int .i64 _, .int .i64 _, .bool _, .int .i64 _], .agg [.int .i64 _, .int .i64 _, .sl (.int .u8) _], .agg [.int .i64 _, .int .i64 _, .sl (.int .u8) _]], [.cells q2 [.int .i64 _, .own q3, .int .u64 _, .int .u64 _, .own q4], .vec q5 (.int .i64) _ false, .vec q6 (.int .u8) _ false] => Nat.beq q0 0 && Nat.beq q1 0 && Nat.beq q2 225 && Nat.beq q3 1 && Nat.beq q4 2 && Nat.beq q5 3 && Nat.beq q6 5
  | _, _ => false
noncomputable def spg129_6c1 (F : YF129_6c1) : Ev.Spec := fun args objs k => match args, objs with
  | [.c (.ptr q0 q1), .c (.int .i64 x0), .agg [.int .i64 x1, .int .i64 x2, .int .i64 x3, .bool x4, .int .i64 x5], .agg [.int .i64 x6, .int .i64 x7, .sl (.int .u8) x8], .agg [.int .i64 x9, .int .i64 x10, .sl (.int .u8) x11]], [.cells q2 [.int .i64 x12, .own q3, .int .u64 x13, .int .u64 x14, .own q4], .vec q5 (.int .i64) x15 false, .vec q6 (.int .u8) x16 false] => bif Nat.beq q0 0 && Nat.beq q1 0 && Nat.beq q2 225 && Nat.beq q3 1 && Nat.beq q4 2 && Nat.beq q5 3 && Nat.beq q6 5 then F x0 x1 x2 x3 x4 x5 x6 x7 x8 x9 x10 x11 x12 x13 x14 x15 x16 (fun r => match r with | (r0, r1, r2, r3, r4, r5) => k (.c (.int .i64 r0), [.cells 225 [.int .i64 r1, .own 1, .int .u64 r2, .int .u64 r3, .own 2], .vec 3 (.int .i64) r4 false, .vec 5 (.int .u8) r5 false])) (fun r => match r with | (r0, r1, r2, r3, r4, r5) => k (.c (.int .i64 r0), [.cells 225 [.int .i64 r1, .own 1, .int .u64 r2, .int .u64 r3, .own 2], .vec 3 (.int .i64) r4 false, .vec 5 (.int .u8) r5 true])) else none
  | _, _ => none
noncomputable def spec129_6c1 (fuel : Nat) : Ev.Spec := spg129_6c1 (F_ref07_Put_6c1 fuel)
theorem ok129_6c1 (fuel : Nat) : FnOK Try.prog 129 (spec129_6c1 fuel) := by
  intro args objs kk r h
  unfold spec129_6c1 spg129_6c1 at h
  split at h
  · skip
    obtain ⟨hb, h⟩ := cond_some' h
    simp only [Bool.and_eq_true, Nat.beq_eq, decide_eq_true_eq] at hb
    obtain ⟨⟨⟨⟨⟨⟨rfl, rfl⟩, rfl⟩, rfl⟩, rfl⟩, rfl⟩, rfl⟩ := hb
    exact fok129_6c1 fuel _ _ kk r ((F129_6c1_eq fuel _ _ _ _ _ _ _ _ _ _ _ _ _ _ _ _ _ kk).trans h)
  · cases h
end Go.Proofs.Ytihfgpfofmjbaaa

set_option linter.unusedVariables false
set_option linter.unusedSimpArgs false
set_option maxRecDepth 100000
set_option maxHeartbeats 2000000
namespace Go.Proofs.Ytihfgpfofmjbaaa
open Go Ev
def kp187_975 (i : Nat) : Option (List Nat) := Ev.look i []
noncomputable def Gg187_975 (f : Nat) : Option Ev.Spec := Ev.look f []
noncomputable def G187_975 (fuel : Nat) : Nat → Option Ev.Spec := Gg187_975
noncomputable def J187_975 (fuel : Nat) (i : Nat) : Option Ev.Blk := Ev.look i []
noncomputable def F_ref02_Encoder_Model_975 (fuel : Nat)  (k0 : (Int × (List Int)) → Option Ans) : Option Ans :=
  k0 ((0 : Int), [])
abbrev YF187_975 : Type := ((Int × (List Int)) → Option Ans) → Option Ans
theorem F187_975_eq (fuel : Nat)  (k : Ev.Cont) : evalFn tab (G187_975 fuel) (J187_975 fuel) kp187_975 fuel Try.f187 [.c (.nilptr)] [] k = F_ref02_Encoder_Model_975 fuel  (fun r => match r with | (r0, r1) => k (.agg [.int .i64 r0, .own 0], [.vec 3 (.int .i64) r1 true])) := by
  kernel_rfl
theorem hG187_975 (fuel : Nat) : GOK Try.prog (G187_975 fuel) :=
  gok_nil
theorem fok187_975 (fuel : Nat) : FnOK Try.prog 187 (evalFn tab (G187_975 fuel) (J187_975 fuel) kp187_975 fuel Try.f187) :=
  fn_ok tab_ok (hG187_975 fuel) mixed Try.func187 (c := (Try.f187.body).getD .skip) rfl (fun q hq => by
    rw [(by kernel_rfl : obl (J187_975 fuel) ((Try.f187.body).getD .skip) = [])] at hq
    cases hq)
noncomputable def mt187_975 : List Ev.SV → List Ev.Ob → Bool := fun args objs => match args, objs with
  | [.c (.nilptr)], [] => true
  | _, _ => false
noncomputable def spg187_975 (F : YF187_975) : Ev.Spec := fun args objs k => match args, objs with
  | [.c (.nilptr)], [] => bif true then F  (fun r => match r with | (r0, r1) => k (.agg [.int .i64 r0, .own 0], [.vec 3 (.int .i64) r1 true])) else none
  | _, _ => none
noncomputable def spec187_975 (fuel : Nat) : Ev.Spec := spg187_975 (F_ref02_Encoder_Model_975 fuel)
theorem ok187_975 (fuel : Nat) : FnOK Try.prog 187 (spec187_975 fuel) := by
  intro args objs kk r h
  unfold spec187_975 spg187_975 at h
  split at h
  · skip
    obtain ⟨hb, h⟩ := cond_some' h
    simp only [Bool.and_eq_true, Nat.beq_eq, decide_eq_true_eq] at hb
    clear hb
    exact fok187_975 fuel _ _ kk r ((F187_975_eq fuel kk).trans h)
  · cases h
end Go.Proofs.Ytihfgpfofmjbaaa

set_option linter.unusedVariables false
set_option linter.unusedSimpArgs false
set_option maxRecDepth 100000
set_option maxHeartbeats 2000000
namespace Go.Proofs.Ytihfgpfofmjbaaa
open Go Ev
def kp188_9ef (i : Nat) : Option (List Nat) := Ev.look i [(8, [0]), (100000, []), (200005, [0]), (200007, [0]), (400000, [6])]
noncomputable def Gg188_9ef (f : Nat) : Option Ev.Spec := Ev.look f []
noncomputable def G188_9ef (fuel : Nat) : Nat → Option Ev.Spec := Gg188_9ef
noncomputable def J188_9ef (fuel : Nat) (i : Nat) : Option Ev.Blk := Ev.look i []
noncomputable def F_ref02_Encoder_Put_9ef (fuel : Nat) (x0 : Int) (x1 : Int) (k0 : (Int) → Option Ans) : Option Ans :=
  k0 ((7 : Int))
abbrev YF188_9ef : Type := (Int) → (Int) → ((Int) → Option Ans) → Option Ans
theorem F188_9ef_eq (fuel : Nat) (x0 : Int) (x1 : Int) (k : Ev.Cont) : evalFn tab (G188_9ef fuel) (J188_9ef fuel) kp188_9ef fuel Try.f188 [.c (.nilptr), .c (.int .i64 x0), .c (.int .i64 x1)] [] k = F_ref02_Encoder_Put_9ef fuel x0 x1 (fun r => match r with | r0 => k (.c (.int .i64 r0), [])) := by
  kernel_rfl
theorem hG188_9ef (fuel : Nat) : GOK Try.prog (G188_9ef fuel) :=
  gok_nil
theorem fok188_9ef (fuel : Nat) : FnOK Try.prog 188 (evalFn tab (G188_9ef fuel) (J188_9ef fuel) kp188_9ef fuel Try.f188) :=
  fn_ok tab_ok (hG188_9ef fuel) mixed Try.func188 (c := (Try.f188.body).getD .skip) rfl (fun q hq => by
    rw [(by kernel_rfl : obl (J188_9ef fuel) ((Try.f188.body).getD .skip) = [])] at hq
    cases hq)
noncomputable def mt188_9ef : List Ev.SV → List Ev.Ob → Bool := fun args objs => match args, objs with
  | [.c (.nilptr), .c (.int .i64 _), .c (.int .i64 _)], [] => true
  | _, _ => false
noncomputable def spg188_9ef (F : YF188_9ef) : Ev.Spec := fun args objs k => match args, objs with
  | [.c (.nilptr), .c (.int .i64 x0), .c (.int .i64 x1)], [] => bif true then F x0 x1 (fun r => match r with | r0 => k (.c (.int .i64 r0), [])) else none
  | _, _ => none
noncomputable def spec188_9ef (fuel : Nat) : Ev.Spec := spg188_9ef (F_ref02_Encoder_Put_9ef fuel)
theorem ok188_9ef (fuel : Nat) : FnOK Try.prog 188 (spec188_9ef fuel) := by
  intro args objs kk r h
  unfold spec188_9ef spg188_9ef at h
  split at h
  · skip
    obtain ⟨hb, h⟩ := cond_some' h
    simp only [Bool.and_eq_true, Nat.beq_eq, decide_eq_true_eq] at hb
    clear hb
    exact fok188_9ef fuel _ _ kk r ((F188_9ef_eq fuel _ _ kk).trans h)
  · cases h
end Go.Proofs.Ytihfgpfofmjbaaa

set_option linter.unusedVariables false
set_option linter.unusedSimpArgs false
set_option maxRecDepth 100000
set_option maxHeartbeats 2000000
namespace Go.Proofs.Ytihfgpfofmjbaaa
open Go Ev
def kp129_f4f (i : Nat) : Option (List Nat) := Ev.look i [(6, [0, 1, 7, 8, 9, 11]), (9, [0, 1, 7, 8, 9, 11, 12]), (18, [0, 1, 7, 8, 9, 14, 16]), (27, [0, 1, 7, 8, 9, 14, 16, 18]), (100000, [0, 1, 7, 8, 9]), (100002, [0, 1, 7, 8, 9, 11]), (100004, []), (100006, [0, 1, 7, 8, 9, 14, 16]), (200013, [7, 8, 9]), (200022, [8, 9]), (200030, [7, 8]), (400000, [10]), (400002, [10]), (400004, [10]), (400006, [10])]
noncomputable def Gg129_f4f (f86 : YF86) (f109 : YF109) (f120 : YF120) (f122 : YF122) (f124 : YF124) (f125 : YF125) (f126 : YF126) (f187_975 : YF187_975) (f188_9ef : YF188_9ef) (f : Nat) : Option Ev.Spec := Ev.look f [(86, spg86 f86), (109, spg109 f109), (120, spg120 f120), (122, spg122 f122), (124, spg124 f124), (125, spg125 f125), (126, spg126 f126), (187, spg187_975 f187_975), (188, spg188_9ef f188_9ef)]
noncomputable def G129_f4f (fuel : Nat) : Nat → Option Ev.Spec := Gg129_f4f (F_ref05_Valid fuel) (F_ref07_Valid fuel) (F_ref07_room fuel) (F_ref07_Size fuel) (F_ref07_typical fuel) (F_ref05_At fuel) (F_ref07_context fuel) (F_ref02_Encoder_Model_975 fuel) (F_ref02_Encoder_Put_9ef fuel)
noncomputable def S_ref07_Put_f4f_2 (fuel : Nat) (v : Int × Int × Int × Int × Int × Int × Bool × Int × Int × Int × (List Int) × Int × Int × (List Int)) (c : (Int × Int × Int × Int × Int × Int × Bool × Int × Int × Int × (List Int) × Int × Int × (List Int)) → Option Ans) (B : (Int → Option Ans) × (Int × Int × Int × Int × Int × Bool × Int × Int × Int × (List Int) × Int × Int × (List Int) → Option Ans)) : Option Ans := match v, B with
  | (x0, x1, x2, x3, x4, x5, x6, x7, x8, x9, x10, x11, x12, x13), (ret, b) =>
   bif Decidable.decide (x2 < x8) then
      (F_ref05_At fuel (x8) (x9) (x10) (x2) (x1)
        (fun y3 =>
          bif y3 == (1 : Int) then
           (F_ref05_At fuel (x11) (x12) (x13) (x2) (x1)
             (fun y8 =>
               bif y8 == (1 : Int) then
                ret ((30 : Int))
               else
                c (x0, x1, Go.IntKind.i64.wrap (x2 + (1 : Int)), x3, x4, x5, x6, x7, x8, x9, x10, x11, x12, x13)))
          else
           c (x0, x1, Go.IntKind.i64.wrap (x2 + (1 : Int)), x3, x4, x5, x6, x7, x8, x9, x10, x11, x12, x13)))
     else
      b (x0, x1, x3, x4, x5, x6, x7, x8, x9, x10, x11, x12, x13)
noncomputable def L_ref07_Put_f4f_2 (fuel : Nat) (v : Int × Int × Int × Int × Int × Int × Bool × Int × Int × Int × (List Int) × Int × Int × (List Int)) (ret : (Int → Option Ans)) (b : (Int × Int × Int × Int × Int × Bool × Int × Int × Int × (List Int) × Int × Int × (List Int) → Option Ans)) : Option Ans := iter (S_ref07_Put_f4f_2 fuel) fuel v (ret, b)
noncomputable def J129_f4f_2 (fuel : Nat) (i : Nat) : Option Ev.Blk := Ev.look i []
noncomputable def T129_f4f_2 (v : Int × Int × Int × Int × Int × Int × Bool × Int × Int × Int × (List Int) × Int × Int × (List Int)) : Ev.St := match v with | (x0, x1, x2, x3, x4, x5, x6, x7, x8, x9, x10, x11, x12, x13) => ⟨[(0, .c (.nilptr)), (1, .c (.int .i64 x0)), (7, .c (.ptr 0 0)), (8, .c (.ptr 1 0)), (9, .c (.ptr 2 0)), (11, .c (.int .i64 x1)), (12, .c (.int .i64 x2))], [(0, .cells 46 [.int .i64 x3, .int .i64 x4, .int .i64 x5, .bool x6, .int .i64 x7]), (1, .cells 39 [.int .i64 x8, .int .i64 x9, .sl (.int .u8) x10]), (2, .cells 39 [.int .i64 x11, .int .i64 x12, .sl (.int .u8) x13])], 3, 0⟩
noncomputable def E129_f4f_2 (K : Ev.Ex → Ev.St → Option Ans) : (Int → Option Ans) × (Int × Int × Int × Int × Int × Bool × Int × Int × Int × (List Int) × Int × Int × (List Int) → Option Ans) := ((fun v => match v with | x0 => K .ret ⟨[(10, .c (.int .i64 x0))], [], 0, 0⟩), (fun v => match v with | (x0, x1, x2, x3, x4, x5, x6, x7, x8, x9, x10, x11, x12) => K .normal ⟨[(0, .c (.nilptr)), (1, .c (.int .i64 x0)), (7, .c (.ptr 0 0)), (8, .c (.ptr 1 0)), (9, .c (.ptr 2 0)), (11, .c (.int .i64 x1))], [(0, .cells 46 [.int .i64 x2, .int .i64 x3, .int .i64 x4, .bool x5, .int .i64 x6]), (1, .cells 39 [.int .i64 x7, .int .i64 x8, .sl (.int .u8) x9]), (2, .cells 39 [.int .i64 x10, .int .i64 x11, .sl (.int .u8) x12])], 3, 0⟩))
theorem S129_f4f_2_okg (fuel : Nat) (f86 : YF86) (f109 : YF109) (f120 : YF120) (f122 : YF122) (f124 : YF124) (f125 : YF125) (f126 : YF126) (f187_975 : YF187_975) (f188_9ef : YF188_9ef) (R : Ev.St → Option Ans) (K : Ev.Ex → Ev.St → Option Ans) (x0 : Int) (x1 : Int) (x2 : Int) (x3 : Int) (x4 : Int) (x5 : Int) (x6 : Bool) (x7 : Int) (x8 : Int) (x9 : Int) (x10 : (List Int)) (x11 : Int) (x12 : Int) (x13 : (List Int)) : evalCode tab (Gg129_f4f f86 f109 f120 f122 f124 f125 f126 f187_975 f188_9ef) (J129_f4f_2 fuel) kp129_f4f fuel (bodyOf 2 Try.f129) (T129_f4f_2 (x0, x1, x2, x3, x4, x5, x6, x7, x8, x9, x10, x11, x12, x13)) (lc kp129_f4f 9 2 R K) = (fun (c : (Int × Int × Int × Int × Int × Int × Bool × Int × Int × Int × (List Int) × Int × Int × (List Int)) → Option Ans) (B : (Int → Option Ans) × (Int × Int × Int × Int × Int × Bool × Int × Int × Int × (List Int) × Int × Int × (List Int) → Option Ans)) => match B with
  | (ret, b) =>
   bif Decidable.decide (x2 < x8) then
      (f125 (x8) (x9) (x10) (x2) (x1)
        (fun y3 =>
          bif y3 == (1 : Int) then
           (f125 (x11) (x12) (x13) (x2) (x1)
             (fun y8 =>
               bif y8 == (1 : Int) then
                ret ((30 : Int))
               else
                c (x0, x1, Go.IntKind.i64.wrap (x2 + (1 : Int)), x3, x4, x5, x6, x7, x8, x9, x10, x11, x12, x13)))
          else
           c (x0, x1, Go.IntKind.i64.wrap (x2 + (1 : Int)), x3, x4, x5, x6, x7, x8, x9, x10, x11, x12, x13)))
     else
      b (x0, x1, x3, x4, x5, x6, x7, x8, x9, x10, x11, x12, x13)) (fun v => R (T129_f4f_2 v)) (E129_f4f_2 K) := by
  kernel_rfl
theorem S129_f4f_2_ok (fuel : Nat) (R : Ev.St → Option Ans) (K : Ev.Ex → Ev.St → Option Ans) (x0 : Int) (x1 : Int) (x2 : Int) (x3 : Int) (x4 : Int) (x5 : Int) (x6 : Bool) (x7 : Int) (x8 : Int) (x9 : Int) (x10 : (List Int)) (x11 : Int) (x12 : Int) (x13 : (List Int)) : evalCode tab (G129_f4f fuel) (J129_f4f_2 fuel) kp129_f4f fuel (bodyOf 2 Try.f129) (T129_f4f_2 (x0, x1, x2, x3, x4, x5, x6, x7, x8, x9, x10, x11, x12, x13)) (lc kp129_f4f 9 2 R K) = S_ref07_Put_f4f_2 fuel (x0, x1, x2, x3, x4, x5, x6, x7, x8, x9, x10, x11, x12, x13) (fun v => R (T129_f4f_2 v)) (E129_f4f_2 K) :=
  S129_f4f_2_okg fuel (F_ref05_Valid fuel) (F_ref07_Valid fuel) (F_ref07_room fuel) (F_ref07_Size fuel) (F_ref07_typical fuel) (F_ref05_At fuel) (F_ref07_context fuel) (F_ref02_Encoder_Model_975 fuel) (F_ref02_Encoder_Put_9ef fuel) R K x0 x1 x2 x3 x4 x5 x6 x7 x8 x9 x10 x11 x12 x13
noncomputable def B129_f4f_2 (fuel : Nat) : Ev.Blk := fun st K => match canonO (kp129_f4f 9) st with
  | some s => (match s with
    | ⟨[(q0, .c (.nilptr)), (q1, .c (.int .i64 x0)), (q2, .c (.ptr q3 q4)), (q5, .c (.ptr q6 q7)), (q8, .c (.ptr q9 q10)), (q11, .c (.int .i64 x1)), (q12, .c (.int .i64 x2))], [(q13, .cells q14 [.int .i64 x3, .int .i64 x4, .int .i64 x5, .bool x6, .int .i64 x7]), (q15, .cells q16 [.int .i64 x8, .int .i64 x9, .sl (.int .u8) x10]), (q17, .cells q18 [.int .i64 x11, .int .i64 x12, .sl (.int .u8) x13])], q19, q20⟩ => bif Nat.beq q0 0 && Nat.beq q1 1 && Nat.beq q2 7 && Nat.beq q3 0 && Nat.beq q4 0 && Nat.beq q5 8 && Nat.beq q6 1 && Nat.beq q7 0 && Nat.beq q8 9 && Nat.beq q9 2 && Nat.beq q10 0 && Nat.beq q11 11 && Nat.beq q12 12 && Nat.beq q13 0 && Nat.beq q14 46 && Nat.beq q15 1 && Nat.beq q16 39 && Nat.beq q17 2 && Nat.beq q18 39 && Nat.beq q19 3 && Nat.beq q20 0 then iter (S_ref07_Put_f4f_2 fuel) fuel (x0, x1, x2, x3, x4, x5, x6, x7, x8, x9, x10, x11, x12, x13) (E129_f4f_2 K) else none
    | _ => none)
  | none => none
theorem B129_f4f_2_ok (fuel : Nat) (st : Ev.St) (K : Ev.Ex → Ev.St → Option Ans) (r : Ans) (h : B129_f4f_2 fuel st K = some r) : evalCode tab (G129_f4f fuel) (J129_f4f_2 fuel) kp129_f4f fuel (.block 2 (.loop (bodyOf 2 Try.f129))) st K = some r := by
  unfold B129_f4f_2 at h
  split at h
  · rename_i s hs
    split at h
    · skip
      obtain ⟨hb, h⟩ := cond_some' h
      simp only [Bool.and_eq_true, Nat.beq_eq, decide_eq_true_eq] at hb
      obtain ⟨⟨⟨⟨⟨⟨⟨⟨⟨⟨⟨⟨⟨⟨⟨⟨⟨⟨⟨⟨rfl, rfl⟩, rfl⟩, rfl⟩, rfl⟩, rfl⟩, rfl⟩, rfl⟩, rfl⟩, rfl⟩, rfl⟩, rfl⟩, rfl⟩, rfl⟩, rfl⟩, rfl⟩, rfl⟩, rfl⟩, rfl⟩, rfl⟩, rfl⟩ := hb
      exact blk_loop (S := T129_f4f_2) (ks := E129_f4f_2) (step := S_ref07_Put_f4f_2 fuel) (v := (_, _, _, _, _, _, _, _, _, _, _, _, _, _)) (by kernel_rfl) (by kernel_rfl) (fun R K v => by obtain ⟨x0, x1, x2, x3, x4, x5, x6, x7, x8, x9, x10, x11, x12, x13⟩ := v; exact S129_f4f_2_ok fuel R K x0 x1 x2 x3 x4 x5 x6 x7 x8 x9 x10 x11 x12 x13) hs h
    · cases h
  · cases h
noncomputable def S_ref07_Put_f4f_0 (fuel : Nat) (v : Int × Int × Int × Int × Int × Bool × Int × Int × Int × (List Int) × Int × Int × (List Int)) (c : (Int × Int × Int × Int × Int × Bool × Int × Int × Int × (List Int) × Int × Int × (List Int)) → Option Ans) (B : (Int → Option Ans) × (Int × Int × Int × Int × Bool × Int × Int × Int × (List Int) × Int × Int × (List Int) → Option Ans)) : Option Ans := match v, B with
  | (x0, x1, x2, x3, x4, x5, x6, x7, x8, x9, x10, x11, x12), (ret, b) =>
   bif Decidable.decide (x1 < x8) then
      bif x7 == x10 then
       bif x8 == x11 then
        (L_ref07_Put_f4f_2 fuel (x0, x1, (0 : Int), x2, x3, x4, x5, x6, x7, x8, x9, x10, x11, x12)
          (fun ret2_0 =>
            ret ret2_0)
          (fun (b2_0, b2_1, b2_2, b2_3, b2_4, b2_5, b2_6, b2_7, b2_8, b2_9, b2_10, b2_11, b2_12) =>
            c (b2_0, Go.IntKind.i64.wrap (b2_1 + (1 : Int)), b2_2, b2_3, b2_4, b2_5, b2_6, b2_7, b2_8, b2_9, b2_10, b2_11, b2_12)))
       else
        b (x0, x2, x3, x4, x5, x6, x7, x8, x9, x10, x11, x12)
      else
       b (x0, x2, x3, x4, x5, x6, x7, x8, x9, x10, x11, x12)
     else
      b (x0, x2, x3, x4, x5, x6, x7, x8, x9, x10, x11, x12)
noncomputable def L_ref07_Put_f4f_0 (fuel : Nat) (v : Int × Int × Int × Int × Int × Bool × Int × Int × Int × (List Int) × Int × Int × (List Int)) (ret : (Int → Option Ans)) (b : (Int × Int × Int × Int × Bool × Int × Int × Int × (List Int) × Int × Int × (List Int) → Option Ans)) : Option Ans := iter (S_ref07_Put_f4f_0 fuel) fuel v (ret, b)
noncomputable def J129_f4f_0 (fuel : Nat) (i : Nat) : Option Ev.Blk := Ev.look i [(100002, B129_f4f_2 fuel)]
noncomputable def T129_f4f_0 (v : Int × Int × Int × Int × Int × Bool × Int × Int × Int × (List Int) × Int × Int × (List Int)) : Ev.St := match v with | (x0, x1, x2, x3, x4, x5, x6, x7, x8, x9, x10, x11, x12) => ⟨[(0, .c (.nilptr)), (1, .c (.int .i64 x0)), (7, .c (.ptr 0 0)), (8, .c (.ptr 1 0)), (9, .c (.ptr 2 0)), (11, .c (.int .i64 x1))], [(0, .cells 46 [.int .i64 x2, .int .i64 x3, .int .i64 x4, .bool x5, .int .i64 x6]), (1, .cells 39 [.int .i64 x7, .int .i64 x8, .sl (.int .u8) x9]), (2, .cells 39 [.int .i64 x10, .int .i64 x11, .sl (.int .u8) x12])], 3, 0⟩
noncomputable def E129_f4f_0 (K : Ev.Ex → Ev.St → Option Ans) : (Int → Option Ans) × (Int × Int × Int × Int × Bool × Int × Int × Int × (List Int) × Int × Int × (List Int) → Option Ans) := ((fun v => match v with | x0 => K .ret ⟨[(10, .c (.int .i64 x0))], [], 0, 0⟩), (fun v => match v with | (x0, x1, x2, x3, x4, x5, x6, x7, x8, x9, x10, x11) => K .normal ⟨[(0, .c (.nilptr)), (1, .c (.int .i64 x0)), (7, .c (.ptr 0 0)), (8, .c (.ptr 1 0)), (9, .c (.ptr 2 0))], [(0, .cells 46 [.int .i64 x1, .int .i64 x2, .int .i64 x3, .bool x4, .int .i64 x5]), (1, .cells 39 [.int .i64 x6, .int .i64 x7, .sl (.int .u8) x8]), (2, .cells 39 [.int .i64 x9, .int .i64 x10, .sl (.int .u8) x11])], 3, 0⟩))
theorem S129_f4f_0_okg (fuel : Nat) (f86 : YF86) (f109 : YF109) (f120 : YF120) (f122 : YF122) (f124 : YF124) (f125 : YF125) (f126 : YF126) (f187_975 : YF187_975) (f188_9ef : YF188_9ef) (R : Ev.St → Option Ans) (K : Ev.Ex → Ev.St → Option Ans) (x0 : Int) (x1 : Int) (x2 : Int) (x3 : Int) (x4 : Int) (x5 : Bool) (x6 : Int) (x7 : Int) (x8 : Int) (x9 : (List Int)) (x10 : Int) (x11 : Int) (x12 : (List Int)) : evalCode tab (Gg129_f4f f86 f109 f120 f122 f124 f125 f126 f187_975 f188_9ef) (J129_f4f_0 fuel) kp129_f4f fuel (bodyOf 0 Try.f129) (T129_f4f_0 (x0, x1, x2, x3, x4, x5, x6, x7, x8, x9, x10, x11, x12)) (lc kp129_f4f 6 0 R K) = (fun (c : (Int × Int × Int × Int × Int × Bool × Int × Int × Int × (List Int) × Int × Int × (List Int)) → Option Ans) (B : (Int → Option Ans) × (Int × Int × Int × Int × Bool × Int × Int × Int × (List Int) × Int × Int × (List Int) → Option Ans)) => match B with
  | (ret, b) =>
   bif Decidable.decide (x1 < x8) then
      bif x7 == x10 then
       bif x8 == x11 then
        (L_ref07_Put_f4f_2 fuel (x0, x1, (0 : Int), x2, x3, x4, x5, x6, x7, x8, x9, x10, x11, x12)
          (fun ret2_0 =>
            ret ret2_0)
          (fun (b2_0, b2_1, b2_2, b2_3, b2_4, b2_5, b2_6, b2_7, b2_8, b2_9, b2_10, b2_11, b2_12) =>
            c (b2_0, Go.IntKind.i64.wrap (b2_1 + (1 : Int)), b2_2, b2_3, b2_4, b2_5, b2_6, b2_7, b2_8, b2_9, b2_10, b2_11, b2_12)))
       else
        b (x0, x2, x3, x4, x5, x6, x7, x8, x9, x10, x11, x12)
      else
       b (x0, x2, x3, x4, x5, x6, x7, x8, x9, x10, x11, x12)
     else
      b (x0, x2, x3, x4, x5, x6, x7, x8, x9, x10, x11, x12)) (fun v => R (T129_f4f_0 v)) (E129_f4f_0 K) := by
  kernel_rfl
theorem S129_f4f_0_ok (fuel : Nat) (R : Ev.St → Option Ans) (K : Ev.Ex → Ev.St → Option Ans) (x0 : Int) (x1 : Int) (x2 : Int) (x3 : Int) (x4 : Int) (x5 : Bool) (x6 : Int) (x7 : Int) (x8 : Int) (x9 : (List Int)) (x10 : Int) (x11 : Int) (x12 : (List Int)) : evalCode tab (G129_f4f fuel) (J129_f4f_0 fuel) kp129_f4f fuel (bodyOf 0 Try.f129) (T129_f4f_0 (x0, x1, x2, x3, x4, x5, x6, x7, x8, x9, x10, x11, x12)) (lc kp129_f4f 6 0 R K) = S_ref07_Put_f4f_0 fuel (x0, x1, x2, x3, x4, x5, x6, x7, x8, x9, x10, x11, x12) (fun v => R (T129_f4f_0 v)) (E129_f4f_0 K) :=
  S129_f4f_0_okg fuel (F_ref05_Valid fuel) (F_ref07_Valid fuel) (F_ref07_room fuel) (F_ref07_Size fuel) (F_ref07_typical fuel) (F_ref05_At fuel) (F_ref07_context fuel) (F_ref02_Encoder_Model_975 fuel) (F_ref02_Encoder_Put_9ef fuel) R K x0 x1 x2 x3 x4 x5 x6 x7 x8 x9 x10 x11 x12
noncomputable def B129_f4f_0 (fuel : Nat) : Ev.Blk := fun st K => match canonO (kp129_f4f 6) st with
  | some s => (match s with
    | ⟨[(q0, .c (.nilptr)), (q1, .c (.int .i64 x0)), (q2, .c (.ptr q3 q4)), (q5, .c (.ptr q6 q7)), (q8, .c (.ptr q9 q10)), (q11, .c (.int .i64 x1))], [(q12, .cells q13 [.int .i64 x2, .int .i64 x3, .int .i64 x4, .bool x5, .int .i64 x6]), (q14, .cells q15 [.int .i64 x7, .int .i64 x8, .sl (.int .u8) x9]), (q16, .cells q17 [.int .i64 x10, .int .i64 x11, .sl (.int .u8) x12])], q18, q19⟩ => bif Nat.beq q0 0 && Nat.beq q1 1 && Nat.beq q2 7 && Nat.beq q3 0 && Nat.beq q4 0 && Nat.beq q5 8 && Nat.beq q6 1 && Nat.beq q7 0 && Nat.beq q8 9 && Nat.beq q9 2 && Nat.beq q10 0 && Nat.beq q11 11 && Nat.beq q12 0 && Nat.beq q13 46 && Nat.beq q14 1 && Nat.beq q15 39 && Nat.beq q16 2 && Nat.beq q17 39 && Nat.beq q18 3 && Nat.beq q19 0 then iter (S_ref07_Put_f4f_0 fuel) fuel (x0, x1, x2, x3, x4, x5, x6, x7, x8, x9, x10, x11, x12) (E129_f4f_0 K) else none
    | _ => none)
  | none => none
theorem B129_f4f_0_ok (fuel : Nat) (st : Ev.St) (K : Ev.Ex → Ev.St → Option Ans) (r : Ans) (h : B129_f4f_0 fuel st K = some r) : evalCode tab (G129_f4f fuel) (J129_f4f_0 fuel) kp129_f4f fuel (.block 0 (.loop (bodyOf 0 Try.f129))) st K = some r := by
  unfold B129_f4f_0 at h
  split at h
  · rename_i s hs
    split at h
    · skip
      obtain ⟨hb, h⟩ := cond_some' h
      simp only [Bool.and_eq_true, Nat.beq_eq, decide_eq_true_eq] at hb
      obtain ⟨⟨⟨⟨⟨⟨⟨⟨⟨⟨⟨⟨⟨⟨⟨⟨⟨⟨⟨rfl, rfl⟩, rfl⟩, rfl⟩, rfl⟩, rfl⟩, rfl⟩, rfl⟩, rfl⟩, rfl⟩, rfl⟩, rfl⟩, rfl⟩, rfl⟩, rfl⟩, rfl⟩, rfl⟩, rfl⟩, rfl⟩, rfl⟩ := hb
      exact blk_loop (S := T129_f4f_0) (ks := E129_f4f_0) (step := S_ref07_Put_f4f_0 fuel) (v := (_, _, _, _, _, _, _, _, _, _, _, _, _)) (by kernel_rfl) (by kernel_rfl) (fun R K v => by obtain ⟨x0, x1, x2, x3, x4, x5, x6, x7, x8, x9, x10, x11, x12⟩ := v; exact S129_f4f_0_ok fuel R K x0 x1 x2 x3 x4 x5 x6 x7 x8 x9 x10 x11 x12) hs h
    · cases h
  · cases h
noncomputable def S_ref07_Put_f4f_6 (fuel : Nat) (v : Int × Int × Int × Int × Int × Int × Int × Bool × Int × Int × Int × (List Int) × Int × Int × (List Int)) (c : (Int × Int × Int × Int × Int × Int × Int × Bool × Int × Int × Int × (List Int) × Int × Int × (List Int)) → Option Ans) (B : (Int × Int × Int × Int × Int × Int × Bool × Int × Int × Int × (List Int) × Int × Int × (List Int) → Option Ans)) : Option Ans := match v, B with
  | (x0, x1, x2, x3, x4, x5, x6, x7, x8, x9, x10, x11, x12, x13, x14), b =>
   bif Decidable.decide (x3 < x9) then
      (F_ref05_At fuel (x12) (x13) (x14) (x3) (x2)
        (fun y3 =>
          bif y3 == (0 : Int) then
           (F_ref07_context fuel (x4) (x5) (x6) (x7) (x8) (x9) (x10) (x11) (x3) (x2)
             (fun y8 =>
               (F_ref05_At fuel (x9) (x10) (x11) (x3) (x2)
                 (fun y12 =>
                   (F_ref02_Encoder_Put_9ef fuel (Go.IntKind.i64.wrap (x0 + y8)) (y12)
                     (fun y16 =>
                       c (x0, x1, x2, Go.IntKind.i64.wrap (x3 + (1 : Int)), x4, x5, x6, x7, x8, x9, x10, x11, x12, x13, x14)))))))
          else
           c (x0, x1, x2, Go.IntKind.i64.wrap (x3 + (1 : Int)), x4, x5, x6, x7, x8, x9, x10, x11, x12, x13, x14)))
     else
      b (x0, x1, x2, x4, x5, x6, x7, x8, x9, x10, x11, x12, x13, x14)
noncomputable def L_ref07_Put_f4f_6 (fuel : Nat) (v : Int × Int × Int × Int × Int × Int × Int × Bool × Int × Int × Int × (List Int) × Int × Int × (List Int)) (b : (Int × Int × Int × Int × Int × Int × Bool × Int × Int × Int × (List Int) × Int × Int × (List Int) → Option Ans)) : Option Ans := iter (S_ref07_Put_f4f_6 fuel) fuel v b
noncomputable def J129_f4f_6 (fuel : Nat) (i : Nat) : Option Ev.Blk := Ev.look i [(100002, B129_f4f_2 fuel), (100000, B129_f4f_0 fuel)]
noncomputable def T129_f4f_6 (v : Int × Int × Int × Int × Int × Int × Int × Bool × Int × Int × Int × (List Int) × Int × Int × (List Int)) : Ev.St := match v with | (x0, x1, x2, x3, x4, x5, x6, x7, x8, x9, x10, x11, x12, x13, x14) => ⟨[(0, .c (.nilptr)), (1, .c (.int .i64 x0)), (7, .c (.ptr 0 0)), (8, .c (.ptr 1 0)), (9, .c (.ptr 2 0)), (14, .c (.int .i64 x1)), (16, .c (.int .i64 x2)), (18, .c (.int .i64 x3))], [(0, .cells 46 [.int .i64 x4, .int .i64 x5, .int .i64 x6, .bool x7, .int .i64 x8]), (1, .cells 39 [.int .i64 x9, .int .i64 x10, .sl (.int .u8) x11]), (2, .cells 39 [.int .i64 x12, .int .i64 x13, .sl (.int .u8) x14])], 3, 0⟩
noncomputable def E129_f4f_6 (K : Ev.Ex → Ev.St → Option Ans) : (Int × Int × Int × Int × Int × Int × Bool × Int × Int × Int × (List Int) × Int × Int × (List Int) → Option Ans) := (fun v => match v with | (x0, x1, x2, x3, x4, x5, x6, x7, x8, x9, x10, x11, x12, x13) => K .normal ⟨[(0, .c (.nilptr)), (1, .c (.int .i64 x0)), (7, .c (.ptr 0 0)), (8, .c (.ptr 1 0)), (9, .c (.ptr 2 0)), (14, .c (.int .i64 x1)), (16, .c (.int .i64 x2))], [(0, .cells 46 [.int .i64 x3, .int .i64 x4, .int .i64 x5, .bool x6, .int .i64 x7]), (1, .cells 39 [.int .i64 x8, .int .i64 x9, .sl (.int .u8) x10]), (2, .cells 39 [.int .i64 x11, .int .i64 x12, .sl (.int .u8) x13])], 3, 0⟩)
theorem S129_f4f_6_okg (fuel : Nat) (f86 : YF86) (f109 : YF109) (f120 : YF120) (f122 : YF122) (f124 : YF124) (f125 : YF125) (f126 : YF126) (f187_975 : YF187_975) (f188_9ef : YF188_9ef) (R : Ev.St → Option Ans) (K : Ev.Ex → Ev.St → Option Ans) (x0 : Int) (x1 : Int) (x2 : Int) (x3 : Int) (x4 : Int) (x5 : Int) (x6 : Int) (x7 : Bool) (x8 : Int) (x9 : Int) (x10 : Int) (x11 : (List Int)) (x12 : Int) (x13 : Int) (x14 : (List Int)) : evalCode tab (Gg129_f4f f86 f109 f120 f122 f124 f125 f126 f187_975 f188_9ef) (J129_f4f_6 fuel) kp129_f4f fuel (bodyOf 6 Try.f129) (T129_f4f_6 (x0, x1, x2, x3, x4, x5, x6, x7, x8, x9, x10, x11, x12, x13, x14)) (lc kp129_f4f 27 6 R K) = (fun (c : (Int × Int × Int × Int × Int × Int × Int × Bool × Int × Int × Int × (List Int) × Int × Int × (List Int)) → Option Ans) (B : (Int × Int × Int × Int × Int × Int × Bool × Int × Int × Int × (List Int) × Int × Int × (List Int) → Option Ans)) => match B with
  | b =>
   bif Decidable.decide (x3 < x9) then
      (f125 (x12) (x13) (x14) (x3) (x2)
        (fun y3 =>
          bif y3 == (0 : Int) then
           (f126 (x4) (x5) (x6) (x7) (x8) (x9) (x10) (x11) (x3) (x2)
             (fun y8 =>
               (f125 (x9) (x10) (x11) (x3) (x2)
                 (fun y12 =>
                   (f188_9ef (Go.IntKind.i64.wrap (x0 + y8)) (y12)
                     (fun y16 =>
                       c (x0, x1, x2, Go.IntKind.i64.wrap (x3 + (1 : Int)), x4, x5, x6, x7, x8, x9, x10, x11, x12, x13, x14)))))))
          else
           c (x0, x1, x2, Go.IntKind.i64.wrap (x3 + (1 : Int)), x4, x5, x6, x7, x8, x9, x10, x11, x12, x13, x14)))
     else
      b (x0, x1, x2, x4, x5, x6, x7, x8, x9, x10, x11, x12, x13, x14)) (fun v => R (T129_f4f_6 v)) (E129_f4f_6 K) := by
  kernel_rfl
theorem S129_f4f_6_ok (fuel : Nat) (R : Ev.St → Option Ans) (K : Ev.Ex → Ev.St → Option Ans) (x0 : Int) (x1 : Int) (x2 : Int) (x3 : Int) (x4 : Int) (x5 : Int) (x6 : Int) (x7 : Bool) (x8 : Int) (x9 : Int) (x10 : Int) (x11 : (List Int)) (x12 : Int) (x13 : Int) (x14 : (List Int)) : evalCode tab (G129_f4f fuel) (J129_f4f_6 fuel) kp129_f4f fuel (bodyOf 6 Try.f129) (T129_f4f_6 (x0, x1, x2, x3, x4, x5, x6, x7, x8, x9, x10, x11, x12, x13, x14)) (lc kp129_f4f 27 6 R K) = S_ref07_Put_f4f_6 fuel (x0, x1, x2, x3, x4, x5, x6, x7, x8, x9, x10, x11, x12, x13, x14) (fun v => R (T129_f4f_6 v)) (E129_f4f_6 K) :=
  S129_f4f_6_okg fuel (F_ref05_Valid fuel) (F_ref07_Valid fuel) (F_ref07_room fuel) (F_ref07_Size fuel) (F_ref07_typical fuel) (F_ref05_At fuel) (F_ref07_context fuel) (F_ref02_Encoder_Model_975 fuel) (F_ref02_Encoder_Put_9ef fuel) R K x0 x1 x2 x3 x4 x5 x6 x7 x8 x9 x10 x11 x12 x13 x14
noncomputable def B129_f4f_6 (fuel : Nat) : Ev.Blk := fun st K => match canonO (kp129_f4f 27) st with
  | some s => (match s with
    | ⟨[(q0, .c (.nilptr)), (q1, .c (.int .i64 x0)), (q2, .c (.ptr q3 q4)), (q5, .c (.ptr q6 q7)), (q8, .c (.ptr q9 q10)), (q11, .c (.int .i64 x1)), (q12, .c (.int .i64 x2)), (q13, .c (.int .i64 x3))], [(q14, .cells q15 [.int .i64 x4, .int .i64 x5, .int .i64 x6, .bool x7, .int .i64 x8]), (q16, .cells q17 [.int .i64 x9, .int .i64 x10, .sl (.int .u8) x11]), (q18, .cells q19 [.int .i64 x12, .int .i64 x13, .sl (.int .u8) x14])], q20, q21⟩ => bif Nat.beq q0 0 && Nat.beq q1 1 && Nat.beq q2 7 && Nat.beq q3 0 && Nat.beq q4 0 && Nat.beq q5 8 && Nat.beq q6 1 && Nat.beq q7 0 && Nat.beq q8 9 && Nat.beq q9 2 && Nat.beq q10 0 && Nat.beq q11 14 && Nat.beq q12 16 && Nat.beq q13 18 && Nat.beq q14 0 && Nat.beq q15 46 && Nat.beq q16 1 && Nat.beq q17 39 && Nat.beq q18 2 && Nat.beq q19 39 && Nat.beq q20 3 && Nat.beq q21 0 then iter (S_ref07_Put_f4f_6 fuel) fuel (x0, x1, x2, x3, x4, x5, x6, x7, x8, x9, x10, x11, x12, x13, x14) (E129_f4f_6 K) else none
    | _ => none)
  | none => none
theorem B129_f4f_6_ok (fuel : Nat) (st : Ev.St) (K : Ev.Ex → Ev.St → Option Ans) (r : Ans) (h : B129_f4f_6 fuel st K = some r) : evalCode tab (G129_f4f fuel) (J129_f4f_6 fuel) kp129_f4f fuel (.block 6 (.loop (bodyOf 6 Try.f129))) st K = some r := by
  unfold B129_f4f_6 at h
  split at h
  · rename_i s hs
    split at h
    · skip
      obtain ⟨hb, h⟩ := cond_some' h
      simp only [Bool.and_eq_true, Nat.beq_eq, decide_eq_true_eq] at hb
      obtain ⟨⟨⟨⟨⟨⟨⟨⟨⟨⟨⟨⟨⟨⟨⟨⟨⟨⟨⟨⟨⟨rfl, rfl⟩, rfl⟩, rfl⟩, rfl⟩, rfl⟩, rfl⟩, rfl⟩, rfl⟩, rfl⟩, rfl⟩, rfl⟩, rfl⟩, rfl⟩, rfl⟩, rfl⟩, rfl⟩, rfl⟩, rfl⟩, rfl⟩, rfl⟩, rfl⟩ := hb
      exact blk_loop (S := T129_f4f_6) (ks := E129_f4f_6) (step := S_ref07_Put_f4f_6 fuel) (v := (_, _, _, _, _, _, _, _, _, _, _, _, _, _, _)) (by kernel_rfl) (by kernel_rfl) (fun R K v => by obtain ⟨x0, x1, x2, x3, x4, x5, x6, x7, x8, x9, x10, x11, x12, x13, x14⟩ := v; exact S129_f4f_6_ok fuel R K x0 x1 x2 x3 x4 x5 x6 x7 x8 x9 x10 x11 x12 x13 x14) hs h
    · cases h
  · cases h
noncomputable def S_ref07_Put_f4f_4 (fuel : Nat) (v : Int × Int × Int × Int × Int × Int × Bool × Int × Int × Int × (List Int) × Int × Int × (List Int)) (c : (Int × Int × Int × Int × Int × Int × Bool × Int × Int × Int × (List Int) × Int × Int × (List Int)) → Option Ans) (B : (Unit → Option Ans)) : Option Ans := match v, B with
  | (x0, x1, x2, x3, x4, x5, x6, x7, x8, x9, x10, x11, x12, x13), b =>
   bif Decidable.decide (x2 < x9) then
      bif x6 then
       bif Decidable.decide ((0 : Int) ≤ Ev.loOf (Option.some (Go.IntKind.i64.wrap (x2 * x8))) ∧ Ev.loOf (Option.some (Go.IntKind.i64.wrap (x2 * x8))) ≤ Ev.hiOf (Option.some (Go.IntKind.i64.wrap (Go.IntKind.i64.wrap (x2 + (1 : Int)) * x8))) (↑x10.length : Int) ∧ Ev.hiOf (Option.some (Go.IntKind.i64.wrap (Go.IntKind.i64.wrap (x2 + (1 : Int)) * x8))) (↑x10.length : Int) ≤ (↑x10.length : Int)) then
       both ((F_ref07_typical fuel (x8) (x9) (x10) (x11) (x12) (x13) (x2)
            (fun y7 =>
              both (bif (Go.strOfNums y7).toList == (Go.strOfNums (List.take (Ev.hiOf (Option.some (Go.IntKind.i64.wrap (Go.IntKind.i64.wrap (x2 + (1 : Int)) * x8))) (↑x10.length : Int) - Ev.loOf (Option.some (Go.IntKind.i64.wrap (x2 * x8)))).toNat (List.drop (Ev.loOf (Option.some (Go.IntKind.i64.wrap (x2 * x8)))).toNat x10))).toList then
                 (F_ref02_Encoder_Put_9ef fuel (Go.IntKind.i64.wrap (Go.IntKind.i64.wrap (x0 + x1) - (1 : Int))) ((1 : Int))
                   (fun y14 =>
                     c (x0, x1, Go.IntKind.i64.wrap (x2 + (1 : Int)), x3, x4, x5, x6, x7, x8, x9, x10, x11, x12, x13)))
                else
                 (F_ref02_Encoder_Put_9ef fuel (Go.IntKind.i64.wrap (Go.IntKind.i64.wrap (x0 + x1) - (1 : Int))) ((0 : Int))
                   (fun y14 =>
                     (L_ref07_Put_f4f_6 fuel (x0, x1, x2, (0 : Int), x3, x4, x5, x6, x7, x8, x9, x10, x11, x12, x13)
                       (fun (b6_0, b6_1, b6_2, b6_3, b6_4, b6_5, b6_6, b6_7, b6_8, b6_9, b6_10, b6_11, b6_12, b6_13) =>
                         c (b6_0, b6_1, Go.IntKind.i64.wrap (b6_2 + (1 : Int)), b6_3, b6_4, b6_5, b6_6, b6_7, b6_8, b6_9, b6_10, b6_11, b6_12, b6_13))))))
               (bif (Go.strOfNums y7).toList == (Go.strOfNums (List.take (Ev.hiOf (Option.some (Go.IntKind.i64.wrap (Go.IntKind.i64.wrap (x2 + (1 : Int)) * x8))) (↑x10.length : Int) - Ev.loOf (Option.some (Go.IntKind.i64.wrap (x2 * x8)))).toNat (List.drop (Ev.loOf (Option.some (Go.IntKind.i64.wrap (x2 * x8)))).toNat x10))).toList then
                 (F_ref02_Encoder_Put_9ef fuel (Go.IntKind.i64.wrap (Go.IntKind.i64.wrap (x0 + x1) - (1 : Int))) ((1 : Int))
                   (fun y14 =>
                     c (x0, x1, Go.IntKind.i64.wrap (x2 + (1 : Int)), x3, x4, x5, x6, x7, x8, x9, x10, x11, x12, x13)))
                else
                 (F_ref02_Encoder_Put_9ef fuel (Go.IntKind.i64.wrap (Go.IntKind.i64.wrap (x0 + x1) - (1 : Int))) ((0 : Int))
                   (fun y14 =>
                     (L_ref07_Put_f4f_6 fuel (x0, x1, x2, (0 : Int), x3, x4, x5, x6, x7, x8, x9, x10, x11, x12, x13)
                       (fun (b6_0, b6_1, b6_2, b6_3, b6_4, b6_5, b6_6, b6_7, b6_8, b6_9, b6_10, b6_11, b6_12, b6_13) =>
                         c (b6_0, b6_1, Go.IntKind.i64.wrap (b6_2 + (1 : Int)), b6_3, b6_4, b6_5, b6_6, b6_7, b6_8, b6_9, b6_10, b6_11, b6_12, b6_13)))))))))
         ((F_ref07_typical fuel (x8) (x9) (x10) (x11) (x12) (x13) (x2)
            (fun y7 =>
              bif (Go.strOfNums y7).toList == (Go.strOfNums (List.take (Ev.hiOf (Option.some (Go.IntKind.i64.wrap (Go.IntKind.i64.wrap (x2 + (1 : Int)) * x8))) (↑x10.length : Int) - Ev.loOf (Option.some (Go.IntKind.i64.wrap (x2 * x8)))).toNat (List.drop (Ev.loOf (Option.some (Go.IntKind.i64.wrap (x2 * x8)))).toNat x10))).toList then
               (F_ref02_Encoder_Put_9ef fuel (Go.IntKind.i64.wrap (Go.IntKind.i64.wrap (x0 + x1) - (1 : Int))) ((1 : Int))
                 (fun y12 =>
                   c (x0, x1, Go.IntKind.i64.wrap (x2 + (1 : Int)), x3, x4, x5, x6, x7, x8, x9, x10, x11, x12, x13)))
              else
               (F_ref02_Encoder_Put_9ef fuel (Go.IntKind.i64.wrap (Go.IntKind.i64.wrap (x0 + x1) - (1 : Int))) ((0 : Int))
                 (fun y12 =>
                   (L_ref07_Put_f4f_6 fuel (x0, x1, x2, (0 : Int), x3, x4, x5, x6, x7, x8, x9, x10, x11, x12, x13)
                     (fun (b6_0, b6_1, b6_2, b6_3, b6_4, b6_5, b6_6, b6_7, b6_8, b6_9, b6_10, b6_11, b6_12, b6_13) =>
                       c (b6_0, b6_1, Go.IntKind.i64.wrap (b6_2 + (1 : Int)), b6_3, b6_4, b6_5, b6_6, b6_7, b6_8, b6_9, b6_10, b6_11, b6_12, b6_13))))))))
       else none
      else
       (L_ref07_Put_f4f_6 fuel (x0, x1, x2, (0 : Int), x3, x4, x5, x6, x7, x8, x9, x10, x11, x12, x13)
         (fun (b6_0, b6_1, b6_2, b6_3, b6_4, b6_5, b6_6, b6_7, b6_8, b6_9, b6_10, b6_11, b6_12, b6_13) =>
           c (b6_0, b6_1, Go.IntKind.i64.wrap (b6_2 + (1 : Int)), b6_3, b6_4, b6_5, b6_6, b6_7, b6_8, b6_9, b6_10, b6_11, b6_12, b6_13)))
     else
      b ()
noncomputable def L_ref07_Put_f4f_4 (fuel : Nat) (v : Int × Int × Int × Int × Int × Int × Bool × Int × Int × Int × (List Int) × Int × Int × (List Int)) (b : (Unit → Option Ans)) : Option Ans := iter (S_ref07_Put_f4f_4 fuel) fuel v b
noncomputable def J129_f4f_4 (fuel : Nat) (i : Nat) : Option Ev.Blk := Ev.look i [(100002, B129_f4f_2 fuel), (100000, B129_f4f_0 fuel), (100006, B129_f4f_6 fuel)]
noncomputable def T129_f4f_4 (v : Int × Int × Int × Int × Int × Int × Bool × Int × Int × Int × (List Int) × Int × Int × (List Int)) : Ev.St := match v with | (x0, x1, x2, x3, x4, x5, x6, x7, x8, x9, x10, x11, x12, x13) => ⟨[(0, .c (.nilptr)), (1, .c (.int .i64 x0)), (7, .c (.ptr 0 0)), (8, .c (.ptr 1 0)), (9, .c (.ptr 2 0)), (14, .c (.int .i64 x1)), (16, .c (.int .i64 x2))], [(0, .cells 46 [.int .i64 x3, .int .i64 x4, .int .i64 x5, .bool x6, .int .i64 x7]), (1, .cells 39 [.int .i64 x8, .int .i64 x9, .sl (.int .u8) x10]), (2, .cells 39 [.int .i64 x11, .int .i64 x12, .sl (.int .u8) x13])], 3, 0⟩
noncomputable def E129_f4f_4 (K : Ev.Ex → Ev.St → Option Ans) : (Unit → Option Ans) := (fun v => match v with | () => K .normal ⟨[], [], 0, 0⟩)
theorem S129_f4f_4_okg (fuel : Nat) (f86 : YF86) (f109 : YF109) (f120 : YF120) (f122 : YF122) (f124 : YF124) (f125 : YF125) (f126 : YF126) (f187_975 : YF187_975) (f188_9ef : YF188_9ef) (R : Ev.St → Option Ans) (K : Ev.Ex → Ev.St → Option Ans) (x0 : Int) (x1 : Int) (x2 : Int) (x3 : Int) (x4 : Int) (x5 : Int) (x6 : Bool) (x7 : Int) (x8 : Int) (x9 : Int) (x10 : (List Int)) (x11 : Int) (x12 : Int) (x13 : (List Int)) : evalCode tab (Gg129_f4f f86 f109 f120 f122 f124 f125 f126 f187_975 f188_9ef) (J129_f4f_4 fuel) kp129_f4f fuel (bodyOf 4 Try.f129) (T129_f4f_4 (x0, x1, x2, x3, x4, x5, x6, x7, x8, x9, x10, x11, x12, x13)) (lc kp129_f4f 18 4 R K) = (fun (c : (Int × Int × Int × Int × Int × Int × Bool × Int × Int × Int × (List Int) × Int × Int × (List Int)) → Option Ans) (B : (Unit → Option Ans)) => match B with
  | b =>
   bif Decidable.decide (x2 < x9) then
      bif x6 then
       bif Decidable.decide ((0 : Int) ≤ Ev.loOf (Option.some (Go.IntKind.i64.wrap (x2 * x8))) ∧ Ev.loOf (Option.some (Go.IntKind.i64.wrap (x2 * x8))) ≤ Ev.hiOf (Option.some (Go.IntKind.i64.wrap (Go.IntKind.i64.wrap (x2 + (1 : Int)) * x8))) (↑x10.length : Int) ∧ Ev.hiOf (Option.some (Go.IntKind.i64.wrap (Go.IntKind.i64.wrap (x2 + (1 : Int)) * x8))) (↑x10.length : Int) ≤ (↑x10.length : Int)) then
       both ((f124 (x8) (x9) (x10) (x11) (x12) (x13) (x2)
            (fun y7 =>
              both (bif (Go.strOfNums y7).toList == (Go.strOfNums (List.take (Ev.hiOf (Option.some (Go.IntKind.i64.wrap (Go.IntKind.i64.wrap (x2 + (1 : Int)) * x8))) (↑x10.length : Int) - Ev.loOf (Option.some (Go.IntKind.i64.wrap (x2 * x8)))).toNat (List.drop (Ev.loOf (Option.some (Go.IntKind.i64.wrap (x2 * x8)))).toNat x10))).toList then
                 (f188_9ef (Go.IntKind.i64.wrap (Go.IntKind.i64.wrap (x0 + x1) - (1 : Int))) ((1 : Int))
                   (fun y14 =>
                     c (x0, x1, Go.IntKind.i64.wrap (x2 + (1 : Int)), x3, x4, x5, x6, x7, x8, x9, x10, x11, x12, x13)))
                else
                 (f188_9ef (Go.IntKind.i64.wrap (Go.IntKind.i64.wrap (x0 + x1) - (1 : Int))) ((0 : Int))
                   (fun y14 =>
                     (L_ref07_Put_f4f_6 fuel (x0, x1, x2, (0 : Int), x3, x4, x5, x6, x7, x8, x9, x10, x11, x12, x13)
                       (fun (b6_0, b6_1, b6_2, b6_3, b6_4, b6_5, b6_6, b6_7, b6_8, b6_9, b6_10, b6_11, b6_12, b6_13) =>
                         c (b6_0, b6_1, Go.IntKind.i64.wrap (b6_2 + (1 : Int)), b6_3, b6_4, b6_5, b6_6, b6_7, b6_8, b6_9, b6_10, b6_11, b6_12, b6_13))))))
               (bif (Go.strOfNums y7).toList == (Go.strOfNums (List.take (Ev.hiOf (Option.some (Go.IntKind.i64.wrap (Go.IntKind.i64.wrap (x2 + (1 : Int)) * x8))) (↑x10.length : Int) - Ev.loOf (Option.some (Go.IntKind.i64.wrap (x2 * x8)))).toNat (List.drop (Ev.loOf (Option.some (Go.IntKind.i64.wrap (x2 * x8)))).toNat x10))).toList then
                 (f188_9ef (Go.IntKind.i64.wrap (Go.IntKind.i64.wrap (x0 + x1) - (1 : Int))) ((1 : Int))
                   (fun y14 =>
                     c (x0, x1, Go.IntKind.i64.wrap (x2 + (1 : Int)), x3, x4, x5, x6, x7, x8, x9, x10, x11, x12, x13)))
                else
                 (f188_9ef (Go.IntKind.i64.wrap (Go.IntKind.i64.wrap (x0 + x1) - (1 : Int))) ((0 : Int))
                   (fun y14 =>
                     (L_ref07_Put_f4f_6 fuel (x0, x1, x2, (0 : Int), x3, x4, x5, x6, x7, x8, x9, x10, x11, x12, x13)
                       (fun (b6_0, b6_1, b6_2, b6_3, b6_4, b6_5, b6_6, b6_7, b6_8, b6_9, b6_10, b6_11, b6_12, b6_13) =>
                         c (b6_0, b6_1, Go.IntKind.i64.wrap (b6_2 + (1 : Int)), b6_3, b6_4, b6_5, b6_6, b6_7, b6_8, b6_9, b6_10, b6_11, b6_12, b6_13)))))))))
         ((f124 (x8) (x9) (x10) (x11) (x12) (x13) (x2)
            (fun y7 =>
              bif (Go.strOfNums y7).toList == (Go.strOfNums (List.take (Ev.hiOf (Option.some (Go.IntKind.i64.wrap (Go.IntKind.i64.wrap (x2 + (1 : Int)) * x8))) (↑x10.length : Int) - Ev.loOf (Option.some (Go.IntKind.i64.wrap (x2 * x8)))).toNat (List.drop (Ev.loOf (Option.some (Go.IntKind.i64.wrap (x2 * x8)))).toNat x10))).toList then
               (f188_9ef (Go.IntKind.i64.wrap (Go.IntKind.i64.wrap (x0 + x1) - (1 : Int))) ((1 : Int))
                 (fun y12 =>
                   c (x0, x1, Go.IntKind.i64.wrap (x2 + (1 : Int)), x3, x4, x5, x6, x7, x8, x9, x10, x11, x12, x13)))
              else
               (f188_9ef (Go.IntKind.i64.wrap (Go.IntKind.i64.wrap (x0 + x1) - (1 : Int))) ((0 : Int))
                 (fun y12 =>
                   (L_ref07_Put_f4f_6 fuel (x0, x1, x2, (0 : Int), x3, x4, x5, x6, x7, x8, x9, x10, x11, x12, x13)
                     (fun (b6_0, b6_1, b6_2, b6_3, b6_4, b6_5, b6_6, b6_7, b6_8, b6_9, b6_10, b6_11, b6_12, b6_13) =>
                       c (b6_0, b6_1, Go.IntKind.i64.wrap (b6_2 + (1 : Int)), b6_3, b6_4, b6_5, b6_6, b6_7, b6_8, b6_9, b6_10, b6_11, b6_12, b6_13))))))))
       else none
      else
       (L_ref07_Put_f4f_6 fuel (x0, x1, x2, (0 : Int), x3, x4, x5, x6, x7, x8, x9, x10, x11, x12, x13)
         (fun (b6_0, b6_1, b6_2, b6_3, b6_4, b6_5, b6_6, b6_7, b6_8, b6_9, b6_10, b6_11, b6_12, b6_13) =>
           c (b6_0, b6_1, Go.IntKind.i64.wrap (b6_2 + (1 : Int)), b6_3, b6_4, b6_5, b6_6, b6_7, b6_8, b6_9, b6_10, b6_11, b6_12, b6_13)))
     else
      b ()) (fun v => R (T129_f4f_4 v)) (E129_f4f_4 K) := by
  kernel_rfl
theorem S129_f4f_4_ok (fuel : Nat) (R : Ev.St → Option Ans) (K : Ev.Ex → Ev.St → Option Ans) (x0 : Int) (x1 : Int) (x2 : Int) (x3 : Int) (x4 : Int) (x5 : Int) (x6 : Bool) (x7 : Int) (x8 : Int) (x9 : Int) (x10 : (List Int)) (x11 : Int) (x12 : Int) (x13 : (List Int)) : evalCode tab (G129_f4f fuel) (J129_f4f_4 fuel) kp129_f4f fuel (bodyOf 4 Try.f129) (T129_f4f_4 (x0, x1, x2, x3, x4, x5, x6, x7, x8, x9, x10, x11, x12, x13)) (lc kp129_f4f 18 4 R K) = S_ref07_Put_f4f_4 fuel (x0, x1, x2, x3, x4, x5, x6, x7, x8, x9, x10, x11, x12, x13) (fun v => R (T129_f4f_4 v)) (E129_f4f_4 K) :=
  S129_f4f_4_okg fuel (F_ref05_Valid fuel) (F_ref07_Valid fuel) (F_ref07_room fuel) (F_ref07_Size fuel) (F_ref07_typical fuel) (F_ref05_At fuel) (F_ref07_context fuel) (F_ref02_Encoder_Model_975 fuel) (F_ref02_Encoder_Put_9ef fuel) R K x0 x1 x2 x3 x4 x5 x6 x7 x8 x9 x10 x11 x12 x13
noncomputable def B129_f4f_4 (fuel : Nat) : Ev.Blk := fun st K => match canonO (kp129_f4f 18) st with
  | some s => (match s with
    | ⟨[(q0, .c (.nilptr)), (q1, .c (.int .i64 x0)), (q2, .c (.ptr q3 q4)), (q5, .c (.ptr q6 q7)), (q8, .c (.ptr q9 q10)), (q11, .c (.int .i64 x1)), (q12, .c (.int .i64 x2))], [(q13, .cells q14 [.int .i64 x3, .int .i64 x4, .int .i64 x5, .bool x6, .int .i64 x7]), (q15, .cells q16 [.int .i64 x8, .int .i64 x9, .sl (.int .u8) x10]), (q17, .cells q18 [.int .i64 x11, .int .i64 x12, .sl (.int .u8) x13])], q19, q20⟩ => bif Nat.beq q0 0 && Nat.beq q1 1 && Nat.beq q2 7 && Nat.beq q3 0 && Nat.beq q4 0 && Nat.beq q5 8 && Nat.beq q6 1 && Nat.beq q7 0 && Nat.beq q8 9 && Nat.beq q9 2 && Nat.beq q10 0 && Nat.beq q11 14 && Nat.beq q12 16 && Nat.beq q13 0 && Nat.beq q14 46 && Nat.beq q15 1 && Nat.beq q16 39 && Nat.beq q17 2 && Nat.beq q18 39 && Nat.beq q19 3 && Nat.beq q20 0 then iter (S_ref07_Put_f4f_4 fuel) fuel (x0, x1, x2, x3, x4, x5, x6, x7, x8, x9, x10, x11, x12, x13) (E129_f4f_4 K) else none
    | _ => none)
  | none => none
theorem B129_f4f_4_ok (fuel : Nat) (st : Ev.St) (K : Ev.Ex → Ev.St → Option Ans) (r : Ans) (h : B129_f4f_4 fuel st K = some r) : evalCode tab (G129_f4f fuel) (J129_f4f_4 fuel) kp129_f4f fuel (.block 4 (.loop (bodyOf 4 Try.f129))) st K = some r := by
  unfold B129_f4f_4 at h
  split at h
  · rename_i s hs
    split at h
    · skip
      obtain ⟨hb, h⟩ := cond_some' h
      simp only [Bool.and_eq_true, Nat.beq_eq, decide_eq_true_eq] at hb
      obtain ⟨⟨⟨⟨⟨⟨⟨⟨⟨⟨⟨⟨⟨⟨⟨⟨⟨⟨⟨⟨rfl, rfl⟩, rfl⟩, rfl⟩, rfl⟩, rfl⟩, rfl⟩, rfl⟩, rfl⟩, rfl⟩, rfl⟩, rfl⟩, rfl⟩, rfl⟩, rfl⟩, rfl⟩, rfl⟩, rfl⟩, rfl⟩, rfl⟩, rfl⟩ := hb
      exact blk_loop (S := T129_f4f_4) (ks := E129_f4f_4) (step := S_ref07_Put_f4f_4 fuel) (v := (_, _, _, _, _, _, _, _, _, _, _, _, _, _)) (by kernel_rfl) (by kernel_rfl) (fun R K v => by obtain ⟨x0, x1, x2, x3, x4, x5, x6, x7, x8, x9, x10, x11, x12, x13⟩ := v; exact S129_f4f_4_ok fuel R K x0 x1 x2 x3 x4 x5 x6 x7 x8 x9 x10 x11 x12 x13) hs h
    · cases h
  · cases h
noncomputable def J129_f4f (fuel : Nat) (i : Nat) : Option Ev.Blk := Ev.look i [(100002, B129_f4f_2 fuel), (100000, B129_f4f_0 fuel), (100006, B129_f4f_6 fuel), (100004, B129_f4f_4 fuel)]
noncomputable def F_ref07_Put_f4f (fuel : Nat) (x0 : Int) (x1 : Int) (x2 : Int) (x3 : Int) (x4 : Bool) (x5 : Int) (x6 : Int) (x7 : Int) (x8 : (List Int)) (x9 : Int) (x10 : Int) (x11 : (List Int)) (k0 : (Int) → Option Ans) : Option Ans :=
  (F_ref07_Valid fuel (x1) (x2) (x3) (x4) (x5)
    (fun y2 =>
      bif !y2 then
       k0 ((2 : Int))
      else
       (F_ref05_Valid fuel (x6) (x7) (x8)
         (fun y7 =>
           bif !y7 then
            k0 ((30 : Int))
           else
            (F_ref05_Valid fuel (x9) (x10) (x11)
              (fun y12 =>
                bif !y12 then
                 k0 ((30 : Int))
                else
                 (L_ref07_Put_f4f_0 fuel (x0, (0 : Int), x1, x2, x3, x4, x5, x6, x7, x8, x9, x10, x11)
                   (fun ret0_0 =>
                     k0 ret0_0)
                   (fun (b0_0, b0_1, b0_2, b0_3, b0_4, b0_5, b0_6, b0_7, b0_8, b0_9, b0_10, b0_11) =>
                     (F_ref02_Encoder_Model_975 fuel
                       (fun (y21_0, y21_1) =>
                         (F_ref07_room fuel (b0_1) (b0_2) (b0_3) (b0_4) (b0_5) (b0_0) ((↑y21_1.length : Int)) (b0_6) (b0_7) (b0_9) (b0_10) (b0_11)
                           (fun y25 =>
                             bif y25 != (0 : Int) then
                              k0 y25
                             else
                              (F_ref07_Size fuel (b0_1) (b0_2) (b0_3) (b0_4) (b0_5)
                                (fun (y30_0, y30_1) =>
                                  (L_ref07_Put_f4f_4 fuel (b0_0, y30_0, (0 : Int), b0_1, b0_2, b0_3, b0_4, b0_5, b0_6, b0_7, b0_8, b0_9, b0_10, b0_11)
                                    (fun () =>
                                      k0 ((0 : Int))))))))))))))))))
abbrev YF129_f4f : Type := (Int) → (Int) → (Int) → (Int) → (Bool) → (Int) → (Int) → (Int) → ((List Int)) → (Int) → (Int) → ((List Int)) → ((Int) → Option Ans) → Option Ans
theorem F129_f4f_eqg (fuel : Nat) (f86 : YF86) (f109 : YF109) (f120 : YF120) (f122 : YF122) (f124 : YF124) (f125 : YF125) (f126 : YF126) (f187_975 : YF187_975) (f188_9ef : YF188_9ef) (x0 : Int) (x1 : Int) (x2 : Int) (x3 : Int) (x4 : Bool) (x5 : Int) (x6 : Int) (x7 : Int) (x8 : (List Int)) (x9 : Int) (x10 : Int) (x11 : (List Int)) (k : Ev.Cont) : evalFn tab (Gg129_f4f f86 f109 f120 f122 f124 f125 f126 f187_975 f188_9ef) (J129_f4f fuel) kp129_f4f fuel Try.f129 [.c (.nilptr), .c (.int .i64 x0), .agg [.int .i64 x1, .int .i64 x2, .int .i64 x3, .bool x4, .int .i64 x5], .agg [.int .i64 x6, .int .i64 x7, .sl (.int .u8) x8], .agg [.int .i64 x9, .int .i64 x10, .sl (.int .u8) x11]] [] k = (fun  (k0 : (Int) → Option Ans) =>
  (f109 (x1) (x2) (x3) (x4) (x5)
    (fun y2 =>
      bif !y2 then
       k0 ((2 : Int))
      else
       (f86 (x6) (x7) (x8)
         (fun y7 =>
           bif !y7 then
            k0 ((30 : Int))
           else
            (f86 (x9) (x10) (x11)
              (fun y12 =>
                bif !y12 then
                 k0 ((30 : Int))
                else
                 (L_ref07_Put_f4f_0 fuel (x0, (0 : Int), x1, x2, x3, x4, x5, x6, x7, x8, x9, x10, x11)
                   (fun ret0_0 =>
                     k0 ret0_0)
                   (fun (b0_0, b0_1, b0_2, b0_3, b0_4, b0_5, b0_6, b0_7, b0_8, b0_9, b0_10, b0_11) =>
                     (f187_975
                       (fun (y21_0, y21_1) =>
                         (f120 (b0_1) (b0_2) (b0_3) (b0_4) (b0_5) (b0_0) ((↑y21_1.length : Int)) (b0_6) (b0_7) (b0_9) (b0_10) (b0_11)
                           (fun y25 =>
                             bif y25 != (0 : Int) then
                              k0 y25
                             else
                              (f122 (b0_1) (b0_2) (b0_3) (b0_4) (b0_5)
                                (fun (y30_0, y30_1) =>
                                  (L_ref07_Put_f4f_4 fuel (b0_0, y30_0, (0 : Int), b0_1, b0_2, b0_3, b0_4, b0_5, b0_6, b0_7, b0_8, b0_9, b0_10, b0_11)
                                    (fun () =>
                                      k0 ((0 : Int))))))))))))))))))) (fun r => match r with | r0 => k (.c (.int .i64 r0), [])) := by
  kernel_rfl
theorem F129_f4f_eq (fuel : Nat) (x0 : Int) (x1 : Int) (x2 : Int) (x3 : Int) (x4 : Bool) (x5 : Int) (x6 : Int) (x7 : Int) (x8 : (List Int)) (x9 : Int) (x10 : Int) (x11 : (List Int)) (k : Ev.Cont) : evalFn tab (G129_f4f fuel) (J129_f4f fuel) kp129_f4f fuel Try.f129 [.c (.nilptr), .c (.int .i64 x0), .agg [.int .i64 x1, .int .i64 x2, .int .i64 x3, .bool x4, .int .i64 x5], .agg [.int .i64 x6, .int .i64 x7, .sl (.int .u8) x8], .agg [.int .i64 x9, .int .i64 x10, .sl (.int .u8) x11]] [] k = F_ref07_Put_f4f fuel x0 x1 x2 x3 x4 x5 x6 x7 x8 x9 x10 x11 (fun r => match r with | r0 => k (.c (.int .i64 r0), [])) :=
  F129_f4f_eqg fuel (F_ref05_Valid fuel) (F_ref07_Valid fuel) (F_ref07_room fuel) (F_ref07_Size fuel) (F_ref07_typical fuel) (F_ref05_At fuel) (F_ref07_context fuel) (F_ref02_Encoder_Model_975 fuel) (F_ref02_Encoder_Put_9ef fuel) x0 x1 x2 x3 x4 x5 x6 x7 x8 x9 x10 x11 k
theorem hG129_f4f (fuel : Nat) : GOK Try.prog (G129_f4f fuel) :=
  gok_cons ⟨ok86 fuel, enters_of Try.func86 (by kernel_rfl) rfl⟩ <|
  gok_cons ⟨ok109 fuel, enters_of Try.func109 (by kernel_rfl) rfl⟩ <|
  gok_cons ⟨ok120 fuel, enters_of Try.func120 (by kernel_rfl) rfl⟩ <|
  gok_cons ⟨ok122 fuel, enters_of Try.func122 (by kernel_rfl) rfl⟩ <|
  gok_cons ⟨ok124 fuel, enters_of Try.func124 (by kernel_rfl) rfl⟩ <|
  gok_cons ⟨ok125 fuel, enters_of Try.func125 (by kernel_rfl) rfl⟩ <|
  gok_cons ⟨ok126 fuel, enters_of Try.func126 (by kernel_rfl) rfl⟩ <|
  gok_cons ⟨ok187_975 fuel, enters_of Try.func187 (by kernel_rfl) rfl⟩ <|
  gok_cons ⟨ok188_9ef fuel, enters_of Try.func188 (by kernel_rfl) rfl⟩ <|
  gok_nil
theorem B129_f4f_2_blk (fuel : Nat) : BlkOK Try.prog Try.f129.ntmps (.block 2 (.loop (bodyOf 2 Try.f129))) (B129_f4f_2 fuel) :=
  blk_of (blk_of_code tab_ok (hG129_f4f fuel) mixed (J := J129_f4f_2 fuel) (kp := kp129_f4f) (fuel := fuel) (by kernel_rfl) (fun q hq => by
    rw [(by kernel_rfl : obl (J129_f4f_2 fuel) (.block 2 (.loop (bodyOf 2 Try.f129))) = [])] at hq
    cases hq)) (B129_f4f_2_ok fuel)
theorem B129_f4f_0_blk (fuel : Nat) : BlkOK Try.prog Try.f129.ntmps (.block 0 (.loop (bodyOf 0 Try.f129))) (B129_f4f_0 fuel) :=
  blk_of (blk_of_code tab_ok (hG129_f4f fuel) mixed (J := J129_f4f_0 fuel) (kp := kp129_f4f) (fuel := fuel) (by kernel_rfl) (fun q hq => by
    rw [(by kernel_rfl : obl (J129_f4f_0 fuel) (.block 0 (.loop (bodyOf 0 Try.f129))) = [(.block 2 (.loop (bodyOf 2 Try.f129)), B129_f4f_2 fuel)])] at hq
    simp only [List.mem_cons, List.not_mem_nil, or_false] at hq
    subst hq
    · exact B129_f4f_2_blk fuel)) (B129_f4f_0_ok fuel)
theorem B129_f4f_6_blk (fuel : Nat) : BlkOK Try.prog Try.f129.ntmps (.block 6 (.loop (bodyOf 6 Try.f129))) (B129_f4f_6 fuel) :=
  blk_of (blk_of_code tab_ok (hG129_f4f fuel) mixed (J := J129_f4f_6 fuel) (kp := kp129_f4f) (fuel := fuel) (by kernel_rfl) (fun q hq => by
    rw [(by kernel_rfl : obl (J129_f4f_6 fuel) (.block 6 (.loop (bodyOf 6 Try.f129))) = [])] at hq
    cases hq)) (B129_f4f_6_ok fuel)
theorem B129_f4f_4_blk (fuel : Nat) : BlkOK Try.prog Try.f129.ntmps (.block 4 (.loop (bodyOf 4 Try.f129))) (B129_f4f_4 fuel) :=
  blk_of (blk_of_code tab_ok (hG129_f4f fuel) mixed (J := J129_f4f_4 fuel) (kp := kp129_f4f) (fuel := fuel) (by kernel_rfl) (fun q hq => by
    rw [(by kernel_rfl : obl (J129_f4f_4 fuel) (.block 4 (.loop (bodyOf 4 Try.f129))) = [(.block 6 (.loop (bodyOf 6 Try.f129)), B129_f4f_6 fuel)])] at hq
    simp only [List.mem_cons, List.not_mem_nil, or_false] at hq
    subst hq
    · exact B129_f4f_6_blk fuel)) (B129_f4f_4_ok fuel)
theorem fok129_f4f (fuel : Nat) : FnOK Try.prog 129 (evalFn tab (G129_f4f fuel) (J129_f4f fuel) kp129_f4f fuel Try.f129) :=
  fn_ok tab_ok (hG129_f4f fuel) mixed Try.func129 (c := (Try.f129.body).getD .skip) rfl (fun q hq => by
    rw [(by kernel_rfl : obl (J129_f4f fuel) ((Try.f129.body).getD .skip) = [(.block 0 (.loop (bodyOf 0 Try.f129)), B129_f4f_0 fuel), (.block 4 (.loop (bodyOf 4 Try.f129)), B129_f4f_4 fuel)])] at hq
    simp only [List.mem_cons, List.not_mem_nil, or_false] at hq
    rcases hq with rfl | rfl
    · exact B129_f4f_0_blk fuel
    · exact B129_f4f_4_blk fuel)
noncomputable def mt129_f4f : List Ev.SV → List Ev.Ob → Bool := fun args objs => match args, objs with
  | [.c (.nilptr), .c (.int .i64 _), .agg [.int .i64 _, .int .i64 _, .int .i64 _, .bool _, .int .i64 _], .agg [.int .i64 _, .int .i64 _, .sl (.int .u8) _], .agg [.int .i64 _, .int .i64 _, .sl (.int .u8) _]], [] => true
  | _, _ => false
noncomputable def spg129_f4f (F : YF129_f4f) : Ev.Spec := fun args objs k => match args, objs with
  | [.c (.nilptr), .c (.int .i64 x0), .agg [.int .i64 x1, .int .i64 x2, .int .i64 x3, .bool x4, .int .i64 x5], .agg [.int .i64 x6, .int .i64 x7, .sl (.int .u8) x8], .agg [.int .i64 x9, .int .i64 x10, .sl (.int .u8) x11]], [] => bif true then F x0 x1 x2 x3 x4 x5 x6 x7 x8 x9 x10 x11 (fun r => match r with | r0 => k (.c (.int .i64 r0), [])) else none
  | _, _ => none
noncomputable def spec129_f4f (fuel : Nat) : Ev.Spec := spg129_f4f (F_ref07_Put_f4f fuel)
theorem ok129_f4f (fuel : Nat) : FnOK Try.prog 129 (spec129_f4f fuel) := by
  intro args objs kk r h
  unfold spec129_f4f spg129_f4f at h
  split at h
  · skip
    obtain ⟨hb, h⟩ := cond_some' h
    simp only [Bool.and_eq_true, Nat.beq_eq, decide_eq_true_eq] at hb
    clear hb
    exact fok129_f4f fuel _ _ kk r ((F129_f4f_eq fuel _ _ _ _ _ _ _ _ _ _ _ _ kk).trans h)
  · cases h
end Go.Proofs.Ytihfgpfofmjbaaa

set_option linter.unusedVariables false
set_option linter.unusedSimpArgs false
set_option maxRecDepth 100000
set_option maxHeartbeats 2000000
namespace Go.Proofs.Ytihfgpfofmjbaaa
open Go Ev
def kp47 (i : Nat) : Option (List Nat) := Ev.look i []
noncomputable def Gg47 (f43 : YF43) (f122 : YF122) (f128 : YF128) (f129_f4f : YF129_f4f) (f129_6c1 : YF129_6c1) (f130_975 : YF130_975) (f130_2fe : YF130_2fe) (f : Nat) : Option Ev.Spec := Ev.look f [(43, spg43 f43), (122, spg122 f122), (128, spg128 f128), (129, alt mt129_f4f (spg129_f4f f129_f4f) (spg129_6c1 f129_6c1)), (130, alt mt130_975 (spg130_975 f130_975) (spg130_2fe f130_2fe))]
noncomputable def G47 (fuel : Nat) : Nat → Option Ev.Spec := Gg47 (F_ref02_New fuel) (F_ref07_Size fuel) (F_ref02_NewEncoder fuel) (F_ref07_Put_f4f fuel) (F_ref07_Put_6c1 fuel) (F_ref02_Encoder_End_975 fuel) (F_ref02_Encoder_End_2fe fuel)
noncomputable def J47 (fuel : Nat) (i : Nat) : Option Ev.Blk := Ev.look i []
noncomputable def F_ref07_Encode (fuel : Nat) (x0 : Int) (x1 : Int) (x2 : Int) (x3 : Bool) (x4 : Int) (x5 : Int) (x6 : Int) (x7 : (List Int)) (k0 : (Int × (List Int)) → Option Ans) : Option Ans :=
  (F_ref07_Size fuel (x0) (x1) (x2) (x3) (x4)
    (fun (y2_0, y2_1) =>
      bif y2_1 != (0 : Int) then
       k0 (y2_1, [])
      else
       (F_ref02_New fuel (x4) (y2_0)
         (fun (y7_0, y7_1, y7_2) =>
           (F_ref02_NewEncoder fuel (y7_0) (y7_2)
             (fun y11 =>
               (F_ref07_Put_f4f fuel ((0 : Int)) (x0) (x1) (x2) (x3) (x4) (x5) (x6) (x7) ((0 : Int)) ((0 : Int)) ([])
                 (fun y15 =>
                   bif y15 != (0 : Int) then
                    k0 (y15, [])
                   else
                    (F_ref02_Encoder_End_975 fuel
                      (fun y20 =>
                        k0 ((0 : Int), y20))))))
             (fun (y11_0, y11_1, y11_2, y11_3, y11_4, y11_5) =>
               (F_ref07_Put_6c1 fuel ((0 : Int)) (x0) (x1) (x2) (x3) (x4) (x5) (x6) (x7) ((0 : Int)) ((0 : Int)) ([]) (y11_1) (y11_2) (y11_3) (y11_4) (y11_5)
                 (fun (y15_0, y15_1, y15_2, y15_3, y15_4, y15_5) =>
                   bif y15_0 != (0 : Int) then
                    k0 (y15_0, [])
                   else
                    (F_ref02_Encoder_End_2fe fuel (y15_1) (y15_2) (y15_3) (y15_4) (y15_5)
                      (fun (y20_0, y20_1, y20_2, y20_3, y20_4, y20_5) =>
                        k0 ((0 : Int), y20_5))))
                 (fun (y15_0, y15_1, y15_2, y15_3, y15_4, y15_5) =>
                   bif y15_0 != (0 : Int) then
                    k0 (y15_0, [])
                   else
                    (F_ref02_Encoder_End_2fe fuel (y15_1) (y15_2) (y15_3) (y15_4) (y15_5)
                      (fun (y20_0, y20_1, y20_2, y20_3, y20_4, y20_5) =>
                        k0 ((0 : Int), y20_5)))))))))))
abbrev YF47 : Type := (Int) → (Int) → (Int) → (Bool) → (Int) → (Int) → (Int) → ((List Int)) → ((Int × (List Int)) → Option Ans) → Option Ans
theorem F47_eqg (fuel : Nat) (f43 : YF43) (f122 : YF122) (f128 : YF128) (f129_f4f : YF129_f4f) (f129_6c1 : YF129_6c1) (f130_975 : YF130_975) (f130_2fe : YF130_2fe) (x0 : Int) (x1 : Int) (x2 : Int) (x3 : Bool) (x4 : Int) (x5 : Int) (x6 : Int) (x7 : (List Int)) (k : Ev.Cont) : evalFn tab (Gg47 f43 f122 f128 f129_f4f f129_6c1 f130_975 f130_2fe) (J47 fuel) kp47 fuel Try.f47 [.agg [.int .i64 x0, .int .i64 x1, .int .i64 x2, .bool x3, .int .i64 x4], .agg [.int .i64 x5, .int .i64 x6, .sl (.int .u8) x7]] [] k = (fun  (k0 : (Int × (List Int)) → Option Ans) =>
  (f122 (x0) (x1) (x2) (x3) (x4)
    (fun (y2_0, y2_1) =>
      bif y2_1 != (0 : Int) then
       k0 (y2_1, [])
      else
       (f43 (x4) (y2_0)
         (fun (y7_0, y7_1, y7_2) =>
           (f128 (y7_0) (y7_2)
             (fun y11 =>
               (f129_f4f ((0 : Int)) (x0) (x1) (x2) (x3) (x4) (x5) (x6) (x7) ((0 : Int)) ((0 : Int)) ([])
                 (fun y15 =>
                   bif y15 != (0 : Int) then
                    k0 (y15, [])
                   else
                    (f130_975
                      (fun y20 =>
                        k0 ((0 : Int), y20))))))
             (fun (y11_0, y11_1, y11_2, y11_3, y11_4, y11_5) =>
               (f129_6c1 ((0 : Int)) (x0) (x1) (x2) (x3) (x4) (x5) (x6) (x7) ((0 : Int)) ((0 : Int)) ([]) (y11_1) (y11_2) (y11_3) (y11_4) (y11_5)
                 (fun (y15_0, y15_1, y15_2, y15_3, y15_4, y15_5) =>
                   bif y15_0 != (0 : Int) then
                    k0 (y15_0, [])
                   else
                    (f130_2fe (y15_1) (y15_2) (y15_3) (y15_4) (y15_5)
                      (fun (y20_0, y20_1, y20_2, y20_3, y20_4, y20_5) =>
                        k0 ((0 : Int), y20_5))))
                 (fun (y15_0, y15_1, y15_2, y15_3, y15_4, y15_5) =>
                   bif y15_0 != (0 : Int) then
                    k0 (y15_0, [])
                   else
                    (f130_2fe (y15_1) (y15_2) (y15_3) (y15_4) (y15_5)
                      (fun (y20_0, y20_1, y20_2, y20_3, y20_4, y20_5) =>
                        k0 ((0 : Int), y20_5)))))))))))) (fun r => match r with | (r0, r1) => k (.tup [(false, [.own 0]), (false, [.int .i64 r0])], [.vec 5 (.int .u8) r1 true])) := by
  kernel_rfl
theorem F47_eq (fuel : Nat) (x0 : Int) (x1 : Int) (x2 : Int) (x3 : Bool) (x4 : Int) (x5 : Int) (x6 : Int) (x7 : (List Int)) (k : Ev.Cont) : evalFn tab (G47 fuel) (J47 fuel) kp47 fuel Try.f47 [.agg [.int .i64 x0, .int .i64 x1, .int .i64 x2, .bool x3, .int .i64 x4], .agg [.int .i64 x5, .int .i64 x6, .sl (.int .u8) x7]] [] k = F_ref07_Encode fuel x0 x1 x2 x3 x4 x5 x6 x7 (fun r => match r with | (r0, r1) => k (.tup [(false, [.own 0]), (false, [.int .i64 r0])], [.vec 5 (.int .u8) r1 true])) :=
  F47_eqg fuel (F_ref02_New fuel) (F_ref07_Size fuel) (F_ref02_NewEncoder fuel) (F_ref07_Put_f4f fuel) (F_ref07_Put_6c1 fuel) (F_ref02_Encoder_End_975 fuel) (F_ref02_Encoder_End_2fe fuel) x0 x1 x2 x3 x4 x5 x6 x7 k
theorem hG47 (fuel : Nat) : GOK Try.prog (G47 fuel) :=
  gok_cons ⟨ok43 fuel, enters_of Try.func43 (by kernel_rfl) rfl⟩ <|
  gok_cons ⟨ok122 fuel, enters_of Try.func122 (by kernel_rfl) rfl⟩ <|
  gok_cons ⟨ok128 fuel, enters_of Try.func128 (by kernel_rfl) rfl⟩ <|
  gok_cons ⟨alt_ok (ok129_f4f fuel) (ok129_6c1 fuel), enters_of Try.func129 (by kernel_rfl) rfl⟩ <|
  gok_cons ⟨alt_ok (ok130_975 fuel) (ok130_2fe fuel), enters_of Try.func130 (by kernel_rfl) rfl⟩ <|
  gok_nil
theorem fok47 (fuel : Nat) : FnOK Try.prog 47 (evalFn tab (G47 fuel) (J47 fuel) kp47 fuel Try.f47) :=
  fn_ok tab_ok (hG47 fuel) mixed Try.func47 (c := (Try.f47.body).getD .skip) rfl (fun q hq => by
    rw [(by kernel_rfl : obl (J47 fuel) ((Try.f47.body).getD .skip) = [])] at hq
    cases hq)
noncomputable def mt47 : List Ev.SV → List Ev.Ob → Bool := fun args objs => match args, objs with
  | [.agg [.int .i64 _, .int .i64 _, .int .i64 _, .bool _, .int .i64 _], .agg [.int .i64 _, .int .i64 _, .sl (.int .u8) _]], [] => true
  | _, _ => false
noncomputable def spg47 (F : YF47) : Ev.Spec := fun args objs k => match args, objs with
  | [.agg [.int .i64 x0, .int .i64 x1, .int .i64 x2, .bool x3, .int .i64 x4], .agg [.int .i64 x5, .int .i64 x6, .sl (.int .u8) x7]], [] => bif true then F x0 x1 x2 x3 x4 x5 x6 x7 (fun r => match r with | (r0, r1) => k (.tup [(false, [.own 0]), (false, [.int .i64 r0])], [.vec 5 (.int .u8) r1 true])) else none
  | _, _ => none
noncomputable def spec47 (fuel : Nat) : Ev.Spec := spg47 (F_ref07_Encode fuel)
theorem ok47 (fuel : Nat) : FnOK Try.prog 47 (spec47 fuel) := by
  intro args objs kk r h
  unfold spec47 spg47 at h
  split at h
  · skip
    obtain ⟨hb, h⟩ := cond_some' h
    simp only [Bool.and_eq_true, Nat.beq_eq, decide_eq_true_eq] at hb
    clear hb
    exact fok47 fuel _ _ kk r ((F47_eq fuel _ _ _ _ _ _ _ _ kk).trans h)
  · cases h
end Go.Proofs.Ytihfgpfofmjbaaa

set_option linter.unusedVariables false
set_option linter.unusedSimpArgs false
set_option maxRecDepth 100000
set_option maxHeartbeats 2000000
namespace Go.Proofs.Ytihfgpfofmjbaaa
open Go Ev
def kp87 (i : Nat) : Option (List Nat) := Ev.look i []
noncomputable def Gg87 (f : Nat) : Option Ev.Spec := Ev.look f []
noncomputable def G87 (fuel : Nat) : Nat → Option Ev.Spec := Gg87
noncomputable def J87 (fuel : Nat) (i : Nat) : Option Ev.Blk := Ev.look i []
noncomputable def F_ref07_Usual (fuel : Nat) (x0 : Int) (k0 : (Int × Int × Int × Bool × Int × Int) → Option Ans) : Option Ans :=
  bif Decidable.decide (x0 < (0 : Int)) then
   k0 ((0 : Int), (0 : Int), (0 : Int), Bool.false, (0 : Int), (2 : Int))
  else
   bif Decidable.decide (x0 > (3 : Int)) then
    k0 ((0 : Int), (0 : Int), (0 : Int), Bool.false, (0 : Int), (2 : Int))
   else
    k0 (x0, Go.IntKind.i64.wrap ((3 : Int) - x0.tmod (2 : Int)), (-1 : Int), Bool.true, (0 : Int), (0 : Int))
abbrev YF87 : Type := (Int) → ((Int × Int × Int × Bool × Int × Int) → Option Ans) → Option Ans
theorem F87_eq (fuel : Nat) (x0 : Int) (k : Ev.Cont) : evalFn tab (G87 fuel) (J87 fuel) kp87 fuel Try.f87 [.c (.int .i64 x0)] [] k = F_ref07_Usual fuel x0 (fun r => match r with | (r0, r1, r2, r3, r4, r5) => k (.tup [(true, [.int .i64 r0, .int .i64 r1, .int .i64 r2, .bool r3, .int .i64 r4]), (false, [.int .i64 r5])], [])) := by
  kernel_rfl
theorem hG87 (fuel : Nat) : GOK Try.prog (G87 fuel) :=
  gok_nil
theorem fok87 (fuel : Nat) : FnOK Try.prog 87 (evalFn tab (G87 fuel) (J87 fuel) kp87 fuel Try.f87) :=
  fn_ok tab_ok (hG87 fuel) mixed Try.func87 (c := (Try.f87.body).getD .skip) rfl (fun q hq => by
    rw [(by kernel_rfl : obl (J87 fuel) ((Try.f87.body).getD .skip) = [])] at hq
    cases hq)
noncomputable def mt87 : List Ev.SV → List Ev.Ob → Bool := fun args objs => match args, objs with
  | [.c (.int .i64 _)], [] => true
  | _, _ => false
noncomputable def spg87 (F : YF87) : Ev.Spec := fun args objs k => match args, objs with
  | [.c (.int .i64 x0)], [] => bif true then F x0 (fun r => match r with | (r0, r1, r2, r3, r4, r5) => k (.tup [(true, [.int .i64 r0, .int .i64 r1, .int .i64 r2, .bool r3, .int .i64 r4]), (false, [.int .i64 r5])], [])) else none
  | _, _ => none
noncomputable def spec87 (fuel : Nat) : Ev.Spec := spg87 (F_ref07_Usual fuel)
theorem ok87 (fuel : Nat) : FnOK Try.prog 87 (spec87 fuel) := by
  intro args objs kk r h
  unfold spec87 spg87 at h
  split at h
  · skip
    obtain ⟨hb, h⟩ := cond_some' h
    simp only [Bool.and_eq_true, Nat.beq_eq, decide_eq_true_eq] at hb
    clear hb
    exact fok87 fuel _ _ kk r ((F87_eq fuel _ kk).trans h)
  · cases h
end Go.Proofs.Ytihfgpfofmjbaaa

set_option linter.unusedVariables false
set_option linter.unusedSimpArgs false
set_option maxRecDepth 100000
set_option maxHeartbeats 2000000
namespace Go.Proofs.Ytihfgpfofmjbaaa
open Go Ev
def kp29 (i : Nat) : Option (List Nat) := Ev.look i [(6, [1, 2, 4, 6, 7]), (100000, [2, 4]), (400000, [2, 3])]
noncomputable def Gg29 (f47 : YF47) (f86 : YF86) (f87 : YF87) (f : Nat) : Option Ev.Spec := Ev.look f [(47, spg47 f47), (86, spg86 f86), (87, spg87 f87)]
noncomputable def G29 (fuel : Nat) : Nat → Option Ev.Spec := Gg29 (F_ref07_Encode fuel) (F_ref05_Valid fuel) (F_ref07_Usual fuel)
noncomputable def S_ref07_Best_0 (fuel : Nat) (v : Int × Int × Int × Int × (List Int) × Int × Int × Int × Bool × Int × Int × Int × Int × Bool × Int) (c : (Int × Int × Int × Int × (List Int) × Int × Int × Int × Bool × Int × Int × Int × Int × Bool × Int) → Option Ans) (B : (Int × Int × Int × Bool × Int × Int × Int × Int × Bool × Int → Option Ans)) : Option Ans := match v, B with
  | (x0, x1, x2, x3, x4, x5, x6, x7, x8, x9, x10, x11, x12, x13, x14), b =>
   bif Decidable.decide (x1 < (4 : Int)) then
      (F_ref07_Usual fuel (x1)
        (fun (y3_0, y3_1, y3_2, y3_3, y3_4, y3_5) =>
          (F_ref07_Encode fuel (y3_0) (y3_1) (y3_2) (y3_3) (y3_4) (x2) (x3) (x4)
            (fun (y7_0, y7_1) =>
              bif Decidable.decide (x0 < (0 : Int)) then
               c ((↑y7_1.length : Int), Go.IntKind.i64.wrap (x1 + (1 : Int)), x2, x3, x4, x5, x6, x7, x8, x9, y3_0, y3_1, y3_2, y3_3, y3_4)
              else
               bif Decidable.decide ((↑y7_1.length : Int) < x0) then
                c ((↑y7_1.length : Int), Go.IntKind.i64.wrap (x1 + (1 : Int)), x2, x3, x4, x5, x6, x7, x8, x9, y3_0, y3_1, y3_2, y3_3, y3_4)
               else
                c (x0, Go.IntKind.i64.wrap (x1 + (1 : Int)), x2, x3, x4, x5, x6, x7, x8, x9, x10, x11, x12, x13, x14)))))
     else
      b (x5, x6, x7, x8, x9, x10, x11, x12, x13, x14)
noncomputable def L_ref07_Best_0 (fuel : Nat) (v : Int × Int × Int × Int × (List Int) × Int × Int × Int × Bool × Int × Int × Int × Int × Bool × Int) (b : (Int × Int × Int × Bool × Int × Int × Int × Int × Bool × Int → Option Ans)) : Option Ans := iter (S_ref07_Best_0 fuel) fuel v b
noncomputable def J29_0 (fuel : Nat) (i : Nat) : Option Ev.Blk := Ev.look i []
noncomputable def T29_0 (v : Int × Int × Int × Int × (List Int) × Int × Int × Int × Bool × Int × Int × Int × Int × Bool × Int) : Ev.St := match v with | (x0, x1, x2, x3, x4, x5, x6, x7, x8, x9, x10, x11, x12, x13, x14) => ⟨[(1, .c (.ptr 0 0)), (2, .c (.ptr 1 0)), (4, .c (.ptr 2 0)), (6, .c (.int .i64 x0)), (7, .c (.int .i64 x1))], [(0, .cells 39 [.int .i64 x2, .int .i64 x3, .sl (.int .u8) x4]), (1, .cells 46 [.int .i64 x5, .int .i64 x6, .int .i64 x7, .bool x8, .int .i64 x9]), (2, .cells 46 [.int .i64 x10, .int .i64 x11, .int .i64 x12, .bool x13, .int .i64 x14])], 3, 0⟩
noncomputable def E29_0 (K : Ev.Ex → Ev.St → Option Ans) : (Int × Int × Int × Bool × Int × Int × Int × Int × Bool × Int → Option Ans) := (fun v => match v with | (x0, x1, x2, x3, x4, x5, x6, x7, x8, x9) => K .normal ⟨[(2, .c (.ptr 0 0)), (4, .c (.ptr 1 0))], [(0, .cells 46 [.int .i64 x0, .int .i64 x1, .int .i64 x2, .bool x3, .int .i64 x4]), (1, .cells 46 [.int .i64 x5, .int .i64 x6, .int .i64 x7, .bool x8, .int .i64 x9])], 2, 0⟩)
theorem S29_0_okg (fuel : Nat) (f47 : YF47) (f86 : YF86) (f87 : YF87) (R : Ev.St → Option Ans) (K : Ev.Ex → Ev.St → Option Ans) (x0 : Int) (x1 : Int) (x2 : Int) (x3 : Int) (x4 : (List Int)) (x5 : Int) (x6 : Int) (x7 : Int) (x8 : Bool) (x9 : Int) (x10 : Int) (x11 : Int) (x12 : Int) (x13 : Bool) (x14 : Int) : evalCode tab (Gg29 f47 f86 f87) (J29_0 fuel) kp29 fuel (bodyOf 0 Try.f29) (T29_0 (x0, x1, x2, x3, x4, x5, x6, x7, x8, x9, x10, x11, x12, x13, x14)) (lc kp29 6 0 R K) = (fun (c : (Int × Int × Int × Int × (List Int) × Int × Int × Int × Bool × Int × Int × Int × Int × Bool × Int) → Option Ans) (B : (Int × Int × Int × Bool × Int × Int × Int × Int × Bool × Int → Option Ans)) => match B with
  | b =>
   bif Decidable.decide (x1 < (4 : Int)) then
      (f87 (x1)
        (fun (y3_0, y3_1, y3_2, y3_3, y3_4, y3_5) =>
          (f47 (y3_0) (y3_1) (y3_2) (y3_3) (y3_4) (x2) (x3) (x4)
            (fun (y7_0, y7_1) =>
              bif Decidable.decide (x0 < (0 : Int)) then
               c ((↑y7_1.length : Int), Go.IntKind.i64.wrap (x1 + (1 : Int)), x2, x3, x4, x5, x6, x7, x8, x9, y3_0, y3_1, y3_2, y3_3, y3_4)
              else
               bif Decidable.decide ((↑y7_1.length : Int) < x0) then
                c ((↑y7_1.length : Int), Go.IntKind.i64.wrap (x1 + (1 : Int)), x2, x3, x4, x5, x6, x7, x8, x9, y3_0, y3_1, y3_2, y3_3, y3_4)
               else
                c (x0, Go.IntKind.i64.wrap (x1 + (1 : Int)), x2, x3, x4, x5, x6, x7, x8, x9, x10, x11, x12, x13, x14)))))
     else
      b (x5, x6, x7, x8, x9, x10, x11, x12, x13, x14)) (fun v => R (T29_0 v)) (E29_0 K) := by
  kernel_rfl
theorem S29_0_ok (fuel : Nat) (R : Ev.St → Option Ans) (K : Ev.Ex → Ev.St → Option Ans) (x0 : Int) (x1 : Int) (x2 : Int) (x3 : Int) (x4 : (List Int)) (x5 : Int) (x6 : Int) (x7 : Int) (x8 : Bool) (x9 : Int) (x10 : Int) (x11 : Int) (x12 : Int) (x13 : Bool) (x14 : Int) : evalCode tab (G29 fuel) (J29_0 fuel) kp29 fuel (bodyOf 0 Try.f29) (T29_0 (x0, x1, x2, x3, x4, x5, x6, x7, x8, x9, x10, x11, x12, x13, x14)) (lc kp29 6 0 R K) = S_ref07_Best_0 fuel (x0, x1, x2, x3, x4, x5, x6, x7, x8, x9, x10, x11, x12, x13, x14) (fun v => R (T29_0 v)) (E29_0 K) :=
  S29_0_okg fuel (F_ref07_Encode fuel) (F_ref05_Valid fuel) (F_ref07_Usual fuel) R K x0 x1 x2 x3 x4 x5 x6 x7 x8 x9 x10 x11 x12 x13 x14
noncomputable def B29_0 (fuel : Nat) : Ev.Blk := fun st K => match canonO (kp29 6) st with
  | some s => (match s with
    | ⟨[(q0, .c (.ptr q1 q2)), (q3, .c (.ptr q4 q5)), (q6, .c (.ptr q7 q8)), (q9, .c (.int .i64 x0)), (q10, .c (.int .i64 x1))], [(q11, .cells q12 [.int .i64 x2, .int .i64 x3, .sl (.int .u8) x4]), (q13, .cells q14 [.int .i64 x5, .int .i64 x6, .int .i64 x7, .bool x8, .int .i64 x9]), (q15, .cells q16 [.int .i64 x10, .int .i64 x11, .int .i64 x12, .bool x13, .int .i64 x14])], q17, q18⟩ => bif Nat.beq q0 1 && Nat.beq q1 0 && Nat.beq q2 0 && Nat.beq q3 2 && Nat.beq q4 1 && Nat.beq q5 0 && Nat.beq q6 4 && Nat.beq q7 2 && Nat.beq q8 0 && Nat.beq q9 6 && Nat.beq q10 7 && Nat.beq q11 0 && Nat.beq q12 39 && Nat.beq q13 1 && Nat.beq q14 46 && Nat.beq q15 2 && Nat.beq q16 46 && Nat.beq q17 3 && Nat.beq q18 0 then iter (S_ref07_Best_0 fuel) fuel (x0, x1, x2, x3, x4, x5, x6, x7, x8, x9, x10, x11, x12, x13, x14) (E29_0 K) else none
    | _ => none)
  | none => none
theorem B29_0_ok (fuel : Nat) (st : Ev.St) (K : Ev.Ex → Ev.St → Option Ans) (r : Ans) (h : B29_0 fuel st K = some r) : evalCode tab (G29 fuel) (J29_0 fuel) kp29 fuel (.block 0 (.loop (bodyOf 0 Try.f29))) st K = some r := by
  unfold B29_0 at h
  split at h
  · rename_i s hs
    split at h
    · skip
      obtain ⟨hb, h⟩ := cond_some' h
      simp only [Bool.and_eq_true, Nat.beq_eq, decide_eq_true_eq] at hb
      obtain ⟨⟨⟨⟨⟨⟨⟨⟨⟨⟨⟨⟨⟨⟨⟨⟨⟨⟨rfl, rfl⟩, rfl⟩, rfl⟩, rfl⟩, rfl⟩, rfl⟩, rfl⟩, rfl⟩, rfl⟩, rfl⟩, rfl⟩, rfl⟩, rfl⟩, rfl⟩, rfl⟩, rfl⟩, rfl⟩, rfl⟩ := hb
      exact blk_loop (S := T29_0) (ks := E29_0) (step := S_ref07_Best_0 fuel) (v := (_, _, _, _, _, _, _, _, _, _, _, _, _, _, _)) (by kernel_rfl) (by kernel_rfl) (fun R K v => by obtain ⟨x0, x1, x2, x3, x4, x5, x6, x7, x8, x9, x10, x11, x12, x13, x14⟩ := v; exact S29_0_ok fuel R K x0 x1 x2 x3 x4 x5 x6 x7 x8 x9 x10 x11 x12 x13 x14) hs h
    · cases h
  · cases h
noncomputable def J29 (fuel : Nat) (i : Nat) : Option Ev.Blk := Ev.look i [(100000, B29_0 fuel)]
noncomputable def F_ref07_Best (fuel : Nat) (x0 : Int) (x1 : Int) (x2 : (List Int)) (k0 : (Int × Int × Int × Bool × Int × Int) → Option Ans) : Option Ans :=
  (F_ref05_Valid fuel (x0) (x1) (x2)
    (fun y2 =>
      bif !y2 then
       k0 ((0 : Int), (0 : Int), (0 : Int), Bool.false, (0 : Int), (30 : Int))
      else
       (F_ref07_Usual fuel ((0 : Int))
         (fun (y7_0, y7_1, y7_2, y7_3, y7_4, y7_5) =>
           (L_ref07_Best_0 fuel ((-1 : Int), (0 : Int), x0, x1, x2, (0 : Int), (0 : Int), (0 : Int), Bool.false, (0 : Int), y7_0, y7_1, y7_2, y7_3, y7_4)
             (fun (b0_0, b0_1, b0_2, b0_3, b0_4, b0_5, b0_6, b0_7, b0_8, b0_9) =>
               k0 (b0_5, b0_6, b0_7, b0_8, b0_9, (0 : Int))))))))
abbrev YF29 : Type := (Int) → (Int) → ((List Int)) → ((Int × Int × Int × Bool × Int × Int) → Option Ans) → Option Ans
theorem F29_eqg (fuel : Nat) (f47 : YF47) (f86 : YF86) (f87 : YF87) (x0 : Int) (x1 : Int) (x2 : (List Int)) (k : Ev.Cont) : evalFn tab (Gg29 f47 f86 f87) (J29 fuel) kp29 fuel Try.f29 [.agg [.int .i64 x0, .int .i64 x1, .sl (.int .u8) x2]] [] k = (fun  (k0 : (Int × Int × Int × Bool × Int × Int) → Option Ans) =>
  (f86 (x0) (x1) (x2)
    (fun y2 =>
      bif !y2 then
       k0 ((0 : Int), (0 : Int), (0 : Int), Bool.false, (0 : Int), (30 : Int))
      else
       (f87 ((0 : Int))
         (fun (y7_0, y7_1, y7_2, y7_3, y7_4, y7_5) =>
           (L_ref07_Best_0 fuel ((-1 : Int), (0 : Int), x0, x1, x2, (0 : Int), (0 : Int), (0 : Int), Bool.false, (0 : Int), y7_0, y7_1, y7_2, y7_3, y7_4)
             (fun (b0_0, b0_1, b0_2, b0_3, b0_4, b0_5, b0_6, b0_7, b0_8, b0_9) =>
               k0 (b0_5, b0_6, b0_7, b0_8, b0_9, (0 : Int))))))))) (fun r => match r with | (r0, r1, r2, r3, r4, r5) => k (.tup [(true, [.int .i64 r0, .int .i64 r1, .int .i64 r2, .bool r3, .int .i64 r4]), (false, [.int .i64 r5])], [])) := by
  kernel_rfl
theorem F29_eq (fuel : Nat) (x0 : Int) (x1 : Int) (x2 : (List Int)) (k : Ev.Cont) : evalFn tab (G29 fuel) (J29 fuel) kp29 fuel Try.f29 [.agg [.int .i64 x0, .int .i64 x1, .sl (.int .u8) x2]] [] k = F_ref07_Best fuel x0 x1 x2 (fun r => match r with | (r0, r1, r2, r3, r4, r5) => k (.tup [(true, [.int .i64 r0, .int .i64 r1, .int .i64 r2, .bool r3, .int .i64 r4]), (false, [.int .i64 r5])], [])) :=
  F29_eqg fuel (F_ref07_Encode fuel) (F_ref05_Valid fuel) (F_ref07_Usual fuel) x0 x1 x2 k
theorem hG29 (fuel : Nat) : GOK Try.prog (G29 fuel) :=
  gok_cons ⟨ok47 fuel, enters_of Try.func47 (by kernel_rfl) rfl⟩ <|
  gok_cons ⟨ok86 fuel, enters_of Try.func86 (by kernel_rfl) rfl⟩ <|
  gok_cons ⟨ok87 fuel, enters_of Try.func87 (by kernel_rfl) rfl⟩ <|
  gok_nil
theorem B29_0_blk (fuel : Nat) : BlkOK Try.prog Try.f29.ntmps (.block 0 (.loop (bodyOf 0 Try.f29))) (B29_0 fuel) :=
  blk_of (blk_of_code tab_ok (hG29 fuel) mixed (J := J29_0 fuel) (kp := kp29) (fuel := fuel) (by kernel_rfl) (fun q hq => by
    rw [(by kernel_rfl : obl (J29_0 fuel) (.block 0 (.loop (bodyOf 0 Try.f29))) = [])] at hq
    cases hq)) (B29_0_ok fuel)
theorem fok29 (fuel : Nat) : FnOK Try.prog 29 (evalFn tab (G29 fuel) (J29 fuel) kp29 fuel Try.f29) :=
  fn_ok tab_ok (hG29 fuel) mixed Try.func29 (c := (Try.f29.body).getD .skip) rfl (fun q hq => by
    rw [(by kernel_rfl : obl (J29 fuel) ((Try.f29.body).getD .skip) = [(.block 0 (.loop (bodyOf 0 Try.f29)), B29_0 fuel)])] at hq
    simp only [List.mem_cons, List.not_mem_nil, or_false] at hq
    subst hq
    · exact B29_0_blk fuel)
noncomputable def mt29 : List Ev.SV → List Ev.Ob → Bool := fun args objs => match args, objs with
  | [.agg [.int .i64 _, .int .i64 _, .sl (.int .u8) _]], [] => true
  | _, _ => false
noncomputable def spg29 (F : YF29) : Ev.Spec := fun args objs k => match args, objs with
  | [.agg [.int .i64 x0, .int .i64 x1, .sl (.int .u8) x2]], [] => bif true then F x0 x1 x2 (fun r => match r with | (r0, r1, r2, r3, r4, r5) => k (.tup [(true, [.int .i64 r0, .int .i64 r1, .int .i64 r2, .bool r3, .int .i64 r4]), (false, [.int .i64 r5])], [])) else none
  | _, _ => none
noncomputable def spec29 (fuel : Nat) : Ev.Spec := spg29 (F_ref07_Best fuel)
theorem ok29 (fuel : Nat) : FnOK Try.prog 29 (spec29 fuel) := by
  intro args objs kk r h
  unfold spec29 spg29 at h
  split at h
  · skip
    obtain ⟨hb, h⟩ := cond_some' h
    simp only [Bool.and_eq_true, Nat.beq_eq, decide_eq_true_eq] at hb
    clear hb
    exact fok29 fuel _ _ kk r ((F29_eq fuel _ _ _ kk).trans h)
  · cases h
end Go.Proofs.Ytihfgpfofmjbaaa

set_option linter.unusedVariables false
set_option linter.unusedSimpArgs false
set_option maxRecDepth 100000
set_option maxHeartbeats 2000000
namespace Go.Proofs.Ytihfgpfofmjbaaa
open Go Ev
def kp5 (i : Nat) : Option (List Nat) := Ev.look i [(11, [1, 4, 7, 8]), (100000, []), (400000, [2])]
noncomputable def Gg5 (f27 : YF27) (f28 : YF28) (f29 : YF29) (f30 : YF30) (f31 : YF31) (f : Nat) : Option Ev.Spec := Ev.look f [(27, spg27 f27), (28, spg28 f28), (29, spg29 f29), (30, spg30 f30), (31, spg31 f31)]
noncomputable def G5 (fuel : Nat) : Nat → Option Ev.Spec := Gg5 (F_law07_Sane fuel) (F_generic_Best fuel) (F_ref07_Best fuel) (F_generic_Encode fuel) (F_generic_Usual fuel)
noncomputable def S_law07_GenericBest_0 (fuel : Nat) (v : Int × Int × Int × Int × (List Int) × (List Int)) (c : (Int × Int × Int × Int × (List Int) × (List Int)) → Option Ans) (B : (Bool → Option Ans) × (Unit → Option Ans)) : Option Ans := match v, B with
  | (x0, x1, x2, x3, x4, x5), (ret, b) =>
   bif Decidable.decide (x1 < (4 : Int)) then
      (F_generic_Usual fuel (x1)
        (fun (y3_0, y3_1, y3_2, y3_3, y3_4, y3_5) =>
          (F_generic_Encode fuel (y3_0) (y3_1) (y3_2) (y3_3) (y3_4) (x2) (x3) (x4)
            (fun (y7_0, y7_1) =>
              bif x0 != (0 : Int) then
               ret Bool.false
              else
               bif y3_5 != (0 : Int) then
                ret Bool.false
               else
                bif y7_0 != (0 : Int) then
                 ret Bool.false
                else
                 bif Decidable.decide ((↑y7_1.length : Int) < (↑x5.length : Int)) then
                  ret Bool.false
                 else
                  c (x0, Go.IntKind.i64.wrap (x1 + (1 : Int)), x2, x3, x4, x5)))))
     else
      b ()
noncomputable def L_law07_GenericBest_0 (fuel : Nat) (v : Int × Int × Int × Int × (List Int) × (List Int)) (ret : (Bool → Option Ans)) (b : (Unit → Option Ans)) : Option Ans := iter (S_law07_GenericBest_0 fuel) fuel v (ret, b)
noncomputable def J5_0 (fuel : Nat) (i : Nat) : Option Ev.Blk := Ev.look i []
noncomputable def T5_0 (v : Int × Int × Int × Int × (List Int) × (List Int)) : Ev.St := match v with | (x0, x1, x2, x3, x4, x5) => ⟨[(1, .c (.ptr 0 0)), (4, .c (.int .i64 x0)), (7, .c (.own 1)), (8, .c (.int .i64 x1))], [(0, .cells 39 [.int .i64 x2, .int .i64 x3, .sl (.int .u8) x4]), (1, .vec 5 (.int .u8) x5 true)], 2, 0⟩
noncomputable def E5_0 (K : Ev.Ex → Ev.St → Option Ans) : (Bool → Option Ans) × (Unit → Option Ans) := ((fun v => match v with | x0 => K .ret ⟨[(2, .c (.bool x0))], [], 0, 0⟩), (fun v => match v with | () => K .normal ⟨[], [], 0, 0⟩))
theorem S5_0_okg (fuel : Nat) (f27 : YF27) (f28 : YF28) (f29 : YF29) (f30 : YF30) (f31 : YF31) (R : Ev.St → Option Ans) (K : Ev.Ex → Ev.St → Option Ans) (x0 : Int) (x1 : Int) (x2 : Int) (x3 : Int) (x4 : (List Int)) (x5 : (List Int)) : evalCode tab (Gg5 f27 f28 f29 f30 f31) (J5_0 fuel) kp5 fuel (bodyOf 0 Try.f5) (T5_0 (x0, x1, x2, x3, x4, x5)) (lc kp5 11 0 R K) = (fun (c : (Int × Int × Int × Int × (List Int) × (List Int)) → Option Ans) (B : (Bool → Option Ans) × (Unit → Option Ans)) => match B with
  | (ret, b) =>
   bif Decidable.decide (x1 < (4 : Int)) then
      (f31 (x1)
        (fun (y3_0, y3_1, y3_2, y3_3, y3_4, y3_5) =>
          (f30 (y3_0) (y3_1) (y3_2) (y3_3) (y3_4) (x2) (x3) (x4)
            (fun (y7_0, y7_1) =>
              bif x0 != (0 : Int) then
               ret Bool.false
              else
               bif y3_5 != (0 : Int) then
                ret Bool.false
               else
                bif y7_0 != (0 : Int) then
                 ret Bool.false
                else
                 bif Decidable.decide ((↑y7_1.length : Int) < (↑x5.length : Int)) then
                  ret Bool.false
                 else
                  c (x0, Go.IntKind.i64.wrap (x1 + (1 : Int)), x2, x3, x4, x5)))))
     else
      b ()) (fun v => R (T5_0 v)) (E5_0 K) := by
  kernel_rfl
theorem S5_0_ok (fuel : Nat) (R : Ev.St → Option Ans) (K : Ev.Ex → Ev.St → Option Ans) (x0 : Int) (x1 : Int) (x2 : Int) (x3 : Int) (x4 : (List Int)) (x5 : (List Int)) : evalCode tab (G5 fuel) (J5_0 fuel) kp5 fuel (bodyOf 0 Try.f5) (T5_0 (x0, x1, x2, x3, x4, x5)) (lc kp5 11 0 R K) = S_law07_GenericBest_0 fuel (x0, x1, x2, x3, x4, x5) (fun v => R (T5_0 v)) (E5_0 K) :=
  S5_0_okg fuel (F_law07_Sane fuel) (F_generic_Best fuel) (F_ref07_Best fuel) (F_generic_Encode fuel) (F_generic_Usual fuel) R K x0 x1 x2 x3 x4 x5
noncomputable def B5_0 (fuel : Nat) : Ev.Blk := fun st K => match canonO (kp5 11) st with
  | some s => (match s with
    | ⟨[(q0, .c (.ptr q1 q2)), (q3, .c (.int .i64 x0)), (q4, .c (.own q5)), (q6, .c (.int .i64 x1))], [(q7, .cells q8 [.int .i64 x2, .int .i64 x3, .sl (.int .u8) x4]), (q9, .vec q10 (.int .u8) x5 true)], q11, q12⟩ => bif Nat.beq q0 1 && Nat.beq q1 0 && Nat.beq q2 0 && Nat.beq q3 4 && Nat.beq q4 7 && Nat.beq q5 1 && Nat.beq q6 8 && Nat.beq q7 0 && Nat.beq q8 39 && Nat.beq q9 1 && Nat.beq q10 5 && Nat.beq q11 2 && Nat.beq q12 0 then iter (S_law07_GenericBest_0 fuel) fuel (x0, x1, x2, x3, x4, x5) (E5_0 K) else none
    | _ => none)
  | none => none
theorem B5_0_ok (fuel : Nat) (st : Ev.St) (K : Ev.Ex → Ev.St → Option Ans) (r : Ans) (h : B5_0 fuel st K = some r) : evalCode tab (G5 fuel) (J5_0 fuel) kp5 fuel (.block 0 (.loop (bodyOf 0 Try.f5))) st K = some r := by
  unfold B5_0 at h
  split at h
  · rename_i s hs
    split at h
    · skip
      obtain ⟨hb, h⟩ := cond_some' h
      simp only [Bool.and_eq_true, Nat.beq_eq, decide_eq_true_eq] at hb
      obtain ⟨⟨⟨⟨⟨⟨⟨⟨⟨⟨⟨⟨rfl, rfl⟩, rfl⟩, rfl⟩, rfl⟩, rfl⟩, rfl⟩, rfl⟩, rfl⟩, rfl⟩, rfl⟩, rfl⟩, rfl⟩ := hb
      exact blk_loop (S := T5_0) (ks := E5_0) (step := S_law07_GenericBest_0 fuel) (v := (_, _, _, _, _, _)) (by kernel_rfl) (by kernel_rfl) (fun R K v => by obtain ⟨x0, x1, x2, x3, x4, x5⟩ := v; exact S5_0_ok fuel R K x0 x1 x2 x3 x4 x5) hs h
    · cases h
  · cases h
noncomputable def J5 (fuel : Nat) (i : Nat) : Option Ev.Blk := Ev.look i [(100000, B5_0 fuel)]
noncomputable def F_law07_GenericBest (fuel : Nat) (x0 : Int) (x1 : Int) (x2 : (List Int)) (k0 : (Bool) → Option Ans) : Option Ans :=
  bif Decidable.decide ((↑x2.length : Int) > (500 : Int)) then
   (F_law07_Sane fuel
     (fun y3 =>
       k0 y3))
  else
   (F_generic_Best fuel (x0) (x1) (x2)
     (fun (y3_0, y3_1, y3_2, y3_3, y3_4, y3_5) =>
       (F_ref07_Best fuel (x0) (x1) (x2)
         (fun (y7_0, y7_1, y7_2, y7_3, y7_4, y7_5) =>
           bif y3_5 != y7_5 then
            k0 Bool.false
           else
            bif !(y3_0 == y7_0 && (y3_1 == y7_1 && (y3_2 == y7_2 && Bool.true) && (y3_3 == y7_3 && (y3_4 == y7_4 && Bool.true)))) then
             k0 Bool.false
            else
             bif y3_5 != (0 : Int) then
              (F_law07_Sane fuel
                (fun y14 =>
                  k0 y14))
             else
              (F_generic_Encode fuel (y3_0) (y3_1) (y3_2) (y3_3) (y3_4) (x0) (x1) (x2)
                (fun (y14_0, y14_1) =>
                  (L_law07_GenericBest_0 fuel (y14_0, (0 : Int), x0, x1, x2, y14_1)
                    (fun ret0_0 =>
                      k0 ret0_0)
                    (fun () =>
                      (F_law07_Sane fuel
                        (fun y22 =>
                          k0 y22))))))))))
abbrev YF5 : Type := (Int) → (Int) → ((List Int)) → ((Bool) → Option Ans) → Option Ans
theorem F5_eqg (fuel : Nat) (f27 : YF27) (f28 : YF28) (f29 : YF29) (f30 : YF30) (f31 : YF31) (x0 : Int) (x1 : Int) (x2 : (List Int)) (k : Ev.Cont) : evalFn tab (Gg5 f27 f28 f29 f30 f31) (J5 fuel) kp5 fuel Try.f5 [.agg [.int .i64 x0, .int .i64 x1, .sl (.int .u8) x2]] [] k = (fun  (k0 : (Bool) → Option Ans) =>
  bif Decidable.decide ((↑x2.length : Int) > (500 : Int)) then
   (f27
     (fun y3 =>
       k0 y3))
  else
   (f28 (x0) (x1) (x2)
     (fun (y3_0, y3_1, y3_2, y3_3, y3_4, y3_5) =>
       (f29 (x0) (x1) (x2)
         (fun (y7_0, y7_1, y7_2, y7_3, y7_4, y7_5) =>
           bif y3_5 != y7_5 then
            k0 Bool.false
           else
            bif !(y3_0 == y7_0 && (y3_1 == y7_1 && (y3_2 == y7_2 && Bool.true) && (y3_3 == y7_3 && (y3_4 == y7_4 && Bool.true)))) then
             k0 Bool.false
            else
             bif y3_5 != (0 : Int) then
              (f27
                (fun y14 =>
                  k0 y14))
             else
              (f30 (y3_0) (y3_1) (y3_2) (y3_3) (y3_4) (x0) (x1) (x2)
                (fun (y14_0, y14_1) =>
                  (L_law07_GenericBest_0 fuel (y14_0, (0 : Int), x0, x1, x2, y14_1)
                    (fun ret0_0 =>
                      k0 ret0_0)
                    (fun () =>
                      (f27
                        (fun y22 =>
                          k0 y22))))))))))) (fun r => match r with | r0 => k (.c (.bool r0), [])) := by
  kernel_rfl
theorem F5_eq (fuel : Nat) (x0 : Int) (x1 : Int) (x2 : (List Int)) (k : Ev.Cont) : evalFn tab (G5 fuel) (J5 fuel) kp5 fuel Try.f5 [.agg [.int .i64 x0, .int .i64 x1, .sl (.int .u8) x2]] [] k = F_law07_GenericBest fuel x0 x1 x2 (fun r => match r with | r0 => k (.c (.bool r0), [])) :=
  F5_eqg fuel (F_law07_Sane fuel) (F_generic_Best fuel) (F_ref07_Best fuel) (F_generic_Encode fuel) (F_generic_Usual fuel) x0 x1 x2 k
theorem hG5 (fuel : Nat) : GOK Try.prog (G5 fuel) :=
  gok_cons ⟨ok27 fuel, enters_of Try.func27 (by kernel_rfl) rfl⟩ <|
  gok_cons ⟨ok28 fuel, enters_of Try.func28 (by kernel_rfl) rfl⟩ <|
  gok_cons ⟨ok29 fuel, enters_of Try.func29 (by kernel_rfl) rfl⟩ <|
  gok_cons ⟨ok30 fuel, enters_of Try.func30 (by kernel_rfl) rfl⟩ <|
  gok_cons ⟨ok31 fuel, enters_of Try.func31 (by kernel_rfl) rfl⟩ <|
  gok_nil
theorem B5_0_blk (fuel : Nat) : BlkOK Try.prog Try.f5.ntmps (.block 0 (.loop (bodyOf 0 Try.f5))) (B5_0 fuel) :=
  blk_of (blk_of_code tab_ok (hG5 fuel) mixed (J := J5_0 fuel) (kp := kp5) (fuel := fuel) (by kernel_rfl) (fun q hq => by
    rw [(by kernel_rfl : obl (J5_0 fuel) (.block 0 (.loop (bodyOf 0 Try.f5))) = [])] at hq
    cases hq)) (B5_0_ok fuel)
theorem fok5 (fuel : Nat) : FnOK Try.prog 5 (evalFn tab (G5 fuel) (J5 fuel) kp5 fuel Try.f5) :=
  fn_ok tab_ok (hG5 fuel) mixed Try.func5 (c := (Try.f5.body).getD .skip) rfl (fun q hq => by
    rw [(by kernel_rfl : obl (J5 fuel) ((Try.f5.body).getD .skip) = [(.block 0 (.loop (bodyOf 0 Try.f5)), B5_0 fuel)])] at hq
    simp only [List.mem_cons, List.not_mem_nil, or_false] at hq
    subst hq
    · exact B5_0_blk fuel)
noncomputable def mt5 : List Ev.SV → List Ev.Ob → Bool := fun args objs => match args, objs with
  | [.agg [.int .i64 _, .int .i64 _, .sl (.int .u8) _]], [] => true
  | _, _ => false
noncomputable def spg5 (F : YF5) : Ev.Spec := fun args objs k => match args, objs with
  | [.agg [.int .i64 x0, .int .i64 x1, .sl (.int .u8) x2]], [] => bif true then F x0 x1 x2 (fun r => match r with | r0 => k (.c (.bool r0), [])) else none
  | _, _ => none
noncomputable def spec5 (fuel : Nat) : Ev.Spec := spg5 (F_law07_GenericBest fuel)
theorem ok5 (fuel : Nat) : FnOK Try.prog 5 (spec5 fuel) := by
  intro args objs kk r h
  unfold spec5 spg5 at h
  split at h
  · skip
    obtain ⟨hb, h⟩ := cond_some' h
    simp only [Bool.and_eq_true, Nat.beq_eq, decide_eq_true_eq] at hb
    clear hb
    exact fok5 fuel _ _ kk r ((F5_eq fuel _ _ _ kk).trans h)
  · cases h
end Go.Proofs.Ytihfgpfofmjbaaa

set_option linter.unusedVariables false
set_option linter.unusedSimpArgs false
set_option maxRecDepth 100000
set_option maxHeartbeats 2000000
namespace Go.Proofs.Ytihfgpfofmjbaaa
open Go Ev
def kp101_a20 (i : Nat) : Option (List Nat) := Ev.look i []
noncomputable def Gg101_a20 (f164_a20 : YF164_a20) (f170 : YF170) (f : Nat) : Option Ev.Spec := Ev.look f [(164, spg164_a20 f164_a20), (170, spg170 f170)]
noncomputable def G101_a20 (fuel : Nat) : Nat → Option Ev.Spec := Gg101_a20 (F_coder_Encoder_none_a20 fuel) (F_coder_clone fuel)
noncomputable def J101_a20 (fuel : Nat) (i : Nat) : Option Ev.Blk := Ev.look i []
noncomputable def F_coder_Encoder_Model_a20 (fuel : Nat) (x0 : Int) (x1 : Int) (x2 : Int) (x3 : Bool) (x4 : (List Int)) (x5 : (List Int)) (k0 : (Int × Int × Int × Int × Bool × (List Int) × (List Int) × (List Int)) → Option Ans) : Option Ans :=
  (F_coder_Encoder_none_a20 fuel (x0) (x1) (x2) (x3) (x4) (x5)
    (fun (y2_0, y2_1, y2_2, y2_3, y2_4, y2_5, y2_6) =>
      bif y2_0 then
       k0 ((0 : Int), y2_1, y2_2, y2_3, y2_4, y2_5, y2_6, [])
      else
       (F_coder_clone fuel (y2_1) (y2_5)
         (fun (y7_0, y7_1) =>
           k0 (y7_0, y2_1, y2_2, y2_3, y2_4, y2_5, y2_6, y7_1)))))
abbrev YF101_a20 : Type := (Int) → (Int) → (Int) → (Bool) → ((List Int)) → ((List Int)) → ((Int × Int × Int × Int × Bool × (List Int) × (List Int) × (List Int)) → Option Ans) → Option Ans
theorem F101_a20_eqg (fuel : Nat) (f164_a20 : YF164_a20) (f170 : YF170) (x0 : Int) (x1 : Int) (x2 : Int) (x3 : Bool) (x4 : (List Int)) (x5 : (List Int)) (k : Ev.Cont) : evalFn tab (Gg101_a20 f164_a20 f170) (J101_a20 fuel) kp101_a20 fuel Try.f101 [.c (.ptr 0 0)] [.cells 172 (.int .i64 x0 :: .own 1 :: .int .i64 2048 :: .int .i64 1792 :: .int .i64 1568 :: .int .i64 1372 :: .int .i64 1201 :: .int .i64 1051 :: .int .i64 920 :: .int .i64 805 :: .int .i64 705 :: .int .i64 617 :: .int .i64 540 :: .int .i64 473 :: .int .i64 414 :: .int .i64 363 :: .int .i64 318 :: .int .i64 279 :: .int .i64 245 :: .int .i64 215 :: .int .i64 189 :: .int .i64 166 :: .int .i64 146 :: .int .i64 128 :: .int .i64 112 :: .int .i64 98 :: .int .i64 86 :: .int .i64 76 :: .int .i64 67 :: .int .i64 59 :: .int .i64 52 :: .int .i64 46 :: .int .i64 41 :: .int .i64 36 :: .int .u64 x1 :: .int .u64 x2 :: .own 2 :: .bool x3 :: []), .vec 3 (.int .i64) x4 false, .vec 5 (.int .u8) x5 false] k = (fun  (k0 : (Int × Int × Int × Int × Bool × (List Int) × (List Int) × (List Int)) → Option Ans) =>
  (f164_a20 (x0) (x1) (x2) (x3) (x4) (x5)
    (fun (y2_0, y2_1, y2_2, y2_3, y2_4, y2_5, y2_6) =>
      bif y2_0 then
       k0 ((0 : Int), y2_1, y2_2, y2_3, y2_4, y2_5, y2_6, [])
      else
       (f170 (y2_1) (y2_5)
         (fun (y7_0, y7_1) =>
           k0 (y7_0, y2_1, y2_2, y2_3, y2_4, y2_5, y2_6, y7_1)))))) (fun r => match r with | (r0, r1, r2, r3, r4, r5, r6, r7) => k (.agg [.int .i64 r0, .own 3], [.cells 172 (.int .i64 r1 :: .own 1 :: .int .i64 2048 :: .int .i64 1792 :: .int .i64 1568 :: .int .i64 1372 :: .int .i64 1201 :: .int .i64 1051 :: .int .i64 920 :: .int .i64 805 :: .int .i64 705 :: .int .i64 617 :: .int .i64 540 :: .int .i64 473 :: .int .i64 414 :: .int .i64 363 :: .int .i64 318 :: .int .i64 279 :: .int .i64 245 :: .int .i64 215 :: .int .i64 189 :: .int .i64 166 :: .int .i64 146 :: .int .i64 128 :: .int .i64 112 :: .int .i64 98 :: .int .i64 86 :: .int .i64 76 :: .int .i64 67 :: .int .i64 59 :: .int .i64 52 :: .int .i64 46 :: .int .i64 41 :: .int .i64 36 :: .int .u64 r2 :: .int .u64 r3 :: .own 2 :: .bool r4 :: []), .vec 3 (.int .i64) r5 false, .vec 5 (.int .u8) r6 false, .vec 3 (.int .i64) r7 true])) := by
  kernel_rfl
theorem F101_a20_eq (fuel : Nat) (x0 : Int) (x1 : Int) (x2 : Int) (x3 : Bool) (x4 : (List Int)) (x5 : (List Int)) (k : Ev.Cont) : evalFn tab (G101_a20 fuel) (J101_a20 fuel) kp101_a20 fuel Try.f101 [.c (.ptr 0 0)] [.cells 172 (.int .i64 x0 :: .own 1 :: .int .i64 2048 :: .int .i64 1792 :: .int .i64 1568 :: .int .i64 1372 :: .int .i64 1201 :: .int .i64 1051 :: .int .i64 920 :: .int .i64 805 :: .int .i64 705 :: .int .i64 617 :: .int .i64 540 :: .int .i64 473 :: .int .i64 414 :: .int .i64 363 :: .int .i64 318 :: .int .i64 279 :: .int .i64 245 :: .int .i64 215 :: .int .i64 189 :: .int .i64 166 :: .int .i64 146 :: .int .i64 128 :: .int .i64 112 :: .int .i64 98 :: .int .i64 86 :: .int .i64 76 :: .int .i64 67 :: .int .i64 59 :: .int .i64 52 :: .int .i64 46 :: .int .i64 41 :: .int .i64 36 :: .int .u64 x1 :: .int .u64 x2 :: .own 2 :: .bool x3 :: []), .vec 3 (.int .i64) x4 false, .vec 5 (.int .u8) x5 false] k = F_coder_Encoder_Model_a20 fuel x0 x1 x2 x3 x4 x5 (fun r => match r with | (r0, r1, r2, r3, r4, r5, r6, r7) => k (.agg [.int .i64 r0, .own 3], [.cells 172 (.int .i64 r1 :: .own 1 :: .int .i64 2048 :: .int .i64 1792 :: .int .i64 1568 :: .int .i64 1372 :: .int .i64 1201 :: .int .i64 1051 :: .int .i64 920 :: .int .i64 805 :: .int .i64 705 :: .int .i64 617 :: .int .i64 540 :: .int .i64 473 :: .int .i64 414 :: .int .i64 363 :: .int .i64 318 :: .int .i64 279 :: .int .i64 245 :: .int .i64 215 :: .int .i64 189 :: .int .i64 166 :: .int .i64 146 :: .int .i64 128 :: .int .i64 112 :: .int .i64 98 :: .int .i64 86 :: .int .i64 76 :: .int .i64 67 :: .int .i64 59 :: .int .i64 52 :: .int .i64 46 :: .int .i64 41 :: .int .i64 36 :: .int .u64 r2 :: .int .u64 r3 :: .own 2 :: .bool r4 :: []), .vec 3 (.int .i64) r5 false, .vec 5 (.int .u8) r6 false, .vec 3 (.int .i64) r7 true])) :=
  F101_a20_eqg fuel (F_coder_Encoder_none_a20 fuel) (F_coder_clone fuel) x0 x1 x2 x3 x4 x5 k
theorem hG101_a20 (fuel : Nat) : GOK Try.prog (G101_a20 fuel) :=
  gok_cons ⟨ok164_a20 fuel, enters_of Try.func164 (by kernel_rfl) rfl⟩ <|
  gok_cons ⟨ok170 fuel, enters_of Try.func170 (by kernel_rfl) rfl⟩ <|
  gok_nil
theorem fok101_a20 (fuel : Nat) : FnOK Try.prog 101 (evalFn tab (G101_a20 fuel) (J101_a20 fuel) kp101_a20 fuel Try.f101) :=
  fn_ok tab_ok (hG101_a20 fuel) mixed Try.func101 (c := (Try.f101.body).getD .skip) rfl (fun q hq => by
    rw [(by kernel_rfl : obl (J101_a20 fuel) ((Try.f101.body).getD .skip) = [])] at hq
    cases hq)
noncomputable def mt101_a20 : List Ev.SV → List Ev.Ob → Bool := fun args objs => match args, objs with
  | [.c (.ptr q0 q1)], [.cells q2 cs0, .vec q3 (.int .i64) _ false, .vec q4 (.int .u8) _ false] => (match splitRun 2 [(.i64, 2048), (.i64, 1792), (.i64, 1568), (.i64, 1372), (.i64, 1201), (.i64, 1051), (.i64, 920), (.i64, 805), (.i64, 705), (.i64, 617), (.i64, 540), (.i64, 473), (.i64, 414), (.i64, 363), (.i64, 318), (.i64, 279), (.i64, 245), (.i64, 215), (.i64, 189), (.i64, 166), (.i64, 146), (.i64, 128), (.i64, 112), (.i64, 98), (.i64, 86), (.i64, 76), (.i64, 67), (.i64, 59), (.i64, 52), (.i64, 46), (.i64, 41), (.i64, 36)] cs0 with | some ([.int .i64 _, .own q5], [.int .u64 _, .int .u64 _, .own q6, .bool _]) => Nat.beq q0 0 && Nat.beq q1 0 && Nat.beq q2 172 && Nat.beq q3 3 && Nat.beq q4 5 && Nat.beq q5 1 && Nat.beq q6 2 | _ => false)
  | _, _ => false
noncomputable def spg101_a20 (F : YF101_a20) : Ev.Spec := fun args objs k => match args, objs with
  | [.c (.ptr q0 q1)], [.cells q2 cs0, .vec q3 (.int .i64) x4 false, .vec q4 (.int .u8) x5 false] => (match splitRun 2 [(.i64, 2048), (.i64, 1792), (.i64, 1568), (.i64, 1372), (.i64, 1201), (.i64, 1051), (.i64, 920), (.i64, 805), (.i64, 705), (.i64, 617), (.i64, 540), (.i64, 473), (.i64, 414), (.i64, 363), (.i64, 318), (.i64, 279), (.i64, 245), (.i64, 215), (.i64, 189), (.i64, 166), (.i64, 146), (.i64, 128), (.i64, 112), (.i64, 98), (.i64, 86), (.i64, 76), (.i64, 67), (.i64, 59), (.i64, 52), (.i64, 46), (.i64, 41), (.i64, 36)] cs0 with | some ([.int .i64 x0, .own q5], [.int .u64 x1, .int .u64 x2, .own q6, .bool x3]) => bif Nat.beq q0 0 && Nat.beq q1 0 && Nat.beq q2 172 && Nat.beq q3 3 && Nat.beq q4 5 && Nat.beq q5 1 && Nat.beq q6 2 then F x0 x1 x2 x3 x4 x5 (fun r => match r with | (r0, r1, r2, r3, r4, r5, r6, r7) => k (.agg [.int .i64 r0, .own 3], [.cells 172 (.int .i64 r1 :: .own 1 :: .int .i64 2048 :: .int .i64 1792 :: .int .i64 1568 :: .int .i64 1372 :: .int .i64 1201 :: .int .i64 1051 :: .int .i64 920 :: .int .i64 805 :: .int .i64 705 :: .int .i64 617 :: .int .i64 540 :: .int .i64 473 :: .int .i64 414 :: .int .i64 363 :: .int .i64 318 :: .int .i64 279 :: .int .i64 245 :: .int .i64 215 :: .int .i64 189 :: .int .i64 166 :: .int .i64 146 :: .int .i64 128 :: .int .i64 112 :: .int .i64 98 :: .int .i64 86 :: .int .i64 76 :: .int .i64 67 :: .int .i64 59 :: .int .i64 52 :: .int .i64 46 :: .int .i64 41 :: .int .i64 36 :: .int .u64 r2 :: .int .u64 r3 :: .own 2 :: .bool r4 :: []), .vec 3 (.int .i64) r5 false, .vec 5 (.int .u8) r6 false, .vec 3 (.int .i64) r7 true])) else none | _ => none)
  | _, _ => none
noncomputable def spec101_a20 (fuel : Nat) : Ev.Spec := spg101_a20 (F_coder_Encoder_Model_a20 fuel)
theorem ok101_a20 (fuel : Nat) : FnOK Try.prog 101 (spec101_a20 fuel) := by
  intro args objs kk r h
  unfold spec101_a20 spg101_a20 at h
  split at h
  · skip
    split at h
    rotate_left 1
    · cases h
    rename_i hsp
    have esp := splitRun_eq hsp
    subst esp
    obtain ⟨hb, h⟩ := cond_some' h
    simp only [Bool.and_eq_true, Nat.beq_eq, decide_eq_true_eq] at hb
    obtain ⟨⟨⟨⟨⟨⟨rfl, rfl⟩, rfl⟩, rfl⟩, rfl⟩, rfl⟩, rfl⟩ := hb
    exact fok101_a20 fuel _ _ kk r ((F101_a20_eq fuel _ _ _ _ _ _ kk).trans h)
  · cases h
end Go.Proofs.Ytihfgpfofmjbaaa

