/- incunable/incunableref01.Size: its typed text, and that the machine does it. -/
import Derived.Test.YtajidgilfkineaaEvU
set_option linter.unusedVariables false
set_option linter.unusedSimpArgs false
set_option maxRecDepth 100000
namespace Go.Proofs.Ytajidgilfkineaa
open Go Ev
def kp112 (i : Nat) : Option (List Nat) := Ev.look i [(5, [0, 4]), (100000, [4]), (400000, [2, 3])]
def Gg112 (f : Nat) : Option Ev.Spec := Ev.look f []
def G112 (fuel : Nat) : Nat → Option Ev.Spec := Gg112
def S_ref01_Size_0 (fuel : Nat) (v : Int × (List Int)) (c : (Int × (List Int)) → Option Ans) (B : ((List Int) → Option Ans)) : Option Ans := match v, B with
  | (x0, x1), b =>
   bif Decidable.decide (x0 > (0 : Int)) then
      bif Decidable.decide (([Go.IntKind.u8.wrap (Go.IntKind.i64.wrap ((128 : Int) + x0.tmod (128 : Int)))].length + x1.length) * (1 : Nat) ≤ (140737488355328 : Nat) ∧ [Go.IntKind.u8.wrap (Go.IntKind.i64.wrap ((128 : Int) + x0.tmod (128 : Int)))].length + x1.length ≤ (140737488355328 : Nat)) then
      c (Go.IntKind.i64.wrap (x0.tdiv (128 : Int)), [Go.IntKind.u8.wrap (Go.IntKind.i64.wrap ((128 : Int) + x0.tmod (128 : Int)))] ++ x1)
      else none
     else
      b x1
def L_ref01_Size_0 (fuel : Nat) (v : Int × (List Int)) (b : ((List Int) → Option Ans)) : Option Ans := iter (S_ref01_Size_0 fuel) fuel v b
def J112_0 (fuel : Nat) (i : Nat) : Option Ev.Blk := Ev.look i []
def T112_0 (v : Int × (List Int)) : Ev.St := match v with | (x0, x1) => ⟨[(0, .c (.int .i64 x0)), (4, .c (.own 0))], [(0, .vec 5 (.int .u8) x1 true)], 1, 0⟩
def E112_0 (K : Ev.Ex → Ev.St → Option Ans) : ((List Int) → Option Ans) := (fun v => match v with | x0 => K .normal ⟨[(4, .c (.own 0))], [(0, .vec 5 (.int .u8) x0 true)], 1, 0⟩)
theorem S112_0_ok (fuel : Nat) (R : Ev.St → Option Ans) (K : Ev.Ex → Ev.St → Option Ans) (x0 : Int) (x1 : (List Int)) : evalCode tab (G112 fuel) (J112_0 fuel) kp112 fuel (bodyOf 0 Try.f112) (T112_0 (x0, x1)) (lc kp112 5 0 R K) = S_ref01_Size_0 fuel (x0, x1) (fun v => R (T112_0 v)) (E112_0 K) := by
  kernel_rfl
def B112_0 (fuel : Nat) : Ev.Blk := fun st K => match canonO (kp112 5) st with
  | some s => (match s with
    | ⟨[(q0, .c (.int .i64 x0)), (q1, .c (.own q2))], [(q3, .vec q4 (.int .u8) x1 true)], q5, q6⟩ => bif Nat.beq q0 0 && Nat.beq q1 4 && Nat.beq q2 0 && Nat.beq q3 0 && Nat.beq q4 5 && Nat.beq q5 1 && Nat.beq q6 0 then iter (S_ref01_Size_0 fuel) fuel (x0, x1) (E112_0 K) else none
    | _ => none)
  | none => none
theorem B112_0_ok (fuel : Nat) (st : Ev.St) (K : Ev.Ex → Ev.St → Option Ans) (r : Ans) (h : B112_0 fuel st K = some r) : evalCode tab (G112 fuel) (J112_0 fuel) kp112 fuel (.block 0 (.loop (bodyOf 0 Try.f112))) st K = some r := by
  unfold B112_0 at h
  split at h
  · rename_i s hs
    split at h
    · obtain ⟨hb, h⟩ := cond_some' h
      simp only [Bool.and_eq_true, Nat.beq_eq, decide_eq_true_eq] at hb
      obtain ⟨⟨⟨⟨⟨⟨rfl, rfl⟩, rfl⟩, rfl⟩, rfl⟩, rfl⟩, rfl⟩ := hb
      exact blk_loop (S := T112_0) (ks := E112_0) (step := S_ref01_Size_0 fuel) (v := (_, _)) (by kernel_rfl) (by kernel_rfl) (fun R K v => by obtain ⟨x0, x1⟩ := v; exact S112_0_ok fuel R K x0 x1) hs h
    · cases h
  · cases h
def J112 (fuel : Nat) (i : Nat) : Option Ev.Blk := Ev.look i [(100000, B112_0 fuel)]
def F_ref01_Size (fuel : Nat) (x0 : Int) (k0 : (Int × (List Int)) → Option Ans) : Option Ans :=
  bif Decidable.decide (x0 < (0 : Int)) then
   k0 ((2 : Int), [])
  else
   bif Decidable.decide (x0 > (2147483647 : Int)) then
    k0 ((2 : Int), [])
   else
    (L_ref01_Size_0 fuel (Go.IntKind.i64.wrap (x0.tdiv (128 : Int)), [Go.IntKind.u8.wrap (x0.tmod (128 : Int))])
      (fun b0_0 =>
        k0 ((0 : Int), b0_0)))
abbrev YF112 : Type := (Int) → ((Int × (List Int)) → Option Ans) → Option Ans
theorem F112_eq (fuel : Nat) (x0 : Int) (k : Ev.Cont) : evalFn tab (G112 fuel) (J112 fuel) kp112 fuel Try.f112 [.c (.int .i64 x0)] [] k = F_ref01_Size fuel x0 (fun r => match r with | (r0, r1) => k (.tup [(false, [.own 0]), (false, [.int .i64 r0])], [.vec 5 (.int .u8) r1 true])) := by
  kernel_rfl
theorem hG112 (fuel : Nat) : GOK Try.prog (G112 fuel) :=
  gok_nil
theorem B112_0_blk (fuel : Nat) : BlkOK Try.prog Try.f112.ntmps (.block 0 (.loop (bodyOf 0 Try.f112))) (B112_0 fuel) :=
  blk_of (blk_of_code tab_ok (hG112 fuel) mixed (J := J112_0 fuel) (kp := kp112) (fuel := fuel) (by kernel_rfl) (fun q hq => by
    rw [(by kernel_rfl : obl (J112_0 fuel) (.block 0 (.loop (bodyOf 0 Try.f112))) = [])] at hq
    cases hq)) (B112_0_ok fuel)
theorem fok112 (fuel : Nat) : FnOK Try.prog 112 (evalFn tab (G112 fuel) (J112 fuel) kp112 fuel Try.f112) :=
  fn_ok tab_ok (hG112 fuel) mixed Try.func112 (c := (Try.f112.body).getD .skip) rfl (fun q hq => by
    rw [(by kernel_rfl : obl (J112 fuel) ((Try.f112.body).getD .skip) = [(.block 0 (.loop (bodyOf 0 Try.f112)), B112_0 fuel)])] at hq
    simp only [List.mem_cons, List.not_mem_nil, or_false] at hq
    subst hq
    · exact B112_0_blk fuel)
def mt112 : List Ev.SV → List Ev.Ob → Bool := fun args objs => match args, objs with
  | [.c (.int .i64 _)], [] => true
  | _, _ => false
def spg112 (F : YF112) : Ev.Spec := fun args objs k => match args, objs with
  | [.c (.int .i64 x0)], [] => bif true then F x0 (fun r => match r with | (r0, r1) => k (.tup [(false, [.own 0]), (false, [.int .i64 r0])], [.vec 5 (.int .u8) r1 true])) else none
  | _, _ => none
def spec112 (fuel : Nat) : Ev.Spec := spg112 (F_ref01_Size fuel)
theorem ok112 (fuel : Nat) : FnOK Try.prog 112 (spec112 fuel) := by
  intro args objs kk r h
  unfold spec112 spg112 at h
  split at h
  · obtain ⟨hb, h⟩ := cond_some' h
    simp only [Bool.and_eq_true, Nat.beq_eq, decide_eq_true_eq] at hb
    clear hb
    exact fok112 fuel _ _ kk r ((F112_eq fuel _ kk).trans h)
  · cases h
end Go.Proofs.Ytajidgilfkineaa
