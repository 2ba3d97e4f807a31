/- incunable/bits.Size: its typed text, and that the machine does it. -/
import Derived.Test.YtajidgilfkineaaEvU
set_option linter.unusedVariables false
set_option linter.unusedSimpArgs false
set_option maxRecDepth 100000
namespace Go.Proofs.Ytajidgilfkineaa
open Go Ev
def kp76 (i : Nat) : Option (List Nat) := Ev.look i [(5, [0, 4]), (100000, [4]), (400000, [2, 3])]
def Gg76 (f : Nat) : Option Ev.Spec := Ev.look f []
def G76 (fuel : Nat) : Nat → Option Ev.Spec := Gg76
def S_bits_Size_0 (fuel : Nat) (v : Int × (List Int)) (c : (Int × (List Int)) → Option Ans) (B : ((List Int) → Option Ans)) : Option Ans := match v, B with
  | (x0, x1), b =>
   bif Decidable.decide (x0 > (0 : Int)) then
      bif Decidable.decide (([Go.IntKind.u8.wrap (Go.IntKind.u8.wrap (x0.tmod (128 : Int)) + (128 : Int))].length + x1.length) * (1 : Nat) ≤ (140737488355328 : Nat) ∧ [Go.IntKind.u8.wrap (Go.IntKind.u8.wrap (x0.tmod (128 : Int)) + (128 : Int))].length + x1.length ≤ (140737488355328 : Nat)) then
      c (Go.IntKind.i64.wrap (x0.tdiv (128 : Int)), [Go.IntKind.u8.wrap (Go.IntKind.u8.wrap (x0.tmod (128 : Int)) + (128 : Int))] ++ x1)
      else none
     else
      b x1
def L_bits_Size_0 (fuel : Nat) (v : Int × (List Int)) (b : ((List Int) → Option Ans)) : Option Ans := iter (S_bits_Size_0 fuel) fuel v b
def J76_0 (fuel : Nat) (i : Nat) : Option Ev.Blk := Ev.look i []
def T76_0 (v : Int × (List Int)) : Ev.St := match v with | (x0, x1) => ⟨[(0, .c (.int .i64 x0)), (4, .c (.own 0))], [(0, .vec 5 (.int .u8) x1 true)], 1, 0⟩
def E76_0 (K : Ev.Ex → Ev.St → Option Ans) : ((List Int) → Option Ans) := (fun v => match v with | x0 => K .normal ⟨[(4, .c (.own 0))], [(0, .vec 5 (.int .u8) x0 true)], 1, 0⟩)
theorem S76_0_ok (fuel : Nat) (R : Ev.St → Option Ans) (K : Ev.Ex → Ev.St → Option Ans) (x0 : Int) (x1 : (List Int)) : evalCode tab (G76 fuel) (J76_0 fuel) kp76 fuel (bodyOf 0 Try.f76) (T76_0 (x0, x1)) (lc kp76 5 0 R K) = S_bits_Size_0 fuel (x0, x1) (fun v => R (T76_0 v)) (E76_0 K) := by
  kernel_rfl
def B76_0 (fuel : Nat) : Ev.Blk := fun st K => match canonO (kp76 5) st with
  | some s => (match s with
    | ⟨[(q0, .c (.int .i64 x0)), (q1, .c (.own q2))], [(q3, .vec q4 (.int .u8) x1 true)], q5, q6⟩ => bif Nat.beq q0 0 && Nat.beq q1 4 && Nat.beq q2 0 && Nat.beq q3 0 && Nat.beq q4 5 && Nat.beq q5 1 && Nat.beq q6 0 then iter (S_bits_Size_0 fuel) fuel (x0, x1) (E76_0 K) else none
    | _ => none)
  | none => none
theorem B76_0_ok (fuel : Nat) (st : Ev.St) (K : Ev.Ex → Ev.St → Option Ans) (r : Ans) (h : B76_0 fuel st K = some r) : evalCode tab (G76 fuel) (J76_0 fuel) kp76 fuel (.block 0 (.loop (bodyOf 0 Try.f76))) st K = some r := by
  unfold B76_0 at h
  split at h
  · rename_i s hs
    split at h
    · obtain ⟨hb, h⟩ := cond_some' h
      simp only [Bool.and_eq_true, Nat.beq_eq, decide_eq_true_eq] at hb
      obtain ⟨⟨⟨⟨⟨⟨rfl, rfl⟩, rfl⟩, rfl⟩, rfl⟩, rfl⟩, rfl⟩ := hb
      exact blk_loop (S := T76_0) (ks := E76_0) (step := S_bits_Size_0 fuel) (v := (_, _)) (by kernel_rfl) (by kernel_rfl) (fun R K v => by obtain ⟨x0, x1⟩ := v; exact S76_0_ok fuel R K x0 x1) hs h
    · cases h
  · cases h
def J76 (fuel : Nat) (i : Nat) : Option Ev.Blk := Ev.look i [(100000, B76_0 fuel)]
def F_bits_Size (fuel : Nat) (x0 : Int) (k0 : (Int × (List Int)) → Option Ans) : Option Ans :=
  bif Decidable.decide (x0 < (0 : Int)) then
   k0 ((2 : Int), [])
  else
   bif Decidable.decide (x0 > (2147483647 : Int)) then
    k0 ((2 : Int), [])
   else
    (L_bits_Size_0 fuel (Go.IntKind.i64.wrap (x0.tdiv (128 : Int)), [Go.IntKind.u8.wrap (x0.tmod (128 : Int))])
      (fun b0_0 =>
        k0 ((0 : Int), b0_0)))
abbrev YF76 : Type := (Int) → ((Int × (List Int)) → Option Ans) → Option Ans
theorem F76_eq (fuel : Nat) (x0 : Int) (k : Ev.Cont) : evalFn tab (G76 fuel) (J76 fuel) kp76 fuel Try.f76 [.c (.int .i64 x0)] [] k = F_bits_Size fuel x0 (fun r => match r with | (r0, r1) => k (.tup [(false, [.own 0]), (false, [.int .i64 r0])], [.vec 5 (.int .u8) r1 true])) := by
  kernel_rfl
theorem hG76 (fuel : Nat) : GOK Try.prog (G76 fuel) :=
  gok_nil
theorem B76_0_blk (fuel : Nat) : BlkOK Try.prog Try.f76.ntmps (.block 0 (.loop (bodyOf 0 Try.f76))) (B76_0 fuel) :=
  blk_of (blk_of_code tab_ok (hG76 fuel) mixed (J := J76_0 fuel) (kp := kp76) (fuel := fuel) (by kernel_rfl) (fun q hq => by
    rw [(by kernel_rfl : obl (J76_0 fuel) (.block 0 (.loop (bodyOf 0 Try.f76))) = [])] at hq
    cases hq)) (B76_0_ok fuel)
theorem fok76 (fuel : Nat) : FnOK Try.prog 76 (evalFn tab (G76 fuel) (J76 fuel) kp76 fuel Try.f76) :=
  fn_ok tab_ok (hG76 fuel) mixed Try.func76 (c := (Try.f76.body).getD .skip) rfl (fun q hq => by
    rw [(by kernel_rfl : obl (J76 fuel) ((Try.f76.body).getD .skip) = [(.block 0 (.loop (bodyOf 0 Try.f76)), B76_0 fuel)])] at hq
    simp only [List.mem_cons, List.not_mem_nil, or_false] at hq
    subst hq
    · exact B76_0_blk fuel)
def mt76 : List Ev.SV → List Ev.Ob → Bool := fun args objs => match args, objs with
  | [.c (.int .i64 _)], [] => true
  | _, _ => false
def spg76 (F : YF76) : Ev.Spec := fun args objs k => match args, objs with
  | [.c (.int .i64 x0)], [] => bif true then F x0 (fun r => match r with | (r0, r1) => k (.tup [(false, [.own 0]), (false, [.int .i64 r0])], [.vec 5 (.int .u8) r1 true])) else none
  | _, _ => none
def spec76 (fuel : Nat) : Ev.Spec := spg76 (F_bits_Size fuel)
theorem ok76 (fuel : Nat) : FnOK Try.prog 76 (spec76 fuel) := by
  intro args objs kk r h
  unfold spec76 spg76 at h
  split at h
  · obtain ⟨hb, h⟩ := cond_some' h
    simp only [Bool.and_eq_true, Nat.beq_eq, decide_eq_true_eq] at hb
    clear hb
    exact fok76 fuel _ _ kk r ((F76_eq fuel _ kk).trans h)
  · cases h
end Go.Proofs.Ytajidgilfkineaa
