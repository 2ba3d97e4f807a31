/- What the functions that SegmentBack reaches do: their typed texts, each with the proof that the machine does it. No condition. -/
import Derived.Test.YtajidgilfkineaaEvU
set_option linter.unusedVariables false
set_option linter.unusedSimpArgs false
set_option linter.unusedVariables false
set_option linter.unusedSimpArgs false
set_option maxRecDepth 100000
namespace Go.Proofs.Ytajidgilfkineaa
open Go Ev
def kp45 (i : Nat) : Option (List Nat) := Ev.look i [(4, [0, 1, 12, 13]), (100000, []), (400000, [4])]
def Gg45 (f : Nat) : Option Ev.Spec := Ev.look f []
def G45 (fuel : Nat) : Nat → Option Ev.Spec := Gg45
def S_ref02_SameBytes_0 (fuel : Nat) (v : (List Int) × (List Int) × Int × Int) (c : ((List Int) × (List Int) × Int × Int) → Option Ans) (B : (Bool → Option Ans) × (Unit → Option Ans)) : Option Ans := match v, B with
  | (x0, x1, x2, x3), (ret, b) =>
   bif Decidable.decide (x3 < x2) then
      bif Decidable.decide ((0 : Int) ≤ x3 ∧ x3 < (↑x0.length : Int)) then
      bif Decidable.decide ((0 : Int) ≤ x3 ∧ x3 < (↑x1.length : Int)) then
       bif x0.getD x3.toNat (0 : Int) != x1.getD x3.toNat (0 : Int) then
         ret Bool.false
        else
         c (x0, x1, x2, Go.IntKind.i64.wrap (x3 + (1 : Int)))
       else none
      else none
     else
      b ()
def L_ref02_SameBytes_0 (fuel : Nat) (v : (List Int) × (List Int) × Int × Int) (ret : (Bool → Option Ans)) (b : (Unit → Option Ans)) : Option Ans := iter (S_ref02_SameBytes_0 fuel) fuel v (ret, b)
def J45_0 (fuel : Nat) (i : Nat) : Option Ev.Blk := Ev.look i []
def T45_0 (v : (List Int) × (List Int) × Int × Int) : Ev.St := match v with | (x0, x1, x2, x3) => ⟨[(0, .c (.sl (.int .u8) x0)), (1, .c (.sl (.int .u8) x1)), (12, .c (.int .i64 x2)), (13, .c (.int .i64 x3))], [], 0, 0⟩
def E45_0 (K : Ev.Ex → Ev.St → Option Ans) : (Bool → Option Ans) × (Unit → Option Ans) := ((fun v => match v with | x0 => K .ret ⟨[(4, .c (.bool x0))], [], 0, 0⟩), (fun v => match v with | () => K .normal ⟨[], [], 0, 0⟩))
theorem S45_0_ok (fuel : Nat) (R : Ev.St → Option Ans) (K : Ev.Ex → Ev.St → Option Ans) (x0 : (List Int)) (x1 : (List Int)) (x2 : Int) (x3 : Int) : evalCode tab (G45 fuel) (J45_0 fuel) kp45 fuel (bodyOf 0 Try.f45) (T45_0 (x0, x1, x2, x3)) (lc kp45 4 0 R K) = S_ref02_SameBytes_0 fuel (x0, x1, x2, x3) (fun v => R (T45_0 v)) (E45_0 K) := by
  kernel_rfl
def B45_0 (fuel : Nat) : Ev.Blk := fun st K => match canonO (kp45 4) st with
  | some s => (match s with
    | ⟨[(q0, .c (.sl (.int .u8) x0)), (q1, .c (.sl (.int .u8) x1)), (q2, .c (.int .i64 x2)), (q3, .c (.int .i64 x3))], [], q4, q5⟩ => bif Nat.beq q0 0 && Nat.beq q1 1 && Nat.beq q2 12 && Nat.beq q3 13 && Nat.beq q4 0 && Nat.beq q5 0 then iter (S_ref02_SameBytes_0 fuel) fuel (x0, x1, x2, x3) (E45_0 K) else none
    | _ => none)
  | none => none
theorem B45_0_ok (fuel : Nat) (st : Ev.St) (K : Ev.Ex → Ev.St → Option Ans) (r : Ans) (h : B45_0 fuel st K = some r) : evalCode tab (G45 fuel) (J45_0 fuel) kp45 fuel (.block 0 (.loop (bodyOf 0 Try.f45))) st K = some r := by
  unfold B45_0 at h
  split at h
  · rename_i s hs
    split at h
    · obtain ⟨hb, h⟩ := cond_some' h
      simp only [Bool.and_eq_true, Nat.beq_eq, decide_eq_true_eq] at hb
      obtain ⟨⟨⟨⟨⟨rfl, rfl⟩, rfl⟩, rfl⟩, rfl⟩, rfl⟩ := hb
      exact blk_loop (S := T45_0) (ks := E45_0) (step := S_ref02_SameBytes_0 fuel) (v := (_, _, _, _)) (by kernel_rfl) (by kernel_rfl) (fun R K v => by obtain ⟨x0, x1, x2, x3⟩ := v; exact S45_0_ok fuel R K x0 x1 x2 x3) hs h
    · cases h
  · cases h
def J45 (fuel : Nat) (i : Nat) : Option Ev.Blk := Ev.look i [(100000, B45_0 fuel)]
def F_ref02_SameBytes (fuel : Nat) (x0 : (List Int)) (x1 : (List Int)) (k0 : (Bool) → Option Ans) : Option Ans :=
  bif (↑x0.length : Int) != (↑x1.length : Int) then
   k0 Bool.false
  else
   (L_ref02_SameBytes_0 fuel (x0, x1, (↑x0.length : Int), (0 : Int))
     (fun ret0_0 =>
       k0 ret0_0)
     (fun () =>
       k0 Bool.true))
abbrev YF45 : Type := ((List Int)) → ((List Int)) → ((Bool) → Option Ans) → Option Ans
theorem F45_eq (fuel : Nat) (x0 : (List Int)) (x1 : (List Int)) (k : Ev.Cont) : evalFn tab (G45 fuel) (J45 fuel) kp45 fuel Try.f45 [.c (.sl (.int .u8) x0), .c (.sl (.int .u8) x1)] [] k = F_ref02_SameBytes fuel x0 x1 (fun r => match r with | r0 => k (.c (.bool r0), [])) := by
  kernel_rfl
theorem hG45 (fuel : Nat) : GOK Try.prog (G45 fuel) :=
  gok_nil
theorem B45_0_blk (fuel : Nat) : BlkOK Try.prog Try.f45.ntmps (.block 0 (.loop (bodyOf 0 Try.f45))) (B45_0 fuel) :=
  blk_of (blk_of_code tab_ok (hG45 fuel) mixed (J := J45_0 fuel) (kp := kp45) (fuel := fuel) (by kernel_rfl) (fun q hq => by
    rw [(by kernel_rfl : obl (J45_0 fuel) (.block 0 (.loop (bodyOf 0 Try.f45))) = [])] at hq
    cases hq)) (B45_0_ok fuel)
theorem fok45 (fuel : Nat) : FnOK Try.prog 45 (evalFn tab (G45 fuel) (J45 fuel) kp45 fuel Try.f45) :=
  fn_ok tab_ok (hG45 fuel) mixed Try.func45 (c := (Try.f45.body).getD .skip) rfl (fun q hq => by
    rw [(by kernel_rfl : obl (J45 fuel) ((Try.f45.body).getD .skip) = [(.block 0 (.loop (bodyOf 0 Try.f45)), B45_0 fuel)])] at hq
    simp only [List.mem_cons, List.not_mem_nil, or_false] at hq
    subst hq
    · exact B45_0_blk fuel)
def mt45 : List Ev.SV → List Ev.Ob → Bool := fun args objs => match args, objs with
  | [.c (.sl (.int .u8) _), .c (.sl (.int .u8) _)], [] => true
  | _, _ => false
def spg45 (F : YF45) : Ev.Spec := fun args objs k => match args, objs with
  | [.c (.sl (.int .u8) x0), .c (.sl (.int .u8) x1)], [] => bif true then F x0 x1 (fun r => match r with | r0 => k (.c (.bool r0), [])) else none
  | _, _ => none
def spec45 (fuel : Nat) : Ev.Spec := spg45 (F_ref02_SameBytes fuel)
theorem ok45 (fuel : Nat) : FnOK Try.prog 45 (spec45 fuel) := by
  intro args objs kk r h
  unfold spec45 spg45 at h
  split at h
  · obtain ⟨hb, h⟩ := cond_some' h
    simp only [Bool.and_eq_true, Nat.beq_eq, decide_eq_true_eq] at hb
    clear hb
    exact fok45 fuel _ _ kk r ((F45_eq fuel _ _ kk).trans h)
  · cases h
end Go.Proofs.Ytajidgilfkineaa

set_option linter.unusedVariables false
set_option linter.unusedSimpArgs false
set_option maxRecDepth 100000
namespace Go.Proofs.Ytajidgilfkineaa
open Go Ev
def kp78 (i : Nat) : Option (List Nat) := Ev.look i [(3, [4, 12, 13, 14]), (100000, [4]), (400000, [2, 3])]
def Gg78 (f : Nat) : Option Ev.Spec := Ev.look f []
def G78 (fuel : Nat) : Nat → Option Ev.Spec := Gg78
def S_bits_Pack_0 (fuel : Nat) (v : (List Int) × Int × Int × (List Int)) (c : ((List Int) × Int × Int × (List Int)) → Option Ans) (B : (Int × (List Int) → Option Ans) × ((List Int) → Option Ans)) : Option Ans := match v, B with
  | (x0, x1, x2, x3), (ret, b) =>
   bif Decidable.decide (x2 < x1) then
      bif Decidable.decide ((0 : Int) ≤ x2 ∧ x2 < (↑x0.length : Int)) then
      bif Decidable.decide (x0.getD x2.toNat (0 : Int) > (1 : Int)) then
        ret ((2 : Int), [])
       else
        bif Decidable.decide ((0 : Int) ≤ Go.IntKind.i64.wrap (x2.tdiv (8 : Int)) ∧ Go.IntKind.i64.wrap (x2.tdiv (8 : Int)) < (↑x3.length : Int)) then
        bif Decidable.decide (Go.IntKind.i64.wrap ((7 : Int) - x2.tmod (8 : Int)) < (0 : Int)) then
          none
         else
          bif Decidable.decide ((0 : Int) ≤ Go.IntKind.i64.wrap (x2.tdiv (8 : Int)) ∧ Go.IntKind.i64.wrap (x2.tdiv (8 : Int)) < (↑x3.length : Int)) then
          c (x0, x1, Go.IntKind.i64.wrap (x2 + (1 : Int)), x3.set (Go.IntKind.i64.wrap (x2.tdiv (8 : Int))).toNat (Ev.ior Go.IntKind.u8 (x3.getD (Go.IntKind.i64.wrap (x2.tdiv (8 : Int))).toNat (0 : Int)) (Ev.ishl Go.IntKind.u8 (x0.getD x2.toNat (0 : Int)) (Go.IntKind.i64.wrap ((7 : Int) - x2.tmod (8 : Int))))))
          else none
        else none
      else none
     else
      b x3
def L_bits_Pack_0 (fuel : Nat) (v : (List Int) × Int × Int × (List Int)) (ret : (Int × (List Int) → Option Ans)) (b : ((List Int) → Option Ans)) : Option Ans := iter (S_bits_Pack_0 fuel) fuel v (ret, b)
def J78_0 (fuel : Nat) (i : Nat) : Option Ev.Blk := Ev.look i []
def T78_0 (v : (List Int) × Int × Int × (List Int)) : Ev.St := match v with | (x0, x1, x2, x3) => ⟨[(4, .c (.own 0)), (12, .c (.sl (.int .u8) x0)), (13, .c (.int .i64 x1)), (14, .c (.int .i64 x2))], [(0, .vec 5 (.int .u8) x3 true)], 1, 0⟩
def E78_0 (K : Ev.Ex → Ev.St → Option Ans) : (Int × (List Int) → Option Ans) × ((List Int) → Option Ans) := ((fun v => match v with | (x0, x1) => K .ret ⟨[(2, .c (.own 0)), (3, .c (.int .i64 x0))], [(0, .vec 5 (.int .u8) x1 true)], 1, 0⟩), (fun v => match v with | x0 => K .normal ⟨[(4, .c (.own 0))], [(0, .vec 5 (.int .u8) x0 true)], 1, 0⟩))
theorem S78_0_ok (fuel : Nat) (R : Ev.St → Option Ans) (K : Ev.Ex → Ev.St → Option Ans) (x0 : (List Int)) (x1 : Int) (x2 : Int) (x3 : (List Int)) : evalCode tab (G78 fuel) (J78_0 fuel) kp78 fuel (bodyOf 0 Try.f78) (T78_0 (x0, x1, x2, x3)) (lc kp78 3 0 R K) = S_bits_Pack_0 fuel (x0, x1, x2, x3) (fun v => R (T78_0 v)) (E78_0 K) := by
  kernel_rfl
def B78_0 (fuel : Nat) : Ev.Blk := fun st K => match canonO (kp78 3) st with
  | some s => (match s with
    | ⟨[(q0, .c (.own q1)), (q2, .c (.sl (.int .u8) x0)), (q3, .c (.int .i64 x1)), (q4, .c (.int .i64 x2))], [(q5, .vec q6 (.int .u8) x3 true)], q7, q8⟩ => bif Nat.beq q0 4 && Nat.beq q1 0 && Nat.beq q2 12 && Nat.beq q3 13 && Nat.beq q4 14 && Nat.beq q5 0 && Nat.beq q6 5 && Nat.beq q7 1 && Nat.beq q8 0 then iter (S_bits_Pack_0 fuel) fuel (x0, x1, x2, x3) (E78_0 K) else none
    | _ => none)
  | none => none
theorem B78_0_ok (fuel : Nat) (st : Ev.St) (K : Ev.Ex → Ev.St → Option Ans) (r : Ans) (h : B78_0 fuel st K = some r) : evalCode tab (G78 fuel) (J78_0 fuel) kp78 fuel (.block 0 (.loop (bodyOf 0 Try.f78))) st K = some r := by
  unfold B78_0 at h
  split at h
  · rename_i s hs
    split at h
    · obtain ⟨hb, h⟩ := cond_some' h
      simp only [Bool.and_eq_true, Nat.beq_eq, decide_eq_true_eq] at hb
      obtain ⟨⟨⟨⟨⟨⟨⟨⟨rfl, rfl⟩, rfl⟩, rfl⟩, rfl⟩, rfl⟩, rfl⟩, rfl⟩, rfl⟩ := hb
      exact blk_loop (S := T78_0) (ks := E78_0) (step := S_bits_Pack_0 fuel) (v := (_, _, _, _)) (by kernel_rfl) (by kernel_rfl) (fun R K v => by obtain ⟨x0, x1, x2, x3⟩ := v; exact S78_0_ok fuel R K x0 x1 x2 x3) hs h
    · cases h
  · cases h
def J78 (fuel : Nat) (i : Nat) : Option Ev.Blk := Ev.look i [(100000, B78_0 fuel)]
def F_bits_Pack (fuel : Nat) (x0 : (List Int)) (k0 : (Int × (List Int)) → Option Ans) : Option Ans :=
  bif Decidable.decide ((0 : Int) ≤ Go.IntKind.i64.wrap ((Go.IntKind.i64.wrap ((↑x0.length : Int) + (7 : Int))).tdiv (8 : Int)) ∧ Go.IntKind.i64.wrap ((Go.IntKind.i64.wrap ((↑x0.length : Int) + (7 : Int))).tdiv (8 : Int)) = Go.IntKind.i64.wrap ((Go.IntKind.i64.wrap ((↑x0.length : Int) + (7 : Int))).tdiv (8 : Int)) ∧ (↑(1 : Nat) : Int) * Go.IntKind.i64.wrap ((Go.IntKind.i64.wrap ((↑x0.length : Int) + (7 : Int))).tdiv (8 : Int)) ≤ (281474976710656 : Int) ∧ Go.IntKind.i64.wrap ((Go.IntKind.i64.wrap ((↑x0.length : Int) + (7 : Int))).tdiv (8 : Int)) ≤ (281474976710656 : Int)) then
  (L_bits_Pack_0 fuel (x0, (↑x0.length : Int), (0 : Int), List.replicate (Go.IntKind.i64.wrap ((Go.IntKind.i64.wrap ((↑x0.length : Int) + (7 : Int))).tdiv (8 : Int))).toNat (0 : Int))
     (fun (ret0_0, ret0_1) =>
       k0 (ret0_0, ret0_1))
     (fun b0_0 =>
       k0 ((0 : Int), b0_0)))
  else none
abbrev YF78 : Type := ((List Int)) → ((Int × (List Int)) → Option Ans) → Option Ans
theorem F78_eq (fuel : Nat) (x0 : (List Int)) (k : Ev.Cont) : evalFn tab (G78 fuel) (J78 fuel) kp78 fuel Try.f78 [.c (.sl (.int .u8) x0)] [] k = F_bits_Pack fuel x0 (fun r => match r with | (r0, r1) => k (.tup [(false, [.own 0]), (false, [.int .i64 r0])], [.vec 5 (.int .u8) r1 true])) := by
  kernel_rfl
theorem hG78 (fuel : Nat) : GOK Try.prog (G78 fuel) :=
  gok_nil
theorem B78_0_blk (fuel : Nat) : BlkOK Try.prog Try.f78.ntmps (.block 0 (.loop (bodyOf 0 Try.f78))) (B78_0 fuel) :=
  blk_of (blk_of_code tab_ok (hG78 fuel) mixed (J := J78_0 fuel) (kp := kp78) (fuel := fuel) (by kernel_rfl) (fun q hq => by
    rw [(by kernel_rfl : obl (J78_0 fuel) (.block 0 (.loop (bodyOf 0 Try.f78))) = [])] at hq
    cases hq)) (B78_0_ok fuel)
theorem fok78 (fuel : Nat) : FnOK Try.prog 78 (evalFn tab (G78 fuel) (J78 fuel) kp78 fuel Try.f78) :=
  fn_ok tab_ok (hG78 fuel) mixed Try.func78 (c := (Try.f78.body).getD .skip) rfl (fun q hq => by
    rw [(by kernel_rfl : obl (J78 fuel) ((Try.f78.body).getD .skip) = [(.block 0 (.loop (bodyOf 0 Try.f78)), B78_0 fuel)])] at hq
    simp only [List.mem_cons, List.not_mem_nil, or_false] at hq
    subst hq
    · exact B78_0_blk fuel)
def mt78 : List Ev.SV → List Ev.Ob → Bool := fun args objs => match args, objs with
  | [.c (.sl (.int .u8) _)], [] => true
  | _, _ => false
def spg78 (F : YF78) : Ev.Spec := fun args objs k => match args, objs with
  | [.c (.sl (.int .u8) x0)], [] => bif true then F x0 (fun r => match r with | (r0, r1) => k (.tup [(false, [.own 0]), (false, [.int .i64 r0])], [.vec 5 (.int .u8) r1 true])) else none
  | _, _ => none
def spec78 (fuel : Nat) : Ev.Spec := spg78 (F_bits_Pack fuel)
theorem ok78 (fuel : Nat) : FnOK Try.prog 78 (spec78 fuel) := by
  intro args objs kk r h
  unfold spec78 spg78 at h
  split at h
  · obtain ⟨hb, h⟩ := cond_some' h
    simp only [Bool.and_eq_true, Nat.beq_eq, decide_eq_true_eq] at hb
    clear hb
    exact fok78 fuel _ _ kk r ((F78_eq fuel _ kk).trans h)
  · cases h
end Go.Proofs.Ytajidgilfkineaa

set_option linter.unusedVariables false
set_option linter.unusedSimpArgs false
set_option maxRecDepth 100000
namespace Go.Proofs.Ytajidgilfkineaa
open Go Ev
def kp76 (i : Nat) : Option (List Nat) := Ev.look i [(5, [0, 4]), (100000, [4]), (400000, [2, 3])]
def Gg76 (f : Nat) : Option Ev.Spec := Ev.look f []
def G76 (fuel : Nat) : Nat → Option Ev.Spec := Gg76
def S_bits_Size_0 (fuel : Nat) (v : Int × (List Int)) (c : (Int × (List Int)) → Option Ans) (B : ((List Int) → Option Ans)) : Option Ans := match v, B with
  | (x0, x1), b =>
   bif Decidable.decide (x0 > (0 : Int)) then
      bif Decidable.decide (([Go.IntKind.u8.wrap (Go.IntKind.u8.wrap (x0.tmod (128 : Int)) + (128 : Int))].length + x1.length) * (1 : Nat) ≤ (140737488355328 : Nat) ∧ [Go.IntKind.u8.wrap (Go.IntKind.u8.wrap (x0.tmod (128 : Int)) + (128 : Int))].length + x1.length ≤ (140737488355328 : Nat)) then
      c (Go.IntKind.i64.wrap (x0.tdiv (128 : Int)), [Go.IntKind.u8.wrap (Go.IntKind.u8.wrap (x0.tmod (128 : Int)) + (128 : Int))] ++ x1)
      else none
     else
      b x1
def L_bits_Size_0 (fuel : Nat) (v : Int × (List Int)) (b : ((List Int) → Option Ans)) : Option Ans := iter (S_bits_Size_0 fuel) fuel v b
def J76_0 (fuel : Nat) (i : Nat) : Option Ev.Blk := Ev.look i []
def T76_0 (v : Int × (List Int)) : Ev.St := match v with | (x0, x1) => ⟨[(0, .c (.int .i64 x0)), (4, .c (.own 0))], [(0, .vec 5 (.int .u8) x1 true)], 1, 0⟩
def E76_0 (K : Ev.Ex → Ev.St → Option Ans) : ((List Int) → Option Ans) := (fun v => match v with | x0 => K .normal ⟨[(4, .c (.own 0))], [(0, .vec 5 (.int .u8) x0 true)], 1, 0⟩)
theorem S76_0_ok (fuel : Nat) (R : Ev.St → Option Ans) (K : Ev.Ex → Ev.St → Option Ans) (x0 : Int) (x1 : (List Int)) : evalCode tab (G76 fuel) (J76_0 fuel) kp76 fuel (bodyOf 0 Try.f76) (T76_0 (x0, x1)) (lc kp76 5 0 R K) = S_bits_Size_0 fuel (x0, x1) (fun v => R (T76_0 v)) (E76_0 K) := by
  kernel_rfl
def B76_0 (fuel : Nat) : Ev.Blk := fun st K => match canonO (kp76 5) st with
  | some s => (match s with
    | ⟨[(q0, .c (.int .i64 x0)), (q1, .c (.own q2))], [(q3, .vec q4 (.int .u8) x1 true)], q5, q6⟩ => bif Nat.beq q0 0 && Nat.beq q1 4 && Nat.beq q2 0 && Nat.beq q3 0 && Nat.beq q4 5 && Nat.beq q5 1 && Nat.beq q6 0 then iter (S_bits_Size_0 fuel) fuel (x0, x1) (E76_0 K) else none
    | _ => none)
  | none => none
theorem B76_0_ok (fuel : Nat) (st : Ev.St) (K : Ev.Ex → Ev.St → Option Ans) (r : Ans) (h : B76_0 fuel st K = some r) : evalCode tab (G76 fuel) (J76_0 fuel) kp76 fuel (.block 0 (.loop (bodyOf 0 Try.f76))) st K = some r := by
  unfold B76_0 at h
  split at h
  · rename_i s hs
    split at h
    · obtain ⟨hb, h⟩ := cond_some' h
      simp only [Bool.and_eq_true, Nat.beq_eq, decide_eq_true_eq] at hb
      obtain ⟨⟨⟨⟨⟨⟨rfl, rfl⟩, rfl⟩, rfl⟩, rfl⟩, rfl⟩, rfl⟩ := hb
      exact blk_loop (S := T76_0) (ks := E76_0) (step := S_bits_Size_0 fuel) (v := (_, _)) (by kernel_rfl) (by kernel_rfl) (fun R K v => by obtain ⟨x0, x1⟩ := v; exact S76_0_ok fuel R K x0 x1) hs h
    · cases h
  · cases h
def J76 (fuel : Nat) (i : Nat) : Option Ev.Blk := Ev.look i [(100000, B76_0 fuel)]
def F_bits_Size (fuel : Nat) (x0 : Int) (k0 : (Int × (List Int)) → Option Ans) : Option Ans :=
  bif Decidable.decide (x0 < (0 : Int)) then
   k0 ((2 : Int), [])
  else
   bif Decidable.decide (x0 > (2147483647 : Int)) then
    k0 ((2 : Int), [])
   else
    (L_bits_Size_0 fuel (Go.IntKind.i64.wrap (x0.tdiv (128 : Int)), [Go.IntKind.u8.wrap (x0.tmod (128 : Int))])
      (fun b0_0 =>
        k0 ((0 : Int), b0_0)))
abbrev YF76 : Type := (Int) → ((Int × (List Int)) → Option Ans) → Option Ans
theorem F76_eq (fuel : Nat) (x0 : Int) (k : Ev.Cont) : evalFn tab (G76 fuel) (J76 fuel) kp76 fuel Try.f76 [.c (.int .i64 x0)] [] k = F_bits_Size fuel x0 (fun r => match r with | (r0, r1) => k (.tup [(false, [.own 0]), (false, [.int .i64 r0])], [.vec 5 (.int .u8) r1 true])) := by
  kernel_rfl
theorem hG76 (fuel : Nat) : GOK Try.prog (G76 fuel) :=
  gok_nil
theorem B76_0_blk (fuel : Nat) : BlkOK Try.prog Try.f76.ntmps (.block 0 (.loop (bodyOf 0 Try.f76))) (B76_0 fuel) :=
  blk_of (blk_of_code tab_ok (hG76 fuel) mixed (J := J76_0 fuel) (kp := kp76) (fuel := fuel) (by kernel_rfl) (fun q hq => by
    rw [(by kernel_rfl : obl (J76_0 fuel) (.block 0 (.loop (bodyOf 0 Try.f76))) = [])] at hq
    cases hq)) (B76_0_ok fuel)
theorem fok76 (fuel : Nat) : FnOK Try.prog 76 (evalFn tab (G76 fuel) (J76 fuel) kp76 fuel Try.f76) :=
  fn_ok tab_ok (hG76 fuel) mixed Try.func76 (c := (Try.f76.body).getD .skip) rfl (fun q hq => by
    rw [(by kernel_rfl : obl (J76 fuel) ((Try.f76.body).getD .skip) = [(.block 0 (.loop (bodyOf 0 Try.f76)), B76_0 fuel)])] at hq
    simp only [List.mem_cons, List.not_mem_nil, or_false] at hq
    subst hq
    · exact B76_0_blk fuel)
def mt76 : List Ev.SV → List Ev.Ob → Bool := fun args objs => match args, objs with
  | [.c (.int .i64 _)], [] => true
  | _, _ => false
def spg76 (F : YF76) : Ev.Spec := fun args objs k => match args, objs with
  | [.c (.int .i64 x0)], [] => bif true then F x0 (fun r => match r with | (r0, r1) => k (.tup [(false, [.own 0]), (false, [.int .i64 r0])], [.vec 5 (.int .u8) r1 true])) else none
  | _, _ => none
def spec76 (fuel : Nat) : Ev.Spec := spg76 (F_bits_Size fuel)
theorem ok76 (fuel : Nat) : FnOK Try.prog 76 (spec76 fuel) := by
  intro args objs kk r h
  unfold spec76 spg76 at h
  split at h
  · obtain ⟨hb, h⟩ := cond_some' h
    simp only [Bool.and_eq_true, Nat.beq_eq, decide_eq_true_eq] at hb
    clear hb
    exact fok76 fuel _ _ kk r ((F76_eq fuel _ kk).trans h)
  · cases h
end Go.Proofs.Ytajidgilfkineaa

set_option linter.unusedVariables false
set_option linter.unusedSimpArgs false
set_option maxRecDepth 100000
namespace Go.Proofs.Ytajidgilfkineaa
open Go Ev
def kp75_35f (i : Nat) : Option (List Nat) := Ev.look i []
def Gg75_35f (f76 : YF76) (f : Nat) : Option Ev.Spec := Ev.look f [(76, spg76 f76)]
def G75_35f (fuel : Nat) : Nat → Option Ev.Spec := Gg75_35f (F_bits_Size fuel)
def J75_35f (fuel : Nat) (i : Nat) : Option Ev.Blk := Ev.look i []
def F_segment_Header_1_35f (fuel : Nat) (x0 : Int) (x1 : (List Int)) (k0 : ((List Int)) → Option Ans) : Option Ans :=
  (F_bits_Size fuel (x0)
    (fun (y2_0, y2_1) =>
      bif Decidable.decide ((x1.length + y2_1.length) * (1 : Nat) ≤ (140737488355328 : Nat) ∧ x1.length + y2_1.length ≤ (140737488355328 : Nat)) then
      k0 (x1 ++ y2_1)
      else none))
abbrev YF75_35f : Type := (Int) → ((List Int)) → (((List Int)) → Option Ans) → Option Ans
theorem F75_35f_eqg (fuel : Nat) (f76 : YF76) (x0 : Int) (x1 : (List Int)) (k : Ev.Cont) : evalFn tab (Gg75_35f f76) (J75_35f fuel) kp75_35f fuel Try.f75 [.c (.int .i64 x0), .c (.ptr 0 0)] [.cells 28 [.own 1], .vec 5 (.int .u8) x1 false] k = (fun  (k0 : ((List Int)) → Option Ans) =>
  (f76 (x0)
    (fun (y2_0, y2_1) =>
      bif Decidable.decide ((x1.length + y2_1.length) * (1 : Nat) ≤ (140737488355328 : Nat) ∧ x1.length + y2_1.length ≤ (140737488355328 : Nat)) then
      k0 (x1 ++ y2_1)
      else none))) (fun r => match r with | r0 => k (.tup [], [.cells 28 [.own 1], .vec 5 (.int .u8) r0 true])) := by
  kernel_rfl
theorem F75_35f_eq (fuel : Nat) (x0 : Int) (x1 : (List Int)) (k : Ev.Cont) : evalFn tab (G75_35f fuel) (J75_35f fuel) kp75_35f fuel Try.f75 [.c (.int .i64 x0), .c (.ptr 0 0)] [.cells 28 [.own 1], .vec 5 (.int .u8) x1 false] k = F_segment_Header_1_35f fuel x0 x1 (fun r => match r with | r0 => k (.tup [], [.cells 28 [.own 1], .vec 5 (.int .u8) r0 true])) :=
  F75_35f_eqg fuel (F_bits_Size fuel) x0 x1 k
theorem hG75_35f (fuel : Nat) : GOK Try.prog (G75_35f fuel) :=
  gok_cons ⟨ok76 fuel, enters_of Try.func76 (by kernel_rfl) rfl⟩ <|
  gok_nil
theorem fok75_35f (fuel : Nat) : FnOK Try.prog 75 (evalFn tab (G75_35f fuel) (J75_35f fuel) kp75_35f fuel Try.f75) :=
  fn_ok tab_ok (hG75_35f fuel) mixed Try.func75 (c := (Try.f75.body).getD .skip) rfl (fun q hq => by
    rw [(by kernel_rfl : obl (J75_35f fuel) ((Try.f75.body).getD .skip) = [])] at hq
    cases hq)
def mt75_35f : List Ev.SV → List Ev.Ob → Bool := fun args objs => match args, objs with
  | [.c (.int .i64 _), .c (.ptr q0 q1)], [.cells q2 [.own q3], .vec q4 (.int .u8) _ false] => Nat.beq q0 0 && Nat.beq q1 0 && Nat.beq q2 28 && Nat.beq q3 1 && Nat.beq q4 5
  | _, _ => false
def spg75_35f (F : YF75_35f) : Ev.Spec := fun args objs k => match args, objs with
  | [.c (.int .i64 x0), .c (.ptr q0 q1)], [.cells q2 [.own q3], .vec q4 (.int .u8) x1 false] => bif Nat.beq q0 0 && Nat.beq q1 0 && Nat.beq q2 28 && Nat.beq q3 1 && Nat.beq q4 5 then F x0 x1 (fun r => match r with | r0 => k (.tup [], [.cells 28 [.own 1], .vec 5 (.int .u8) r0 true])) else none
  | _, _ => none
def spec75_35f (fuel : Nat) : Ev.Spec := spg75_35f (F_segment_Header_1_35f fuel)
theorem ok75_35f (fuel : Nat) : FnOK Try.prog 75 (spec75_35f fuel) := by
  intro args objs kk r h
  unfold spec75_35f spg75_35f at h
  split at h
  · obtain ⟨hb, h⟩ := cond_some' h
    simp only [Bool.and_eq_true, Nat.beq_eq, decide_eq_true_eq] at hb
    obtain ⟨⟨⟨⟨rfl, rfl⟩, rfl⟩, rfl⟩, rfl⟩ := hb
    exact fok75_35f fuel _ _ kk r ((F75_35f_eq fuel _ _ kk).trans h)
  · cases h
end Go.Proofs.Ytajidgilfkineaa

set_option linter.unusedVariables false
set_option linter.unusedSimpArgs false
set_option maxRecDepth 100000
namespace Go.Proofs.Ytajidgilfkineaa
open Go Ev
def kp43 (i : Nat) : Option (List Nat) := Ev.look i [(5, [1, 3, 57, 58, 59]), (100000, []), (400000, [2])]
def Gg43 (f : Nat) : Option Ev.Spec := Ev.look f []
def G43 (fuel : Nat) : Nat → Option Ev.Spec := Gg43
def S_segment_Valid_0 (fuel : Nat) (v : Int × (List Int) × Int × Int × Int × Int × Int × (List Int) × (List Bool) × (List Int)) (c : (Int × (List Int) × Int × Int × Int × Int × Int × (List Int) × (List Bool) × (List Int)) → Option Ans) (B : (Bool → Option Ans) × (Unit → Option Ans)) : Option Ans := match v, B with
  | (x0, x1, x2, x3, x4, x5, x6, x7, x8, x9), (ret, b) =>
   bif Decidable.decide (x3 < x2) then
      bif Decidable.decide ((0 : Int) ≤ x3 ∧ x3 < (↑x1.length : Int)) then
      bif Decidable.decide (x1.getD x3.toNat (0 : Int) ≤ x0) then
        ret Bool.false
       else
        bif Decidable.decide (x1.getD x3.toNat (0 : Int) ≥ x4) then
         ret Bool.false
        else
         c (x1.getD x3.toNat (0 : Int), x1, x2, Go.IntKind.i64.wrap (x3 + (1 : Int)), x4, x5, x6, x7, x8, x9)
      else none
     else
      b ()
def L_segment_Valid_0 (fuel : Nat) (v : Int × (List Int) × Int × Int × Int × Int × Int × (List Int) × (List Bool) × (List Int)) (ret : (Bool → Option Ans)) (b : (Unit → Option Ans)) : Option Ans := iter (S_segment_Valid_0 fuel) fuel v (ret, b)
def J43_0 (fuel : Nat) (i : Nat) : Option Ev.Blk := Ev.look i []
def T43_0 (v : Int × (List Int) × Int × Int × Int × Int × Int × (List Int) × (List Bool) × (List Int)) : Ev.St := match v with | (x0, x1, x2, x3, x4, x5, x6, x7, x8, x9) => ⟨[(1, .c (.ptr 0 0)), (3, .c (.int .i64 x0)), (57, .c (.sl (.int .i64) x1)), (58, .c (.int .i64 x2)), (59, .c (.int .i64 x3))], [(0, .cells 63 [.int .i64 x4, .int .i64 x5, .int .i64 x6, .sl (.int .i64) x7, .sl .bool x8, .sl (.int .u8) x9])], 1, 0⟩
def E43_0 (K : Ev.Ex → Ev.St → Option Ans) : (Bool → Option Ans) × (Unit → Option Ans) := ((fun v => match v with | x0 => K .ret ⟨[(2, .c (.bool x0))], [], 0, 0⟩), (fun v => match v with | () => K .normal ⟨[], [], 0, 0⟩))
theorem S43_0_ok (fuel : Nat) (R : Ev.St → Option Ans) (K : Ev.Ex → Ev.St → Option Ans) (x0 : Int) (x1 : (List Int)) (x2 : Int) (x3 : Int) (x4 : Int) (x5 : Int) (x6 : Int) (x7 : (List Int)) (x8 : (List Bool)) (x9 : (List Int)) : evalCode tab (G43 fuel) (J43_0 fuel) kp43 fuel (bodyOf 0 Try.f43) (T43_0 (x0, x1, x2, x3, x4, x5, x6, x7, x8, x9)) (lc kp43 5 0 R K) = S_segment_Valid_0 fuel (x0, x1, x2, x3, x4, x5, x6, x7, x8, x9) (fun v => R (T43_0 v)) (E43_0 K) := by
  kernel_rfl
def B43_0 (fuel : Nat) : Ev.Blk := fun st K => match canonO (kp43 5) st with
  | some s => (match s with
    | ⟨[(q0, .c (.ptr q1 q2)), (q3, .c (.int .i64 x0)), (q4, .c (.sl (.int .i64) x1)), (q5, .c (.int .i64 x2)), (q6, .c (.int .i64 x3))], [(q7, .cells q8 [.int .i64 x4, .int .i64 x5, .int .i64 x6, .sl (.int .i64) x7, .sl .bool x8, .sl (.int .u8) x9])], q9, q10⟩ => bif Nat.beq q0 1 && Nat.beq q1 0 && Nat.beq q2 0 && Nat.beq q3 3 && Nat.beq q4 57 && Nat.beq q5 58 && Nat.beq q6 59 && Nat.beq q7 0 && Nat.beq q8 63 && Nat.beq q9 1 && Nat.beq q10 0 then iter (S_segment_Valid_0 fuel) fuel (x0, x1, x2, x3, x4, x5, x6, x7, x8, x9) (E43_0 K) else none
    | _ => none)
  | none => none
theorem B43_0_ok (fuel : Nat) (st : Ev.St) (K : Ev.Ex → Ev.St → Option Ans) (r : Ans) (h : B43_0 fuel st K = some r) : evalCode tab (G43 fuel) (J43_0 fuel) kp43 fuel (.block 0 (.loop (bodyOf 0 Try.f43))) st K = some r := by
  unfold B43_0 at h
  split at h
  · rename_i s hs
    split at h
    · obtain ⟨hb, h⟩ := cond_some' h
      simp only [Bool.and_eq_true, Nat.beq_eq, decide_eq_true_eq] at hb
      obtain ⟨⟨⟨⟨⟨⟨⟨⟨⟨⟨rfl, rfl⟩, rfl⟩, rfl⟩, rfl⟩, rfl⟩, rfl⟩, rfl⟩, rfl⟩, rfl⟩, rfl⟩ := hb
      exact blk_loop (S := T43_0) (ks := E43_0) (step := S_segment_Valid_0 fuel) (v := (_, _, _, _, _, _, _, _, _, _)) (by kernel_rfl) (by kernel_rfl) (fun R K v => by obtain ⟨x0, x1, x2, x3, x4, x5, x6, x7, x8, x9⟩ := v; exact S43_0_ok fuel R K x0 x1 x2 x3 x4 x5 x6 x7 x8 x9) hs h
    · cases h
  · cases h
def J43 (fuel : Nat) (i : Nat) : Option Ev.Blk := Ev.look i [(100000, B43_0 fuel)]
def F_segment_Valid (fuel : Nat) (x0 : Int) (x1 : Int) (x2 : Int) (x3 : (List Int)) (x4 : (List Bool)) (x5 : (List Int)) (k0 : (Bool) → Option Ans) : Option Ans :=
  bif Decidable.decide (x0 < (0 : Int)) then
   k0 Bool.false
  else
   bif Decidable.decide (x0 > (10000 : Int)) then
    k0 Bool.false
   else
    bif Decidable.decide (x1 < (0 : Int)) then
     k0 Bool.false
    else
     bif Decidable.decide (x1 > (15 : Int)) then
      k0 Bool.false
     else
      bif Decidable.decide (x2 < (0 : Int)) then
       k0 Bool.false
      else
       bif Decidable.decide (x2 > (1000 : Int)) then
        k0 Bool.false
       else
        bif Decidable.decide ((↑x3.length : Int) > (20 : Int)) then
         k0 Bool.false
        else
         bif (↑x4.length : Int) != Go.IntKind.i64.wrap ((↑x3.length : Int) + (1 : Int)) then
          k0 Bool.false
         else
          bif Decidable.decide ((↑x5.length : Int) > (20000 : Int)) then
           k0 Bool.false
          else
           (L_segment_Valid_0 fuel ((-1 : Int), x3, (↑x3.length : Int), (0 : Int), x0, x1, x2, x3, x4, x5)
             (fun ret0_0 =>
               k0 ret0_0)
             (fun () =>
               k0 Bool.true))
abbrev YF43 : Type := (Int) → (Int) → (Int) → ((List Int)) → ((List Bool)) → ((List Int)) → ((Bool) → Option Ans) → Option Ans
theorem F43_eq (fuel : Nat) (x0 : Int) (x1 : Int) (x2 : Int) (x3 : (List Int)) (x4 : (List Bool)) (x5 : (List Int)) (k : Ev.Cont) : evalFn tab (G43 fuel) (J43 fuel) kp43 fuel Try.f43 [.agg [.int .i64 x0, .int .i64 x1, .int .i64 x2, .sl (.int .i64) x3, .sl .bool x4, .sl (.int .u8) x5]] [] k = F_segment_Valid fuel x0 x1 x2 x3 x4 x5 (fun r => match r with | r0 => k (.c (.bool r0), [])) := by
  kernel_rfl
theorem hG43 (fuel : Nat) : GOK Try.prog (G43 fuel) :=
  gok_nil
theorem B43_0_blk (fuel : Nat) : BlkOK Try.prog Try.f43.ntmps (.block 0 (.loop (bodyOf 0 Try.f43))) (B43_0 fuel) :=
  blk_of (blk_of_code tab_ok (hG43 fuel) mixed (J := J43_0 fuel) (kp := kp43) (fuel := fuel) (by kernel_rfl) (fun q hq => by
    rw [(by kernel_rfl : obl (J43_0 fuel) (.block 0 (.loop (bodyOf 0 Try.f43))) = [])] at hq
    cases hq)) (B43_0_ok fuel)
theorem fok43 (fuel : Nat) : FnOK Try.prog 43 (evalFn tab (G43 fuel) (J43 fuel) kp43 fuel Try.f43) :=
  fn_ok tab_ok (hG43 fuel) mixed Try.func43 (c := (Try.f43.body).getD .skip) rfl (fun q hq => by
    rw [(by kernel_rfl : obl (J43 fuel) ((Try.f43.body).getD .skip) = [(.block 0 (.loop (bodyOf 0 Try.f43)), B43_0 fuel)])] at hq
    simp only [List.mem_cons, List.not_mem_nil, or_false] at hq
    subst hq
    · exact B43_0_blk fuel)
def mt43 : List Ev.SV → List Ev.Ob → Bool := fun args objs => match args, objs with
  | [.agg [.int .i64 _, .int .i64 _, .int .i64 _, .sl (.int .i64) _, .sl .bool _, .sl (.int .u8) _]], [] => true
  | _, _ => false
def spg43 (F : YF43) : Ev.Spec := fun args objs k => match args, objs with
  | [.agg [.int .i64 x0, .int .i64 x1, .int .i64 x2, .sl (.int .i64) x3, .sl .bool x4, .sl (.int .u8) x5]], [] => bif true then F x0 x1 x2 x3 x4 x5 (fun r => match r with | r0 => k (.c (.bool r0), [])) else none
  | _, _ => none
def spec43 (fuel : Nat) : Ev.Spec := spg43 (F_segment_Valid fuel)
theorem ok43 (fuel : Nat) : FnOK Try.prog 43 (spec43 fuel) := by
  intro args objs kk r h
  unfold spec43 spg43 at h
  split at h
  · obtain ⟨hb, h⟩ := cond_some' h
    simp only [Bool.and_eq_true, Nat.beq_eq, decide_eq_true_eq] at hb
    clear hb
    exact fok43 fuel _ _ kk r ((F43_eq fuel _ _ _ _ _ _ kk).trans h)
  · cases h
end Go.Proofs.Ytajidgilfkineaa

set_option linter.unusedVariables false
set_option linter.unusedSimpArgs false
set_option maxRecDepth 100000
namespace Go.Proofs.Ytajidgilfkineaa
open Go Ev
def kp77 (i : Nat) : Option (List Nat) := Ev.look i []
def Gg77 (f : Nat) : Option Ev.Spec := Ev.look f []
def G77 (fuel : Nat) : Nat → Option Ev.Spec := Gg77
def J77 (fuel : Nat) (i : Nat) : Option Ev.Blk := Ev.look i []
def F_segment_flag (fuel : Nat) (x0 : Bool) (k0 : (Int) → Option Ans) : Option Ans :=
  bif x0 then
   k0 ((1 : Int))
  else
   k0 ((0 : Int))
abbrev YF77 : Type := (Bool) → ((Int) → Option Ans) → Option Ans
theorem F77_eq (fuel : Nat) (x0 : Bool) (k : Ev.Cont) : evalFn tab (G77 fuel) (J77 fuel) kp77 fuel Try.f77 [.c (.bool x0)] [] k = F_segment_flag fuel x0 (fun r => match r with | r0 => k (.c (.int .u8 r0), [])) := by
  kernel_rfl
theorem hG77 (fuel : Nat) : GOK Try.prog (G77 fuel) :=
  gok_nil
theorem fok77 (fuel : Nat) : FnOK Try.prog 77 (evalFn tab (G77 fuel) (J77 fuel) kp77 fuel Try.f77) :=
  fn_ok tab_ok (hG77 fuel) mixed Try.func77 (c := (Try.f77.body).getD .skip) rfl (fun q hq => by
    rw [(by kernel_rfl : obl (J77 fuel) ((Try.f77.body).getD .skip) = [])] at hq
    cases hq)
def mt77 : List Ev.SV → List Ev.Ob → Bool := fun args objs => match args, objs with
  | [.c (.bool _)], [] => true
  | _, _ => false
def spg77 (F : YF77) : Ev.Spec := fun args objs k => match args, objs with
  | [.c (.bool x0)], [] => bif true then F x0 (fun r => match r with | r0 => k (.c (.int .u8 r0), [])) else none
  | _, _ => none
def spec77 (fuel : Nat) : Ev.Spec := spg77 (F_segment_flag fuel)
theorem ok77 (fuel : Nat) : FnOK Try.prog 77 (spec77 fuel) := by
  intro args objs kk r h
  unfold spec77 spg77 at h
  split at h
  · obtain ⟨hb, h⟩ := cond_some' h
    simp only [Bool.and_eq_true, Nat.beq_eq, decide_eq_true_eq] at hb
    clear hb
    exact fok77 fuel _ _ kk r ((F77_eq fuel _ kk).trans h)
  · cases h
end Go.Proofs.Ytajidgilfkineaa

set_option linter.unusedVariables false
set_option linter.unusedSimpArgs false
set_option maxRecDepth 100000
namespace Go.Proofs.Ytajidgilfkineaa
open Go Ev
def kp41 (i : Nat) : Option (List Nat) := Ev.look i [(11, [1, 4, 5, 44, 45, 46]), (17, [1, 4, 5, 8, 58, 59, 60]), (100000, [1, 4, 5]), (100002, [1, 4, 5, 8]), (400000, [2, 3]), (400002, [2, 3])]
def Gg41 (f43 : YF43) (f75_35f : YF75_35f) (f77 : YF77) (f78 : YF78) (f : Nat) : Option Ev.Spec := Ev.look f [(43, spg43 f43), (75, spg75_35f f75_35f), (77, spg77 f77), (78, spg78 f78)]
def G41 (fuel : Nat) : Nat → Option Ev.Spec := Gg41 (F_segment_Valid fuel) (F_segment_Header_1_35f fuel) (F_segment_flag fuel) (F_bits_Pack fuel)
def S_segment_Header_2 (fuel : Nat) (v : (List Bool) × Int × Int × Int × Int × Int × (List Int) × (List Bool) × (List Int) × (List Int) × (List Int)) (c : ((List Bool) × Int × Int × Int × Int × Int × (List Int) × (List Bool) × (List Int) × (List Int) × (List Int)) → Option Ans) (B : (Int × Int × Int × (List Int) × (List Bool) × (List Int) × (List Int) × (List Int) → Option Ans)) : Option Ans := match v, B with
  | (x0, x1, x2, x3, x4, x5, x6, x7, x8, x9, x10), b =>
   bif Decidable.decide (x2 < x1) then
      bif Decidable.decide ((0 : Int) ≤ x2 ∧ x2 < (↑x0.length : Int)) then
      (F_segment_flag fuel (x0.getD x2.toNat Bool.false)
         (fun y4 =>
           bif Decidable.decide ((x9.length + [y4].length) * (1 : Nat) ≤ (140737488355328 : Nat) ∧ x9.length + [y4].length ≤ (140737488355328 : Nat)) then
           c (x0, x1, Go.IntKind.i64.wrap (x2 + (1 : Int)), x3, x4, x5, x6, x7, x8, x9 ++ [y4], x10)
           else none))
      else none
     else
      b (x3, x4, x5, x6, x7, x8, x9, x10)
def L_segment_Header_2 (fuel : Nat) (v : (List Bool) × Int × Int × Int × Int × Int × (List Int) × (List Bool) × (List Int) × (List Int) × (List Int)) (b : (Int × Int × Int × (List Int) × (List Bool) × (List Int) × (List Int) × (List Int) → Option Ans)) : Option Ans := iter (S_segment_Header_2 fuel) fuel v b
def J41_2 (fuel : Nat) (i : Nat) : Option Ev.Blk := Ev.look i []
def T41_2 (v : (List Bool) × Int × Int × Int × Int × Int × (List Int) × (List Bool) × (List Int) × (List Int) × (List Int)) : Ev.St := match v with | (x0, x1, x2, x3, x4, x5, x6, x7, x8, x9, x10) => ⟨[(1, .c (.ptr 0 0)), (4, .c (.ptr 1 0)), (5, .c (.clo 75 [1])), (8, .c (.own 2)), (58, .c (.sl .bool x0)), (59, .c (.int .i64 x1)), (60, .c (.int .i64 x2))], [(0, .cells 63 [.int .i64 x3, .int .i64 x4, .int .i64 x5, .sl (.int .i64) x6, .sl .bool x7, .sl (.int .u8) x8]), (1, .cells 28 [.own 3]), (2, .vec 5 (.int .u8) x9 true), (3, .vec 5 (.int .u8) x10 true)], 4, 0⟩
def E41_2 (K : Ev.Ex → Ev.St → Option Ans) : (Int × Int × Int × (List Int) × (List Bool) × (List Int) × (List Int) × (List Int) → Option Ans) := (fun v => match v with | (x0, x1, x2, x3, x4, x5, x6, x7) => K .normal ⟨[(1, .c (.ptr 0 0)), (4, .c (.ptr 1 0)), (5, .c (.clo 75 [1])), (8, .c (.own 2))], [(0, .cells 63 [.int .i64 x0, .int .i64 x1, .int .i64 x2, .sl (.int .i64) x3, .sl .bool x4, .sl (.int .u8) x5]), (1, .cells 28 [.own 3]), (2, .vec 5 (.int .u8) x6 true), (3, .vec 5 (.int .u8) x7 true)], 4, 0⟩)
theorem S41_2_okg (fuel : Nat) (f43 : YF43) (f75_35f : YF75_35f) (f77 : YF77) (f78 : YF78) (R : Ev.St → Option Ans) (K : Ev.Ex → Ev.St → Option Ans) (x0 : (List Bool)) (x1 : Int) (x2 : Int) (x3 : Int) (x4 : Int) (x5 : Int) (x6 : (List Int)) (x7 : (List Bool)) (x8 : (List Int)) (x9 : (List Int)) (x10 : (List Int)) : evalCode tab (Gg41 f43 f75_35f f77 f78) (J41_2 fuel) kp41 fuel (bodyOf 2 Try.f41) (T41_2 (x0, x1, x2, x3, x4, x5, x6, x7, x8, x9, x10)) (lc kp41 17 2 R K) = (fun (c : ((List Bool) × Int × Int × Int × Int × Int × (List Int) × (List Bool) × (List Int) × (List Int) × (List Int)) → Option Ans) (B : (Int × Int × Int × (List Int) × (List Bool) × (List Int) × (List Int) × (List Int) → Option Ans)) => match B with
  | b =>
   bif Decidable.decide (x2 < x1) then
      bif Decidable.decide ((0 : Int) ≤ x2 ∧ x2 < (↑x0.length : Int)) then
      (f77 (x0.getD x2.toNat Bool.false)
         (fun y4 =>
           bif Decidable.decide ((x9.length + [y4].length) * (1 : Nat) ≤ (140737488355328 : Nat) ∧ x9.length + [y4].length ≤ (140737488355328 : Nat)) then
           c (x0, x1, Go.IntKind.i64.wrap (x2 + (1 : Int)), x3, x4, x5, x6, x7, x8, x9 ++ [y4], x10)
           else none))
      else none
     else
      b (x3, x4, x5, x6, x7, x8, x9, x10)) (fun v => R (T41_2 v)) (E41_2 K) := by
  kernel_rfl
theorem S41_2_ok (fuel : Nat) (R : Ev.St → Option Ans) (K : Ev.Ex → Ev.St → Option Ans) (x0 : (List Bool)) (x1 : Int) (x2 : Int) (x3 : Int) (x4 : Int) (x5 : Int) (x6 : (List Int)) (x7 : (List Bool)) (x8 : (List Int)) (x9 : (List Int)) (x10 : (List Int)) : evalCode tab (G41 fuel) (J41_2 fuel) kp41 fuel (bodyOf 2 Try.f41) (T41_2 (x0, x1, x2, x3, x4, x5, x6, x7, x8, x9, x10)) (lc kp41 17 2 R K) = S_segment_Header_2 fuel (x0, x1, x2, x3, x4, x5, x6, x7, x8, x9, x10) (fun v => R (T41_2 v)) (E41_2 K) :=
  S41_2_okg fuel (F_segment_Valid fuel) (F_segment_Header_1_35f fuel) (F_segment_flag fuel) (F_bits_Pack fuel) R K x0 x1 x2 x3 x4 x5 x6 x7 x8 x9 x10
def B41_2 (fuel : Nat) : Ev.Blk := fun st K => match canonO (kp41 17) st with
  | some s => (match s with
    | ⟨[(q0, .c (.ptr q1 q2)), (q3, .c (.ptr q4 q5)), (q6, .c (.clo q7 [q8])), (q9, .c (.own q10)), (q11, .c (.sl .bool x0)), (q12, .c (.int .i64 x1)), (q13, .c (.int .i64 x2))], [(q14, .cells q15 [.int .i64 x3, .int .i64 x4, .int .i64 x5, .sl (.int .i64) x6, .sl .bool x7, .sl (.int .u8) x8]), (q16, .cells q17 [.own q18]), (q19, .vec q20 (.int .u8) x9 true), (q21, .vec q22 (.int .u8) x10 true)], q23, q24⟩ => bif Nat.beq q0 1 && Nat.beq q1 0 && Nat.beq q2 0 && Nat.beq q3 4 && Nat.beq q4 1 && Nat.beq q5 0 && Nat.beq q6 5 && Nat.beq q7 75 && Nat.beq q8 1 && Nat.beq q9 8 && Nat.beq q10 2 && Nat.beq q11 58 && Nat.beq q12 59 && Nat.beq q13 60 && Nat.beq q14 0 && Nat.beq q15 63 && Nat.beq q16 1 && Nat.beq q17 28 && Nat.beq q18 3 && Nat.beq q19 2 && Nat.beq q20 5 && Nat.beq q21 3 && Nat.beq q22 5 && Nat.beq q23 4 && Nat.beq q24 0 then iter (S_segment_Header_2 fuel) fuel (x0, x1, x2, x3, x4, x5, x6, x7, x8, x9, x10) (E41_2 K) else none
    | _ => none)
  | none => none
theorem B41_2_ok (fuel : Nat) (st : Ev.St) (K : Ev.Ex → Ev.St → Option Ans) (r : Ans) (h : B41_2 fuel st K = some r) : evalCode tab (G41 fuel) (J41_2 fuel) kp41 fuel (.block 2 (.loop (bodyOf 2 Try.f41))) st K = some r := by
  unfold B41_2 at h
  split at h
  · rename_i s hs
    split at h
    · obtain ⟨hb, h⟩ := cond_some' h
      simp only [Bool.and_eq_true, Nat.beq_eq, decide_eq_true_eq] at hb
      obtain ⟨⟨⟨⟨⟨⟨⟨⟨⟨⟨⟨⟨⟨⟨⟨⟨⟨⟨⟨⟨⟨⟨⟨⟨rfl, rfl⟩, rfl⟩, rfl⟩, rfl⟩, rfl⟩, rfl⟩, rfl⟩, rfl⟩, rfl⟩, rfl⟩, rfl⟩, rfl⟩, rfl⟩, rfl⟩, rfl⟩, rfl⟩, rfl⟩, rfl⟩, rfl⟩, rfl⟩, rfl⟩, rfl⟩, rfl⟩, rfl⟩ := hb
      exact blk_loop (S := T41_2) (ks := E41_2) (step := S_segment_Header_2 fuel) (v := (_, _, _, _, _, _, _, _, _, _, _)) (by kernel_rfl) (by kernel_rfl) (fun R K v => by obtain ⟨x0, x1, x2, x3, x4, x5, x6, x7, x8, x9, x10⟩ := v; exact S41_2_ok fuel R K x0 x1 x2 x3 x4 x5 x6 x7 x8 x9 x10) hs h
    · cases h
  · cases h
def S_segment_Header_0 (fuel : Nat) (v : (List Int) × Int × Int × Int × Int × Int × (List Int) × (List Bool) × (List Int) × (List Int)) (c : ((List Int) × Int × Int × Int × Int × Int × (List Int) × (List Bool) × (List Int) × (List Int)) → Option Ans) (B : (Int × Int × Int × (List Int) × (List Bool) × (List Int) × (List Int) → Option Ans)) : Option Ans := match v, B with
  | (x0, x1, x2, x3, x4, x5, x6, x7, x8, x9), b =>
   bif Decidable.decide (x2 < x1) then
      bif Decidable.decide ((0 : Int) ≤ x2 ∧ x2 < (↑x0.length : Int)) then
      (F_segment_Header_1_35f fuel (Go.IntKind.i64.wrap (x3 - x0.getD x2.toNat (0 : Int))) (x9)
         (fun y4 =>
           c (x0, x1, Go.IntKind.i64.wrap (x2 + (1 : Int)), x3, x4, x5, x6, x7, x8, y4)))
      else none
     else
      b (x3, x4, x5, x6, x7, x8, x9)
def L_segment_Header_0 (fuel : Nat) (v : (List Int) × Int × Int × Int × Int × Int × (List Int) × (List Bool) × (List Int) × (List Int)) (b : (Int × Int × Int × (List Int) × (List Bool) × (List Int) × (List Int) → Option Ans)) : Option Ans := iter (S_segment_Header_0 fuel) fuel v b
def J41_0 (fuel : Nat) (i : Nat) : Option Ev.Blk := Ev.look i [(100002, B41_2 fuel)]
def T41_0 (v : (List Int) × Int × Int × Int × Int × Int × (List Int) × (List Bool) × (List Int) × (List Int)) : Ev.St := match v with | (x0, x1, x2, x3, x4, x5, x6, x7, x8, x9) => ⟨[(1, .c (.ptr 0 0)), (4, .c (.ptr 1 0)), (5, .c (.clo 75 [1])), (44, .c (.sl (.int .i64) x0)), (45, .c (.int .i64 x1)), (46, .c (.int .i64 x2))], [(0, .cells 63 [.int .i64 x3, .int .i64 x4, .int .i64 x5, .sl (.int .i64) x6, .sl .bool x7, .sl (.int .u8) x8]), (1, .cells 28 [.own 2]), (2, .vec 5 (.int .u8) x9 true)], 3, 0⟩
def E41_0 (K : Ev.Ex → Ev.St → Option Ans) : (Int × Int × Int × (List Int) × (List Bool) × (List Int) × (List Int) → Option Ans) := (fun v => match v with | (x0, x1, x2, x3, x4, x5, x6) => K .normal ⟨[(1, .c (.ptr 0 0)), (4, .c (.ptr 1 0)), (5, .c (.clo 75 [1]))], [(0, .cells 63 [.int .i64 x0, .int .i64 x1, .int .i64 x2, .sl (.int .i64) x3, .sl .bool x4, .sl (.int .u8) x5]), (1, .cells 28 [.own 2]), (2, .vec 5 (.int .u8) x6 true)], 3, 0⟩)
theorem S41_0_okg (fuel : Nat) (f43 : YF43) (f75_35f : YF75_35f) (f77 : YF77) (f78 : YF78) (R : Ev.St → Option Ans) (K : Ev.Ex → Ev.St → Option Ans) (x0 : (List Int)) (x1 : Int) (x2 : Int) (x3 : Int) (x4 : Int) (x5 : Int) (x6 : (List Int)) (x7 : (List Bool)) (x8 : (List Int)) (x9 : (List Int)) : evalCode tab (Gg41 f43 f75_35f f77 f78) (J41_0 fuel) kp41 fuel (bodyOf 0 Try.f41) (T41_0 (x0, x1, x2, x3, x4, x5, x6, x7, x8, x9)) (lc kp41 11 0 R K) = (fun (c : ((List Int) × Int × Int × Int × Int × Int × (List Int) × (List Bool) × (List Int) × (List Int)) → Option Ans) (B : (Int × Int × Int × (List Int) × (List Bool) × (List Int) × (List Int) → Option Ans)) => match B with
  | b =>
   bif Decidable.decide (x2 < x1) then
      bif Decidable.decide ((0 : Int) ≤ x2 ∧ x2 < (↑x0.length : Int)) then
      (f75_35f (Go.IntKind.i64.wrap (x3 - x0.getD x2.toNat (0 : Int))) (x9)
         (fun y4 =>
           c (x0, x1, Go.IntKind.i64.wrap (x2 + (1 : Int)), x3, x4, x5, x6, x7, x8, y4)))
      else none
     else
      b (x3, x4, x5, x6, x7, x8, x9)) (fun v => R (T41_0 v)) (E41_0 K) := by
  kernel_rfl
theorem S41_0_ok (fuel : Nat) (R : Ev.St → Option Ans) (K : Ev.Ex → Ev.St → Option Ans) (x0 : (List Int)) (x1 : Int) (x2 : Int) (x3 : Int) (x4 : Int) (x5 : Int) (x6 : (List Int)) (x7 : (List Bool)) (x8 : (List Int)) (x9 : (List Int)) : evalCode tab (G41 fuel) (J41_0 fuel) kp41 fuel (bodyOf 0 Try.f41) (T41_0 (x0, x1, x2, x3, x4, x5, x6, x7, x8, x9)) (lc kp41 11 0 R K) = S_segment_Header_0 fuel (x0, x1, x2, x3, x4, x5, x6, x7, x8, x9) (fun v => R (T41_0 v)) (E41_0 K) :=
  S41_0_okg fuel (F_segment_Valid fuel) (F_segment_Header_1_35f fuel) (F_segment_flag fuel) (F_bits_Pack fuel) R K x0 x1 x2 x3 x4 x5 x6 x7 x8 x9
def B41_0 (fuel : Nat) : Ev.Blk := fun st K => match canonO (kp41 11) st with
  | some s => (match s with
    | ⟨[(q0, .c (.ptr q1 q2)), (q3, .c (.ptr q4 q5)), (q6, .c (.clo q7 [q8])), (q9, .c (.sl (.int .i64) x0)), (q10, .c (.int .i64 x1)), (q11, .c (.int .i64 x2))], [(q12, .cells q13 [.int .i64 x3, .int .i64 x4, .int .i64 x5, .sl (.int .i64) x6, .sl .bool x7, .sl (.int .u8) x8]), (q14, .cells q15 [.own q16]), (q17, .vec q18 (.int .u8) x9 true)], q19, q20⟩ => bif Nat.beq q0 1 && Nat.beq q1 0 && Nat.beq q2 0 && Nat.beq q3 4 && Nat.beq q4 1 && Nat.beq q5 0 && Nat.beq q6 5 && Nat.beq q7 75 && Nat.beq q8 1 && Nat.beq q9 44 && Nat.beq q10 45 && Nat.beq q11 46 && Nat.beq q12 0 && Nat.beq q13 63 && Nat.beq q14 1 && Nat.beq q15 28 && Nat.beq q16 2 && Nat.beq q17 2 && Nat.beq q18 5 && Nat.beq q19 3 && Nat.beq q20 0 then iter (S_segment_Header_0 fuel) fuel (x0, x1, x2, x3, x4, x5, x6, x7, x8, x9) (E41_0 K) else none
    | _ => none)
  | none => none
theorem B41_0_ok (fuel : Nat) (st : Ev.St) (K : Ev.Ex → Ev.St → Option Ans) (r : Ans) (h : B41_0 fuel st K = some r) : evalCode tab (G41 fuel) (J41_0 fuel) kp41 fuel (.block 0 (.loop (bodyOf 0 Try.f41))) st K = some r := by
  unfold B41_0 at h
  split at h
  · rename_i s hs
    split at h
    · obtain ⟨hb, h⟩ := cond_some' h
      simp only [Bool.and_eq_true, Nat.beq_eq, decide_eq_true_eq] at hb
      obtain ⟨⟨⟨⟨⟨⟨⟨⟨⟨⟨⟨⟨⟨⟨⟨⟨⟨⟨⟨⟨rfl, rfl⟩, rfl⟩, rfl⟩, rfl⟩, rfl⟩, rfl⟩, rfl⟩, rfl⟩, rfl⟩, rfl⟩, rfl⟩, rfl⟩, rfl⟩, rfl⟩, rfl⟩, rfl⟩, rfl⟩, rfl⟩, rfl⟩, rfl⟩ := hb
      exact blk_loop (S := T41_0) (ks := E41_0) (step := S_segment_Header_0 fuel) (v := (_, _, _, _, _, _, _, _, _, _)) (by kernel_rfl) (by kernel_rfl) (fun R K v => by obtain ⟨x0, x1, x2, x3, x4, x5, x6, x7, x8, x9⟩ := v; exact S41_0_ok fuel R K x0 x1 x2 x3 x4 x5 x6 x7 x8 x9) hs h
    · cases h
  · cases h
def J41 (fuel : Nat) (i : Nat) : Option Ev.Blk := Ev.look i [(100002, B41_2 fuel), (100000, B41_0 fuel)]
def F_segment_Header (fuel : Nat) (x0 : Int) (x1 : Int) (x2 : Int) (x3 : (List Int)) (x4 : (List Bool)) (x5 : (List Int)) (k0 : (Int × (List Int)) → Option Ans) : Option Ans :=
  (F_segment_Valid fuel (x0) (x1) (x2) (x3) (x4) (x5)
    (fun y2 =>
      bif !y2 then
       k0 ((2 : Int), [])
      else
       (F_segment_Header_1_35f fuel (x0) ([])
         (fun y7 =>
           bif (↑x3.length : Int) == (0 : Int) then
            bif Decidable.decide ((y7.length + [Go.IntKind.u8.wrap x1].length) * (1 : Nat) ≤ (140737488355328 : Nat) ∧ y7.length + [Go.IntKind.u8.wrap x1].length ≤ (140737488355328 : Nat)) then
            (L_segment_Header_2 fuel (x4, (↑x4.length : Int), (0 : Int), x0, x1, x2, x3, x4, x5, [], y7 ++ [Go.IntKind.u8.wrap x1])
               (fun (b2_0, b2_1, b2_2, b2_3, b2_4, b2_5, b2_6, b2_7) =>
                 (F_bits_Pack fuel (b2_6)
                   (fun (y17_0, y17_1) =>
                     bif Decidable.decide ((b2_7.length + y17_1.length) * (1 : Nat) ≤ (140737488355328 : Nat) ∧ b2_7.length + y17_1.length ≤ (140737488355328 : Nat)) then
                     (F_segment_Header_1_35f fuel (b2_2) (b2_7 ++ y17_1)
                        (fun y22 =>
                          (F_segment_Header_1_35f fuel ((↑b2_5.length : Int)) (y22)
                            (fun y26 =>
                              k0 ((0 : Int), y26)))))
                     else none))))
            else none
           else
            bif Decidable.decide ((y7.length + [Go.IntKind.u8.wrap (Go.IntKind.i64.wrap (x1 + (16 : Int)))].length) * (1 : Nat) ≤ (140737488355328 : Nat) ∧ y7.length + [Go.IntKind.u8.wrap (Go.IntKind.i64.wrap (x1 + (16 : Int)))].length ≤ (140737488355328 : Nat)) then
            (F_segment_Header_1_35f fuel ((↑x3.length : Int)) (y7 ++ [Go.IntKind.u8.wrap (Go.IntKind.i64.wrap (x1 + (16 : Int)))])
               (fun y13 =>
                 (L_segment_Header_0 fuel (x3, (↑x3.length : Int), (0 : Int), x0, x1, x2, x3, x4, x5, y13)
                   (fun (b0_0, b0_1, b0_2, b0_3, b0_4, b0_5, b0_6) =>
                     (L_segment_Header_2 fuel (b0_4, (↑b0_4.length : Int), (0 : Int), b0_0, b0_1, b0_2, b0_3, b0_4, b0_5, [], b0_6)
                       (fun (b2_0, b2_1, b2_2, b2_3, b2_4, b2_5, b2_6, b2_7) =>
                         (F_bits_Pack fuel (b2_6)
                           (fun (y25_0, y25_1) =>
                             bif Decidable.decide ((b2_7.length + y25_1.length) * (1 : Nat) ≤ (140737488355328 : Nat) ∧ b2_7.length + y25_1.length ≤ (140737488355328 : Nat)) then
                             (F_segment_Header_1_35f fuel (b2_2) (b2_7 ++ y25_1)
                                (fun y30 =>
                                  (F_segment_Header_1_35f fuel ((↑b2_5.length : Int)) (y30)
                                    (fun y34 =>
                                      k0 ((0 : Int), y34)))))
                             else none))))))))
            else none))))
abbrev YF41 : Type := (Int) → (Int) → (Int) → ((List Int)) → ((List Bool)) → ((List Int)) → ((Int × (List Int)) → Option Ans) → Option Ans
theorem F41_eqg (fuel : Nat) (f43 : YF43) (f75_35f : YF75_35f) (f77 : YF77) (f78 : YF78) (x0 : Int) (x1 : Int) (x2 : Int) (x3 : (List Int)) (x4 : (List Bool)) (x5 : (List Int)) (k : Ev.Cont) : evalFn tab (Gg41 f43 f75_35f f77 f78) (J41 fuel) kp41 fuel Try.f41 [.agg [.int .i64 x0, .int .i64 x1, .int .i64 x2, .sl (.int .i64) x3, .sl .bool x4, .sl (.int .u8) x5]] [] k = (fun  (k0 : (Int × (List Int)) → Option Ans) =>
  (f43 (x0) (x1) (x2) (x3) (x4) (x5)
    (fun y2 =>
      bif !y2 then
       k0 ((2 : Int), [])
      else
       (f75_35f (x0) ([])
         (fun y7 =>
           bif (↑x3.length : Int) == (0 : Int) then
            bif Decidable.decide ((y7.length + [Go.IntKind.u8.wrap x1].length) * (1 : Nat) ≤ (140737488355328 : Nat) ∧ y7.length + [Go.IntKind.u8.wrap x1].length ≤ (140737488355328 : Nat)) then
            (L_segment_Header_2 fuel (x4, (↑x4.length : Int), (0 : Int), x0, x1, x2, x3, x4, x5, [], y7 ++ [Go.IntKind.u8.wrap x1])
               (fun (b2_0, b2_1, b2_2, b2_3, b2_4, b2_5, b2_6, b2_7) =>
                 (f78 (b2_6)
                   (fun (y17_0, y17_1) =>
                     bif Decidable.decide ((b2_7.length + y17_1.length) * (1 : Nat) ≤ (140737488355328 : Nat) ∧ b2_7.length + y17_1.length ≤ (140737488355328 : Nat)) then
                     (f75_35f (b2_2) (b2_7 ++ y17_1)
                        (fun y22 =>
                          (f75_35f ((↑b2_5.length : Int)) (y22)
                            (fun y26 =>
                              k0 ((0 : Int), y26)))))
                     else none))))
            else none
           else
            bif Decidable.decide ((y7.length + [Go.IntKind.u8.wrap (Go.IntKind.i64.wrap (x1 + (16 : Int)))].length) * (1 : Nat) ≤ (140737488355328 : Nat) ∧ y7.length + [Go.IntKind.u8.wrap (Go.IntKind.i64.wrap (x1 + (16 : Int)))].length ≤ (140737488355328 : Nat)) then
            (f75_35f ((↑x3.length : Int)) (y7 ++ [Go.IntKind.u8.wrap (Go.IntKind.i64.wrap (x1 + (16 : Int)))])
               (fun y13 =>
                 (L_segment_Header_0 fuel (x3, (↑x3.length : Int), (0 : Int), x0, x1, x2, x3, x4, x5, y13)
                   (fun (b0_0, b0_1, b0_2, b0_3, b0_4, b0_5, b0_6) =>
                     (L_segment_Header_2 fuel (b0_4, (↑b0_4.length : Int), (0 : Int), b0_0, b0_1, b0_2, b0_3, b0_4, b0_5, [], b0_6)
                       (fun (b2_0, b2_1, b2_2, b2_3, b2_4, b2_5, b2_6, b2_7) =>
                         (f78 (b2_6)
                           (fun (y25_0, y25_1) =>
                             bif Decidable.decide ((b2_7.length + y25_1.length) * (1 : Nat) ≤ (140737488355328 : Nat) ∧ b2_7.length + y25_1.length ≤ (140737488355328 : Nat)) then
                             (f75_35f (b2_2) (b2_7 ++ y25_1)
                                (fun y30 =>
                                  (f75_35f ((↑b2_5.length : Int)) (y30)
                                    (fun y34 =>
                                      k0 ((0 : Int), y34)))))
                             else none))))))))
            else none))))) (fun r => match r with | (r0, r1) => k (.tup [(false, [.own 0]), (false, [.int .i64 r0])], [.vec 5 (.int .u8) r1 true])) := by
  kernel_rfl
theorem F41_eq (fuel : Nat) (x0 : Int) (x1 : Int) (x2 : Int) (x3 : (List Int)) (x4 : (List Bool)) (x5 : (List Int)) (k : Ev.Cont) : evalFn tab (G41 fuel) (J41 fuel) kp41 fuel Try.f41 [.agg [.int .i64 x0, .int .i64 x1, .int .i64 x2, .sl (.int .i64) x3, .sl .bool x4, .sl (.int .u8) x5]] [] k = F_segment_Header fuel x0 x1 x2 x3 x4 x5 (fun r => match r with | (r0, r1) => k (.tup [(false, [.own 0]), (false, [.int .i64 r0])], [.vec 5 (.int .u8) r1 true])) :=
  F41_eqg fuel (F_segment_Valid fuel) (F_segment_Header_1_35f fuel) (F_segment_flag fuel) (F_bits_Pack fuel) x0 x1 x2 x3 x4 x5 k
theorem hG41 (fuel : Nat) : GOK Try.prog (G41 fuel) :=
  gok_cons ⟨ok43 fuel, enters_of Try.func43 (by kernel_rfl) rfl⟩ <|
  gok_cons ⟨ok75_35f fuel, enters_of Try.func75 (by kernel_rfl) rfl⟩ <|
  gok_cons ⟨ok77 fuel, enters_of Try.func77 (by kernel_rfl) rfl⟩ <|
  gok_cons ⟨ok78 fuel, enters_of Try.func78 (by kernel_rfl) rfl⟩ <|
  gok_nil
theorem B41_2_blk (fuel : Nat) : BlkOK Try.prog Try.f41.ntmps (.block 2 (.loop (bodyOf 2 Try.f41))) (B41_2 fuel) :=
  blk_of (blk_of_code tab_ok (hG41 fuel) mixed (J := J41_2 fuel) (kp := kp41) (fuel := fuel) (by kernel_rfl) (fun q hq => by
    rw [(by kernel_rfl : obl (J41_2 fuel) (.block 2 (.loop (bodyOf 2 Try.f41))) = [])] at hq
    cases hq)) (B41_2_ok fuel)
theorem B41_0_blk (fuel : Nat) : BlkOK Try.prog Try.f41.ntmps (.block 0 (.loop (bodyOf 0 Try.f41))) (B41_0 fuel) :=
  blk_of (blk_of_code tab_ok (hG41 fuel) mixed (J := J41_0 fuel) (kp := kp41) (fuel := fuel) (by kernel_rfl) (fun q hq => by
    rw [(by kernel_rfl : obl (J41_0 fuel) (.block 0 (.loop (bodyOf 0 Try.f41))) = [])] at hq
    cases hq)) (B41_0_ok fuel)
theorem fok41 (fuel : Nat) : FnOK Try.prog 41 (evalFn tab (G41 fuel) (J41 fuel) kp41 fuel Try.f41) :=
  fn_ok tab_ok (hG41 fuel) mixed Try.func41 (c := (Try.f41.body).getD .skip) rfl (fun q hq => by
    rw [(by kernel_rfl : obl (J41 fuel) ((Try.f41.body).getD .skip) = [(.block 0 (.loop (bodyOf 0 Try.f41)), B41_0 fuel), (.block 2 (.loop (bodyOf 2 Try.f41)), B41_2 fuel)])] at hq
    simp only [List.mem_cons, List.not_mem_nil, or_false] at hq
    rcases hq with rfl | rfl
    · exact B41_0_blk fuel
    · exact B41_2_blk fuel)
def mt41 : List Ev.SV → List Ev.Ob → Bool := fun args objs => match args, objs with
  | [.agg [.int .i64 _, .int .i64 _, .int .i64 _, .sl (.int .i64) _, .sl .bool _, .sl (.int .u8) _]], [] => true
  | _, _ => false
def spg41 (F : YF41) : Ev.Spec := fun args objs k => match args, objs with
  | [.agg [.int .i64 x0, .int .i64 x1, .int .i64 x2, .sl (.int .i64) x3, .sl .bool x4, .sl (.int .u8) x5]], [] => bif true then F x0 x1 x2 x3 x4 x5 (fun r => match r with | (r0, r1) => k (.tup [(false, [.own 0]), (false, [.int .i64 r0])], [.vec 5 (.int .u8) r1 true])) else none
  | _, _ => none
def spec41 (fuel : Nat) : Ev.Spec := spg41 (F_segment_Header fuel)
theorem ok41 (fuel : Nat) : FnOK Try.prog 41 (spec41 fuel) := by
  intro args objs kk r h
  unfold spec41 spg41 at h
  split at h
  · obtain ⟨hb, h⟩ := cond_some' h
    simp only [Bool.and_eq_true, Nat.beq_eq, decide_eq_true_eq] at hb
    clear hb
    exact fok41 fuel _ _ kk r ((F41_eq fuel _ _ _ _ _ _ kk).trans h)
  · cases h
end Go.Proofs.Ytajidgilfkineaa

set_option linter.unusedVariables false
set_option linter.unusedSimpArgs false
set_option maxRecDepth 100000
namespace Go.Proofs.Ytajidgilfkineaa
open Go Ev
def kp40 (i : Nat) : Option (List Nat) := Ev.look i []
def Gg40 (f41 : YF41) (f45 : YF45) (f : Nat) : Option Ev.Spec := Ev.look f [(41, spg41 f41), (45, spg45 f45)]
def G40 (fuel : Nat) : Nat → Option Ev.Spec := Gg40 (F_segment_Header fuel) (F_ref02_SameBytes fuel)
def J40 (fuel : Nat) (i : Nat) : Option Ev.Blk := Ev.look i []
def F_law12_Awake (fuel : Nat)  (k0 : (Bool) → Option Ans) : Option Ans :=
  (F_segment_Header fuel ((3 : Int)) ((1 : Int)) ((1 : Int)) ([(0 : Int), (2 : Int)]) ([Bool.true, Bool.false, Bool.true]) ([])
    (fun (y2_0, y2_1) =>
      bif y2_0 == (0 : Int) then
       (F_ref02_SameBytes fuel (y2_1) ([(3 : Int), (17 : Int), (2 : Int), (3 : Int), (1 : Int), (160 : Int), (1 : Int), (0 : Int)])
         (fun y7 =>
           k0 y7))
      else
       k0 Bool.false))
abbrev YF40 : Type := ((Bool) → Option Ans) → Option Ans
theorem F40_eqg (fuel : Nat) (f41 : YF41) (f45 : YF45)  (k : Ev.Cont) : evalFn tab (Gg40 f41 f45) (J40 fuel) kp40 fuel Try.f40 [] [] k = (fun  (k0 : (Bool) → Option Ans) =>
  (f41 ((3 : Int)) ((1 : Int)) ((1 : Int)) ([(0 : Int), (2 : Int)]) ([Bool.true, Bool.false, Bool.true]) ([])
    (fun (y2_0, y2_1) =>
      bif y2_0 == (0 : Int) then
       (f45 (y2_1) ([(3 : Int), (17 : Int), (2 : Int), (3 : Int), (1 : Int), (160 : Int), (1 : Int), (0 : Int)])
         (fun y7 =>
           k0 y7))
      else
       k0 Bool.false))) (fun r => match r with | r0 => k (.c (.bool r0), [])) := by
  kernel_rfl
theorem F40_eq (fuel : Nat)  (k : Ev.Cont) : evalFn tab (G40 fuel) (J40 fuel) kp40 fuel Try.f40 [] [] k = F_law12_Awake fuel  (fun r => match r with | r0 => k (.c (.bool r0), [])) :=
  F40_eqg fuel (F_segment_Header fuel) (F_ref02_SameBytes fuel)  k
theorem hG40 (fuel : Nat) : GOK Try.prog (G40 fuel) :=
  gok_cons ⟨ok41 fuel, enters_of Try.func41 (by kernel_rfl) rfl⟩ <|
  gok_cons ⟨ok45 fuel, enters_of Try.func45 (by kernel_rfl) rfl⟩ <|
  gok_nil
theorem fok40 (fuel : Nat) : FnOK Try.prog 40 (evalFn tab (G40 fuel) (J40 fuel) kp40 fuel Try.f40) :=
  fn_ok tab_ok (hG40 fuel) mixed Try.func40 (c := (Try.f40.body).getD .skip) rfl (fun q hq => by
    rw [(by kernel_rfl : obl (J40 fuel) ((Try.f40.body).getD .skip) = [])] at hq
    cases hq)
def mt40 : List Ev.SV → List Ev.Ob → Bool := fun args objs => match args, objs with
  | [], [] => true
  | _, _ => false
def spg40 (F : YF40) : Ev.Spec := fun args objs k => match args, objs with
  | [], [] => bif true then F  (fun r => match r with | r0 => k (.c (.bool r0), [])) else none
  | _, _ => none
def spec40 (fuel : Nat) : Ev.Spec := spg40 (F_law12_Awake fuel)
theorem ok40 (fuel : Nat) : FnOK Try.prog 40 (spec40 fuel) := by
  intro args objs kk r h
  unfold spec40 spg40 at h
  split at h
  · obtain ⟨hb, h⟩ := cond_some' h
    simp only [Bool.and_eq_true, Nat.beq_eq, decide_eq_true_eq] at hb
    clear hb
    exact fok40 fuel _ _ kk r ((F40_eq fuel kk).trans h)
  · cases h
end Go.Proofs.Ytajidgilfkineaa

set_option linter.unusedVariables false
set_option linter.unusedSimpArgs false
set_option maxRecDepth 100000
namespace Go.Proofs.Ytajidgilfkineaa
open Go Ev
def kp39 (i : Nat) : Option (List Nat) := Ev.look i [(3, [0, 3, 6, 7, 8]), (100000, [0, 3]), (400000, [2])]
def Gg39 (f : Nat) : Option Ev.Spec := Ev.look f []
def G39 (fuel : Nat) : Nat → Option Ev.Spec := Gg39
def S_law12_large_0 (fuel : Nat) (v : (List (Int × (Int × (Int × ((List Int) × ((List Bool) × (List Int))))))) × Int × (List (Int × (Int × (Int × ((List Int) × ((List Bool) × (List Int))))))) × Int × Int) (c : ((List (Int × (Int × (Int × ((List Int) × ((List Bool) × (List Int))))))) × Int × (List (Int × (Int × (Int × ((List Int) × ((List Bool) × (List Int))))))) × Int × Int) → Option Ans) (B : ((List (Int × (Int × (Int × ((List Int) × ((List Bool) × (List Int))))))) × Int → Option Ans)) : Option Ans := match v, B with
  | (x0, x1, x2, x3, x4), b =>
   bif Decidable.decide (x4 < x3) then
      bif Decidable.decide ((0 : Int) ≤ x4 ∧ x4 < (↑x2.length : Int)) then
      c (x0, Go.IntKind.i64.wrap (x1 + Go.IntKind.i64.wrap ((↑(List.length (x2.getD x4.toNat ((0 : Int), (0 : Int), (0 : Int), [], [], [])).snd.snd.snd.snd.snd) : Int) + (↑(List.length (x2.getD x4.toNat ((0 : Int), (0 : Int), (0 : Int), [], [], [])).snd.snd.snd.fst) : Int))), x2, x3, Go.IntKind.i64.wrap (x4 + (1 : Int)))
      else none
     else
      b (x0, x1)
def L_law12_large_0 (fuel : Nat) (v : (List (Int × (Int × (Int × ((List Int) × ((List Bool) × (List Int))))))) × Int × (List (Int × (Int × (Int × ((List Int) × ((List Bool) × (List Int))))))) × Int × Int) (b : ((List (Int × (Int × (Int × ((List Int) × ((List Bool) × (List Int))))))) × Int → Option Ans)) : Option Ans := iter (S_law12_large_0 fuel) fuel v b
def J39_0 (fuel : Nat) (i : Nat) : Option Ev.Blk := Ev.look i []
def T39_0 (v : (List (Int × (Int × (Int × ((List Int) × ((List Bool) × (List Int))))))) × Int × (List (Int × (Int × (Int × ((List Int) × ((List Bool) × (List Int))))))) × Int × Int) : Ev.St := match v with | (x0, x1, x2, x3, x4) => ⟨[(0, .c (.sl (.pair (.int .i64) (.pair (.int .i64) (.pair (.int .i64) (.pair (.sl (.int .i64)) (.pair (.sl .bool) (.sl (.int .u8))))))) x0)), (3, .c (.int .i64 x1)), (6, .c (.sl (.pair (.int .i64) (.pair (.int .i64) (.pair (.int .i64) (.pair (.sl (.int .i64)) (.pair (.sl .bool) (.sl (.int .u8))))))) x2)), (7, .c (.int .i64 x3)), (8, .c (.int .i64 x4))], [], 0, 0⟩
def E39_0 (K : Ev.Ex → Ev.St → Option Ans) : ((List (Int × (Int × (Int × ((List Int) × ((List Bool) × (List Int))))))) × Int → Option Ans) := (fun v => match v with | (x0, x1) => K .normal ⟨[(0, .c (.sl (.pair (.int .i64) (.pair (.int .i64) (.pair (.int .i64) (.pair (.sl (.int .i64)) (.pair (.sl .bool) (.sl (.int .u8))))))) x0)), (3, .c (.int .i64 x1))], [], 0, 0⟩)
theorem S39_0_ok (fuel : Nat) (R : Ev.St → Option Ans) (K : Ev.Ex → Ev.St → Option Ans) (x0 : (List (Int × (Int × (Int × ((List Int) × ((List Bool) × (List Int)))))))) (x1 : Int) (x2 : (List (Int × (Int × (Int × ((List Int) × ((List Bool) × (List Int)))))))) (x3 : Int) (x4 : Int) : evalCode tab (G39 fuel) (J39_0 fuel) kp39 fuel (bodyOf 0 Try.f39) (T39_0 (x0, x1, x2, x3, x4)) (lc kp39 3 0 R K) = S_law12_large_0 fuel (x0, x1, x2, x3, x4) (fun v => R (T39_0 v)) (E39_0 K) := by
  kernel_rfl
def B39_0 (fuel : Nat) : Ev.Blk := fun st K => match canonO (kp39 3) st with
  | some s => (match s with
    | ⟨[(q0, .c (.sl (.pair (.int .i64) (.pair (.int .i64) (.pair (.int .i64) (.pair (.sl (.int .i64)) (.pair (.sl .bool) (.sl (.int .u8))))))) x0)), (q1, .c (.int .i64 x1)), (q2, .c (.sl (.pair (.int .i64) (.pair (.int .i64) (.pair (.int .i64) (.pair (.sl (.int .i64)) (.pair (.sl .bool) (.sl (.int .u8))))))) x2)), (q3, .c (.int .i64 x3)), (q4, .c (.int .i64 x4))], [], q5, q6⟩ => bif Nat.beq q0 0 && Nat.beq q1 3 && Nat.beq q2 6 && Nat.beq q3 7 && Nat.beq q4 8 && Nat.beq q5 0 && Nat.beq q6 0 then iter (S_law12_large_0 fuel) fuel (x0, x1, x2, x3, x4) (E39_0 K) else none
    | _ => none)
  | none => none
theorem B39_0_ok (fuel : Nat) (st : Ev.St) (K : Ev.Ex → Ev.St → Option Ans) (r : Ans) (h : B39_0 fuel st K = some r) : evalCode tab (G39 fuel) (J39_0 fuel) kp39 fuel (.block 0 (.loop (bodyOf 0 Try.f39))) st K = some r := by
  unfold B39_0 at h
  split at h
  · rename_i s hs
    split at h
    · obtain ⟨hb, h⟩ := cond_some' h
      simp only [Bool.and_eq_true, Nat.beq_eq, decide_eq_true_eq] at hb
      obtain ⟨⟨⟨⟨⟨⟨rfl, rfl⟩, rfl⟩, rfl⟩, rfl⟩, rfl⟩, rfl⟩ := hb
      exact blk_loop (S := T39_0) (ks := E39_0) (step := S_law12_large_0 fuel) (v := (_, _, _, _, _)) (by kernel_rfl) (by kernel_rfl) (fun R K v => by obtain ⟨x0, x1, x2, x3, x4⟩ := v; exact S39_0_ok fuel R K x0 x1 x2 x3 x4) hs h
    · cases h
  · cases h
def J39 (fuel : Nat) (i : Nat) : Option Ev.Blk := Ev.look i [(100000, B39_0 fuel)]
def F_law12_large (fuel : Nat) (x0 : (List (Int × Int × Int × (List Int) × (List Bool) × (List Int)))) (k0 : (Bool) → Option Ans) : Option Ans :=
  (L_law12_large_0 fuel (x0, (0 : Int), x0, (↑x0.length : Int), (0 : Int))
    (fun (b0_0, b0_1) =>
      bif Decidable.decide ((↑b0_0.length : Int) > (300 : Int)) then
       k0 Bool.true
      else
       k0 (Decidable.decide (b0_1 > (200000 : Int)))))
abbrev YF39 : Type := ((List (Int × Int × Int × (List Int) × (List Bool) × (List Int)))) → ((Bool) → Option Ans) → Option Ans
theorem F39_eq (fuel : Nat) (x0 : (List (Int × Int × Int × (List Int) × (List Bool) × (List Int)))) (k : Ev.Cont) : evalFn tab (G39 fuel) (J39 fuel) kp39 fuel Try.f39 [.c (.sl (.pair (.int .i64) (.pair (.int .i64) (.pair (.int .i64) (.pair (.sl (.int .i64)) (.pair (.sl .bool) (.sl (.int .u8))))))) x0)] [] k = F_law12_large fuel x0 (fun r => match r with | r0 => k (.c (.bool r0), [])) := by
  kernel_rfl
theorem hG39 (fuel : Nat) : GOK Try.prog (G39 fuel) :=
  gok_nil
theorem B39_0_blk (fuel : Nat) : BlkOK Try.prog Try.f39.ntmps (.block 0 (.loop (bodyOf 0 Try.f39))) (B39_0 fuel) :=
  blk_of (blk_of_code tab_ok (hG39 fuel) mixed (J := J39_0 fuel) (kp := kp39) (fuel := fuel) (by kernel_rfl) (fun q hq => by
    rw [(by kernel_rfl : obl (J39_0 fuel) (.block 0 (.loop (bodyOf 0 Try.f39))) = [])] at hq
    cases hq)) (B39_0_ok fuel)
theorem fok39 (fuel : Nat) : FnOK Try.prog 39 (evalFn tab (G39 fuel) (J39 fuel) kp39 fuel Try.f39) :=
  fn_ok tab_ok (hG39 fuel) mixed Try.func39 (c := (Try.f39.body).getD .skip) rfl (fun q hq => by
    rw [(by kernel_rfl : obl (J39 fuel) ((Try.f39.body).getD .skip) = [(.block 0 (.loop (bodyOf 0 Try.f39)), B39_0 fuel)])] at hq
    simp only [List.mem_cons, List.not_mem_nil, or_false] at hq
    subst hq
    · exact B39_0_blk fuel)
def mt39 : List Ev.SV → List Ev.Ob → Bool := fun args objs => match args, objs with
  | [.c (.sl (.pair (.int .i64) (.pair (.int .i64) (.pair (.int .i64) (.pair (.sl (.int .i64)) (.pair (.sl .bool) (.sl (.int .u8))))))) _)], [] => true
  | _, _ => false
def spg39 (F : YF39) : Ev.Spec := fun args objs k => match args, objs with
  | [.c (.sl (.pair (.int .i64) (.pair (.int .i64) (.pair (.int .i64) (.pair (.sl (.int .i64)) (.pair (.sl .bool) (.sl (.int .u8))))))) x0)], [] => bif true then F x0 (fun r => match r with | r0 => k (.c (.bool r0), [])) else none
  | _, _ => none
def spec39 (fuel : Nat) : Ev.Spec := spg39 (F_law12_large fuel)
theorem ok39 (fuel : Nat) : FnOK Try.prog 39 (spec39 fuel) := by
  intro args objs kk r h
  unfold spec39 spg39 at h
  split at h
  · obtain ⟨hb, h⟩ := cond_some' h
    simp only [Bool.and_eq_true, Nat.beq_eq, decide_eq_true_eq] at hb
    clear hb
    exact fok39 fuel _ _ kk r ((F39_eq fuel _ kk).trans h)
  · cases h
end Go.Proofs.Ytajidgilfkineaa

set_option linter.unusedVariables false
set_option linter.unusedSimpArgs false
set_option maxRecDepth 100000
namespace Go.Proofs.Ytajidgilfkineaa
open Go Ev
def kp47 (i : Nat) : Option (List Nat) := Ev.look i [(4, [2, 3, 55, 56]), (10, [2, 3, 73, 74]), (100000, [2, 3]), (100002, []), (200006, [2, 3]), (200012, [2, 3]), (400000, [4]), (400002, [4])]
def Gg47 (f : Nat) : Option Ev.Spec := Ev.look f []
def G47 (fuel : Nat) : Nat → Option Ev.Spec := Gg47
def S_ref12_Same_0 (fuel : Nat) (v : Int × Int × Int × Int × Int × (List Int) × (List Bool) × (List Int) × Int × Int × Int × (List Int) × (List Bool) × (List Int)) (c : (Int × Int × Int × Int × Int × (List Int) × (List Bool) × (List Int) × Int × Int × Int × (List Int) × (List Bool) × (List Int)) → Option Ans) (B : (Bool → Option Ans) × (Int × Int × Int × (List Int) × (List Bool) × (List Int) × Int × Int × Int × (List Int) × (List Bool) × (List Int) → Option Ans)) : Option Ans := match v, B with
  | (x0, x1, x2, x3, x4, x5, x6, x7, x8, x9, x10, x11, x12, x13), (ret, b) =>
   bif Decidable.decide (x1 < x0) then
      bif Decidable.decide ((0 : Int) ≤ x1 ∧ x1 < (↑x5.length : Int)) then
      bif Decidable.decide ((0 : Int) ≤ x1 ∧ x1 < (↑x11.length : Int)) then
       bif x5.getD x1.toNat (0 : Int) != x11.getD x1.toNat (0 : Int) then
         ret Bool.false
        else
         c (x0, Go.IntKind.i64.wrap (x1 + (1 : Int)), x2, x3, x4, x5, x6, x7, x8, x9, x10, x11, x12, x13)
       else none
      else none
     else
      b (x2, x3, x4, x5, x6, x7, x8, x9, x10, x11, x12, x13)
def L_ref12_Same_0 (fuel : Nat) (v : Int × Int × Int × Int × Int × (List Int) × (List Bool) × (List Int) × Int × Int × Int × (List Int) × (List Bool) × (List Int)) (ret : (Bool → Option Ans)) (b : (Int × Int × Int × (List Int) × (List Bool) × (List Int) × Int × Int × Int × (List Int) × (List Bool) × (List Int) → Option Ans)) : Option Ans := iter (S_ref12_Same_0 fuel) fuel v (ret, b)
def J47_0 (fuel : Nat) (i : Nat) : Option Ev.Blk := Ev.look i []
def T47_0 (v : Int × Int × Int × Int × Int × (List Int) × (List Bool) × (List Int) × Int × Int × Int × (List Int) × (List Bool) × (List Int)) : Ev.St := match v with | (x0, x1, x2, x3, x4, x5, x6, x7, x8, x9, x10, x11, x12, x13) => ⟨[(2, .c (.ptr 0 0)), (3, .c (.ptr 1 0)), (55, .c (.int .i64 x0)), (56, .c (.int .i64 x1))], [(0, .cells 63 [.int .i64 x2, .int .i64 x3, .int .i64 x4, .sl (.int .i64) x5, .sl .bool x6, .sl (.int .u8) x7]), (1, .cells 63 [.int .i64 x8, .int .i64 x9, .int .i64 x10, .sl (.int .i64) x11, .sl .bool x12, .sl (.int .u8) x13])], 2, 0⟩
def E47_0 (K : Ev.Ex → Ev.St → Option Ans) : (Bool → Option Ans) × (Int × Int × Int × (List Int) × (List Bool) × (List Int) × Int × Int × Int × (List Int) × (List Bool) × (List Int) → Option Ans) := ((fun v => match v with | x0 => K .ret ⟨[(4, .c (.bool x0))], [], 0, 0⟩), (fun v => match v with | (x0, x1, x2, x3, x4, x5, x6, x7, x8, x9, x10, x11) => K .normal ⟨[(2, .c (.ptr 0 0)), (3, .c (.ptr 1 0))], [(0, .cells 63 [.int .i64 x0, .int .i64 x1, .int .i64 x2, .sl (.int .i64) x3, .sl .bool x4, .sl (.int .u8) x5]), (1, .cells 63 [.int .i64 x6, .int .i64 x7, .int .i64 x8, .sl (.int .i64) x9, .sl .bool x10, .sl (.int .u8) x11])], 2, 0⟩))
theorem S47_0_ok (fuel : Nat) (R : Ev.St → Option Ans) (K : Ev.Ex → Ev.St → Option Ans) (x0 : Int) (x1 : Int) (x2 : Int) (x3 : Int) (x4 : Int) (x5 : (List Int)) (x6 : (List Bool)) (x7 : (List Int)) (x8 : Int) (x9 : Int) (x10 : Int) (x11 : (List Int)) (x12 : (List Bool)) (x13 : (List Int)) : evalCode tab (G47 fuel) (J47_0 fuel) kp47 fuel (bodyOf 0 Try.f47) (T47_0 (x0, x1, x2, x3, x4, x5, x6, x7, x8, x9, x10, x11, x12, x13)) (lc kp47 4 0 R K) = S_ref12_Same_0 fuel (x0, x1, x2, x3, x4, x5, x6, x7, x8, x9, x10, x11, x12, x13) (fun v => R (T47_0 v)) (E47_0 K) := by
  kernel_rfl
def B47_0 (fuel : Nat) : Ev.Blk := fun st K => match canonO (kp47 4) st with
  | some s => (match s with
    | ⟨[(q0, .c (.ptr q1 q2)), (q3, .c (.ptr q4 q5)), (q6, .c (.int .i64 x0)), (q7, .c (.int .i64 x1))], [(q8, .cells q9 [.int .i64 x2, .int .i64 x3, .int .i64 x4, .sl (.int .i64) x5, .sl .bool x6, .sl (.int .u8) x7]), (q10, .cells q11 [.int .i64 x8, .int .i64 x9, .int .i64 x10, .sl (.int .i64) x11, .sl .bool x12, .sl (.int .u8) x13])], q12, q13⟩ => bif Nat.beq q0 2 && Nat.beq q1 0 && Nat.beq q2 0 && Nat.beq q3 3 && Nat.beq q4 1 && Nat.beq q5 0 && Nat.beq q6 55 && Nat.beq q7 56 && Nat.beq q8 0 && Nat.beq q9 63 && Nat.beq q10 1 && Nat.beq q11 63 && Nat.beq q12 2 && Nat.beq q13 0 then iter (S_ref12_Same_0 fuel) fuel (x0, x1, x2, x3, x4, x5, x6, x7, x8, x9, x10, x11, x12, x13) (E47_0 K) else none
    | _ => none)
  | none => none
theorem B47_0_ok (fuel : Nat) (st : Ev.St) (K : Ev.Ex → Ev.St → Option Ans) (r : Ans) (h : B47_0 fuel st K = some r) : evalCode tab (G47 fuel) (J47_0 fuel) kp47 fuel (.block 0 (.loop (bodyOf 0 Try.f47))) st K = some r := by
  unfold B47_0 at h
  split at h
  · rename_i s hs
    split at h
    · obtain ⟨hb, h⟩ := cond_some' h
      simp only [Bool.and_eq_true, Nat.beq_eq, decide_eq_true_eq] at hb
      obtain ⟨⟨⟨⟨⟨⟨⟨⟨⟨⟨⟨⟨⟨rfl, rfl⟩, rfl⟩, rfl⟩, rfl⟩, rfl⟩, rfl⟩, rfl⟩, rfl⟩, rfl⟩, rfl⟩, rfl⟩, rfl⟩, rfl⟩ := hb
      exact blk_loop (S := T47_0) (ks := E47_0) (step := S_ref12_Same_0 fuel) (v := (_, _, _, _, _, _, _, _, _, _, _, _, _, _)) (by kernel_rfl) (by kernel_rfl) (fun R K v => by obtain ⟨x0, x1, x2, x3, x4, x5, x6, x7, x8, x9, x10, x11, x12, x13⟩ := v; exact S47_0_ok fuel R K x0 x1 x2 x3 x4 x5 x6 x7 x8 x9 x10 x11 x12 x13) hs h
    · cases h
  · cases h
def S_ref12_Same_2 (fuel : Nat) (v : Int × Int × Int × Int × Int × (List Int) × (List Bool) × (List Int) × Int × Int × Int × (List Int) × (List Bool) × (List Int)) (c : (Int × Int × Int × Int × Int × (List Int) × (List Bool) × (List Int) × Int × Int × Int × (List Int) × (List Bool) × (List Int)) → Option Ans) (B : (Bool → Option Ans) × (Unit → Option Ans)) : Option Ans := match v, B with
  | (x0, x1, x2, x3, x4, x5, x6, x7, x8, x9, x10, x11, x12, x13), (ret, b) =>
   bif Decidable.decide (x1 < x0) then
      bif Decidable.decide ((0 : Int) ≤ x1 ∧ x1 < (↑x6.length : Int)) then
      bif Decidable.decide ((0 : Int) ≤ x1 ∧ x1 < (↑x12.length : Int)) then
       bif !x6.getD x1.toNat Bool.false == x12.getD x1.toNat Bool.false then
         ret Bool.false
        else
         c (x0, Go.IntKind.i64.wrap (x1 + (1 : Int)), x2, x3, x4, x5, x6, x7, x8, x9, x10, x11, x12, x13)
       else none
      else none
     else
      b ()
def L_ref12_Same_2 (fuel : Nat) (v : Int × Int × Int × Int × Int × (List Int) × (List Bool) × (List Int) × Int × Int × Int × (List Int) × (List Bool) × (List Int)) (ret : (Bool → Option Ans)) (b : (Unit → Option Ans)) : Option Ans := iter (S_ref12_Same_2 fuel) fuel v (ret, b)
def J47_2 (fuel : Nat) (i : Nat) : Option Ev.Blk := Ev.look i [(100000, B47_0 fuel)]
def T47_2 (v : Int × Int × Int × Int × Int × (List Int) × (List Bool) × (List Int) × Int × Int × Int × (List Int) × (List Bool) × (List Int)) : Ev.St := match v with | (x0, x1, x2, x3, x4, x5, x6, x7, x8, x9, x10, x11, x12, x13) => ⟨[(2, .c (.ptr 0 0)), (3, .c (.ptr 1 0)), (73, .c (.int .i64 x0)), (74, .c (.int .i64 x1))], [(0, .cells 63 [.int .i64 x2, .int .i64 x3, .int .i64 x4, .sl (.int .i64) x5, .sl .bool x6, .sl (.int .u8) x7]), (1, .cells 63 [.int .i64 x8, .int .i64 x9, .int .i64 x10, .sl (.int .i64) x11, .sl .bool x12, .sl (.int .u8) x13])], 2, 0⟩
def E47_2 (K : Ev.Ex → Ev.St → Option Ans) : (Bool → Option Ans) × (Unit → Option Ans) := ((fun v => match v with | x0 => K .ret ⟨[(4, .c (.bool x0))], [], 0, 0⟩), (fun v => match v with | () => K .normal ⟨[], [], 0, 0⟩))
theorem S47_2_ok (fuel : Nat) (R : Ev.St → Option Ans) (K : Ev.Ex → Ev.St → Option Ans) (x0 : Int) (x1 : Int) (x2 : Int) (x3 : Int) (x4 : Int) (x5 : (List Int)) (x6 : (List Bool)) (x7 : (List Int)) (x8 : Int) (x9 : Int) (x10 : Int) (x11 : (List Int)) (x12 : (List Bool)) (x13 : (List Int)) : evalCode tab (G47 fuel) (J47_2 fuel) kp47 fuel (bodyOf 2 Try.f47) (T47_2 (x0, x1, x2, x3, x4, x5, x6, x7, x8, x9, x10, x11, x12, x13)) (lc kp47 10 2 R K) = S_ref12_Same_2 fuel (x0, x1, x2, x3, x4, x5, x6, x7, x8, x9, x10, x11, x12, x13) (fun v => R (T47_2 v)) (E47_2 K) := by
  kernel_rfl
def B47_2 (fuel : Nat) : Ev.Blk := fun st K => match canonO (kp47 10) st with
  | some s => (match s with
    | ⟨[(q0, .c (.ptr q1 q2)), (q3, .c (.ptr q4 q5)), (q6, .c (.int .i64 x0)), (q7, .c (.int .i64 x1))], [(q8, .cells q9 [.int .i64 x2, .int .i64 x3, .int .i64 x4, .sl (.int .i64) x5, .sl .bool x6, .sl (.int .u8) x7]), (q10, .cells q11 [.int .i64 x8, .int .i64 x9, .int .i64 x10, .sl (.int .i64) x11, .sl .bool x12, .sl (.int .u8) x13])], q12, q13⟩ => bif Nat.beq q0 2 && Nat.beq q1 0 && Nat.beq q2 0 && Nat.beq q3 3 && Nat.beq q4 1 && Nat.beq q5 0 && Nat.beq q6 73 && Nat.beq q7 74 && Nat.beq q8 0 && Nat.beq q9 63 && Nat.beq q10 1 && Nat.beq q11 63 && Nat.beq q12 2 && Nat.beq q13 0 then iter (S_ref12_Same_2 fuel) fuel (x0, x1, x2, x3, x4, x5, x6, x7, x8, x9, x10, x11, x12, x13) (E47_2 K) else none
    | _ => none)
  | none => none
theorem B47_2_ok (fuel : Nat) (st : Ev.St) (K : Ev.Ex → Ev.St → Option Ans) (r : Ans) (h : B47_2 fuel st K = some r) : evalCode tab (G47 fuel) (J47_2 fuel) kp47 fuel (.block 2 (.loop (bodyOf 2 Try.f47))) st K = some r := by
  unfold B47_2 at h
  split at h
  · rename_i s hs
    split at h
    · obtain ⟨hb, h⟩ := cond_some' h
      simp only [Bool.and_eq_true, Nat.beq_eq, decide_eq_true_eq] at hb
      obtain ⟨⟨⟨⟨⟨⟨⟨⟨⟨⟨⟨⟨⟨rfl, rfl⟩, rfl⟩, rfl⟩, rfl⟩, rfl⟩, rfl⟩, rfl⟩, rfl⟩, rfl⟩, rfl⟩, rfl⟩, rfl⟩, rfl⟩ := hb
      exact blk_loop (S := T47_2) (ks := E47_2) (step := S_ref12_Same_2 fuel) (v := (_, _, _, _, _, _, _, _, _, _, _, _, _, _)) (by kernel_rfl) (by kernel_rfl) (fun R K v => by obtain ⟨x0, x1, x2, x3, x4, x5, x6, x7, x8, x9, x10, x11, x12, x13⟩ := v; exact S47_2_ok fuel R K x0 x1 x2 x3 x4 x5 x6 x7 x8 x9 x10 x11 x12 x13) hs h
    · cases h
  · cases h
def J47 (fuel : Nat) (i : Nat) : Option Ev.Blk := Ev.look i [(100000, B47_0 fuel), (100002, B47_2 fuel)]
def F_ref12_Same (fuel : Nat) (x0 : Int) (x1 : Int) (x2 : Int) (x3 : (List Int)) (x4 : (List Bool)) (x5 : (List Int)) (x6 : Int) (x7 : Int) (x8 : Int) (x9 : (List Int)) (x10 : (List Bool)) (x11 : (List Int)) (k0 : (Bool) → Option Ans) : Option Ans :=
  bif x0 != x6 then
   k0 Bool.false
  else
   bif x1 != x7 then
    k0 Bool.false
   else
    bif x2 != x8 then
     k0 Bool.false
    else
     bif (↑x3.length : Int) != (↑x9.length : Int) then
      k0 Bool.false
     else
      bif (↑x4.length : Int) != (↑x10.length : Int) then
       k0 Bool.false
      else
       bif !(Go.strOfNums x5).toList == (Go.strOfNums x11).toList then
        k0 Bool.false
       else
        (L_ref12_Same_0 fuel ((↑x3.length : Int), (0 : Int), x0, x1, x2, x3, x4, x5, x6, x7, x8, x9, x10, x11)
          (fun ret0_0 =>
            k0 ret0_0)
          (fun (b0_0, b0_1, b0_2, b0_3, b0_4, b0_5, b0_6, b0_7, b0_8, b0_9, b0_10, b0_11) =>
            (L_ref12_Same_2 fuel ((↑b0_4.length : Int), (0 : Int), b0_0, b0_1, b0_2, b0_3, b0_4, b0_5, b0_6, b0_7, b0_8, b0_9, b0_10, b0_11)
              (fun ret2_0 =>
                k0 ret2_0)
              (fun () =>
                k0 Bool.true))))
abbrev YF47 : Type := (Int) → (Int) → (Int) → ((List Int)) → ((List Bool)) → ((List Int)) → (Int) → (Int) → (Int) → ((List Int)) → ((List Bool)) → ((List Int)) → ((Bool) → Option Ans) → Option Ans
theorem F47_eq (fuel : Nat) (x0 : Int) (x1 : Int) (x2 : Int) (x3 : (List Int)) (x4 : (List Bool)) (x5 : (List Int)) (x6 : Int) (x7 : Int) (x8 : Int) (x9 : (List Int)) (x10 : (List Bool)) (x11 : (List Int)) (k : Ev.Cont) : evalFn tab (G47 fuel) (J47 fuel) kp47 fuel Try.f47 [.agg [.int .i64 x0, .int .i64 x1, .int .i64 x2, .sl (.int .i64) x3, .sl .bool x4, .sl (.int .u8) x5], .agg [.int .i64 x6, .int .i64 x7, .int .i64 x8, .sl (.int .i64) x9, .sl .bool x10, .sl (.int .u8) x11]] [] k = F_ref12_Same fuel x0 x1 x2 x3 x4 x5 x6 x7 x8 x9 x10 x11 (fun r => match r with | r0 => k (.c (.bool r0), [])) := by
  kernel_rfl
theorem hG47 (fuel : Nat) : GOK Try.prog (G47 fuel) :=
  gok_nil
theorem B47_0_blk (fuel : Nat) : BlkOK Try.prog Try.f47.ntmps (.block 0 (.loop (bodyOf 0 Try.f47))) (B47_0 fuel) :=
  blk_of (blk_of_code tab_ok (hG47 fuel) mixed (J := J47_0 fuel) (kp := kp47) (fuel := fuel) (by kernel_rfl) (fun q hq => by
    rw [(by kernel_rfl : obl (J47_0 fuel) (.block 0 (.loop (bodyOf 0 Try.f47))) = [])] at hq
    cases hq)) (B47_0_ok fuel)
theorem B47_2_blk (fuel : Nat) : BlkOK Try.prog Try.f47.ntmps (.block 2 (.loop (bodyOf 2 Try.f47))) (B47_2 fuel) :=
  blk_of (blk_of_code tab_ok (hG47 fuel) mixed (J := J47_2 fuel) (kp := kp47) (fuel := fuel) (by kernel_rfl) (fun q hq => by
    rw [(by kernel_rfl : obl (J47_2 fuel) (.block 2 (.loop (bodyOf 2 Try.f47))) = [])] at hq
    cases hq)) (B47_2_ok fuel)
theorem fok47 (fuel : Nat) : FnOK Try.prog 47 (evalFn tab (G47 fuel) (J47 fuel) kp47 fuel Try.f47) :=
  fn_ok tab_ok (hG47 fuel) mixed Try.func47 (c := (Try.f47.body).getD .skip) rfl (fun q hq => by
    rw [(by kernel_rfl : obl (J47 fuel) ((Try.f47.body).getD .skip) = [(.block 0 (.loop (bodyOf 0 Try.f47)), B47_0 fuel), (.block 2 (.loop (bodyOf 2 Try.f47)), B47_2 fuel)])] at hq
    simp only [List.mem_cons, List.not_mem_nil, or_false] at hq
    rcases hq with rfl | rfl
    · exact B47_0_blk fuel
    · exact B47_2_blk fuel)
def mt47 : List Ev.SV → List Ev.Ob → Bool := fun args objs => match args, objs with
  | [.agg [.int .i64 _, .int .i64 _, .int .i64 _, .sl (.int .i64) _, .sl .bool _, .sl (.int .u8) _], .agg [.int .i64 _, .int .i64 _, .int .i64 _, .sl (.int .i64) _, .sl .bool _, .sl (.int .u8) _]], [] => true
  | _, _ => false
def spg47 (F : YF47) : Ev.Spec := fun args objs k => match args, objs with
  | [.agg [.int .i64 x0, .int .i64 x1, .int .i64 x2, .sl (.int .i64) x3, .sl .bool x4, .sl (.int .u8) x5], .agg [.int .i64 x6, .int .i64 x7, .int .i64 x8, .sl (.int .i64) x9, .sl .bool x10, .sl (.int .u8) x11]], [] => bif true then F x0 x1 x2 x3 x4 x5 x6 x7 x8 x9 x10 x11 (fun r => match r with | r0 => k (.c (.bool r0), [])) else none
  | _, _ => none
def spec47 (fuel : Nat) : Ev.Spec := spg47 (F_ref12_Same fuel)
theorem ok47 (fuel : Nat) : FnOK Try.prog 47 (spec47 fuel) := by
  intro args objs kk r h
  unfold spec47 spg47 at h
  split at h
  · obtain ⟨hb, h⟩ := cond_some' h
    simp only [Bool.and_eq_true, Nat.beq_eq, decide_eq_true_eq] at hb
    clear hb
    exact fok47 fuel _ _ kk r ((F47_eq fuel _ _ _ _ _ _ _ _ _ _ _ _ kk).trans h)
  · cases h
end Go.Proofs.Ytajidgilfkineaa

set_option linter.unusedVariables false
set_option linter.unusedSimpArgs false
set_option maxRecDepth 100000
namespace Go.Proofs.Ytajidgilfkineaa
open Go Ev
def kp91 (i : Nat) : Option (List Nat) := Ev.look i [(7, [0, 6, 20, 21]), (100001, [6]), (400001, [4, 5])]
def Gg91 (f : Nat) : Option Ev.Spec := Ev.look f []
def G91 (fuel : Nat) : Nat → Option Ev.Spec := Gg91
def S_bits_Unpack_1 (fuel : Nat) (v : (List Int) × Int × Int × (List Int)) (c : ((List Int) × Int × Int × (List Int)) → Option Ans) (B : ((List Int) → Option Ans)) : Option Ans := match v, B with
  | (x0, x1, x2, x3), b =>
   bif Decidable.decide (x2 < x1) then
      bif Decidable.decide ((0 : Int) ≤ Go.IntKind.i64.wrap (x2.tdiv (8 : Int)) ∧ Go.IntKind.i64.wrap (x2.tdiv (8 : Int)) < (↑x0.length : Int)) then
      bif Decidable.decide (Go.IntKind.i64.wrap ((7 : Int) - x2.tmod (8 : Int)) < (0 : Int)) then
        none
       else
        bif Decidable.decide ((0 : Int) ≤ x2 ∧ x2 < (↑x3.length : Int)) then
        c (x0, x1, Go.IntKind.i64.wrap (x2 + (1 : Int)), x3.set x2.toNat (Ev.iand Go.IntKind.u8 (Ev.ishr Go.IntKind.u8 (x0.getD (Go.IntKind.i64.wrap (x2.tdiv (8 : Int))).toNat (0 : Int)) (Go.IntKind.i64.wrap ((7 : Int) - x2.tmod (8 : Int)))) (1 : Int)))
        else none
      else none
     else
      b x3
def L_bits_Unpack_1 (fuel : Nat) (v : (List Int) × Int × Int × (List Int)) (b : ((List Int) → Option Ans)) : Option Ans := iter (S_bits_Unpack_1 fuel) fuel v b
def J91_1 (fuel : Nat) (i : Nat) : Option Ev.Blk := Ev.look i []
def T91_1 (v : (List Int) × Int × Int × (List Int)) : Ev.St := match v with | (x0, x1, x2, x3) => ⟨[(0, .c (.sl (.int .u8) x0)), (6, .c (.own 0)), (20, .c (.int .i64 x1)), (21, .c (.int .i64 x2))], [(0, .vec 5 (.int .u8) x3 true)], 1, 0⟩
def E91_1 (K : Ev.Ex → Ev.St → Option Ans) : ((List Int) → Option Ans) := (fun v => match v with | x0 => K .normal ⟨[(6, .c (.own 0))], [(0, .vec 5 (.int .u8) x0 true)], 1, 0⟩)
theorem S91_1_ok (fuel : Nat) (R : Ev.St → Option Ans) (K : Ev.Ex → Ev.St → Option Ans) (x0 : (List Int)) (x1 : Int) (x2 : Int) (x3 : (List Int)) : evalCode tab (G91 fuel) (J91_1 fuel) kp91 fuel (bodyOf 1 Try.f91) (T91_1 (x0, x1, x2, x3)) (lc kp91 7 1 R K) = S_bits_Unpack_1 fuel (x0, x1, x2, x3) (fun v => R (T91_1 v)) (E91_1 K) := by
  kernel_rfl
def B91_1 (fuel : Nat) : Ev.Blk := fun st K => match canonO (kp91 7) st with
  | some s => (match s with
    | ⟨[(q0, .c (.sl (.int .u8) x0)), (q1, .c (.own q2)), (q3, .c (.int .i64 x1)), (q4, .c (.int .i64 x2))], [(q5, .vec q6 (.int .u8) x3 true)], q7, q8⟩ => bif Nat.beq q0 0 && Nat.beq q1 6 && Nat.beq q2 0 && Nat.beq q3 20 && Nat.beq q4 21 && Nat.beq q5 0 && Nat.beq q6 5 && Nat.beq q7 1 && Nat.beq q8 0 then iter (S_bits_Unpack_1 fuel) fuel (x0, x1, x2, x3) (E91_1 K) else none
    | _ => none)
  | none => none
theorem B91_1_ok (fuel : Nat) (st : Ev.St) (K : Ev.Ex → Ev.St → Option Ans) (r : Ans) (h : B91_1 fuel st K = some r) : evalCode tab (G91 fuel) (J91_1 fuel) kp91 fuel (.block 1 (.loop (bodyOf 1 Try.f91))) st K = some r := by
  unfold B91_1 at h
  split at h
  · rename_i s hs
    split at h
    · obtain ⟨hb, h⟩ := cond_some' h
      simp only [Bool.and_eq_true, Nat.beq_eq, decide_eq_true_eq] at hb
      obtain ⟨⟨⟨⟨⟨⟨⟨⟨rfl, rfl⟩, rfl⟩, rfl⟩, rfl⟩, rfl⟩, rfl⟩, rfl⟩, rfl⟩ := hb
      exact blk_loop (S := T91_1) (ks := E91_1) (step := S_bits_Unpack_1 fuel) (v := (_, _, _, _)) (by kernel_rfl) (by kernel_rfl) (fun R K v => by obtain ⟨x0, x1, x2, x3⟩ := v; exact S91_1_ok fuel R K x0 x1 x2 x3) hs h
    · cases h
  · cases h
def J91 (fuel : Nat) (i : Nat) : Option Ev.Blk := Ev.look i [(100001, B91_1 fuel)]
def F_bits_Unpack (fuel : Nat) (x0 : (List Int)) (x1 : Int) (k0 : (Int × (List Int)) → Option Ans) : Option Ans :=
  bif Decidable.decide (x1 < (0 : Int)) then
   k0 ((2 : Int), [])
  else
   bif Decidable.decide (x1 > Go.IntKind.i64.wrap ((8 : Int) * (↑x0.length : Int))) then
    k0 ((6 : Int), [])
   else
    bif Decidable.decide ((0 : Int) ≤ x1 ∧ x1 = x1 ∧ (↑(1 : Nat) : Int) * x1 ≤ (281474976710656 : Int) ∧ x1 ≤ (281474976710656 : Int)) then
    (L_bits_Unpack_1 fuel (x0, (↑(List.replicate x1.toNat (0 : Int)).length : Int), (0 : Int), List.replicate x1.toNat (0 : Int))
       (fun b1_0 =>
         k0 ((0 : Int), b1_0)))
    else none
abbrev YF91 : Type := ((List Int)) → (Int) → ((Int × (List Int)) → Option Ans) → Option Ans
theorem F91_eq (fuel : Nat) (x0 : (List Int)) (x1 : Int) (k : Ev.Cont) : evalFn tab (G91 fuel) (J91 fuel) kp91 fuel Try.f91 [.c (.sl (.int .u8) x0), .c (.int .i64 x1)] [] k = F_bits_Unpack fuel x0 x1 (fun r => match r with | (r0, r1) => k (.tup [(false, [.own 0]), (false, [.int .i64 r0])], [.vec 5 (.int .u8) r1 true])) := by
  kernel_rfl
theorem hG91 (fuel : Nat) : GOK Try.prog (G91 fuel) :=
  gok_nil
theorem B91_1_blk (fuel : Nat) : BlkOK Try.prog Try.f91.ntmps (.block 1 (.loop (bodyOf 1 Try.f91))) (B91_1 fuel) :=
  blk_of (blk_of_code tab_ok (hG91 fuel) mixed (J := J91_1 fuel) (kp := kp91) (fuel := fuel) (by kernel_rfl) (fun q hq => by
    rw [(by kernel_rfl : obl (J91_1 fuel) (.block 1 (.loop (bodyOf 1 Try.f91))) = [])] at hq
    cases hq)) (B91_1_ok fuel)
theorem fok91 (fuel : Nat) : FnOK Try.prog 91 (evalFn tab (G91 fuel) (J91 fuel) kp91 fuel Try.f91) :=
  fn_ok tab_ok (hG91 fuel) mixed Try.func91 (c := (Try.f91.body).getD .skip) rfl (fun q hq => by
    rw [(by kernel_rfl : obl (J91 fuel) ((Try.f91.body).getD .skip) = [(.block 1 (.loop (bodyOf 1 Try.f91)), B91_1 fuel)])] at hq
    simp only [List.mem_cons, List.not_mem_nil, or_false] at hq
    subst hq
    · exact B91_1_blk fuel)
def mt91 : List Ev.SV → List Ev.Ob → Bool := fun args objs => match args, objs with
  | [.c (.sl (.int .u8) _), .c (.int .i64 _)], [] => true
  | _, _ => false
def spg91 (F : YF91) : Ev.Spec := fun args objs k => match args, objs with
  | [.c (.sl (.int .u8) x0), .c (.int .i64 x1)], [] => bif true then F x0 x1 (fun r => match r with | (r0, r1) => k (.tup [(false, [.own 0]), (false, [.int .i64 r0])], [.vec 5 (.int .u8) r1 true])) else none
  | _, _ => none
def spec91 (fuel : Nat) : Ev.Spec := spg91 (F_bits_Unpack fuel)
theorem ok91 (fuel : Nat) : FnOK Try.prog 91 (spec91 fuel) := by
  intro args objs kk r h
  unfold spec91 spg91 at h
  split at h
  · obtain ⟨hb, h⟩ := cond_some' h
    simp only [Bool.and_eq_true, Nat.beq_eq, decide_eq_true_eq] at hb
    clear hb
    exact fok91 fuel _ _ kk r ((F91_eq fuel _ _ kk).trans h)
  · cases h
end Go.Proofs.Ytajidgilfkineaa

set_option linter.unusedVariables false
set_option linter.unusedSimpArgs false
set_option maxRecDepth 100000
namespace Go.Proofs.Ytajidgilfkineaa
open Go Ev
def kp88 (i : Nat) : Option (List Nat) := Ev.look i [(600000, [])]
def Gg88 (f : Nat) : Option Ev.Spec := Ev.look f []
def G88 (fuel : Nat) : Nat → Option Ev.Spec := Gg88
def J88 (fuel : Nat) (i : Nat) : Option Ev.Blk := Ev.look i []
def F_segment_reader_bytes (fuel : Nat) (x0 : (List Int)) (x1 : Int) (x2 : Int) (x3 : Int) (k0 : ((List Int) × (List Int) × Int × Int) → Option Ans) : Option Ans :=
  bif x2 == (0 : Int) then
   bif Decidable.decide (Go.IntKind.i64.wrap ((↑x0.length : Int) - x1) < x3) then
    bif Decidable.decide ((0 : Int) ≤ x3 ∧ x3 = x3 ∧ (↑(1 : Nat) : Int) * x3 ≤ (281474976710656 : Int) ∧ x3 ≤ (281474976710656 : Int)) then
    k0 (List.replicate x3.toNat (0 : Int), x0, x1, (6 : Int))
    else none
   else
    bif x2 != (0 : Int) then
     bif Decidable.decide ((0 : Int) ≤ x3 ∧ x3 = x3 ∧ (↑(1 : Nat) : Int) * x3 ≤ (281474976710656 : Int) ∧ x3 ≤ (281474976710656 : Int)) then
     k0 (List.replicate x3.toNat (0 : Int), x0, x1, x2)
     else none
    else
     bif Decidable.decide ((0 : Int) ≤ Ev.loOf (Option.some (Go.IntKind.i64.wrap (Go.IntKind.i64.wrap (x1 + x3) - x3))) ∧ Ev.loOf (Option.some (Go.IntKind.i64.wrap (Go.IntKind.i64.wrap (x1 + x3) - x3))) ≤ Ev.hiOf (Option.some (Go.IntKind.i64.wrap (x1 + x3))) (↑x0.length : Int) ∧ Ev.hiOf (Option.some (Go.IntKind.i64.wrap (x1 + x3))) (↑x0.length : Int) ≤ (↑x0.length : Int)) then
     k0 (List.take (Ev.hiOf (Option.some (Go.IntKind.i64.wrap (x1 + x3))) (↑x0.length : Int) - Ev.loOf (Option.some (Go.IntKind.i64.wrap (Go.IntKind.i64.wrap (x1 + x3) - x3)))).toNat (List.drop (Ev.loOf (Option.some (Go.IntKind.i64.wrap (Go.IntKind.i64.wrap (x1 + x3) - x3)))).toNat x0), x0, Go.IntKind.i64.wrap (x1 + x3), x2)
     else none
  else
   bif x2 != (0 : Int) then
    bif Decidable.decide ((0 : Int) ≤ x3 ∧ x3 = x3 ∧ (↑(1 : Nat) : Int) * x3 ≤ (281474976710656 : Int) ∧ x3 ≤ (281474976710656 : Int)) then
    k0 (List.replicate x3.toNat (0 : Int), x0, x1, x2)
    else none
   else
    bif Decidable.decide ((0 : Int) ≤ Ev.loOf (Option.some (Go.IntKind.i64.wrap (Go.IntKind.i64.wrap (x1 + x3) - x3))) ∧ Ev.loOf (Option.some (Go.IntKind.i64.wrap (Go.IntKind.i64.wrap (x1 + x3) - x3))) ≤ Ev.hiOf (Option.some (Go.IntKind.i64.wrap (x1 + x3))) (↑x0.length : Int) ∧ Ev.hiOf (Option.some (Go.IntKind.i64.wrap (x1 + x3))) (↑x0.length : Int) ≤ (↑x0.length : Int)) then
    k0 (List.take (Ev.hiOf (Option.some (Go.IntKind.i64.wrap (x1 + x3))) (↑x0.length : Int) - Ev.loOf (Option.some (Go.IntKind.i64.wrap (Go.IntKind.i64.wrap (x1 + x3) - x3)))).toNat (List.drop (Ev.loOf (Option.some (Go.IntKind.i64.wrap (Go.IntKind.i64.wrap (x1 + x3) - x3)))).toNat x0), x0, Go.IntKind.i64.wrap (x1 + x3), x2)
    else none
abbrev YF88 : Type := ((List Int)) → (Int) → (Int) → (Int) → (((List Int) × (List Int) × Int × Int) → Option Ans) → Option Ans
theorem F88_eq (fuel : Nat) (x0 : (List Int)) (x1 : Int) (x2 : Int) (x3 : Int) (k : Ev.Cont) : evalFn tab (G88 fuel) (J88 fuel) kp88 fuel Try.f88 [.c (.ptr 0 0), .c (.int .i64 x3)] [.cells 115 [.sl (.int .u8) x0, .int .i64 x1, .int .i64 x2]] k = F_segment_reader_bytes fuel x0 x1 x2 x3 (fun r => match r with | (r0, r1, r2, r3) => k (.c (.sl (.int .u8) r0), [.cells 115 [.sl (.int .u8) r1, .int .i64 r2, .int .i64 r3]])) := by
  kernel_rfl
theorem hG88 (fuel : Nat) : GOK Try.prog (G88 fuel) :=
  gok_nil
theorem fok88 (fuel : Nat) : FnOK Try.prog 88 (evalFn tab (G88 fuel) (J88 fuel) kp88 fuel Try.f88) :=
  fn_ok tab_ok (hG88 fuel) mixed Try.func88 (c := (Try.f88.body).getD .skip) rfl (fun q hq => by
    rw [(by kernel_rfl : obl (J88 fuel) ((Try.f88.body).getD .skip) = [])] at hq
    cases hq)
def mt88 : List Ev.SV → List Ev.Ob → Bool := fun args objs => match args, objs with
  | [.c (.ptr q0 q1), .c (.int .i64 _)], [.cells q2 [.sl (.int .u8) _, .int .i64 _, .int .i64 _]] => Nat.beq q0 0 && Nat.beq q1 0 && Nat.beq q2 115
  | _, _ => false
def spg88 (F : YF88) : Ev.Spec := fun args objs k => match args, objs with
  | [.c (.ptr q0 q1), .c (.int .i64 x3)], [.cells q2 [.sl (.int .u8) x0, .int .i64 x1, .int .i64 x2]] => bif Nat.beq q0 0 && Nat.beq q1 0 && Nat.beq q2 115 then F x0 x1 x2 x3 (fun r => match r with | (r0, r1, r2, r3) => k (.c (.sl (.int .u8) r0), [.cells 115 [.sl (.int .u8) r1, .int .i64 r2, .int .i64 r3]])) else none
  | _, _ => none
def spec88 (fuel : Nat) : Ev.Spec := spg88 (F_segment_reader_bytes fuel)
theorem ok88 (fuel : Nat) : FnOK Try.prog 88 (spec88 fuel) := by
  intro args objs kk r h
  unfold spec88 spg88 at h
  split at h
  · obtain ⟨hb, h⟩ := cond_some' h
    simp only [Bool.and_eq_true, Nat.beq_eq, decide_eq_true_eq] at hb
    obtain ⟨⟨rfl, rfl⟩, rfl⟩ := hb
    exact fok88 fuel _ _ kk r ((F88_eq fuel _ _ _ _ kk).trans h)
  · cases h
end Go.Proofs.Ytajidgilfkineaa

set_option linter.unusedVariables false
set_option linter.unusedSimpArgs false
set_option maxRecDepth 100000
namespace Go.Proofs.Ytajidgilfkineaa
open Go Ev
def kp89 (i : Nat) : Option (List Nat) := Ev.look i []
def Gg89 (f : Nat) : Option Ev.Spec := Ev.look f []
def G89 (fuel : Nat) : Nat → Option Ev.Spec := Gg89
def J89 (fuel : Nat) (i : Nat) : Option Ev.Blk := Ev.look i []
def F_segment_reader_form (fuel : Nat) (x0 : (List Int)) (x1 : Int) (x2 : Int) (x3 : Bool) (k0 : ((List Int) × Int × Int) → Option Ans) : Option Ans :=
  bif x2 == (0 : Int) then
   bif !x3 then
    k0 (x0, x1, (3 : Int))
   else
    k0 (x0, x1, x2)
  else
   k0 (x0, x1, x2)
abbrev YF89 : Type := ((List Int)) → (Int) → (Int) → (Bool) → (((List Int) × Int × Int) → Option Ans) → Option Ans
theorem F89_eq (fuel : Nat) (x0 : (List Int)) (x1 : Int) (x2 : Int) (x3 : Bool) (k : Ev.Cont) : evalFn tab (G89 fuel) (J89 fuel) kp89 fuel Try.f89 [.c (.ptr 0 0), .c (.bool x3)] [.cells 115 [.sl (.int .u8) x0, .int .i64 x1, .int .i64 x2]] k = F_segment_reader_form fuel x0 x1 x2 x3 (fun r => match r with | (r0, r1, r2) => k (.tup [], [.cells 115 [.sl (.int .u8) r0, .int .i64 r1, .int .i64 r2]])) := by
  kernel_rfl
theorem hG89 (fuel : Nat) : GOK Try.prog (G89 fuel) :=
  gok_nil
theorem fok89 (fuel : Nat) : FnOK Try.prog 89 (evalFn tab (G89 fuel) (J89 fuel) kp89 fuel Try.f89) :=
  fn_ok tab_ok (hG89 fuel) mixed Try.func89 (c := (Try.f89.body).getD .skip) rfl (fun q hq => by
    rw [(by kernel_rfl : obl (J89 fuel) ((Try.f89.body).getD .skip) = [])] at hq
    cases hq)
def mt89 : List Ev.SV → List Ev.Ob → Bool := fun args objs => match args, objs with
  | [.c (.ptr q0 q1), .c (.bool _)], [.cells q2 [.sl (.int .u8) _, .int .i64 _, .int .i64 _]] => Nat.beq q0 0 && Nat.beq q1 0 && Nat.beq q2 115
  | _, _ => false
def spg89 (F : YF89) : Ev.Spec := fun args objs k => match args, objs with
  | [.c (.ptr q0 q1), .c (.bool x3)], [.cells q2 [.sl (.int .u8) x0, .int .i64 x1, .int .i64 x2]] => bif Nat.beq q0 0 && Nat.beq q1 0 && Nat.beq q2 115 then F x0 x1 x2 x3 (fun r => match r with | (r0, r1, r2) => k (.tup [], [.cells 115 [.sl (.int .u8) r0, .int .i64 r1, .int .i64 r2]])) else none
  | _, _ => none
def spec89 (fuel : Nat) : Ev.Spec := spg89 (F_segment_reader_form fuel)
theorem ok89 (fuel : Nat) : FnOK Try.prog 89 (spec89 fuel) := by
  intro args objs kk r h
  unfold spec89 spg89 at h
  split at h
  · obtain ⟨hb, h⟩ := cond_some' h
    simp only [Bool.and_eq_true, Nat.beq_eq, decide_eq_true_eq] at hb
    obtain ⟨⟨rfl, rfl⟩, rfl⟩ := hb
    exact fok89 fuel _ _ kk r ((F89_eq fuel _ _ _ _ kk).trans h)
  · cases h
end Go.Proofs.Ytajidgilfkineaa

set_option linter.unusedVariables false
set_option linter.unusedSimpArgs false
set_option maxRecDepth 100000
namespace Go.Proofs.Ytajidgilfkineaa
open Go Ev
def kp118 (i : Nat) : Option (List Nat) := Ev.look i [(4, [0, 1, 4, 17]), (100000, []), (400000, [4, 5, 6])]
def Gg118 (f : Nat) : Option Ev.Spec := Ev.look f []
def G118 (fuel : Nat) : Nat → Option Ev.Spec := Gg118
def S_bits_GetSize_0 (fuel : Nat) (v : (List Int) × Int × Int × Int) (c : ((List Int) × Int × Int × Int) → Option Ans) (B : (Int × Int × Int → Option Ans) × (Unit → Option Ans)) : Option Ans := match v, B with
  | (x0, x1, x2, x3), (ret, b) =>
   bif Decidable.decide (x3 < (5 : Int)) then
      bif Decidable.decide (Go.IntKind.i64.wrap (x1 + x3) ≥ (↑x0.length : Int)) then
       ret ((0 : Int), (0 : Int), (6 : Int))
      else
       bif Decidable.decide ((0 : Int) ≤ Go.IntKind.i64.wrap (x1 + x3) ∧ Go.IntKind.i64.wrap (x1 + x3) < (↑x0.length : Int)) then
       bif Decidable.decide (Go.IntKind.i64.wrap (x0.getD (Go.IntKind.i64.wrap (x1 + x3)).toNat (0 : Int)) < (128 : Int)) then
         bif Decidable.decide (Go.IntKind.i64.wrap (Go.IntKind.i64.wrap (x2 * (128 : Int)) + (Go.IntKind.i64.wrap (x0.getD (Go.IntKind.i64.wrap (x1 + x3)).toNat (0 : Int))).tmod (128 : Int)) > (2147483647 : Int)) then
          ret ((0 : Int), (0 : Int), (3 : Int))
         else
          bif Decidable.decide (x3 > (0 : Int)) then
           bif Decidable.decide ((0 : Int) ≤ x1 ∧ x1 < (↑x0.length : Int)) then
           bif x0.getD x1.toNat (0 : Int) == (128 : Int) then
             ret ((0 : Int), (0 : Int), (3 : Int))
            else
             ret (Go.IntKind.i64.wrap (Go.IntKind.i64.wrap (x2 * (128 : Int)) + (Go.IntKind.i64.wrap (x0.getD (Go.IntKind.i64.wrap (x1 + x3)).toNat (0 : Int))).tmod (128 : Int)), Go.IntKind.i64.wrap (Go.IntKind.i64.wrap (x1 + x3) + (1 : Int)), (0 : Int))
           else none
          else
           ret (Go.IntKind.i64.wrap (Go.IntKind.i64.wrap (x2 * (128 : Int)) + (Go.IntKind.i64.wrap (x0.getD (Go.IntKind.i64.wrap (x1 + x3)).toNat (0 : Int))).tmod (128 : Int)), Go.IntKind.i64.wrap (Go.IntKind.i64.wrap (x1 + x3) + (1 : Int)), (0 : Int))
        else
         c (x0, x1, Go.IntKind.i64.wrap (Go.IntKind.i64.wrap (x2 * (128 : Int)) + (Go.IntKind.i64.wrap (x0.getD (Go.IntKind.i64.wrap (x1 + x3)).toNat (0 : Int))).tmod (128 : Int)), Go.IntKind.i64.wrap (x3 + (1 : Int)))
       else none
     else
      b ()
def L_bits_GetSize_0 (fuel : Nat) (v : (List Int) × Int × Int × Int) (ret : (Int × Int × Int → Option Ans)) (b : (Unit → Option Ans)) : Option Ans := iter (S_bits_GetSize_0 fuel) fuel v (ret, b)
def J118_0 (fuel : Nat) (i : Nat) : Option Ev.Blk := Ev.look i []
def T118_0 (v : (List Int) × Int × Int × Int) : Ev.St := match v with | (x0, x1, x2, x3) => ⟨[(0, .c (.sl (.int .u8) x0)), (1, .c (.int .i64 x1)), (4, .c (.int .i64 x2)), (17, .c (.int .i64 x3))], [], 0, 0⟩
def E118_0 (K : Ev.Ex → Ev.St → Option Ans) : (Int × Int × Int → Option Ans) × (Unit → Option Ans) := ((fun v => match v with | (x0, x1, x2) => K .ret ⟨[(4, .c (.int .i64 x0)), (5, .c (.int .i64 x1)), (6, .c (.int .i64 x2))], [], 0, 0⟩), (fun v => match v with | () => K .normal ⟨[], [], 0, 0⟩))
theorem S118_0_ok (fuel : Nat) (R : Ev.St → Option Ans) (K : Ev.Ex → Ev.St → Option Ans) (x0 : (List Int)) (x1 : Int) (x2 : Int) (x3 : Int) : evalCode tab (G118 fuel) (J118_0 fuel) kp118 fuel (bodyOf 0 Try.f118) (T118_0 (x0, x1, x2, x3)) (lc kp118 4 0 R K) = S_bits_GetSize_0 fuel (x0, x1, x2, x3) (fun v => R (T118_0 v)) (E118_0 K) := by
  kernel_rfl
def B118_0 (fuel : Nat) : Ev.Blk := fun st K => match canonO (kp118 4) st with
  | some s => (match s with
    | ⟨[(q0, .c (.sl (.int .u8) x0)), (q1, .c (.int .i64 x1)), (q2, .c (.int .i64 x2)), (q3, .c (.int .i64 x3))], [], q4, q5⟩ => bif Nat.beq q0 0 && Nat.beq q1 1 && Nat.beq q2 4 && Nat.beq q3 17 && Nat.beq q4 0 && Nat.beq q5 0 then iter (S_bits_GetSize_0 fuel) fuel (x0, x1, x2, x3) (E118_0 K) else none
    | _ => none)
  | none => none
theorem B118_0_ok (fuel : Nat) (st : Ev.St) (K : Ev.Ex → Ev.St → Option Ans) (r : Ans) (h : B118_0 fuel st K = some r) : evalCode tab (G118 fuel) (J118_0 fuel) kp118 fuel (.block 0 (.loop (bodyOf 0 Try.f118))) st K = some r := by
  unfold B118_0 at h
  split at h
  · rename_i s hs
    split at h
    · obtain ⟨hb, h⟩ := cond_some' h
      simp only [Bool.and_eq_true, Nat.beq_eq, decide_eq_true_eq] at hb
      obtain ⟨⟨⟨⟨⟨rfl, rfl⟩, rfl⟩, rfl⟩, rfl⟩, rfl⟩ := hb
      exact blk_loop (S := T118_0) (ks := E118_0) (step := S_bits_GetSize_0 fuel) (v := (_, _, _, _)) (by kernel_rfl) (by kernel_rfl) (fun R K v => by obtain ⟨x0, x1, x2, x3⟩ := v; exact S118_0_ok fuel R K x0 x1 x2 x3) hs h
    · cases h
  · cases h
def J118 (fuel : Nat) (i : Nat) : Option Ev.Blk := Ev.look i [(100000, B118_0 fuel)]
def F_bits_GetSize (fuel : Nat) (x0 : (List Int)) (x1 : Int) (k0 : (Int × Int × Int) → Option Ans) : Option Ans :=
  bif Decidable.decide (x1 < (0 : Int)) then
   k0 ((0 : Int), (0 : Int), (2 : Int))
  else
   bif Decidable.decide (x1 > (↑x0.length : Int)) then
    k0 ((0 : Int), (0 : Int), (2 : Int))
   else
    (L_bits_GetSize_0 fuel (x0, x1, (0 : Int), (0 : Int))
      (fun (ret0_0, ret0_1, ret0_2) =>
        k0 (ret0_0, ret0_1, ret0_2))
      (fun () =>
        k0 ((0 : Int), (0 : Int), (3 : Int))))
abbrev YF118 : Type := ((List Int)) → (Int) → ((Int × Int × Int) → Option Ans) → Option Ans
theorem F118_eq (fuel : Nat) (x0 : (List Int)) (x1 : Int) (k : Ev.Cont) : evalFn tab (G118 fuel) (J118 fuel) kp118 fuel Try.f118 [.c (.sl (.int .u8) x0), .c (.int .i64 x1)] [] k = F_bits_GetSize fuel x0 x1 (fun r => match r with | (r0, r1, r2) => k (.tup [(false, [.int .i64 r0]), (false, [.int .i64 r1]), (false, [.int .i64 r2])], [])) := by
  kernel_rfl
theorem hG118 (fuel : Nat) : GOK Try.prog (G118 fuel) :=
  gok_nil
theorem B118_0_blk (fuel : Nat) : BlkOK Try.prog Try.f118.ntmps (.block 0 (.loop (bodyOf 0 Try.f118))) (B118_0 fuel) :=
  blk_of (blk_of_code tab_ok (hG118 fuel) mixed (J := J118_0 fuel) (kp := kp118) (fuel := fuel) (by kernel_rfl) (fun q hq => by
    rw [(by kernel_rfl : obl (J118_0 fuel) (.block 0 (.loop (bodyOf 0 Try.f118))) = [])] at hq
    cases hq)) (B118_0_ok fuel)
theorem fok118 (fuel : Nat) : FnOK Try.prog 118 (evalFn tab (G118 fuel) (J118 fuel) kp118 fuel Try.f118) :=
  fn_ok tab_ok (hG118 fuel) mixed Try.func118 (c := (Try.f118.body).getD .skip) rfl (fun q hq => by
    rw [(by kernel_rfl : obl (J118 fuel) ((Try.f118.body).getD .skip) = [(.block 0 (.loop (bodyOf 0 Try.f118)), B118_0 fuel)])] at hq
    simp only [List.mem_cons, List.not_mem_nil, or_false] at hq
    subst hq
    · exact B118_0_blk fuel)
def mt118 : List Ev.SV → List Ev.Ob → Bool := fun args objs => match args, objs with
  | [.c (.sl (.int .u8) _), .c (.int .i64 _)], [] => true
  | _, _ => false
def spg118 (F : YF118) : Ev.Spec := fun args objs k => match args, objs with
  | [.c (.sl (.int .u8) x0), .c (.int .i64 x1)], [] => bif true then F x0 x1 (fun r => match r with | (r0, r1, r2) => k (.tup [(false, [.int .i64 r0]), (false, [.int .i64 r1]), (false, [.int .i64 r2])], [])) else none
  | _, _ => none
def spec118 (fuel : Nat) : Ev.Spec := spg118 (F_bits_GetSize fuel)
theorem ok118 (fuel : Nat) : FnOK Try.prog 118 (spec118 fuel) := by
  intro args objs kk r h
  unfold spec118 spg118 at h
  split at h
  · obtain ⟨hb, h⟩ := cond_some' h
    simp only [Bool.and_eq_true, Nat.beq_eq, decide_eq_true_eq] at hb
    clear hb
    exact fok118 fuel _ _ kk r ((F118_eq fuel _ _ kk).trans h)
  · cases h
end Go.Proofs.Ytajidgilfkineaa

set_option linter.unusedVariables false
set_option linter.unusedSimpArgs false
set_option maxRecDepth 100000
namespace Go.Proofs.Ytajidgilfkineaa
open Go Ev
def kp87 (i : Nat) : Option (List Nat) := Ev.look i []
def Gg87 (f118 : YF118) (f : Nat) : Option Ev.Spec := Ev.look f [(118, spg118 f118)]
def G87 (fuel : Nat) : Nat → Option Ev.Spec := Gg87 (F_bits_GetSize fuel)
def J87 (fuel : Nat) (i : Nat) : Option Ev.Blk := Ev.look i []
def F_segment_reader_size (fuel : Nat) (x0 : (List Int)) (x1 : Int) (x2 : Int) (x3 : Int) (k0 : (Int × (List Int) × Int × Int) → Option Ans) : Option Ans :=
  bif x2 != (0 : Int) then
   k0 ((0 : Int), x0, x1, x2)
  else
   both ((F_bits_GetSize fuel (x0) (x1)
       (fun (y5_0, y5_1, y5_2) =>
         bif y5_2 == (0 : Int) then
          bif Decidable.decide (y5_0 > x3) then
           k0 ((0 : Int), x0, x1, (3 : Int))
          else
           bif y5_2 != (0 : Int) then
            k0 ((0 : Int), x0, x1, y5_2)
           else
            k0 (y5_0, x0, y5_1, y5_2)
         else
          bif y5_2 != (0 : Int) then
           k0 ((0 : Int), x0, x1, y5_2)
          else
           k0 (y5_0, x0, y5_1, y5_2))))
    ((F_bits_GetSize fuel (x0) (x1)
       (fun (y5_0, y5_1, y5_2) =>
         bif y5_2 == (0 : Int) then
          bif Decidable.decide (y5_0 > x3) then
           k0 ((0 : Int), x0, x1, (3 : Int))
          else
           bif y5_2 != (0 : Int) then
            k0 ((0 : Int), x0, x1, y5_2)
           else
            k0 (y5_0, x0, y5_1, y5_2)
         else
          bif y5_2 != (0 : Int) then
           k0 ((0 : Int), x0, x1, y5_2)
          else
           k0 (y5_0, x0, y5_1, y5_2))))
abbrev YF87 : Type := ((List Int)) → (Int) → (Int) → (Int) → ((Int × (List Int) × Int × Int) → Option Ans) → Option Ans
theorem F87_eqg (fuel : Nat) (f118 : YF118) (x0 : (List Int)) (x1 : Int) (x2 : Int) (x3 : Int) (k : Ev.Cont) : evalFn tab (Gg87 f118) (J87 fuel) kp87 fuel Try.f87 [.c (.ptr 0 0), .c (.int .i64 x3)] [.cells 115 [.sl (.int .u8) x0, .int .i64 x1, .int .i64 x2]] k = (fun  (k0 : (Int × (List Int) × Int × Int) → Option Ans) =>
  bif x2 != (0 : Int) then
   k0 ((0 : Int), x0, x1, x2)
  else
   both ((f118 (x0) (x1)
       (fun (y5_0, y5_1, y5_2) =>
         bif y5_2 == (0 : Int) then
          bif Decidable.decide (y5_0 > x3) then
           k0 ((0 : Int), x0, x1, (3 : Int))
          else
           bif y5_2 != (0 : Int) then
            k0 ((0 : Int), x0, x1, y5_2)
           else
            k0 (y5_0, x0, y5_1, y5_2)
         else
          bif y5_2 != (0 : Int) then
           k0 ((0 : Int), x0, x1, y5_2)
          else
           k0 (y5_0, x0, y5_1, y5_2))))
    ((f118 (x0) (x1)
       (fun (y5_0, y5_1, y5_2) =>
         bif y5_2 == (0 : Int) then
          bif Decidable.decide (y5_0 > x3) then
           k0 ((0 : Int), x0, x1, (3 : Int))
          else
           bif y5_2 != (0 : Int) then
            k0 ((0 : Int), x0, x1, y5_2)
           else
            k0 (y5_0, x0, y5_1, y5_2)
         else
          bif y5_2 != (0 : Int) then
           k0 ((0 : Int), x0, x1, y5_2)
          else
           k0 (y5_0, x0, y5_1, y5_2))))) (fun r => match r with | (r0, r1, r2, r3) => k (.c (.int .i64 r0), [.cells 115 [.sl (.int .u8) r1, .int .i64 r2, .int .i64 r3]])) := by
  kernel_rfl
theorem F87_eq (fuel : Nat) (x0 : (List Int)) (x1 : Int) (x2 : Int) (x3 : Int) (k : Ev.Cont) : evalFn tab (G87 fuel) (J87 fuel) kp87 fuel Try.f87 [.c (.ptr 0 0), .c (.int .i64 x3)] [.cells 115 [.sl (.int .u8) x0, .int .i64 x1, .int .i64 x2]] k = F_segment_reader_size fuel x0 x1 x2 x3 (fun r => match r with | (r0, r1, r2, r3) => k (.c (.int .i64 r0), [.cells 115 [.sl (.int .u8) r1, .int .i64 r2, .int .i64 r3]])) :=
  F87_eqg fuel (F_bits_GetSize fuel) x0 x1 x2 x3 k
theorem hG87 (fuel : Nat) : GOK Try.prog (G87 fuel) :=
  gok_cons ⟨ok118 fuel, enters_of Try.func118 (by kernel_rfl) rfl⟩ <|
  gok_nil
theorem fok87 (fuel : Nat) : FnOK Try.prog 87 (evalFn tab (G87 fuel) (J87 fuel) kp87 fuel Try.f87) :=
  fn_ok tab_ok (hG87 fuel) mixed Try.func87 (c := (Try.f87.body).getD .skip) rfl (fun q hq => by
    rw [(by kernel_rfl : obl (J87 fuel) ((Try.f87.body).getD .skip) = [])] at hq
    cases hq)
def mt87 : List Ev.SV → List Ev.Ob → Bool := fun args objs => match args, objs with
  | [.c (.ptr q0 q1), .c (.int .i64 _)], [.cells q2 [.sl (.int .u8) _, .int .i64 _, .int .i64 _]] => Nat.beq q0 0 && Nat.beq q1 0 && Nat.beq q2 115
  | _, _ => false
def spg87 (F : YF87) : Ev.Spec := fun args objs k => match args, objs with
  | [.c (.ptr q0 q1), .c (.int .i64 x3)], [.cells q2 [.sl (.int .u8) x0, .int .i64 x1, .int .i64 x2]] => bif Nat.beq q0 0 && Nat.beq q1 0 && Nat.beq q2 115 then F x0 x1 x2 x3 (fun r => match r with | (r0, r1, r2, r3) => k (.c (.int .i64 r0), [.cells 115 [.sl (.int .u8) r1, .int .i64 r2, .int .i64 r3]])) else none
  | _, _ => none
def spec87 (fuel : Nat) : Ev.Spec := spg87 (F_segment_reader_size fuel)
theorem ok87 (fuel : Nat) : FnOK Try.prog 87 (spec87 fuel) := by
  intro args objs kk r h
  unfold spec87 spg87 at h
  split at h
  · obtain ⟨hb, h⟩ := cond_some' h
    simp only [Bool.and_eq_true, Nat.beq_eq, decide_eq_true_eq] at hb
    obtain ⟨⟨rfl, rfl⟩, rfl⟩ := hb
    exact fok87 fuel _ _ kk r ((F87_eq fuel _ _ _ _ kk).trans h)
  · cases h
end Go.Proofs.Ytajidgilfkineaa

set_option linter.unusedVariables false
set_option linter.unusedSimpArgs false
set_option maxRecDepth 100000
namespace Go.Proofs.Ytajidgilfkineaa
open Go Ev
def kp90 (i : Nat) : Option (List Nat) := Ev.look i [(5, [0, 1, 5, 14, 15]), (100000, [5]), (400000, [4])]
def Gg90 (f87 : YF87) (f89 : YF89) (f : Nat) : Option Ev.Spec := Ev.look f [(87, spg87 f87), (89, spg89 f89)]
def G90 (fuel : Nat) : Nat → Option Ev.Spec := Gg90 (F_segment_reader_size fuel) (F_segment_reader_form fuel)
def S_segment_reader_refs_0 (fuel : Nat) (v : Int × Int × Int × (List Int) × Int × Int × (List Int)) (c : (Int × Int × Int × (List Int) × Int × Int × (List Int)) → Option Ans) (B : ((List Int) × Int × Int × (List Int) → Option Ans)) : Option Ans := match v, B with
  | (x0, x1, x2, x3, x4, x5, x6), b =>
   bif Decidable.decide (x2 < x1) then
      (F_segment_reader_size fuel (x3) (x4) (x5) (x0)
        (fun (y3_0, y3_1, y3_2, y3_3) =>
          bif Decidable.decide (y3_0 > (0 : Int)) then
           bif (↑x6.length : Int) == (0 : Int) then
            (F_segment_reader_form fuel (y3_1) (y3_2) (y3_3) (Bool.true)
              (fun (y9_0, y9_1, y9_2) =>
                bif Decidable.decide ((x6.length + [Go.IntKind.i64.wrap (x0 - y3_0)].length) * (8 : Nat) ≤ (140737488355328 : Nat) ∧ x6.length + [Go.IntKind.i64.wrap (x0 - y3_0)].length ≤ (140737488355328 : Nat)) then
                c (x0, x1, Go.IntKind.i64.wrap (x2 + (1 : Int)), y9_0, y9_1, y9_2, x6 ++ [Go.IntKind.i64.wrap (x0 - y3_0)])
                else none))
           else
            bif Decidable.decide ((0 : Int) ≤ Go.IntKind.i64.wrap ((↑x6.length : Int) - (1 : Int)) ∧ Go.IntKind.i64.wrap ((↑x6.length : Int) - (1 : Int)) < (↑x6.length : Int)) then
            (F_segment_reader_form fuel (y3_1) (y3_2) (y3_3) (Decidable.decide (Go.IntKind.i64.wrap (x0 - y3_0) > x6.getD (Go.IntKind.i64.wrap ((↑x6.length : Int) - (1 : Int))).toNat (0 : Int)))
               (fun (y10_0, y10_1, y10_2) =>
                 bif Decidable.decide ((x6.length + [Go.IntKind.i64.wrap (x0 - y3_0)].length) * (8 : Nat) ≤ (140737488355328 : Nat) ∧ x6.length + [Go.IntKind.i64.wrap (x0 - y3_0)].length ≤ (140737488355328 : Nat)) then
                 c (x0, x1, Go.IntKind.i64.wrap (x2 + (1 : Int)), y10_0, y10_1, y10_2, x6 ++ [Go.IntKind.i64.wrap (x0 - y3_0)])
                 else none))
            else none
          else
           (F_segment_reader_form fuel (y3_1) (y3_2) (y3_3) (Bool.false)
             (fun (y8_0, y8_1, y8_2) =>
               bif Decidable.decide ((x6.length + [Go.IntKind.i64.wrap (x0 - y3_0)].length) * (8 : Nat) ≤ (140737488355328 : Nat) ∧ x6.length + [Go.IntKind.i64.wrap (x0 - y3_0)].length ≤ (140737488355328 : Nat)) then
               c (x0, x1, Go.IntKind.i64.wrap (x2 + (1 : Int)), y8_0, y8_1, y8_2, x6 ++ [Go.IntKind.i64.wrap (x0 - y3_0)])
               else none))))
     else
      b (x3, x4, x5, x6)
def L_segment_reader_refs_0 (fuel : Nat) (v : Int × Int × Int × (List Int) × Int × Int × (List Int)) (b : ((List Int) × Int × Int × (List Int) → Option Ans)) : Option Ans := iter (S_segment_reader_refs_0 fuel) fuel v b
def J90_0 (fuel : Nat) (i : Nat) : Option Ev.Blk := Ev.look i []
def T90_0 (v : Int × Int × Int × (List Int) × Int × Int × (List Int)) : Ev.St := match v with | (x0, x1, x2, x3, x4, x5, x6) => ⟨[(0, .c (.ptr 0 0)), (1, .c (.int .i64 x0)), (5, .c (.own 1)), (14, .c (.int .i64 x1)), (15, .c (.int .i64 x2))], [(0, .cells 115 [.sl (.int .u8) x3, .int .i64 x4, .int .i64 x5]), (1, .vec 3 (.int .i64) x6 true)], 2, 1⟩
def E90_0 (K : Ev.Ex → Ev.St → Option Ans) : ((List Int) × Int × Int × (List Int) → Option Ans) := (fun v => match v with | (x0, x1, x2, x3) => K .normal ⟨[(5, .c (.own 1))], [(0, .cells 115 [.sl (.int .u8) x0, .int .i64 x1, .int .i64 x2]), (1, .vec 3 (.int .i64) x3 true)], 2, 1⟩)
theorem S90_0_okg (fuel : Nat) (f87 : YF87) (f89 : YF89) (R : Ev.St → Option Ans) (K : Ev.Ex → Ev.St → Option Ans) (x0 : Int) (x1 : Int) (x2 : Int) (x3 : (List Int)) (x4 : Int) (x5 : Int) (x6 : (List Int)) : evalCode tab (Gg90 f87 f89) (J90_0 fuel) kp90 fuel (bodyOf 0 Try.f90) (T90_0 (x0, x1, x2, x3, x4, x5, x6)) (lc kp90 5 0 R K) = (fun (c : (Int × Int × Int × (List Int) × Int × Int × (List Int)) → Option Ans) (B : ((List Int) × Int × Int × (List Int) → Option Ans)) => match B with
  | b =>
   bif Decidable.decide (x2 < x1) then
      (f87 (x3) (x4) (x5) (x0)
        (fun (y3_0, y3_1, y3_2, y3_3) =>
          bif Decidable.decide (y3_0 > (0 : Int)) then
           bif (↑x6.length : Int) == (0 : Int) then
            (f89 (y3_1) (y3_2) (y3_3) (Bool.true)
              (fun (y9_0, y9_1, y9_2) =>
                bif Decidable.decide ((x6.length + [Go.IntKind.i64.wrap (x0 - y3_0)].length) * (8 : Nat) ≤ (140737488355328 : Nat) ∧ x6.length + [Go.IntKind.i64.wrap (x0 - y3_0)].length ≤ (140737488355328 : Nat)) then
                c (x0, x1, Go.IntKind.i64.wrap (x2 + (1 : Int)), y9_0, y9_1, y9_2, x6 ++ [Go.IntKind.i64.wrap (x0 - y3_0)])
                else none))
           else
            bif Decidable.decide ((0 : Int) ≤ Go.IntKind.i64.wrap ((↑x6.length : Int) - (1 : Int)) ∧ Go.IntKind.i64.wrap ((↑x6.length : Int) - (1 : Int)) < (↑x6.length : Int)) then
            (f89 (y3_1) (y3_2) (y3_3) (Decidable.decide (Go.IntKind.i64.wrap (x0 - y3_0) > x6.getD (Go.IntKind.i64.wrap ((↑x6.length : Int) - (1 : Int))).toNat (0 : Int)))
               (fun (y10_0, y10_1, y10_2) =>
                 bif Decidable.decide ((x6.length + [Go.IntKind.i64.wrap (x0 - y3_0)].length) * (8 : Nat) ≤ (140737488355328 : Nat) ∧ x6.length + [Go.IntKind.i64.wrap (x0 - y3_0)].length ≤ (140737488355328 : Nat)) then
                 c (x0, x1, Go.IntKind.i64.wrap (x2 + (1 : Int)), y10_0, y10_1, y10_2, x6 ++ [Go.IntKind.i64.wrap (x0 - y3_0)])
                 else none))
            else none
          else
           (f89 (y3_1) (y3_2) (y3_3) (Bool.false)
             (fun (y8_0, y8_1, y8_2) =>
               bif Decidable.decide ((x6.length + [Go.IntKind.i64.wrap (x0 - y3_0)].length) * (8 : Nat) ≤ (140737488355328 : Nat) ∧ x6.length + [Go.IntKind.i64.wrap (x0 - y3_0)].length ≤ (140737488355328 : Nat)) then
               c (x0, x1, Go.IntKind.i64.wrap (x2 + (1 : Int)), y8_0, y8_1, y8_2, x6 ++ [Go.IntKind.i64.wrap (x0 - y3_0)])
               else none))))
     else
      b (x3, x4, x5, x6)) (fun v => R (T90_0 v)) (E90_0 K) := by
  kernel_rfl
theorem S90_0_ok (fuel : Nat) (R : Ev.St → Option Ans) (K : Ev.Ex → Ev.St → Option Ans) (x0 : Int) (x1 : Int) (x2 : Int) (x3 : (List Int)) (x4 : Int) (x5 : Int) (x6 : (List Int)) : evalCode tab (G90 fuel) (J90_0 fuel) kp90 fuel (bodyOf 0 Try.f90) (T90_0 (x0, x1, x2, x3, x4, x5, x6)) (lc kp90 5 0 R K) = S_segment_reader_refs_0 fuel (x0, x1, x2, x3, x4, x5, x6) (fun v => R (T90_0 v)) (E90_0 K) :=
  S90_0_okg fuel (F_segment_reader_size fuel) (F_segment_reader_form fuel) R K x0 x1 x2 x3 x4 x5 x6
def B90_0 (fuel : Nat) : Ev.Blk := fun st K => match canonO (kp90 5) st with
  | some s => (match s with
    | ⟨[(q0, .c (.ptr q1 q2)), (q3, .c (.int .i64 x0)), (q4, .c (.own q5)), (q6, .c (.int .i64 x1)), (q7, .c (.int .i64 x2))], [(q8, .cells q9 [.sl (.int .u8) x3, .int .i64 x4, .int .i64 x5]), (q10, .vec q11 (.int .i64) x6 true)], q12, q13⟩ => bif Nat.beq q0 0 && Nat.beq q1 0 && Nat.beq q2 0 && Nat.beq q3 1 && Nat.beq q4 5 && Nat.beq q5 1 && Nat.beq q6 14 && Nat.beq q7 15 && Nat.beq q8 0 && Nat.beq q9 115 && Nat.beq q10 1 && Nat.beq q11 3 && Nat.beq q12 2 && Nat.beq q13 1 then iter (S_segment_reader_refs_0 fuel) fuel (x0, x1, x2, x3, x4, x5, x6) (E90_0 K) else none
    | _ => none)
  | none => none
theorem B90_0_ok (fuel : Nat) (st : Ev.St) (K : Ev.Ex → Ev.St → Option Ans) (r : Ans) (h : B90_0 fuel st K = some r) : evalCode tab (G90 fuel) (J90_0 fuel) kp90 fuel (.block 0 (.loop (bodyOf 0 Try.f90))) st K = some r := by
  unfold B90_0 at h
  split at h
  · rename_i s hs
    split at h
    · obtain ⟨hb, h⟩ := cond_some' h
      simp only [Bool.and_eq_true, Nat.beq_eq, decide_eq_true_eq] at hb
      obtain ⟨⟨⟨⟨⟨⟨⟨⟨⟨⟨⟨⟨⟨rfl, rfl⟩, rfl⟩, rfl⟩, rfl⟩, rfl⟩, rfl⟩, rfl⟩, rfl⟩, rfl⟩, rfl⟩, rfl⟩, rfl⟩, rfl⟩ := hb
      exact blk_loop (S := T90_0) (ks := E90_0) (step := S_segment_reader_refs_0 fuel) (v := (_, _, _, _, _, _, _)) (by kernel_rfl) (by kernel_rfl) (fun R K v => by obtain ⟨x0, x1, x2, x3, x4, x5, x6⟩ := v; exact S90_0_ok fuel R K x0 x1 x2 x3 x4 x5 x6) hs h
    · cases h
  · cases h
def J90 (fuel : Nat) (i : Nat) : Option Ev.Blk := Ev.look i [(100000, B90_0 fuel)]
def F_segment_reader_refs (fuel : Nat) (x0 : (List Int)) (x1 : Int) (x2 : Int) (x3 : Int) (k0 : ((List Int) × Int × Int × (List Int)) → Option Ans) : Option Ans :=
  (F_segment_reader_size fuel (x0) (x1) (x2) ((20 : Int))
    (fun (y2_0, y2_1, y2_2, y2_3) =>
      (F_segment_reader_form fuel (y2_1) (y2_2) (y2_3) (Decidable.decide (y2_0 > (0 : Int)))
        (fun (y6_0, y6_1, y6_2) =>
          (L_segment_reader_refs_0 fuel (x3, y2_0, (0 : Int), y6_0, y6_1, y6_2, [])
            (fun (b0_0, b0_1, b0_2, b0_3) =>
              k0 (b0_0, b0_1, b0_2, b0_3)))))))
abbrev YF90 : Type := ((List Int)) → (Int) → (Int) → (Int) → (((List Int) × Int × Int × (List Int)) → Option Ans) → Option Ans
theorem F90_eqg (fuel : Nat) (f87 : YF87) (f89 : YF89) (x0 : (List Int)) (x1 : Int) (x2 : Int) (x3 : Int) (k : Ev.Cont) : evalFn tab (Gg90 f87 f89) (J90 fuel) kp90 fuel Try.f90 [.c (.ptr 0 0), .c (.int .i64 x3)] [.cells 115 [.sl (.int .u8) x0, .int .i64 x1, .int .i64 x2]] k = (fun  (k0 : ((List Int) × Int × Int × (List Int)) → Option Ans) =>
  (f87 (x0) (x1) (x2) ((20 : Int))
    (fun (y2_0, y2_1, y2_2, y2_3) =>
      (f89 (y2_1) (y2_2) (y2_3) (Decidable.decide (y2_0 > (0 : Int)))
        (fun (y6_0, y6_1, y6_2) =>
          (L_segment_reader_refs_0 fuel (x3, y2_0, (0 : Int), y6_0, y6_1, y6_2, [])
            (fun (b0_0, b0_1, b0_2, b0_3) =>
              k0 (b0_0, b0_1, b0_2, b0_3)))))))) (fun r => match r with | (r0, r1, r2, r3) => k (.c (.own 1), [.cells 115 [.sl (.int .u8) r0, .int .i64 r1, .int .i64 r2], .vec 3 (.int .i64) r3 true])) := by
  kernel_rfl
theorem F90_eq (fuel : Nat) (x0 : (List Int)) (x1 : Int) (x2 : Int) (x3 : Int) (k : Ev.Cont) : evalFn tab (G90 fuel) (J90 fuel) kp90 fuel Try.f90 [.c (.ptr 0 0), .c (.int .i64 x3)] [.cells 115 [.sl (.int .u8) x0, .int .i64 x1, .int .i64 x2]] k = F_segment_reader_refs fuel x0 x1 x2 x3 (fun r => match r with | (r0, r1, r2, r3) => k (.c (.own 1), [.cells 115 [.sl (.int .u8) r0, .int .i64 r1, .int .i64 r2], .vec 3 (.int .i64) r3 true])) :=
  F90_eqg fuel (F_segment_reader_size fuel) (F_segment_reader_form fuel) x0 x1 x2 x3 k
theorem hG90 (fuel : Nat) : GOK Try.prog (G90 fuel) :=
  gok_cons ⟨ok87 fuel, enters_of Try.func87 (by kernel_rfl) rfl⟩ <|
  gok_cons ⟨ok89 fuel, enters_of Try.func89 (by kernel_rfl) rfl⟩ <|
  gok_nil
theorem B90_0_blk (fuel : Nat) : BlkOK Try.prog Try.f90.ntmps (.block 0 (.loop (bodyOf 0 Try.f90))) (B90_0 fuel) :=
  blk_of (blk_of_code tab_ok (hG90 fuel) mixed (J := J90_0 fuel) (kp := kp90) (fuel := fuel) (by kernel_rfl) (fun q hq => by
    rw [(by kernel_rfl : obl (J90_0 fuel) (.block 0 (.loop (bodyOf 0 Try.f90))) = [])] at hq
    cases hq)) (B90_0_ok fuel)
theorem fok90 (fuel : Nat) : FnOK Try.prog 90 (evalFn tab (G90 fuel) (J90 fuel) kp90 fuel Try.f90) :=
  fn_ok tab_ok (hG90 fuel) mixed Try.func90 (c := (Try.f90.body).getD .skip) rfl (fun q hq => by
    rw [(by kernel_rfl : obl (J90 fuel) ((Try.f90.body).getD .skip) = [(.block 0 (.loop (bodyOf 0 Try.f90)), B90_0 fuel)])] at hq
    simp only [List.mem_cons, List.not_mem_nil, or_false] at hq
    subst hq
    · exact B90_0_blk fuel)
def mt90 : List Ev.SV → List Ev.Ob → Bool := fun args objs => match args, objs with
  | [.c (.ptr q0 q1), .c (.int .i64 _)], [.cells q2 [.sl (.int .u8) _, .int .i64 _, .int .i64 _]] => Nat.beq q0 0 && Nat.beq q1 0 && Nat.beq q2 115
  | _, _ => false
def spg90 (F : YF90) : Ev.Spec := fun args objs k => match args, objs with
  | [.c (.ptr q0 q1), .c (.int .i64 x3)], [.cells q2 [.sl (.int .u8) x0, .int .i64 x1, .int .i64 x2]] => bif Nat.beq q0 0 && Nat.beq q1 0 && Nat.beq q2 115 then F x0 x1 x2 x3 (fun r => match r with | (r0, r1, r2, r3) => k (.c (.own 1), [.cells 115 [.sl (.int .u8) r0, .int .i64 r1, .int .i64 r2], .vec 3 (.int .i64) r3 true])) else none
  | _, _ => none
def spec90 (fuel : Nat) : Ev.Spec := spg90 (F_segment_reader_refs fuel)
theorem ok90 (fuel : Nat) : FnOK Try.prog 90 (spec90 fuel) := by
  intro args objs kk r h
  unfold spec90 spg90 at h
  split at h
  · obtain ⟨hb, h⟩ := cond_some' h
    simp only [Bool.and_eq_true, Nat.beq_eq, decide_eq_true_eq] at hb
    obtain ⟨⟨rfl, rfl⟩, rfl⟩ := hb
    exact fok90 fuel _ _ kk r ((F90_eq fuel _ _ _ _ kk).trans h)
  · cases h
end Go.Proofs.Ytajidgilfkineaa

set_option linter.unusedVariables false
set_option linter.unusedSimpArgs false
set_option maxRecDepth 100000
namespace Go.Proofs.Ytajidgilfkineaa
open Go Ev
def kp51 (i : Nat) : Option (List Nat) := Ev.look i [(14, [4, 8, 10, 75, 76, 77]), (100000, [4, 8]), (400000, [4, 5, 6, 7])]
def Gg51 (f87 : YF87) (f88 : YF88) (f89 : YF89) (f90 : YF90) (f91 : YF91) (f : Nat) : Option Ev.Spec := Ev.look f [(87, spg87 f87), (88, spg88 f88), (89, spg89 f89), (90, spg90 f90), (91, spg91 f91)]
def G51 (fuel : Nat) : Nat → Option Ev.Spec := Gg51 (F_segment_reader_size fuel) (F_segment_reader_bytes fuel) (F_segment_reader_form fuel) (F_segment_reader_refs fuel) (F_bits_Unpack fuel)
def S_segment_GetHeader_0 (fuel : Nat) (v : Int × Int × Int × Int × Int × Int × (List Int) × Int × Int × (List Int) × (List Int) × (List Bool) × (List Int)) (c : (Int × Int × Int × Int × Int × Int × (List Int) × Int × Int × (List Int) × (List Int) × (List Bool) × (List Int)) → Option Ans) (B : (Int × Int × Int × (List Int) × Int × Int × (List Int) × (List Bool) × (List Int) → Option Ans)) : Option Ans := match v, B with
  | (x0, x1, x2, x3, x4, x5, x6, x7, x8, x9, x10, x11, x12), b =>
   bif Decidable.decide (x2 < x1) then
      bif Decidable.decide ((0 : Int) ≤ x2 ∧ x2 < (↑x9.length : Int)) then
      bif Decidable.decide (x2 < x0) then
        bif Decidable.decide ((x11.length + [x9.getD x2.toNat (0 : Int) == (1 : Int)].length) * (1 : Nat) ≤ (140737488355328 : Nat) ∧ x11.length + [x9.getD x2.toNat (0 : Int) == (1 : Int)].length ≤ (140737488355328 : Nat)) then
        c (x0, x1, Go.IntKind.i64.wrap (x2 + (1 : Int)), x3, x4, x5, x6, x7, x8, x9, x10, x11 ++ [x9.getD x2.toNat (0 : Int) == (1 : Int)], x12)
        else none
       else
        (F_segment_reader_form fuel (x6) (x7) (x8) (x9.getD x2.toNat (0 : Int) == (0 : Int))
          (fun (y5_0, y5_1, y5_2) =>
            c (x0, x1, Go.IntKind.i64.wrap (x2 + (1 : Int)), x3, x4, x5, y5_0, y5_1, y5_2, x9, x10, x11, x12)))
      else none
     else
      b (x3, x4, x5, x6, x7, x8, x10, x11, x12)
def L_segment_GetHeader_0 (fuel : Nat) (v : Int × Int × Int × Int × Int × Int × (List Int) × Int × Int × (List Int) × (List Int) × (List Bool) × (List Int)) (b : (Int × Int × Int × (List Int) × Int × Int × (List Int) × (List Bool) × (List Int) → Option Ans)) : Option Ans := iter (S_segment_GetHeader_0 fuel) fuel v b
def J51_0 (fuel : Nat) (i : Nat) : Option Ev.Blk := Ev.look i []
def T51_0 (v : Int × Int × Int × Int × Int × Int × (List Int) × Int × Int × (List Int) × (List Int) × (List Bool) × (List Int)) : Ev.St := match v with | (x0, x1, x2, x3, x4, x5, x6, x7, x8, x9, x10, x11, x12) => ⟨[(4, .c (.ptr 0 0)), (8, .c (.ptr 1 0)), (10, .c (.int .i64 x0)), (75, .c (.own 2)), (76, .c (.int .i64 x1)), (77, .c (.int .i64 x2))], [(0, .cells 63 [.int .i64 x3, .int .i64 x4, .int .i64 x5, .own 3, .own 4, .own 5]), (1, .cells 115 [.sl (.int .u8) x6, .int .i64 x7, .int .i64 x8]), (2, .vec 5 (.int .u8) x9 true), (3, .vec 3 (.int .i64) x10 true), (4, .vec 4 .bool x11 true), (5, .vec 5 (.int .u8) x12 true)], 6, 0⟩
def E51_0 (K : Ev.Ex → Ev.St → Option Ans) : (Int × Int × Int × (List Int) × Int × Int × (List Int) × (List Bool) × (List Int) → Option Ans) := (fun v => match v with | (x0, x1, x2, x3, x4, x5, x6, x7, x8) => K .normal ⟨[(4, .c (.ptr 0 0)), (8, .c (.ptr 1 0))], [(0, .cells 63 [.int .i64 x0, .int .i64 x1, .int .i64 x2, .own 2, .own 3, .own 4]), (1, .cells 115 [.sl (.int .u8) x3, .int .i64 x4, .int .i64 x5]), (2, .vec 3 (.int .i64) x6 true), (3, .vec 4 .bool x7 true), (4, .vec 5 (.int .u8) x8 true)], 5, 0⟩)
theorem S51_0_okg (fuel : Nat) (f87 : YF87) (f88 : YF88) (f89 : YF89) (f90 : YF90) (f91 : YF91) (R : Ev.St → Option Ans) (K : Ev.Ex → Ev.St → Option Ans) (x0 : Int) (x1 : Int) (x2 : Int) (x3 : Int) (x4 : Int) (x5 : Int) (x6 : (List Int)) (x7 : Int) (x8 : Int) (x9 : (List Int)) (x10 : (List Int)) (x11 : (List Bool)) (x12 : (List Int)) : evalCode tab (Gg51 f87 f88 f89 f90 f91) (J51_0 fuel) kp51 fuel (bodyOf 0 Try.f51) (T51_0 (x0, x1, x2, x3, x4, x5, x6, x7, x8, x9, x10, x11, x12)) (lc kp51 14 0 R K) = (fun (c : (Int × Int × Int × Int × Int × Int × (List Int) × Int × Int × (List Int) × (List Int) × (List Bool) × (List Int)) → Option Ans) (B : (Int × Int × Int × (List Int) × Int × Int × (List Int) × (List Bool) × (List Int) → Option Ans)) => match B with
  | b =>
   bif Decidable.decide (x2 < x1) then
      bif Decidable.decide ((0 : Int) ≤ x2 ∧ x2 < (↑x9.length : Int)) then
      bif Decidable.decide (x2 < x0) then
        bif Decidable.decide ((x11.length + [x9.getD x2.toNat (0 : Int) == (1 : Int)].length) * (1 : Nat) ≤ (140737488355328 : Nat) ∧ x11.length + [x9.getD x2.toNat (0 : Int) == (1 : Int)].length ≤ (140737488355328 : Nat)) then
        c (x0, x1, Go.IntKind.i64.wrap (x2 + (1 : Int)), x3, x4, x5, x6, x7, x8, x9, x10, x11 ++ [x9.getD x2.toNat (0 : Int) == (1 : Int)], x12)
        else none
       else
        (f89 (x6) (x7) (x8) (x9.getD x2.toNat (0 : Int) == (0 : Int))
          (fun (y5_0, y5_1, y5_2) =>
            c (x0, x1, Go.IntKind.i64.wrap (x2 + (1 : Int)), x3, x4, x5, y5_0, y5_1, y5_2, x9, x10, x11, x12)))
      else none
     else
      b (x3, x4, x5, x6, x7, x8, x10, x11, x12)) (fun v => R (T51_0 v)) (E51_0 K) := by
  kernel_rfl
theorem S51_0_ok (fuel : Nat) (R : Ev.St → Option Ans) (K : Ev.Ex → Ev.St → Option Ans) (x0 : Int) (x1 : Int) (x2 : Int) (x3 : Int) (x4 : Int) (x5 : Int) (x6 : (List Int)) (x7 : Int) (x8 : Int) (x9 : (List Int)) (x10 : (List Int)) (x11 : (List Bool)) (x12 : (List Int)) : evalCode tab (G51 fuel) (J51_0 fuel) kp51 fuel (bodyOf 0 Try.f51) (T51_0 (x0, x1, x2, x3, x4, x5, x6, x7, x8, x9, x10, x11, x12)) (lc kp51 14 0 R K) = S_segment_GetHeader_0 fuel (x0, x1, x2, x3, x4, x5, x6, x7, x8, x9, x10, x11, x12) (fun v => R (T51_0 v)) (E51_0 K) :=
  S51_0_okg fuel (F_segment_reader_size fuel) (F_segment_reader_bytes fuel) (F_segment_reader_form fuel) (F_segment_reader_refs fuel) (F_bits_Unpack fuel) R K x0 x1 x2 x3 x4 x5 x6 x7 x8 x9 x10 x11 x12
def B51_0 (fuel : Nat) : Ev.Blk := fun st K => match canonO (kp51 14) st with
  | some s => (match s with
    | ⟨[(q0, .c (.ptr q1 q2)), (q3, .c (.ptr q4 q5)), (q6, .c (.int .i64 x0)), (q7, .c (.own q8)), (q9, .c (.int .i64 x1)), (q10, .c (.int .i64 x2))], [(q11, .cells q12 [.int .i64 x3, .int .i64 x4, .int .i64 x5, .own q13, .own q14, .own q15]), (q16, .cells q17 [.sl (.int .u8) x6, .int .i64 x7, .int .i64 x8]), (q18, .vec q19 (.int .u8) x9 true), (q20, .vec q21 (.int .i64) x10 true), (q22, .vec q23 .bool x11 true), (q24, .vec q25 (.int .u8) x12 true)], q26, q27⟩ => bif Nat.beq q0 4 && Nat.beq q1 0 && Nat.beq q2 0 && Nat.beq q3 8 && Nat.beq q4 1 && Nat.beq q5 0 && Nat.beq q6 10 && Nat.beq q7 75 && Nat.beq q8 2 && Nat.beq q9 76 && Nat.beq q10 77 && Nat.beq q11 0 && Nat.beq q12 63 && Nat.beq q13 3 && Nat.beq q14 4 && Nat.beq q15 5 && Nat.beq q16 1 && Nat.beq q17 115 && Nat.beq q18 2 && Nat.beq q19 5 && Nat.beq q20 3 && Nat.beq q21 3 && Nat.beq q22 4 && Nat.beq q23 4 && Nat.beq q24 5 && Nat.beq q25 5 && Nat.beq q26 6 && Nat.beq q27 0 then iter (S_segment_GetHeader_0 fuel) fuel (x0, x1, x2, x3, x4, x5, x6, x7, x8, x9, x10, x11, x12) (E51_0 K) else none
    | _ => none)
  | none => none
theorem B51_0_ok (fuel : Nat) (st : Ev.St) (K : Ev.Ex → Ev.St → Option Ans) (r : Ans) (h : B51_0 fuel st K = some r) : evalCode tab (G51 fuel) (J51_0 fuel) kp51 fuel (.block 0 (.loop (bodyOf 0 Try.f51))) st K = some r := by
  unfold B51_0 at h
  split at h
  · rename_i s hs
    split at h
    · obtain ⟨hb, h⟩ := cond_some' h
      simp only [Bool.and_eq_true, Nat.beq_eq, decide_eq_true_eq] at hb
      obtain ⟨⟨⟨⟨⟨⟨⟨⟨⟨⟨⟨⟨⟨⟨⟨⟨⟨⟨⟨⟨⟨⟨⟨⟨⟨⟨⟨rfl, rfl⟩, rfl⟩, rfl⟩, rfl⟩, rfl⟩, rfl⟩, rfl⟩, rfl⟩, rfl⟩, rfl⟩, rfl⟩, rfl⟩, rfl⟩, rfl⟩, rfl⟩, rfl⟩, rfl⟩, rfl⟩, rfl⟩, rfl⟩, rfl⟩, rfl⟩, rfl⟩, rfl⟩, rfl⟩, rfl⟩, rfl⟩ := hb
      exact blk_loop (S := T51_0) (ks := E51_0) (step := S_segment_GetHeader_0 fuel) (v := (_, _, _, _, _, _, _, _, _, _, _, _, _)) (by kernel_rfl) (by kernel_rfl) (fun R K v => by obtain ⟨x0, x1, x2, x3, x4, x5, x6, x7, x8, x9, x10, x11, x12⟩ := v; exact S51_0_ok fuel R K x0 x1 x2 x3 x4 x5 x6 x7 x8 x9 x10 x11 x12) hs h
    · cases h
  · cases h
def J51 (fuel : Nat) (i : Nat) : Option Ev.Blk := Ev.look i [(100000, B51_0 fuel)]
def F_segment_GetHeader (fuel : Nat) (x0 : (List Int)) (x1 : Int) (k0 : (Int × Int × Int × Int × Int × Int × (List Int) × (List Bool) × (List Int)) → Option Ans) : Option Ans :=
  bif Decidable.decide (x1 < (0 : Int)) then
   k0 ((0 : Int), (0 : Int), (0 : Int), (0 : Int), (0 : Int), (2 : Int), [], [], [])
  else
   bif Decidable.decide (x1 > (↑x0.length : Int)) then
    k0 ((0 : Int), (0 : Int), (0 : Int), (0 : Int), (0 : Int), (2 : Int), [], [], [])
   else
    (F_segment_reader_size fuel (x0) (x1) ((0 : Int)) ((10000 : Int))
      (fun (y4_0, y4_1, y4_2, y4_3) =>
        (F_segment_reader_bytes fuel (y4_1) (y4_2) (y4_3) ((1 : Int))
          (fun (y8_0, y8_1, y8_2, y8_3) =>
            bif Decidable.decide ((0 : Int) ≤ (0 : Int) ∧ (0 : Int) < (↑y8_0.length : Int)) then
            (F_segment_reader_form fuel (y8_1) (y8_2) (y8_3) (Decidable.decide (Go.IntKind.i64.wrap (y8_0.getD (Int.toNat (0 : Int)) (0 : Int)) ≤ (31 : Int)))
               (fun (y13_0, y13_1, y13_2) =>
                 bif Decidable.decide (Go.IntKind.i64.wrap (y8_0.getD (Int.toNat (0 : Int)) (0 : Int)) ≥ (16 : Int)) then
                  bif y13_2 == (0 : Int) then
                   (F_segment_reader_refs fuel (y13_0) (y13_1) (y13_2) (y4_0)
                     (fun (y19_0, y19_1, y19_2, y19_3) =>
                       (F_segment_reader_bytes fuel (y19_0) (y19_1) (y19_2) (Go.IntKind.i64.wrap ((Go.IntKind.i64.wrap (Go.IntKind.i64.wrap ((↑y19_3.length : Int) + (1 : Int)) + (7 : Int))).tdiv (8 : Int)))
                         (fun (y23_0, y23_1, y23_2, y23_3) =>
                           (F_bits_Unpack fuel (y23_0) (Go.IntKind.i64.wrap ((8 : Int) * (↑y23_0.length : Int)))
                             (fun (y27_0, y27_1) =>
                               (L_segment_GetHeader_0 fuel (Go.IntKind.i64.wrap ((↑y19_3.length : Int) + (1 : Int)), (↑y27_1.length : Int), (0 : Int), y4_0, (Go.IntKind.i64.wrap (y8_0.getD (Int.toNat (0 : Int)) (0 : Int))).tmod (16 : Int), (0 : Int), y23_1, y23_2, y23_3, y27_1, y19_3, [], [])
                                 (fun (b0_0, b0_1, b0_2, b0_3, b0_4, b0_5, b0_6, b0_7, b0_8) =>
                                   (F_segment_reader_size fuel (b0_3) (b0_4) (b0_5) ((1000 : Int))
                                     (fun (y35_0, y35_1, y35_2, y35_3) =>
                                       (F_segment_reader_size fuel (y35_1) (y35_2) (y35_3) ((20000 : Int))
                                         (fun (y39_0, y39_1, y39_2, y39_3) =>
                                           bif y39_3 != (0 : Int) then
                                            both (both (k0 ((0 : Int), (0 : Int), (0 : Int), (0 : Int), (0 : Int), y39_3, [], [], []))
                                               (k0 ((0 : Int), (0 : Int), (0 : Int), (0 : Int), (0 : Int), y39_3, [], [], [])))
                                             (k0 ((0 : Int), (0 : Int), (0 : Int), (0 : Int), (0 : Int), y39_3, [], [], []))
                                           else
                                            both (both (k0 (b0_0, b0_1, y35_0, y39_0, y39_2, (0 : Int), b0_6, b0_7, b0_8))
                                               (k0 (b0_0, b0_1, y35_0, y39_0, y39_2, (0 : Int), b0_6, b0_7, b0_8)))
                                             (k0 (b0_0, b0_1, y35_0, y39_0, y39_2, (0 : Int), b0_6, b0_7, b0_8))))))))))))))
                  else
                   (F_segment_reader_bytes fuel (y13_0) (y13_1) (y13_2) (Go.IntKind.i64.wrap ((Go.IntKind.i64.wrap (Go.IntKind.i64.wrap ((↑(0 : Nat) : Int) + (1 : Int)) + (7 : Int))).tdiv (8 : Int)))
                     (fun (y19_0, y19_1, y19_2, y19_3) =>
                       (F_bits_Unpack fuel (y19_0) (Go.IntKind.i64.wrap ((8 : Int) * (↑y19_0.length : Int)))
                         (fun (y23_0, y23_1) =>
                           (L_segment_GetHeader_0 fuel (Go.IntKind.i64.wrap ((↑(0 : Nat) : Int) + (1 : Int)), (↑y23_1.length : Int), (0 : Int), y4_0, (Go.IntKind.i64.wrap (y8_0.getD (Int.toNat (0 : Int)) (0 : Int))).tmod (16 : Int), (0 : Int), y19_1, y19_2, y19_3, y23_1, [], [], [])
                             (fun (b0_0, b0_1, b0_2, b0_3, b0_4, b0_5, b0_6, b0_7, b0_8) =>
                               (F_segment_reader_size fuel (b0_3) (b0_4) (b0_5) ((1000 : Int))
                                 (fun (y31_0, y31_1, y31_2, y31_3) =>
                                   (F_segment_reader_size fuel (y31_1) (y31_2) (y31_3) ((20000 : Int))
                                     (fun (y35_0, y35_1, y35_2, y35_3) =>
                                       bif y35_3 != (0 : Int) then
                                        both (both (k0 ((0 : Int), (0 : Int), (0 : Int), (0 : Int), (0 : Int), y35_3, [], [], []))
                                           (k0 ((0 : Int), (0 : Int), (0 : Int), (0 : Int), (0 : Int), y35_3, [], [], [])))
                                         (k0 ((0 : Int), (0 : Int), (0 : Int), (0 : Int), (0 : Int), y35_3, [], [], []))
                                       else
                                        both (both (k0 (b0_0, b0_1, y31_0, y35_0, y35_2, (0 : Int), b0_6, b0_7, b0_8))
                                           (k0 (b0_0, b0_1, y31_0, y35_0, y35_2, (0 : Int), b0_6, b0_7, b0_8)))
                                         (k0 (b0_0, b0_1, y31_0, y35_0, y35_2, (0 : Int), b0_6, b0_7, b0_8))))))))))))
                 else
                  (F_segment_reader_bytes fuel (y13_0) (y13_1) (y13_2) (Go.IntKind.i64.wrap ((Go.IntKind.i64.wrap (Go.IntKind.i64.wrap ((↑(0 : Nat) : Int) + (1 : Int)) + (7 : Int))).tdiv (8 : Int)))
                    (fun (y18_0, y18_1, y18_2, y18_3) =>
                      (F_bits_Unpack fuel (y18_0) (Go.IntKind.i64.wrap ((8 : Int) * (↑y18_0.length : Int)))
                        (fun (y22_0, y22_1) =>
                          (L_segment_GetHeader_0 fuel (Go.IntKind.i64.wrap ((↑(0 : Nat) : Int) + (1 : Int)), (↑y22_1.length : Int), (0 : Int), y4_0, (Go.IntKind.i64.wrap (y8_0.getD (Int.toNat (0 : Int)) (0 : Int))).tmod (16 : Int), (0 : Int), y18_1, y18_2, y18_3, y22_1, [], [], [])
                            (fun (b0_0, b0_1, b0_2, b0_3, b0_4, b0_5, b0_6, b0_7, b0_8) =>
                              (F_segment_reader_size fuel (b0_3) (b0_4) (b0_5) ((1000 : Int))
                                (fun (y30_0, y30_1, y30_2, y30_3) =>
                                  (F_segment_reader_size fuel (y30_1) (y30_2) (y30_3) ((20000 : Int))
                                    (fun (y34_0, y34_1, y34_2, y34_3) =>
                                      bif y34_3 != (0 : Int) then
                                       both (both (k0 ((0 : Int), (0 : Int), (0 : Int), (0 : Int), (0 : Int), y34_3, [], [], []))
                                          (k0 ((0 : Int), (0 : Int), (0 : Int), (0 : Int), (0 : Int), y34_3, [], [], [])))
                                        (k0 ((0 : Int), (0 : Int), (0 : Int), (0 : Int), (0 : Int), y34_3, [], [], []))
                                      else
                                       both (both (k0 (b0_0, b0_1, y30_0, y34_0, y34_2, (0 : Int), b0_6, b0_7, b0_8))
                                          (k0 (b0_0, b0_1, y30_0, y34_0, y34_2, (0 : Int), b0_6, b0_7, b0_8)))
                                        (k0 (b0_0, b0_1, y30_0, y34_0, y34_2, (0 : Int), b0_6, b0_7, b0_8))))))))))))))
            else none))))
abbrev YF51 : Type := ((List Int)) → (Int) → ((Int × Int × Int × Int × Int × Int × (List Int) × (List Bool) × (List Int)) → Option Ans) → Option Ans
theorem F51_eqg (fuel : Nat) (f87 : YF87) (f88 : YF88) (f89 : YF89) (f90 : YF90) (f91 : YF91) (x0 : (List Int)) (x1 : Int) (k : Ev.Cont) : evalFn tab (Gg51 f87 f88 f89 f90 f91) (J51 fuel) kp51 fuel Try.f51 [.c (.sl (.int .u8) x0), .c (.int .i64 x1)] [] k = (fun  (k0 : (Int × Int × Int × Int × Int × Int × (List Int) × (List Bool) × (List Int)) → Option Ans) =>
  bif Decidable.decide (x1 < (0 : Int)) then
   k0 ((0 : Int), (0 : Int), (0 : Int), (0 : Int), (0 : Int), (2 : Int), [], [], [])
  else
   bif Decidable.decide (x1 > (↑x0.length : Int)) then
    k0 ((0 : Int), (0 : Int), (0 : Int), (0 : Int), (0 : Int), (2 : Int), [], [], [])
   else
    (f87 (x0) (x1) ((0 : Int)) ((10000 : Int))
      (fun (y4_0, y4_1, y4_2, y4_3) =>
        (f88 (y4_1) (y4_2) (y4_3) ((1 : Int))
          (fun (y8_0, y8_1, y8_2, y8_3) =>
            bif Decidable.decide ((0 : Int) ≤ (0 : Int) ∧ (0 : Int) < (↑y8_0.length : Int)) then
            (f89 (y8_1) (y8_2) (y8_3) (Decidable.decide (Go.IntKind.i64.wrap (y8_0.getD (Int.toNat (0 : Int)) (0 : Int)) ≤ (31 : Int)))
               (fun (y13_0, y13_1, y13_2) =>
                 bif Decidable.decide (Go.IntKind.i64.wrap (y8_0.getD (Int.toNat (0 : Int)) (0 : Int)) ≥ (16 : Int)) then
                  bif y13_2 == (0 : Int) then
                   (f90 (y13_0) (y13_1) (y13_2) (y4_0)
                     (fun (y19_0, y19_1, y19_2, y19_3) =>
                       (f88 (y19_0) (y19_1) (y19_2) (Go.IntKind.i64.wrap ((Go.IntKind.i64.wrap (Go.IntKind.i64.wrap ((↑y19_3.length : Int) + (1 : Int)) + (7 : Int))).tdiv (8 : Int)))
                         (fun (y23_0, y23_1, y23_2, y23_3) =>
                           (f91 (y23_0) (Go.IntKind.i64.wrap ((8 : Int) * (↑y23_0.length : Int)))
                             (fun (y27_0, y27_1) =>
                               (L_segment_GetHeader_0 fuel (Go.IntKind.i64.wrap ((↑y19_3.length : Int) + (1 : Int)), (↑y27_1.length : Int), (0 : Int), y4_0, (Go.IntKind.i64.wrap (y8_0.getD (Int.toNat (0 : Int)) (0 : Int))).tmod (16 : Int), (0 : Int), y23_1, y23_2, y23_3, y27_1, y19_3, [], [])
                                 (fun (b0_0, b0_1, b0_2, b0_3, b0_4, b0_5, b0_6, b0_7, b0_8) =>
                                   (f87 (b0_3) (b0_4) (b0_5) ((1000 : Int))
                                     (fun (y35_0, y35_1, y35_2, y35_3) =>
                                       (f87 (y35_1) (y35_2) (y35_3) ((20000 : Int))
                                         (fun (y39_0, y39_1, y39_2, y39_3) =>
                                           bif y39_3 != (0 : Int) then
                                            both (both (k0 ((0 : Int), (0 : Int), (0 : Int), (0 : Int), (0 : Int), y39_3, [], [], []))
                                               (k0 ((0 : Int), (0 : Int), (0 : Int), (0 : Int), (0 : Int), y39_3, [], [], [])))
                                             (k0 ((0 : Int), (0 : Int), (0 : Int), (0 : Int), (0 : Int), y39_3, [], [], []))
                                           else
                                            both (both (k0 (b0_0, b0_1, y35_0, y39_0, y39_2, (0 : Int), b0_6, b0_7, b0_8))
                                               (k0 (b0_0, b0_1, y35_0, y39_0, y39_2, (0 : Int), b0_6, b0_7, b0_8)))
                                             (k0 (b0_0, b0_1, y35_0, y39_0, y39_2, (0 : Int), b0_6, b0_7, b0_8))))))))))))))
                  else
                   (f88 (y13_0) (y13_1) (y13_2) (Go.IntKind.i64.wrap ((Go.IntKind.i64.wrap (Go.IntKind.i64.wrap ((↑(0 : Nat) : Int) + (1 : Int)) + (7 : Int))).tdiv (8 : Int)))
                     (fun (y19_0, y19_1, y19_2, y19_3) =>
                       (f91 (y19_0) (Go.IntKind.i64.wrap ((8 : Int) * (↑y19_0.length : Int)))
                         (fun (y23_0, y23_1) =>
                           (L_segment_GetHeader_0 fuel (Go.IntKind.i64.wrap ((↑(0 : Nat) : Int) + (1 : Int)), (↑y23_1.length : Int), (0 : Int), y4_0, (Go.IntKind.i64.wrap (y8_0.getD (Int.toNat (0 : Int)) (0 : Int))).tmod (16 : Int), (0 : Int), y19_1, y19_2, y19_3, y23_1, [], [], [])
                             (fun (b0_0, b0_1, b0_2, b0_3, b0_4, b0_5, b0_6, b0_7, b0_8) =>
                               (f87 (b0_3) (b0_4) (b0_5) ((1000 : Int))
                                 (fun (y31_0, y31_1, y31_2, y31_3) =>
                                   (f87 (y31_1) (y31_2) (y31_3) ((20000 : Int))
                                     (fun (y35_0, y35_1, y35_2, y35_3) =>
                                       bif y35_3 != (0 : Int) then
                                        both (both (k0 ((0 : Int), (0 : Int), (0 : Int), (0 : Int), (0 : Int), y35_3, [], [], []))
                                           (k0 ((0 : Int), (0 : Int), (0 : Int), (0 : Int), (0 : Int), y35_3, [], [], [])))
                                         (k0 ((0 : Int), (0 : Int), (0 : Int), (0 : Int), (0 : Int), y35_3, [], [], []))
                                       else
                                        both (both (k0 (b0_0, b0_1, y31_0, y35_0, y35_2, (0 : Int), b0_6, b0_7, b0_8))
                                           (k0 (b0_0, b0_1, y31_0, y35_0, y35_2, (0 : Int), b0_6, b0_7, b0_8)))
                                         (k0 (b0_0, b0_1, y31_0, y35_0, y35_2, (0 : Int), b0_6, b0_7, b0_8))))))))))))
                 else
                  (f88 (y13_0) (y13_1) (y13_2) (Go.IntKind.i64.wrap ((Go.IntKind.i64.wrap (Go.IntKind.i64.wrap ((↑(0 : Nat) : Int) + (1 : Int)) + (7 : Int))).tdiv (8 : Int)))
                    (fun (y18_0, y18_1, y18_2, y18_3) =>
                      (f91 (y18_0) (Go.IntKind.i64.wrap ((8 : Int) * (↑y18_0.length : Int)))
                        (fun (y22_0, y22_1) =>
                          (L_segment_GetHeader_0 fuel (Go.IntKind.i64.wrap ((↑(0 : Nat) : Int) + (1 : Int)), (↑y22_1.length : Int), (0 : Int), y4_0, (Go.IntKind.i64.wrap (y8_0.getD (Int.toNat (0 : Int)) (0 : Int))).tmod (16 : Int), (0 : Int), y18_1, y18_2, y18_3, y22_1, [], [], [])
                            (fun (b0_0, b0_1, b0_2, b0_3, b0_4, b0_5, b0_6, b0_7, b0_8) =>
                              (f87 (b0_3) (b0_4) (b0_5) ((1000 : Int))
                                (fun (y30_0, y30_1, y30_2, y30_3) =>
                                  (f87 (y30_1) (y30_2) (y30_3) ((20000 : Int))
                                    (fun (y34_0, y34_1, y34_2, y34_3) =>
                                      bif y34_3 != (0 : Int) then
                                       both (both (k0 ((0 : Int), (0 : Int), (0 : Int), (0 : Int), (0 : Int), y34_3, [], [], []))
                                          (k0 ((0 : Int), (0 : Int), (0 : Int), (0 : Int), (0 : Int), y34_3, [], [], [])))
                                        (k0 ((0 : Int), (0 : Int), (0 : Int), (0 : Int), (0 : Int), y34_3, [], [], []))
                                      else
                                       both (both (k0 (b0_0, b0_1, y30_0, y34_0, y34_2, (0 : Int), b0_6, b0_7, b0_8))
                                          (k0 (b0_0, b0_1, y30_0, y34_0, y34_2, (0 : Int), b0_6, b0_7, b0_8)))
                                        (k0 (b0_0, b0_1, y30_0, y34_0, y34_2, (0 : Int), b0_6, b0_7, b0_8))))))))))))))
            else none))))) (fun r => match r with | (r0, r1, r2, r3, r4, r5, r6, r7, r8) => k (.tup [(true, [.int .i64 r0, .int .i64 r1, .int .i64 r2, .own 0, .own 1, .own 2]), (false, [.int .i64 r3]), (false, [.int .i64 r4]), (false, [.int .i64 r5])], [.vec 3 (.int .i64) r6 true, .vec 4 .bool r7 true, .vec 5 (.int .u8) r8 true])) := by
  kernel_rfl
theorem F51_eq (fuel : Nat) (x0 : (List Int)) (x1 : Int) (k : Ev.Cont) : evalFn tab (G51 fuel) (J51 fuel) kp51 fuel Try.f51 [.c (.sl (.int .u8) x0), .c (.int .i64 x1)] [] k = F_segment_GetHeader fuel x0 x1 (fun r => match r with | (r0, r1, r2, r3, r4, r5, r6, r7, r8) => k (.tup [(true, [.int .i64 r0, .int .i64 r1, .int .i64 r2, .own 0, .own 1, .own 2]), (false, [.int .i64 r3]), (false, [.int .i64 r4]), (false, [.int .i64 r5])], [.vec 3 (.int .i64) r6 true, .vec 4 .bool r7 true, .vec 5 (.int .u8) r8 true])) :=
  F51_eqg fuel (F_segment_reader_size fuel) (F_segment_reader_bytes fuel) (F_segment_reader_form fuel) (F_segment_reader_refs fuel) (F_bits_Unpack fuel) x0 x1 k
theorem hG51 (fuel : Nat) : GOK Try.prog (G51 fuel) :=
  gok_cons ⟨ok87 fuel, enters_of Try.func87 (by kernel_rfl) rfl⟩ <|
  gok_cons ⟨ok88 fuel, enters_of Try.func88 (by kernel_rfl) rfl⟩ <|
  gok_cons ⟨ok89 fuel, enters_of Try.func89 (by kernel_rfl) rfl⟩ <|
  gok_cons ⟨ok90 fuel, enters_of Try.func90 (by kernel_rfl) rfl⟩ <|
  gok_cons ⟨ok91 fuel, enters_of Try.func91 (by kernel_rfl) rfl⟩ <|
  gok_nil
theorem B51_0_blk (fuel : Nat) : BlkOK Try.prog Try.f51.ntmps (.block 0 (.loop (bodyOf 0 Try.f51))) (B51_0 fuel) :=
  blk_of (blk_of_code tab_ok (hG51 fuel) mixed (J := J51_0 fuel) (kp := kp51) (fuel := fuel) (by kernel_rfl) (fun q hq => by
    rw [(by kernel_rfl : obl (J51_0 fuel) (.block 0 (.loop (bodyOf 0 Try.f51))) = [])] at hq
    cases hq)) (B51_0_ok fuel)
theorem fok51 (fuel : Nat) : FnOK Try.prog 51 (evalFn tab (G51 fuel) (J51 fuel) kp51 fuel Try.f51) :=
  fn_ok tab_ok (hG51 fuel) mixed Try.func51 (c := (Try.f51.body).getD .skip) rfl (fun q hq => by
    rw [(by kernel_rfl : obl (J51 fuel) ((Try.f51.body).getD .skip) = [(.block 0 (.loop (bodyOf 0 Try.f51)), B51_0 fuel)])] at hq
    simp only [List.mem_cons, List.not_mem_nil, or_false] at hq
    subst hq
    · exact B51_0_blk fuel)
def mt51 : List Ev.SV → List Ev.Ob → Bool := fun args objs => match args, objs with
  | [.c (.sl (.int .u8) _), .c (.int .i64 _)], [] => true
  | _, _ => false
def spg51 (F : YF51) : Ev.Spec := fun args objs k => match args, objs with
  | [.c (.sl (.int .u8) x0), .c (.int .i64 x1)], [] => bif true then F x0 x1 (fun r => match r with | (r0, r1, r2, r3, r4, r5, r6, r7, r8) => k (.tup [(true, [.int .i64 r0, .int .i64 r1, .int .i64 r2, .own 0, .own 1, .own 2]), (false, [.int .i64 r3]), (false, [.int .i64 r4]), (false, [.int .i64 r5])], [.vec 3 (.int .i64) r6 true, .vec 4 .bool r7 true, .vec 5 (.int .u8) r8 true])) else none
  | _, _ => none
def spec51 (fuel : Nat) : Ev.Spec := spg51 (F_segment_GetHeader fuel)
theorem ok51 (fuel : Nat) : FnOK Try.prog 51 (spec51 fuel) := by
  intro args objs kk r h
  unfold spec51 spg51 at h
  split at h
  · obtain ⟨hb, h⟩ := cond_some' h
    simp only [Bool.and_eq_true, Nat.beq_eq, decide_eq_true_eq] at hb
    clear hb
    exact fok51 fuel _ _ kk r ((F51_eq fuel _ _ kk).trans h)
  · cases h
end Go.Proofs.Ytajidgilfkineaa

set_option linter.unusedVariables false
set_option linter.unusedSimpArgs false
set_option maxRecDepth 100000
namespace Go.Proofs.Ytajidgilfkineaa
open Go Ev
def kp12 (i : Nat) : Option (List Nat) := Ev.look i []
def Gg12 (f39 : YF39) (f40 : YF40) (f41 : YF41) (f47 : YF47) (f51 : YF51) (f : Nat) : Option Ev.Spec := Ev.look f [(39, spg39 f39), (40, spg40 f40), (41, spg41 f41), (47, spg47 f47), (51, spg51 f51)]
def G12 (fuel : Nat) : Nat → Option Ev.Spec := Gg12 (F_law12_large fuel) (F_law12_Awake fuel) (F_segment_Header fuel) (F_ref12_Same fuel) (F_segment_GetHeader fuel)
def J12 (fuel : Nat) (i : Nat) : Option Ev.Blk := Ev.look i []
def F_law12_SegmentBack (fuel : Nat) (x0 : Int) (x1 : Int) (x2 : Int) (x3 : (List Int)) (x4 : (List Bool)) (x5 : (List Int)) (x6 : (List Int)) (x7 : (List Int)) (k0 : (Bool) → Option Ans) : Option Ans :=
  (F_law12_large fuel ([(x0, x1, x2, x3, x4, x5)])
    (fun y2 =>
      bif y2 then
       (F_law12_Awake fuel
         (fun y7 =>
           k0 y7))
      else
       (F_segment_Header fuel (x0) (x1) (x2) (x3) (x4) (x5)
         (fun (y7_0, y7_1) =>
           bif y7_0 != (0 : Int) then
            bif (↑y7_1.length : Int) == (0 : Int) then
             bif y7_0 == (2 : Int) then
              (F_law12_Awake fuel
                (fun y14 =>
                  k0 y14))
             else
              k0 Bool.false
            else
             k0 Bool.false
           else
            bif Decidable.decide (((0 : Nat) + x6.length) * (1 : Nat) ≤ (140737488355328 : Nat) ∧ (0 : Nat) + x6.length ≤ (140737488355328 : Nat)) then
            bif Decidable.decide ((([] ++ x6).length + y7_1.length) * (1 : Nat) ≤ (140737488355328 : Nat) ∧ ([] ++ x6).length + y7_1.length ≤ (140737488355328 : Nat)) then
             bif Decidable.decide ((([] ++ x6 ++ y7_1).length + x7.length) * (1 : Nat) ≤ (140737488355328 : Nat) ∧ ([] ++ x6 ++ y7_1).length + x7.length ≤ (140737488355328 : Nat)) then
              (F_segment_GetHeader fuel ([] ++ x6 ++ y7_1 ++ x7) ((↑x6.length : Int))
                 (fun (y15_0, y15_1, y15_2, y15_3, y15_4, y15_5, y15_6, y15_7, y15_8) =>
                   bif y15_5 == (0 : Int) then
                    bif Go.IntKind.i64.wrap (y15_3 - (↑x5.length : Int)) == (0 : Int) then
                     bif y15_4 == Go.IntKind.i64.wrap ((↑x6.length : Int) + (↑y7_1.length : Int)) then
                      (F_ref12_Same fuel (x0) (x1) (x2) (x3) (x4) ([]) (y15_0) (y15_1) (y15_2) (y15_6) (y15_7) (y15_8)
                        (fun y22 =>
                          bif y22 then
                           (F_law12_Awake fuel
                             (fun y27 =>
                               k0 y27))
                          else
                           k0 Bool.false))
                     else
                      k0 Bool.false
                    else
                     k0 Bool.false
                   else
                    k0 Bool.false))
              else none
             else none
            else none))))
abbrev YF12 : Type := (Int) → (Int) → (Int) → ((List Int)) → ((List Bool)) → ((List Int)) → ((List Int)) → ((List Int)) → ((Bool) → Option Ans) → Option Ans
theorem F12_eqg (fuel : Nat) (f39 : YF39) (f40 : YF40) (f41 : YF41) (f47 : YF47) (f51 : YF51) (x0 : Int) (x1 : Int) (x2 : Int) (x3 : (List Int)) (x4 : (List Bool)) (x5 : (List Int)) (x6 : (List Int)) (x7 : (List Int)) (k : Ev.Cont) : evalFn tab (Gg12 f39 f40 f41 f47 f51) (J12 fuel) kp12 fuel Try.f12 [.agg [.int .i64 x0, .int .i64 x1, .int .i64 x2, .sl (.int .i64) x3, .sl .bool x4, .sl (.int .u8) x5], .c (.sl (.int .u8) x6), .c (.sl (.int .u8) x7)] [] k = (fun  (k0 : (Bool) → Option Ans) =>
  (f39 ([(x0, x1, x2, x3, x4, x5)])
    (fun y2 =>
      bif y2 then
       (f40
         (fun y7 =>
           k0 y7))
      else
       (f41 (x0) (x1) (x2) (x3) (x4) (x5)
         (fun (y7_0, y7_1) =>
           bif y7_0 != (0 : Int) then
            bif (↑y7_1.length : Int) == (0 : Int) then
             bif y7_0 == (2 : Int) then
              (f40
                (fun y14 =>
                  k0 y14))
             else
              k0 Bool.false
            else
             k0 Bool.false
           else
            bif Decidable.decide (((0 : Nat) + x6.length) * (1 : Nat) ≤ (140737488355328 : Nat) ∧ (0 : Nat) + x6.length ≤ (140737488355328 : Nat)) then
            bif Decidable.decide ((([] ++ x6).length + y7_1.length) * (1 : Nat) ≤ (140737488355328 : Nat) ∧ ([] ++ x6).length + y7_1.length ≤ (140737488355328 : Nat)) then
             bif Decidable.decide ((([] ++ x6 ++ y7_1).length + x7.length) * (1 : Nat) ≤ (140737488355328 : Nat) ∧ ([] ++ x6 ++ y7_1).length + x7.length ≤ (140737488355328 : Nat)) then
              (f51 ([] ++ x6 ++ y7_1 ++ x7) ((↑x6.length : Int))
                 (fun (y15_0, y15_1, y15_2, y15_3, y15_4, y15_5, y15_6, y15_7, y15_8) =>
                   bif y15_5 == (0 : Int) then
                    bif Go.IntKind.i64.wrap (y15_3 - (↑x5.length : Int)) == (0 : Int) then
                     bif y15_4 == Go.IntKind.i64.wrap ((↑x6.length : Int) + (↑y7_1.length : Int)) then
                      (f47 (x0) (x1) (x2) (x3) (x4) ([]) (y15_0) (y15_1) (y15_2) (y15_6) (y15_7) (y15_8)
                        (fun y22 =>
                          bif y22 then
                           (f40
                             (fun y27 =>
                               k0 y27))
                          else
                           k0 Bool.false))
                     else
                      k0 Bool.false
                    else
                     k0 Bool.false
                   else
                    k0 Bool.false))
              else none
             else none
            else none))))) (fun r => match r with | r0 => k (.c (.bool r0), [])) := by
  kernel_rfl
theorem F12_eq (fuel : Nat) (x0 : Int) (x1 : Int) (x2 : Int) (x3 : (List Int)) (x4 : (List Bool)) (x5 : (List Int)) (x6 : (List Int)) (x7 : (List Int)) (k : Ev.Cont) : evalFn tab (G12 fuel) (J12 fuel) kp12 fuel Try.f12 [.agg [.int .i64 x0, .int .i64 x1, .int .i64 x2, .sl (.int .i64) x3, .sl .bool x4, .sl (.int .u8) x5], .c (.sl (.int .u8) x6), .c (.sl (.int .u8) x7)] [] k = F_law12_SegmentBack fuel x0 x1 x2 x3 x4 x5 x6 x7 (fun r => match r with | r0 => k (.c (.bool r0), [])) :=
  F12_eqg fuel (F_law12_large fuel) (F_law12_Awake fuel) (F_segment_Header fuel) (F_ref12_Same fuel) (F_segment_GetHeader fuel) x0 x1 x2 x3 x4 x5 x6 x7 k
theorem hG12 (fuel : Nat) : GOK Try.prog (G12 fuel) :=
  gok_cons ⟨ok39 fuel, enters_of Try.func39 (by kernel_rfl) rfl⟩ <|
  gok_cons ⟨ok40 fuel, enters_of Try.func40 (by kernel_rfl) rfl⟩ <|
  gok_cons ⟨ok41 fuel, enters_of Try.func41 (by kernel_rfl) rfl⟩ <|
  gok_cons ⟨ok47 fuel, enters_of Try.func47 (by kernel_rfl) rfl⟩ <|
  gok_cons ⟨ok51 fuel, enters_of Try.func51 (by kernel_rfl) rfl⟩ <|
  gok_nil
theorem fok12 (fuel : Nat) : FnOK Try.prog 12 (evalFn tab (G12 fuel) (J12 fuel) kp12 fuel Try.f12) :=
  fn_ok tab_ok (hG12 fuel) mixed Try.func12 (c := (Try.f12.body).getD .skip) rfl (fun q hq => by
    rw [(by kernel_rfl : obl (J12 fuel) ((Try.f12.body).getD .skip) = [])] at hq
    cases hq)
def mt12 : List Ev.SV → List Ev.Ob → Bool := fun args objs => match args, objs with
  | [.agg [.int .i64 _, .int .i64 _, .int .i64 _, .sl (.int .i64) _, .sl .bool _, .sl (.int .u8) _], .c (.sl (.int .u8) _), .c (.sl (.int .u8) _)], [] => true
  | _, _ => false
def spg12 (F : YF12) : Ev.Spec := fun args objs k => match args, objs with
  | [.agg [.int .i64 x0, .int .i64 x1, .int .i64 x2, .sl (.int .i64) x3, .sl .bool x4, .sl (.int .u8) x5], .c (.sl (.int .u8) x6), .c (.sl (.int .u8) x7)], [] => bif true then F x0 x1 x2 x3 x4 x5 x6 x7 (fun r => match r with | r0 => k (.c (.bool r0), [])) else none
  | _, _ => none
def spec12 (fuel : Nat) : Ev.Spec := spg12 (F_law12_SegmentBack fuel)
theorem ok12 (fuel : Nat) : FnOK Try.prog 12 (spec12 fuel) := by
  intro args objs kk r h
  unfold spec12 spg12 at h
  split at h
  · obtain ⟨hb, h⟩ := cond_some' h
    simp only [Bool.and_eq_true, Nat.beq_eq, decide_eq_true_eq] at hb
    clear hb
    exact fok12 fuel _ _ kk r ((F12_eq fuel _ _ _ _ _ _ _ _ kk).trans h)
  · cases h
end Go.Proofs.Ytajidgilfkineaa

set_option linter.unusedVariables false
set_option linter.unusedSimpArgs false
set_option maxRecDepth 100000
namespace Go.Proofs.Ytajidgilfkineaa
open Go Ev
def kp107 (i : Nat) : Option (List Nat) := Ev.look i []
def Gg107 (f : Nat) : Option Ev.Spec := Ev.look f []
def G107 (fuel : Nat) : Nat → Option Ev.Spec := Gg107
def J107 (fuel : Nat) (i : Nat) : Option Ev.Blk := Ev.look i []
def F_bitmap_fits (fuel : Nat) (x0 : Int) (x1 : Int) (k0 : (Bool) → Option Ans) : Option Ans :=
  bif Decidable.decide (x0 ≥ (0 : Int)) then
   bif Decidable.decide (x1 ≥ (0 : Int)) then
    bif Decidable.decide (x0 ≤ (200 : Int)) then
     bif Decidable.decide (x1 ≤ (200 : Int)) then
      k0 (Decidable.decide (Go.IntKind.i64.wrap (x0 * x1) ≤ (8192 : Int)))
     else
      k0 Bool.false
    else
     k0 Bool.false
   else
    k0 Bool.false
  else
   k0 Bool.false
abbrev YF107 : Type := (Int) → (Int) → ((Bool) → Option Ans) → Option Ans
theorem F107_eq (fuel : Nat) (x0 : Int) (x1 : Int) (k : Ev.Cont) : evalFn tab (G107 fuel) (J107 fuel) kp107 fuel Try.f107 [.c (.int .i64 x0), .c (.int .i64 x1)] [] k = F_bitmap_fits fuel x0 x1 (fun r => match r with | r0 => k (.c (.bool r0), [])) := by
  kernel_rfl
theorem hG107 (fuel : Nat) : GOK Try.prog (G107 fuel) :=
  gok_nil
theorem fok107 (fuel : Nat) : FnOK Try.prog 107 (evalFn tab (G107 fuel) (J107 fuel) kp107 fuel Try.f107) :=
  fn_ok tab_ok (hG107 fuel) mixed Try.func107 (c := (Try.f107.body).getD .skip) rfl (fun q hq => by
    rw [(by kernel_rfl : obl (J107 fuel) ((Try.f107.body).getD .skip) = [])] at hq
    cases hq)
def mt107 : List Ev.SV → List Ev.Ob → Bool := fun args objs => match args, objs with
  | [.c (.int .i64 _), .c (.int .i64 _)], [] => true
  | _, _ => false
def spg107 (F : YF107) : Ev.Spec := fun args objs k => match args, objs with
  | [.c (.int .i64 x0), .c (.int .i64 x1)], [] => bif true then F x0 x1 (fun r => match r with | r0 => k (.c (.bool r0), [])) else none
  | _, _ => none
def spec107 (fuel : Nat) : Ev.Spec := spg107 (F_bitmap_fits fuel)
theorem ok107 (fuel : Nat) : FnOK Try.prog 107 (spec107 fuel) := by
  intro args objs kk r h
  unfold spec107 spg107 at h
  split at h
  · obtain ⟨hb, h⟩ := cond_some' h
    simp only [Bool.and_eq_true, Nat.beq_eq, decide_eq_true_eq] at hb
    clear hb
    exact fok107 fuel _ _ kk r ((F107_eq fuel _ _ kk).trans h)
  · cases h
end Go.Proofs.Ytajidgilfkineaa

set_option linter.unusedVariables false
set_option linter.unusedSimpArgs false
set_option maxRecDepth 100000
namespace Go.Proofs.Ytajidgilfkineaa
open Go Ev
def kp69 (i : Nat) : Option (List Nat) := Ev.look i [(4, [23, 24, 25]), (100000, []), (400000, [2])]
def Gg69 (f107 : YF107) (f : Nat) : Option Ev.Spec := Ev.look f [(107, spg107 f107)]
def G69 (fuel : Nat) : Nat → Option Ev.Spec := Gg69 (F_bitmap_fits fuel)
def S_bitmap_Valid_0 (fuel : Nat) (v : (List Int) × Int × Int) (c : ((List Int) × Int × Int) → Option Ans) (B : (Bool → Option Ans) × (Unit → Option Ans)) : Option Ans := match v, B with
  | (x0, x1, x2), (ret, b) =>
   bif Decidable.decide (x2 < x1) then
      bif Decidable.decide ((0 : Int) ≤ x2 ∧ x2 < (↑x0.length : Int)) then
      bif Decidable.decide (x0.getD x2.toNat (0 : Int) > (1 : Int)) then
        ret Bool.false
       else
        c (x0, x1, Go.IntKind.i64.wrap (x2 + (1 : Int)))
      else none
     else
      b ()
def L_bitmap_Valid_0 (fuel : Nat) (v : (List Int) × Int × Int) (ret : (Bool → Option Ans)) (b : (Unit → Option Ans)) : Option Ans := iter (S_bitmap_Valid_0 fuel) fuel v (ret, b)
def J69_0 (fuel : Nat) (i : Nat) : Option Ev.Blk := Ev.look i []
def T69_0 (v : (List Int) × Int × Int) : Ev.St := match v with | (x0, x1, x2) => ⟨[(23, .c (.sl (.int .u8) x0)), (24, .c (.int .i64 x1)), (25, .c (.int .i64 x2))], [], 0, 0⟩
def E69_0 (K : Ev.Ex → Ev.St → Option Ans) : (Bool → Option Ans) × (Unit → Option Ans) := ((fun v => match v with | x0 => K .ret ⟨[(2, .c (.bool x0))], [], 0, 0⟩), (fun v => match v with | () => K .normal ⟨[], [], 0, 0⟩))
theorem S69_0_okg (fuel : Nat) (f107 : YF107) (R : Ev.St → Option Ans) (K : Ev.Ex → Ev.St → Option Ans) (x0 : (List Int)) (x1 : Int) (x2 : Int) : evalCode tab (Gg69 f107) (J69_0 fuel) kp69 fuel (bodyOf 0 Try.f69) (T69_0 (x0, x1, x2)) (lc kp69 4 0 R K) = (fun (c : ((List Int) × Int × Int) → Option Ans) (B : (Bool → Option Ans) × (Unit → Option Ans)) => match B with
  | (ret, b) =>
   bif Decidable.decide (x2 < x1) then
      bif Decidable.decide ((0 : Int) ≤ x2 ∧ x2 < (↑x0.length : Int)) then
      bif Decidable.decide (x0.getD x2.toNat (0 : Int) > (1 : Int)) then
        ret Bool.false
       else
        c (x0, x1, Go.IntKind.i64.wrap (x2 + (1 : Int)))
      else none
     else
      b ()) (fun v => R (T69_0 v)) (E69_0 K) := by
  kernel_rfl
theorem S69_0_ok (fuel : Nat) (R : Ev.St → Option Ans) (K : Ev.Ex → Ev.St → Option Ans) (x0 : (List Int)) (x1 : Int) (x2 : Int) : evalCode tab (G69 fuel) (J69_0 fuel) kp69 fuel (bodyOf 0 Try.f69) (T69_0 (x0, x1, x2)) (lc kp69 4 0 R K) = S_bitmap_Valid_0 fuel (x0, x1, x2) (fun v => R (T69_0 v)) (E69_0 K) :=
  S69_0_okg fuel (F_bitmap_fits fuel) R K x0 x1 x2
def B69_0 (fuel : Nat) : Ev.Blk := fun st K => match canonO (kp69 4) st with
  | some s => (match s with
    | ⟨[(q0, .c (.sl (.int .u8) x0)), (q1, .c (.int .i64 x1)), (q2, .c (.int .i64 x2))], [], q3, q4⟩ => bif Nat.beq q0 23 && Nat.beq q1 24 && Nat.beq q2 25 && Nat.beq q3 0 && Nat.beq q4 0 then iter (S_bitmap_Valid_0 fuel) fuel (x0, x1, x2) (E69_0 K) else none
    | _ => none)
  | none => none
theorem B69_0_ok (fuel : Nat) (st : Ev.St) (K : Ev.Ex → Ev.St → Option Ans) (r : Ans) (h : B69_0 fuel st K = some r) : evalCode tab (G69 fuel) (J69_0 fuel) kp69 fuel (.block 0 (.loop (bodyOf 0 Try.f69))) st K = some r := by
  unfold B69_0 at h
  split at h
  · rename_i s hs
    split at h
    · obtain ⟨hb, h⟩ := cond_some' h
      simp only [Bool.and_eq_true, Nat.beq_eq, decide_eq_true_eq] at hb
      obtain ⟨⟨⟨⟨rfl, rfl⟩, rfl⟩, rfl⟩, rfl⟩ := hb
      exact blk_loop (S := T69_0) (ks := E69_0) (step := S_bitmap_Valid_0 fuel) (v := (_, _, _)) (by kernel_rfl) (by kernel_rfl) (fun R K v => by obtain ⟨x0, x1, x2⟩ := v; exact S69_0_ok fuel R K x0 x1 x2) hs h
    · cases h
  · cases h
def J69 (fuel : Nat) (i : Nat) : Option Ev.Blk := Ev.look i [(100000, B69_0 fuel)]
def F_bitmap_Valid (fuel : Nat) (x0 : Int) (x1 : Int) (x2 : (List Int)) (k0 : (Bool) → Option Ans) : Option Ans :=
  (F_bitmap_fits fuel (x0) (x1)
    (fun y2 =>
      bif !y2 then
       k0 Bool.false
      else
       bif (↑x2.length : Int) != Go.IntKind.i64.wrap (x0 * x1) then
        k0 Bool.false
       else
        (L_bitmap_Valid_0 fuel (x2, (↑x2.length : Int), (0 : Int))
          (fun ret0_0 =>
            k0 ret0_0)
          (fun () =>
            k0 Bool.true))))
abbrev YF69 : Type := (Int) → (Int) → ((List Int)) → ((Bool) → Option Ans) → Option Ans
theorem F69_eqg (fuel : Nat) (f107 : YF107) (x0 : Int) (x1 : Int) (x2 : (List Int)) (k : Ev.Cont) : evalFn tab (Gg69 f107) (J69 fuel) kp69 fuel Try.f69 [.agg [.int .i64 x0, .int .i64 x1, .sl (.int .u8) x2]] [] k = (fun  (k0 : (Bool) → Option Ans) =>
  (f107 (x0) (x1)
    (fun y2 =>
      bif !y2 then
       k0 Bool.false
      else
       bif (↑x2.length : Int) != Go.IntKind.i64.wrap (x0 * x1) then
        k0 Bool.false
       else
        (L_bitmap_Valid_0 fuel (x2, (↑x2.length : Int), (0 : Int))
          (fun ret0_0 =>
            k0 ret0_0)
          (fun () =>
            k0 Bool.true))))) (fun r => match r with | r0 => k (.c (.bool r0), [])) := by
  kernel_rfl
theorem F69_eq (fuel : Nat) (x0 : Int) (x1 : Int) (x2 : (List Int)) (k : Ev.Cont) : evalFn tab (G69 fuel) (J69 fuel) kp69 fuel Try.f69 [.agg [.int .i64 x0, .int .i64 x1, .sl (.int .u8) x2]] [] k = F_bitmap_Valid fuel x0 x1 x2 (fun r => match r with | r0 => k (.c (.bool r0), [])) :=
  F69_eqg fuel (F_bitmap_fits fuel) x0 x1 x2 k
theorem hG69 (fuel : Nat) : GOK Try.prog (G69 fuel) :=
  gok_cons ⟨ok107 fuel, enters_of Try.func107 (by kernel_rfl) rfl⟩ <|
  gok_nil
theorem B69_0_blk (fuel : Nat) : BlkOK Try.prog Try.f69.ntmps (.block 0 (.loop (bodyOf 0 Try.f69))) (B69_0 fuel) :=
  blk_of (blk_of_code tab_ok (hG69 fuel) mixed (J := J69_0 fuel) (kp := kp69) (fuel := fuel) (by kernel_rfl) (fun q hq => by
    rw [(by kernel_rfl : obl (J69_0 fuel) (.block 0 (.loop (bodyOf 0 Try.f69))) = [])] at hq
    cases hq)) (B69_0_ok fuel)
theorem fok69 (fuel : Nat) : FnOK Try.prog 69 (evalFn tab (G69 fuel) (J69 fuel) kp69 fuel Try.f69) :=
  fn_ok tab_ok (hG69 fuel) mixed Try.func69 (c := (Try.f69.body).getD .skip) rfl (fun q hq => by
    rw [(by kernel_rfl : obl (J69 fuel) ((Try.f69.body).getD .skip) = [(.block 0 (.loop (bodyOf 0 Try.f69)), B69_0 fuel)])] at hq
    simp only [List.mem_cons, List.not_mem_nil, or_false] at hq
    subst hq
    · exact B69_0_blk fuel)
def mt69 : List Ev.SV → List Ev.Ob → Bool := fun args objs => match args, objs with
  | [.agg [.int .i64 _, .int .i64 _, .sl (.int .u8) _]], [] => true
  | _, _ => false
def spg69 (F : YF69) : Ev.Spec := fun args objs k => match args, objs with
  | [.agg [.int .i64 x0, .int .i64 x1, .sl (.int .u8) x2]], [] => bif true then F x0 x1 x2 (fun r => match r with | r0 => k (.c (.bool r0), [])) else none
  | _, _ => none
def spec69 (fuel : Nat) : Ev.Spec := spg69 (F_bitmap_Valid fuel)
theorem ok69 (fuel : Nat) : FnOK Try.prog 69 (spec69 fuel) := by
  intro args objs kk r h
  unfold spec69 spg69 at h
  split at h
  · obtain ⟨hb, h⟩ := cond_some' h
    simp only [Bool.and_eq_true, Nat.beq_eq, decide_eq_true_eq] at hb
    clear hb
    exact fok69 fuel _ _ kk r ((F69_eq fuel _ _ _ kk).trans h)
  · cases h
end Go.Proofs.Ytajidgilfkineaa

set_option linter.unusedVariables false
set_option linter.unusedSimpArgs false
set_option maxRecDepth 100000
namespace Go.Proofs.Ytajidgilfkineaa
open Go Ev
def kp68 (i : Nat) : Option (List Nat) := Ev.look i []
def Gg68 (f : Nat) : Option Ev.Spec := Ev.look f []
def G68 (fuel : Nat) : Nat → Option Ev.Spec := Gg68
def J68 (fuel : Nat) (i : Nat) : Option Ev.Blk := Ev.look i []
def F_ref05_Sides (fuel : Nat) (x0 : Int) (x1 : Int) (k0 : (Bool) → Option Ans) : Option Ans :=
  bif Decidable.decide (x0 ≥ (0 : Int)) then
   bif Decidable.decide (x1 ≥ (0 : Int)) then
    bif Decidable.decide (x0 ≤ (200 : Int)) then
     bif Decidable.decide (x1 ≤ (200 : Int)) then
      k0 (Decidable.decide (Go.IntKind.i64.wrap (x0 * x1) ≤ (8192 : Int)))
     else
      k0 Bool.false
    else
     k0 Bool.false
   else
    k0 Bool.false
  else
   k0 Bool.false
abbrev YF68 : Type := (Int) → (Int) → ((Bool) → Option Ans) → Option Ans
theorem F68_eq (fuel : Nat) (x0 : Int) (x1 : Int) (k : Ev.Cont) : evalFn tab (G68 fuel) (J68 fuel) kp68 fuel Try.f68 [.c (.int .i64 x0), .c (.int .i64 x1)] [] k = F_ref05_Sides fuel x0 x1 (fun r => match r with | r0 => k (.c (.bool r0), [])) := by
  kernel_rfl
theorem hG68 (fuel : Nat) : GOK Try.prog (G68 fuel) :=
  gok_nil
theorem fok68 (fuel : Nat) : FnOK Try.prog 68 (evalFn tab (G68 fuel) (J68 fuel) kp68 fuel Try.f68) :=
  fn_ok tab_ok (hG68 fuel) mixed Try.func68 (c := (Try.f68.body).getD .skip) rfl (fun q hq => by
    rw [(by kernel_rfl : obl (J68 fuel) ((Try.f68.body).getD .skip) = [])] at hq
    cases hq)
def mt68 : List Ev.SV → List Ev.Ob → Bool := fun args objs => match args, objs with
  | [.c (.int .i64 _), .c (.int .i64 _)], [] => true
  | _, _ => false
def spg68 (F : YF68) : Ev.Spec := fun args objs k => match args, objs with
  | [.c (.int .i64 x0), .c (.int .i64 x1)], [] => bif true then F x0 x1 (fun r => match r with | r0 => k (.c (.bool r0), [])) else none
  | _, _ => none
def spec68 (fuel : Nat) : Ev.Spec := spg68 (F_ref05_Sides fuel)
theorem ok68 (fuel : Nat) : FnOK Try.prog 68 (spec68 fuel) := by
  intro args objs kk r h
  unfold spec68 spg68 at h
  split at h
  · obtain ⟨hb, h⟩ := cond_some' h
    simp only [Bool.and_eq_true, Nat.beq_eq, decide_eq_true_eq] at hb
    clear hb
    exact fok68 fuel _ _ kk r ((F68_eq fuel _ _ kk).trans h)
  · cases h
end Go.Proofs.Ytajidgilfkineaa

set_option linter.unusedVariables false
set_option linter.unusedSimpArgs false
set_option maxRecDepth 100000
namespace Go.Proofs.Ytajidgilfkineaa
open Go Ev
def kp28 (i : Nat) : Option (List Nat) := Ev.look i [(4, [1, 3]), (100000, []), (400000, [2])]
def Gg28 (f68 : YF68) (f : Nat) : Option Ev.Spec := Ev.look f [(68, spg68 f68)]
def G28 (fuel : Nat) : Nat → Option Ev.Spec := Gg28 (F_ref05_Sides fuel)
def S_ref05_Valid_0 (fuel : Nat) (v : Int × Int × Int × (List Int)) (c : (Int × Int × Int × (List Int)) → Option Ans) (B : (Bool → Option Ans) × (Unit → Option Ans)) : Option Ans := match v, B with
  | (x0, x1, x2, x3), (ret, b) =>
   bif Decidable.decide (x0 < (↑x3.length : Int)) then
      bif Decidable.decide ((0 : Int) ≤ x0 ∧ x0 < (↑x3.length : Int)) then
      bif Decidable.decide (x3.getD x0.toNat (0 : Int) > (1 : Int)) then
        ret Bool.false
       else
        c (Go.IntKind.i64.wrap (x0 + (1 : Int)), x1, x2, x3)
      else none
     else
      b ()
def L_ref05_Valid_0 (fuel : Nat) (v : Int × Int × Int × (List Int)) (ret : (Bool → Option Ans)) (b : (Unit → Option Ans)) : Option Ans := iter (S_ref05_Valid_0 fuel) fuel v (ret, b)
def J28_0 (fuel : Nat) (i : Nat) : Option Ev.Blk := Ev.look i []
def T28_0 (v : Int × Int × Int × (List Int)) : Ev.St := match v with | (x0, x1, x2, x3) => ⟨[(1, .c (.ptr 0 0)), (3, .c (.int .i64 x0))], [(0, .cells 45 [.int .i64 x1, .int .i64 x2, .sl (.int .u8) x3])], 1, 0⟩
def E28_0 (K : Ev.Ex → Ev.St → Option Ans) : (Bool → Option Ans) × (Unit → Option Ans) := ((fun v => match v with | x0 => K .ret ⟨[(2, .c (.bool x0))], [], 0, 0⟩), (fun v => match v with | () => K .normal ⟨[], [], 0, 0⟩))
theorem S28_0_okg (fuel : Nat) (f68 : YF68) (R : Ev.St → Option Ans) (K : Ev.Ex → Ev.St → Option Ans) (x0 : Int) (x1 : Int) (x2 : Int) (x3 : (List Int)) : evalCode tab (Gg28 f68) (J28_0 fuel) kp28 fuel (bodyOf 0 Try.f28) (T28_0 (x0, x1, x2, x3)) (lc kp28 4 0 R K) = (fun (c : (Int × Int × Int × (List Int)) → Option Ans) (B : (Bool → Option Ans) × (Unit → Option Ans)) => match B with
  | (ret, b) =>
   bif Decidable.decide (x0 < (↑x3.length : Int)) then
      bif Decidable.decide ((0 : Int) ≤ x0 ∧ x0 < (↑x3.length : Int)) then
      bif Decidable.decide (x3.getD x0.toNat (0 : Int) > (1 : Int)) then
        ret Bool.false
       else
        c (Go.IntKind.i64.wrap (x0 + (1 : Int)), x1, x2, x3)
      else none
     else
      b ()) (fun v => R (T28_0 v)) (E28_0 K) := by
  kernel_rfl
theorem S28_0_ok (fuel : Nat) (R : Ev.St → Option Ans) (K : Ev.Ex → Ev.St → Option Ans) (x0 : Int) (x1 : Int) (x2 : Int) (x3 : (List Int)) : evalCode tab (G28 fuel) (J28_0 fuel) kp28 fuel (bodyOf 0 Try.f28) (T28_0 (x0, x1, x2, x3)) (lc kp28 4 0 R K) = S_ref05_Valid_0 fuel (x0, x1, x2, x3) (fun v => R (T28_0 v)) (E28_0 K) :=
  S28_0_okg fuel (F_ref05_Sides fuel) R K x0 x1 x2 x3
def B28_0 (fuel : Nat) : Ev.Blk := fun st K => match canonO (kp28 4) st with
  | some s => (match s with
    | ⟨[(q0, .c (.ptr q1 q2)), (q3, .c (.int .i64 x0))], [(q4, .cells q5 [.int .i64 x1, .int .i64 x2, .sl (.int .u8) x3])], q6, q7⟩ => bif Nat.beq q0 1 && Nat.beq q1 0 && Nat.beq q2 0 && Nat.beq q3 3 && Nat.beq q4 0 && Nat.beq q5 45 && Nat.beq q6 1 && Nat.beq q7 0 then iter (S_ref05_Valid_0 fuel) fuel (x0, x1, x2, x3) (E28_0 K) else none
    | _ => none)
  | none => none
theorem B28_0_ok (fuel : Nat) (st : Ev.St) (K : Ev.Ex → Ev.St → Option Ans) (r : Ans) (h : B28_0 fuel st K = some r) : evalCode tab (G28 fuel) (J28_0 fuel) kp28 fuel (.block 0 (.loop (bodyOf 0 Try.f28))) st K = some r := by
  unfold B28_0 at h
  split at h
  · rename_i s hs
    split at h
    · obtain ⟨hb, h⟩ := cond_some' h
      simp only [Bool.and_eq_true, Nat.beq_eq, decide_eq_true_eq] at hb
      obtain ⟨⟨⟨⟨⟨⟨⟨rfl, rfl⟩, rfl⟩, rfl⟩, rfl⟩, rfl⟩, rfl⟩, rfl⟩ := hb
      exact blk_loop (S := T28_0) (ks := E28_0) (step := S_ref05_Valid_0 fuel) (v := (_, _, _, _)) (by kernel_rfl) (by kernel_rfl) (fun R K v => by obtain ⟨x0, x1, x2, x3⟩ := v; exact S28_0_ok fuel R K x0 x1 x2 x3) hs h
    · cases h
  · cases h
def J28 (fuel : Nat) (i : Nat) : Option Ev.Blk := Ev.look i [(100000, B28_0 fuel)]
def F_ref05_Valid (fuel : Nat) (x0 : Int) (x1 : Int) (x2 : (List Int)) (k0 : (Bool) → Option Ans) : Option Ans :=
  (F_ref05_Sides fuel (x0) (x1)
    (fun y2 =>
      bif !y2 then
       k0 Bool.false
      else
       bif (↑x2.length : Int) != Go.IntKind.i64.wrap (x0 * x1) then
        k0 Bool.false
       else
        (L_ref05_Valid_0 fuel ((0 : Int), x0, x1, x2)
          (fun ret0_0 =>
            k0 ret0_0)
          (fun () =>
            k0 Bool.true))))
abbrev YF28 : Type := (Int) → (Int) → ((List Int)) → ((Bool) → Option Ans) → Option Ans
theorem F28_eqg (fuel : Nat) (f68 : YF68) (x0 : Int) (x1 : Int) (x2 : (List Int)) (k : Ev.Cont) : evalFn tab (Gg28 f68) (J28 fuel) kp28 fuel Try.f28 [.agg [.int .i64 x0, .int .i64 x1, .sl (.int .u8) x2]] [] k = (fun  (k0 : (Bool) → Option Ans) =>
  (f68 (x0) (x1)
    (fun y2 =>
      bif !y2 then
       k0 Bool.false
      else
       bif (↑x2.length : Int) != Go.IntKind.i64.wrap (x0 * x1) then
        k0 Bool.false
       else
        (L_ref05_Valid_0 fuel ((0 : Int), x0, x1, x2)
          (fun ret0_0 =>
            k0 ret0_0)
          (fun () =>
            k0 Bool.true))))) (fun r => match r with | r0 => k (.c (.bool r0), [])) := by
  kernel_rfl
theorem F28_eq (fuel : Nat) (x0 : Int) (x1 : Int) (x2 : (List Int)) (k : Ev.Cont) : evalFn tab (G28 fuel) (J28 fuel) kp28 fuel Try.f28 [.agg [.int .i64 x0, .int .i64 x1, .sl (.int .u8) x2]] [] k = F_ref05_Valid fuel x0 x1 x2 (fun r => match r with | r0 => k (.c (.bool r0), [])) :=
  F28_eqg fuel (F_ref05_Sides fuel) x0 x1 x2 k
theorem hG28 (fuel : Nat) : GOK Try.prog (G28 fuel) :=
  gok_cons ⟨ok68 fuel, enters_of Try.func68 (by kernel_rfl) rfl⟩ <|
  gok_nil
theorem B28_0_blk (fuel : Nat) : BlkOK Try.prog Try.f28.ntmps (.block 0 (.loop (bodyOf 0 Try.f28))) (B28_0 fuel) :=
  blk_of (blk_of_code tab_ok (hG28 fuel) mixed (J := J28_0 fuel) (kp := kp28) (fuel := fuel) (by kernel_rfl) (fun q hq => by
    rw [(by kernel_rfl : obl (J28_0 fuel) (.block 0 (.loop (bodyOf 0 Try.f28))) = [])] at hq
    cases hq)) (B28_0_ok fuel)
theorem fok28 (fuel : Nat) : FnOK Try.prog 28 (evalFn tab (G28 fuel) (J28 fuel) kp28 fuel Try.f28) :=
  fn_ok tab_ok (hG28 fuel) mixed Try.func28 (c := (Try.f28.body).getD .skip) rfl (fun q hq => by
    rw [(by kernel_rfl : obl (J28 fuel) ((Try.f28.body).getD .skip) = [(.block 0 (.loop (bodyOf 0 Try.f28)), B28_0 fuel)])] at hq
    simp only [List.mem_cons, List.not_mem_nil, or_false] at hq
    subst hq
    · exact B28_0_blk fuel)
def mt28 : List Ev.SV → List Ev.Ob → Bool := fun args objs => match args, objs with
  | [.agg [.int .i64 _, .int .i64 _, .sl (.int .u8) _]], [] => true
  | _, _ => false
def spg28 (F : YF28) : Ev.Spec := fun args objs k => match args, objs with
  | [.agg [.int .i64 x0, .int .i64 x1, .sl (.int .u8) x2]], [] => bif true then F x0 x1 x2 (fun r => match r with | r0 => k (.c (.bool r0), [])) else none
  | _, _ => none
def spec28 (fuel : Nat) : Ev.Spec := spg28 (F_ref05_Valid fuel)
theorem ok28 (fuel : Nat) : FnOK Try.prog 28 (spec28 fuel) := by
  intro args objs kk r h
  unfold spec28 spg28 at h
  split at h
  · obtain ⟨hb, h⟩ := cond_some' h
    simp only [Bool.and_eq_true, Nat.beq_eq, decide_eq_true_eq] at hb
    clear hb
    exact fok28 fuel _ _ kk r ((F28_eq fuel _ _ _ kk).trans h)
  · cases h
end Go.Proofs.Ytajidgilfkineaa

set_option linter.unusedVariables false
set_option linter.unusedSimpArgs false
set_option maxRecDepth 100000
namespace Go.Proofs.Ytajidgilfkineaa
open Go Ev
def kp126 (i : Nat) : Option (List Nat) := Ev.look i []
def Gg126 (f : Nat) : Option Ev.Spec := Ev.look f []
def G126 (fuel : Nat) : Nat → Option Ev.Spec := Gg126
def J126 (fuel : Nat) (i : Nat) : Option Ev.Blk := Ev.look i []
def F_ref05_inside (fuel : Nat) (x0 : Int) (x1 : Int) (x2 : (List Int)) (x3 : Int) (x4 : Int) (k0 : (Bool) → Option Ans) : Option Ans :=
  bif Decidable.decide (x3 ≥ (0 : Int)) then
   bif Decidable.decide (x4 ≥ (0 : Int)) then
    bif Decidable.decide (x3 < x0) then
     k0 (Decidable.decide (x4 < x1))
    else
     k0 Bool.false
   else
    k0 Bool.false
  else
   k0 Bool.false
abbrev YF126 : Type := (Int) → (Int) → ((List Int)) → (Int) → (Int) → ((Bool) → Option Ans) → Option Ans
theorem F126_eq (fuel : Nat) (x0 : Int) (x1 : Int) (x2 : (List Int)) (x3 : Int) (x4 : Int) (k : Ev.Cont) : evalFn tab (G126 fuel) (J126 fuel) kp126 fuel Try.f126 [.agg [.int .i64 x0, .int .i64 x1, .sl (.int .u8) x2], .c (.int .i64 x3), .c (.int .i64 x4)] [] k = F_ref05_inside fuel x0 x1 x2 x3 x4 (fun r => match r with | r0 => k (.c (.bool r0), [])) := by
  kernel_rfl
theorem hG126 (fuel : Nat) : GOK Try.prog (G126 fuel) :=
  gok_nil
theorem fok126 (fuel : Nat) : FnOK Try.prog 126 (evalFn tab (G126 fuel) (J126 fuel) kp126 fuel Try.f126) :=
  fn_ok tab_ok (hG126 fuel) mixed Try.func126 (c := (Try.f126.body).getD .skip) rfl (fun q hq => by
    rw [(by kernel_rfl : obl (J126 fuel) ((Try.f126.body).getD .skip) = [])] at hq
    cases hq)
def mt126 : List Ev.SV → List Ev.Ob → Bool := fun args objs => match args, objs with
  | [.agg [.int .i64 _, .int .i64 _, .sl (.int .u8) _], .c (.int .i64 _), .c (.int .i64 _)], [] => true
  | _, _ => false
def spg126 (F : YF126) : Ev.Spec := fun args objs k => match args, objs with
  | [.agg [.int .i64 x0, .int .i64 x1, .sl (.int .u8) x2], .c (.int .i64 x3), .c (.int .i64 x4)], [] => bif true then F x0 x1 x2 x3 x4 (fun r => match r with | r0 => k (.c (.bool r0), [])) else none
  | _, _ => none
def spec126 (fuel : Nat) : Ev.Spec := spg126 (F_ref05_inside fuel)
theorem ok126 (fuel : Nat) : FnOK Try.prog 126 (spec126 fuel) := by
  intro args objs kk r h
  unfold spec126 spg126 at h
  split at h
  · obtain ⟨hb, h⟩ := cond_some' h
    simp only [Bool.and_eq_true, Nat.beq_eq, decide_eq_true_eq] at hb
    clear hb
    exact fok126 fuel _ _ kk r ((F126_eq fuel _ _ _ _ _ kk).trans h)
  · cases h
end Go.Proofs.Ytajidgilfkineaa

set_option linter.unusedVariables false
set_option linter.unusedSimpArgs false
set_option maxRecDepth 100000
namespace Go.Proofs.Ytajidgilfkineaa
open Go Ev
def kp110 (i : Nat) : Option (List Nat) := Ev.look i []
def Gg110 (f126 : YF126) (f : Nat) : Option Ev.Spec := Ev.look f [(126, spg126 f126)]
def G110 (fuel : Nat) : Nat → Option Ev.Spec := Gg110 (F_ref05_inside fuel)
def J110 (fuel : Nat) (i : Nat) : Option Ev.Blk := Ev.look i []
def F_ref05_At (fuel : Nat) (x0 : Int) (x1 : Int) (x2 : (List Int)) (x3 : Int) (x4 : Int) (k0 : (Int) → Option Ans) : Option Ans :=
  (F_ref05_inside fuel (x0) (x1) (x2) (x3) (x4)
    (fun y2 =>
      bif !y2 then
       k0 ((0 : Int))
      else
       bif Decidable.decide ((0 : Int) ≤ Go.IntKind.i64.wrap (Go.IntKind.i64.wrap (x4 * x0) + x3) ∧ Go.IntKind.i64.wrap (Go.IntKind.i64.wrap (x4 * x0) + x3) < (↑x2.length : Int)) then
       k0 (Go.IntKind.i64.wrap (x2.getD (Go.IntKind.i64.wrap (Go.IntKind.i64.wrap (x4 * x0) + x3)).toNat (0 : Int)))
       else none))
abbrev YF110 : Type := (Int) → (Int) → ((List Int)) → (Int) → (Int) → ((Int) → Option Ans) → Option Ans
theorem F110_eqg (fuel : Nat) (f126 : YF126) (x0 : Int) (x1 : Int) (x2 : (List Int)) (x3 : Int) (x4 : Int) (k : Ev.Cont) : evalFn tab (Gg110 f126) (J110 fuel) kp110 fuel Try.f110 [.agg [.int .i64 x0, .int .i64 x1, .sl (.int .u8) x2], .c (.int .i64 x3), .c (.int .i64 x4)] [] k = (fun  (k0 : (Int) → Option Ans) =>
  (f126 (x0) (x1) (x2) (x3) (x4)
    (fun y2 =>
      bif !y2 then
       k0 ((0 : Int))
      else
       bif Decidable.decide ((0 : Int) ≤ Go.IntKind.i64.wrap (Go.IntKind.i64.wrap (x4 * x0) + x3) ∧ Go.IntKind.i64.wrap (Go.IntKind.i64.wrap (x4 * x0) + x3) < (↑x2.length : Int)) then
       k0 (Go.IntKind.i64.wrap (x2.getD (Go.IntKind.i64.wrap (Go.IntKind.i64.wrap (x4 * x0) + x3)).toNat (0 : Int)))
       else none))) (fun r => match r with | r0 => k (.c (.int .i64 r0), [])) := by
  kernel_rfl
theorem F110_eq (fuel : Nat) (x0 : Int) (x1 : Int) (x2 : (List Int)) (x3 : Int) (x4 : Int) (k : Ev.Cont) : evalFn tab (G110 fuel) (J110 fuel) kp110 fuel Try.f110 [.agg [.int .i64 x0, .int .i64 x1, .sl (.int .u8) x2], .c (.int .i64 x3), .c (.int .i64 x4)] [] k = F_ref05_At fuel x0 x1 x2 x3 x4 (fun r => match r with | r0 => k (.c (.int .i64 r0), [])) :=
  F110_eqg fuel (F_ref05_inside fuel) x0 x1 x2 x3 x4 k
theorem hG110 (fuel : Nat) : GOK Try.prog (G110 fuel) :=
  gok_cons ⟨ok126 fuel, enters_of Try.func126 (by kernel_rfl) rfl⟩ <|
  gok_nil
theorem fok110 (fuel : Nat) : FnOK Try.prog 110 (evalFn tab (G110 fuel) (J110 fuel) kp110 fuel Try.f110) :=
  fn_ok tab_ok (hG110 fuel) mixed Try.func110 (c := (Try.f110.body).getD .skip) rfl (fun q hq => by
    rw [(by kernel_rfl : obl (J110 fuel) ((Try.f110.body).getD .skip) = [])] at hq
    cases hq)
def mt110 : List Ev.SV → List Ev.Ob → Bool := fun args objs => match args, objs with
  | [.agg [.int .i64 _, .int .i64 _, .sl (.int .u8) _], .c (.int .i64 _), .c (.int .i64 _)], [] => true
  | _, _ => false
def spg110 (F : YF110) : Ev.Spec := fun args objs k => match args, objs with
  | [.agg [.int .i64 x0, .int .i64 x1, .sl (.int .u8) x2], .c (.int .i64 x3), .c (.int .i64 x4)], [] => bif true then F x0 x1 x2 x3 x4 (fun r => match r with | r0 => k (.c (.int .i64 r0), [])) else none
  | _, _ => none
def spec110 (fuel : Nat) : Ev.Spec := spg110 (F_ref05_At fuel)
theorem ok110 (fuel : Nat) : FnOK Try.prog 110 (spec110 fuel) := by
  intro args objs kk r h
  unfold spec110 spg110 at h
  split at h
  · obtain ⟨hb, h⟩ := cond_some' h
    simp only [Bool.and_eq_true, Nat.beq_eq, decide_eq_true_eq] at hb
    clear hb
    exact fok110 fuel _ _ kk r ((F110_eq fuel _ _ _ _ _ kk).trans h)
  · cases h
end Go.Proofs.Ytajidgilfkineaa

set_option linter.unusedVariables false
set_option linter.unusedSimpArgs false
set_option maxRecDepth 100000
namespace Go.Proofs.Ytajidgilfkineaa
open Go Ev
def kp44 (i : Nat) : Option (List Nat) := Ev.look i [(7, [1, 3, 55, 56, 57]), (100000, []), (400000, [2])]
def Gg44 (f : Nat) : Option Ev.Spec := Ev.look f []
def G44 (fuel : Nat) : Nat → Option Ev.Spec := Gg44
def S_ref12_Valid_0 (fuel : Nat) (v : Int × (List Int) × Int × Int × Int × Int × Int × (List Int) × (List Bool) × (List Int)) (c : (Int × (List Int) × Int × Int × Int × Int × Int × (List Int) × (List Bool) × (List Int)) → Option Ans) (B : (Bool → Option Ans) × (Unit → Option Ans)) : Option Ans := match v, B with
  | (x0, x1, x2, x3, x4, x5, x6, x7, x8, x9), (ret, b) =>
   bif Decidable.decide (x3 < x2) then
      bif Decidable.decide ((0 : Int) ≤ x3 ∧ x3 < (↑x1.length : Int)) then
      bif Decidable.decide (x1.getD x3.toNat (0 : Int) ≤ x0) then
        ret Bool.false
       else
        bif Decidable.decide (x1.getD x3.toNat (0 : Int) ≥ x4) then
         ret Bool.false
        else
         c (x1.getD x3.toNat (0 : Int), x1, x2, Go.IntKind.i64.wrap (x3 + (1 : Int)), x4, x5, x6, x7, x8, x9)
      else none
     else
      b ()
def L_ref12_Valid_0 (fuel : Nat) (v : Int × (List Int) × Int × Int × Int × Int × Int × (List Int) × (List Bool) × (List Int)) (ret : (Bool → Option Ans)) (b : (Unit → Option Ans)) : Option Ans := iter (S_ref12_Valid_0 fuel) fuel v (ret, b)
def J44_0 (fuel : Nat) (i : Nat) : Option Ev.Blk := Ev.look i []
def T44_0 (v : Int × (List Int) × Int × Int × Int × Int × Int × (List Int) × (List Bool) × (List Int)) : Ev.St := match v with | (x0, x1, x2, x3, x4, x5, x6, x7, x8, x9) => ⟨[(1, .c (.ptr 0 0)), (3, .c (.int .i64 x0)), (55, .c (.sl (.int .i64) x1)), (56, .c (.int .i64 x2)), (57, .c (.int .i64 x3))], [(0, .cells 63 [.int .i64 x4, .int .i64 x5, .int .i64 x6, .sl (.int .i64) x7, .sl .bool x8, .sl (.int .u8) x9])], 1, 0⟩
def E44_0 (K : Ev.Ex → Ev.St → Option Ans) : (Bool → Option Ans) × (Unit → Option Ans) := ((fun v => match v with | x0 => K .ret ⟨[(2, .c (.bool x0))], [], 0, 0⟩), (fun v => match v with | () => K .normal ⟨[], [], 0, 0⟩))
theorem S44_0_ok (fuel : Nat) (R : Ev.St → Option Ans) (K : Ev.Ex → Ev.St → Option Ans) (x0 : Int) (x1 : (List Int)) (x2 : Int) (x3 : Int) (x4 : Int) (x5 : Int) (x6 : Int) (x7 : (List Int)) (x8 : (List Bool)) (x9 : (List Int)) : evalCode tab (G44 fuel) (J44_0 fuel) kp44 fuel (bodyOf 0 Try.f44) (T44_0 (x0, x1, x2, x3, x4, x5, x6, x7, x8, x9)) (lc kp44 7 0 R K) = S_ref12_Valid_0 fuel (x0, x1, x2, x3, x4, x5, x6, x7, x8, x9) (fun v => R (T44_0 v)) (E44_0 K) := by
  kernel_rfl
def B44_0 (fuel : Nat) : Ev.Blk := fun st K => match canonO (kp44 7) st with
  | some s => (match s with
    | ⟨[(q0, .c (.ptr q1 q2)), (q3, .c (.int .i64 x0)), (q4, .c (.sl (.int .i64) x1)), (q5, .c (.int .i64 x2)), (q6, .c (.int .i64 x3))], [(q7, .cells q8 [.int .i64 x4, .int .i64 x5, .int .i64 x6, .sl (.int .i64) x7, .sl .bool x8, .sl (.int .u8) x9])], q9, q10⟩ => bif Nat.beq q0 1 && Nat.beq q1 0 && Nat.beq q2 0 && Nat.beq q3 3 && Nat.beq q4 55 && Nat.beq q5 56 && Nat.beq q6 57 && Nat.beq q7 0 && Nat.beq q8 63 && Nat.beq q9 1 && Nat.beq q10 0 then iter (S_ref12_Valid_0 fuel) fuel (x0, x1, x2, x3, x4, x5, x6, x7, x8, x9) (E44_0 K) else none
    | _ => none)
  | none => none
theorem B44_0_ok (fuel : Nat) (st : Ev.St) (K : Ev.Ex → Ev.St → Option Ans) (r : Ans) (h : B44_0 fuel st K = some r) : evalCode tab (G44 fuel) (J44_0 fuel) kp44 fuel (.block 0 (.loop (bodyOf 0 Try.f44))) st K = some r := by
  unfold B44_0 at h
  split at h
  · rename_i s hs
    split at h
    · obtain ⟨hb, h⟩ := cond_some' h
      simp only [Bool.and_eq_true, Nat.beq_eq, decide_eq_true_eq] at hb
      obtain ⟨⟨⟨⟨⟨⟨⟨⟨⟨⟨rfl, rfl⟩, rfl⟩, rfl⟩, rfl⟩, rfl⟩, rfl⟩, rfl⟩, rfl⟩, rfl⟩, rfl⟩ := hb
      exact blk_loop (S := T44_0) (ks := E44_0) (step := S_ref12_Valid_0 fuel) (v := (_, _, _, _, _, _, _, _, _, _)) (by kernel_rfl) (by kernel_rfl) (fun R K v => by obtain ⟨x0, x1, x2, x3, x4, x5, x6, x7, x8, x9⟩ := v; exact S44_0_ok fuel R K x0 x1 x2 x3 x4 x5 x6 x7 x8 x9) hs h
    · cases h
  · cases h
def J44 (fuel : Nat) (i : Nat) : Option Ev.Blk := Ev.look i [(100000, B44_0 fuel)]
def F_ref12_Valid (fuel : Nat) (x0 : Int) (x1 : Int) (x2 : Int) (x3 : (List Int)) (x4 : (List Bool)) (x5 : (List Int)) (k0 : (Bool) → Option Ans) : Option Ans :=
  bif Decidable.decide (x0 < (0 : Int)) then
   k0 Bool.false
  else
   bif Decidable.decide (x0 > (10000 : Int)) then
    k0 Bool.false
   else
    bif Decidable.decide (x1 < (0 : Int)) then
     k0 Bool.false
    else
     bif Decidable.decide (x1 > (15 : Int)) then
      k0 Bool.false
     else
      bif Decidable.decide (x2 < (0 : Int)) then
       k0 Bool.false
      else
       bif Decidable.decide (x2 > (1000 : Int)) then
        k0 Bool.false
       else
        bif Decidable.decide ((↑x3.length : Int) > (20 : Int)) then
         k0 Bool.false
        else
         bif (↑x4.length : Int) != Go.IntKind.i64.wrap ((↑x3.length : Int) + (1 : Int)) then
          k0 Bool.false
         else
          bif Decidable.decide ((↑x5.length : Int) > (20000 : Int)) then
           k0 Bool.false
          else
           (L_ref12_Valid_0 fuel ((-1 : Int), x3, (↑x3.length : Int), (0 : Int), x0, x1, x2, x3, x4, x5)
             (fun ret0_0 =>
               k0 ret0_0)
             (fun () =>
               k0 Bool.true))
abbrev YF44 : Type := (Int) → (Int) → (Int) → ((List Int)) → ((List Bool)) → ((List Int)) → ((Bool) → Option Ans) → Option Ans
theorem F44_eq (fuel : Nat) (x0 : Int) (x1 : Int) (x2 : Int) (x3 : (List Int)) (x4 : (List Bool)) (x5 : (List Int)) (k : Ev.Cont) : evalFn tab (G44 fuel) (J44 fuel) kp44 fuel Try.f44 [.agg [.int .i64 x0, .int .i64 x1, .int .i64 x2, .sl (.int .i64) x3, .sl .bool x4, .sl (.int .u8) x5]] [] k = F_ref12_Valid fuel x0 x1 x2 x3 x4 x5 (fun r => match r with | r0 => k (.c (.bool r0), [])) := by
  kernel_rfl
theorem hG44 (fuel : Nat) : GOK Try.prog (G44 fuel) :=
  gok_nil
theorem B44_0_blk (fuel : Nat) : BlkOK Try.prog Try.f44.ntmps (.block 0 (.loop (bodyOf 0 Try.f44))) (B44_0 fuel) :=
  blk_of (blk_of_code tab_ok (hG44 fuel) mixed (J := J44_0 fuel) (kp := kp44) (fuel := fuel) (by kernel_rfl) (fun q hq => by
    rw [(by kernel_rfl : obl (J44_0 fuel) (.block 0 (.loop (bodyOf 0 Try.f44))) = [])] at hq
    cases hq)) (B44_0_ok fuel)
theorem fok44 (fuel : Nat) : FnOK Try.prog 44 (evalFn tab (G44 fuel) (J44 fuel) kp44 fuel Try.f44) :=
  fn_ok tab_ok (hG44 fuel) mixed Try.func44 (c := (Try.f44.body).getD .skip) rfl (fun q hq => by
    rw [(by kernel_rfl : obl (J44 fuel) ((Try.f44.body).getD .skip) = [(.block 0 (.loop (bodyOf 0 Try.f44)), B44_0 fuel)])] at hq
    simp only [List.mem_cons, List.not_mem_nil, or_false] at hq
    subst hq
    · exact B44_0_blk fuel)
def mt44 : List Ev.SV → List Ev.Ob → Bool := fun args objs => match args, objs with
  | [.agg [.int .i64 _, .int .i64 _, .int .i64 _, .sl (.int .i64) _, .sl .bool _, .sl (.int .u8) _]], [] => true
  | _, _ => false
def spg44 (F : YF44) : Ev.Spec := fun args objs k => match args, objs with
  | [.agg [.int .i64 x0, .int .i64 x1, .int .i64 x2, .sl (.int .i64) x3, .sl .bool x4, .sl (.int .u8) x5]], [] => bif true then F x0 x1 x2 x3 x4 x5 (fun r => match r with | r0 => k (.c (.bool r0), [])) else none
  | _, _ => none
def spec44 (fuel : Nat) : Ev.Spec := spg44 (F_ref12_Valid fuel)
theorem ok44 (fuel : Nat) : FnOK Try.prog 44 (spec44 fuel) := by
  intro args objs kk r h
  unfold spec44 spg44 at h
  split at h
  · obtain ⟨hb, h⟩ := cond_some' h
    simp only [Bool.and_eq_true, Nat.beq_eq, decide_eq_true_eq] at hb
    clear hb
    exact fok44 fuel _ _ kk r ((F44_eq fuel _ _ _ _ _ _ kk).trans h)
  · cases h
end Go.Proofs.Ytajidgilfkineaa

set_option linter.unusedVariables false
set_option linter.unusedSimpArgs false
set_option maxRecDepth 100000
namespace Go.Proofs.Ytajidgilfkineaa
open Go Ev
def kp112 (i : Nat) : Option (List Nat) := Ev.look i [(5, [0, 4]), (100000, [4]), (400000, [2, 3])]
def Gg112 (f : Nat) : Option Ev.Spec := Ev.look f []
def G112 (fuel : Nat) : Nat → Option Ev.Spec := Gg112
def S_ref01_Size_0 (fuel : Nat) (v : Int × (List Int)) (c : (Int × (List Int)) → Option Ans) (B : ((List Int) → Option Ans)) : Option Ans := match v, B with
  | (x0, x1), b =>
   bif Decidable.decide (x0 > (0 : Int)) then
      bif Decidable.decide (([Go.IntKind.u8.wrap (Go.IntKind.i64.wrap ((128 : Int) + x0.tmod (128 : Int)))].length + x1.length) * (1 : Nat) ≤ (140737488355328 : Nat) ∧ [Go.IntKind.u8.wrap (Go.IntKind.i64.wrap ((128 : Int) + x0.tmod (128 : Int)))].length + x1.length ≤ (140737488355328 : Nat)) then
      c (Go.IntKind.i64.wrap (x0.tdiv (128 : Int)), [Go.IntKind.u8.wrap (Go.IntKind.i64.wrap ((128 : Int) + x0.tmod (128 : Int)))] ++ x1)
      else none
     else
      b x1
def L_ref01_Size_0 (fuel : Nat) (v : Int × (List Int)) (b : ((List Int) → Option Ans)) : Option Ans := iter (S_ref01_Size_0 fuel) fuel v b
def J112_0 (fuel : Nat) (i : Nat) : Option Ev.Blk := Ev.look i []
def T112_0 (v : Int × (List Int)) : Ev.St := match v with | (x0, x1) => ⟨[(0, .c (.int .i64 x0)), (4, .c (.own 0))], [(0, .vec 5 (.int .u8) x1 true)], 1, 0⟩
def E112_0 (K : Ev.Ex → Ev.St → Option Ans) : ((List Int) → Option Ans) := (fun v => match v with | x0 => K .normal ⟨[(4, .c (.own 0))], [(0, .vec 5 (.int .u8) x0 true)], 1, 0⟩)
theorem S112_0_ok (fuel : Nat) (R : Ev.St → Option Ans) (K : Ev.Ex → Ev.St → Option Ans) (x0 : Int) (x1 : (List Int)) : evalCode tab (G112 fuel) (J112_0 fuel) kp112 fuel (bodyOf 0 Try.f112) (T112_0 (x0, x1)) (lc kp112 5 0 R K) = S_ref01_Size_0 fuel (x0, x1) (fun v => R (T112_0 v)) (E112_0 K) := by
  kernel_rfl
def B112_0 (fuel : Nat) : Ev.Blk := fun st K => match canonO (kp112 5) st with
  | some s => (match s with
    | ⟨[(q0, .c (.int .i64 x0)), (q1, .c (.own q2))], [(q3, .vec q4 (.int .u8) x1 true)], q5, q6⟩ => bif Nat.beq q0 0 && Nat.beq q1 4 && Nat.beq q2 0 && Nat.beq q3 0 && Nat.beq q4 5 && Nat.beq q5 1 && Nat.beq q6 0 then iter (S_ref01_Size_0 fuel) fuel (x0, x1) (E112_0 K) else none
    | _ => none)
  | none => none
theorem B112_0_ok (fuel : Nat) (st : Ev.St) (K : Ev.Ex → Ev.St → Option Ans) (r : Ans) (h : B112_0 fuel st K = some r) : evalCode tab (G112 fuel) (J112_0 fuel) kp112 fuel (.block 0 (.loop (bodyOf 0 Try.f112))) st K = some r := by
  unfold B112_0 at h
  split at h
  · rename_i s hs
    split at h
    · obtain ⟨hb, h⟩ := cond_some' h
      simp only [Bool.and_eq_true, Nat.beq_eq, decide_eq_true_eq] at hb
      obtain ⟨⟨⟨⟨⟨⟨rfl, rfl⟩, rfl⟩, rfl⟩, rfl⟩, rfl⟩, rfl⟩ := hb
      exact blk_loop (S := T112_0) (ks := E112_0) (step := S_ref01_Size_0 fuel) (v := (_, _)) (by kernel_rfl) (by kernel_rfl) (fun R K v => by obtain ⟨x0, x1⟩ := v; exact S112_0_ok fuel R K x0 x1) hs h
    · cases h
  · cases h
def J112 (fuel : Nat) (i : Nat) : Option Ev.Blk := Ev.look i [(100000, B112_0 fuel)]
def F_ref01_Size (fuel : Nat) (x0 : Int) (k0 : (Int × (List Int)) → Option Ans) : Option Ans :=
  bif Decidable.decide (x0 < (0 : Int)) then
   k0 ((2 : Int), [])
  else
   bif Decidable.decide (x0 > (2147483647 : Int)) then
    k0 ((2 : Int), [])
   else
    (L_ref01_Size_0 fuel (Go.IntKind.i64.wrap (x0.tdiv (128 : Int)), [Go.IntKind.u8.wrap (x0.tmod (128 : Int))])
      (fun b0_0 =>
        k0 ((0 : Int), b0_0)))
abbrev YF112 : Type := (Int) → ((Int × (List Int)) → Option Ans) → Option Ans
theorem F112_eq (fuel : Nat) (x0 : Int) (k : Ev.Cont) : evalFn tab (G112 fuel) (J112 fuel) kp112 fuel Try.f112 [.c (.int .i64 x0)] [] k = F_ref01_Size fuel x0 (fun r => match r with | (r0, r1) => k (.tup [(false, [.own 0]), (false, [.int .i64 r0])], [.vec 5 (.int .u8) r1 true])) := by
  kernel_rfl
theorem hG112 (fuel : Nat) : GOK Try.prog (G112 fuel) :=
  gok_nil
theorem B112_0_blk (fuel : Nat) : BlkOK Try.prog Try.f112.ntmps (.block 0 (.loop (bodyOf 0 Try.f112))) (B112_0 fuel) :=
  blk_of (blk_of_code tab_ok (hG112 fuel) mixed (J := J112_0 fuel) (kp := kp112) (fuel := fuel) (by kernel_rfl) (fun q hq => by
    rw [(by kernel_rfl : obl (J112_0 fuel) (.block 0 (.loop (bodyOf 0 Try.f112))) = [])] at hq
    cases hq)) (B112_0_ok fuel)
theorem fok112 (fuel : Nat) : FnOK Try.prog 112 (evalFn tab (G112 fuel) (J112 fuel) kp112 fuel Try.f112) :=
  fn_ok tab_ok (hG112 fuel) mixed Try.func112 (c := (Try.f112.body).getD .skip) rfl (fun q hq => by
    rw [(by kernel_rfl : obl (J112 fuel) ((Try.f112.body).getD .skip) = [(.block 0 (.loop (bodyOf 0 Try.f112)), B112_0 fuel)])] at hq
    simp only [List.mem_cons, List.not_mem_nil, or_false] at hq
    subst hq
    · exact B112_0_blk fuel)
def mt112 : List Ev.SV → List Ev.Ob → Bool := fun args objs => match args, objs with
  | [.c (.int .i64 _)], [] => true
  | _, _ => false
def spg112 (F : YF112) : Ev.Spec := fun args objs k => match args, objs with
  | [.c (.int .i64 x0)], [] => bif true then F x0 (fun r => match r with | (r0, r1) => k (.tup [(false, [.own 0]), (false, [.int .i64 r0])], [.vec 5 (.int .u8) r1 true])) else none
  | _, _ => none
def spec112 (fuel : Nat) : Ev.Spec := spg112 (F_ref01_Size fuel)
theorem ok112 (fuel : Nat) : FnOK Try.prog 112 (spec112 fuel) := by
  intro args objs kk r h
  unfold spec112 spg112 at h
  split at h
  · obtain ⟨hb, h⟩ := cond_some' h
    simp only [Bool.and_eq_true, Nat.beq_eq, decide_eq_true_eq] at hb
    clear hb
    exact fok112 fuel _ _ kk r ((F112_eq fuel _ kk).trans h)
  · cases h
end Go.Proofs.Ytajidgilfkineaa

set_option linter.unusedVariables false
set_option linter.unusedSimpArgs false
set_option maxRecDepth 100000
namespace Go.Proofs.Ytajidgilfkineaa
open Go Ev
def kp79 (i : Nat) : Option (List Nat) := Ev.look i []
def Gg79 (f112 : YF112) (f : Nat) : Option Ev.Spec := Ev.look f [(112, spg112 f112)]
def G79 (fuel : Nat) : Nat → Option Ev.Spec := Gg79 (F_ref01_Size fuel)
def J79 (fuel : Nat) (i : Nat) : Option Ev.Blk := Ev.look i []
def F_ref12_size (fuel : Nat) (x0 : Int) (k0 : ((List Int)) → Option Ans) : Option Ans :=
  (F_ref01_Size fuel (x0)
    (fun (y2_0, y2_1) =>
      k0 y2_1))
abbrev YF79 : Type := (Int) → (((List Int)) → Option Ans) → Option Ans
theorem F79_eqg (fuel : Nat) (f112 : YF112) (x0 : Int) (k : Ev.Cont) : evalFn tab (Gg79 f112) (J79 fuel) kp79 fuel Try.f79 [.c (.int .i64 x0)] [] k = (fun  (k0 : ((List Int)) → Option Ans) =>
  (f112 (x0)
    (fun (y2_0, y2_1) =>
      k0 y2_1))) (fun r => match r with | r0 => k (.c (.own 0), [.vec 5 (.int .u8) r0 true])) := by
  kernel_rfl
theorem F79_eq (fuel : Nat) (x0 : Int) (k : Ev.Cont) : evalFn tab (G79 fuel) (J79 fuel) kp79 fuel Try.f79 [.c (.int .i64 x0)] [] k = F_ref12_size fuel x0 (fun r => match r with | r0 => k (.c (.own 0), [.vec 5 (.int .u8) r0 true])) :=
  F79_eqg fuel (F_ref01_Size fuel) x0 k
theorem hG79 (fuel : Nat) : GOK Try.prog (G79 fuel) :=
  gok_cons ⟨ok112 fuel, enters_of Try.func112 (by kernel_rfl) rfl⟩ <|
  gok_nil
theorem fok79 (fuel : Nat) : FnOK Try.prog 79 (evalFn tab (G79 fuel) (J79 fuel) kp79 fuel Try.f79) :=
  fn_ok tab_ok (hG79 fuel) mixed Try.func79 (c := (Try.f79.body).getD .skip) rfl (fun q hq => by
    rw [(by kernel_rfl : obl (J79 fuel) ((Try.f79.body).getD .skip) = [])] at hq
    cases hq)
def mt79 : List Ev.SV → List Ev.Ob → Bool := fun args objs => match args, objs with
  | [.c (.int .i64 _)], [] => true
  | _, _ => false
def spg79 (F : YF79) : Ev.Spec := fun args objs k => match args, objs with
  | [.c (.int .i64 x0)], [] => bif true then F x0 (fun r => match r with | r0 => k (.c (.own 0), [.vec 5 (.int .u8) r0 true])) else none
  | _, _ => none
def spec79 (fuel : Nat) : Ev.Spec := spg79 (F_ref12_size fuel)
theorem ok79 (fuel : Nat) : FnOK Try.prog 79 (spec79 fuel) := by
  intro args objs kk r h
  unfold spec79 spg79 at h
  split at h
  · obtain ⟨hb, h⟩ := cond_some' h
    simp only [Bool.and_eq_true, Nat.beq_eq, decide_eq_true_eq] at hb
    clear hb
    exact fok79 fuel _ _ kk r ((F79_eq fuel _ kk).trans h)
  · cases h
end Go.Proofs.Ytajidgilfkineaa

set_option linter.unusedVariables false
set_option linter.unusedSimpArgs false
set_option maxRecDepth 100000
namespace Go.Proofs.Ytajidgilfkineaa
open Go Ev
def kp42 (i : Nat) : Option (List Nat) := Ev.look i [(9, [1, 4, 40, 41, 42]), (15, [1, 4, 7, 61, 62, 63]), (100000, [1, 4]), (100002, [1, 4, 7]), (400000, [2, 3]), (400002, [2, 3])]
def Gg42 (f44 : YF44) (f79 : YF79) (f : Nat) : Option Ev.Spec := Ev.look f [(44, spg44 f44), (79, spg79 f79)]
def G42 (fuel : Nat) : Nat → Option Ev.Spec := Gg42 (F_ref12_Valid fuel) (F_ref12_size fuel)
def S_ref12_Header_2 (fuel : Nat) (v : (List Bool) × Int × Int × Int × Int × Int × (List Int) × (List Bool) × (List Int) × (List Int) × (List Int)) (c : ((List Bool) × Int × Int × Int × Int × Int × (List Int) × (List Bool) × (List Int) × (List Int) × (List Int)) → Option Ans) (B : (Int × Int × Int × (List Int) × (List Bool) × (List Int) × (List Int) × (List Int) → Option Ans)) : Option Ans := match v, B with
  | (x0, x1, x2, x3, x4, x5, x6, x7, x8, x9, x10), b =>
   bif Decidable.decide (x2 < x1) then
      bif Decidable.decide ((0 : Int) ≤ x2 ∧ x2 < (↑x0.length : Int)) then
      bif x0.getD x2.toNat Bool.false then
        bif Decidable.decide ((0 : Int) ≤ Go.IntKind.i64.wrap (x2.tdiv (8 : Int)) ∧ Go.IntKind.i64.wrap (x2.tdiv (8 : Int)) < (↑x10.length : Int)) then
        bif Decidable.decide (x2.tmod (8 : Int) < (0 : Int)) then
          none
         else
          bif Decidable.decide ((0 : Int) ≤ Go.IntKind.i64.wrap (x2.tdiv (8 : Int)) ∧ Go.IntKind.i64.wrap (x2.tdiv (8 : Int)) < (↑x10.length : Int)) then
          c (x0, x1, Go.IntKind.i64.wrap (x2 + (1 : Int)), x3, x4, x5, x6, x7, x8, x9, x10.set (Go.IntKind.i64.wrap (x2.tdiv (8 : Int))).toNat (Go.IntKind.u8.wrap (x10.getD (Go.IntKind.i64.wrap (x2.tdiv (8 : Int))).toNat (0 : Int) + Ev.ishr Go.IntKind.u8 (128 : Int) (x2.tmod (8 : Int)))))
          else none
        else none
       else
        c (x0, x1, Go.IntKind.i64.wrap (x2 + (1 : Int)), x3, x4, x5, x6, x7, x8, x9, x10)
      else none
     else
      b (x3, x4, x5, x6, x7, x8, x9, x10)
def L_ref12_Header_2 (fuel : Nat) (v : (List Bool) × Int × Int × Int × Int × Int × (List Int) × (List Bool) × (List Int) × (List Int) × (List Int)) (b : (Int × Int × Int × (List Int) × (List Bool) × (List Int) × (List Int) × (List Int) → Option Ans)) : Option Ans := iter (S_ref12_Header_2 fuel) fuel v b
def J42_2 (fuel : Nat) (i : Nat) : Option Ev.Blk := Ev.look i []
def T42_2 (v : (List Bool) × Int × Int × Int × Int × Int × (List Int) × (List Bool) × (List Int) × (List Int) × (List Int)) : Ev.St := match v with | (x0, x1, x2, x3, x4, x5, x6, x7, x8, x9, x10) => ⟨[(1, .c (.ptr 0 0)), (4, .c (.own 1)), (7, .c (.own 2)), (61, .c (.sl .bool x0)), (62, .c (.int .i64 x1)), (63, .c (.int .i64 x2))], [(0, .cells 63 [.int .i64 x3, .int .i64 x4, .int .i64 x5, .sl (.int .i64) x6, .sl .bool x7, .sl (.int .u8) x8]), (1, .vec 5 (.int .u8) x9 true), (2, .vec 5 (.int .u8) x10 true)], 3, 0⟩
def E42_2 (K : Ev.Ex → Ev.St → Option Ans) : (Int × Int × Int × (List Int) × (List Bool) × (List Int) × (List Int) × (List Int) → Option Ans) := (fun v => match v with | (x0, x1, x2, x3, x4, x5, x6, x7) => K .normal ⟨[(1, .c (.ptr 0 0)), (4, .c (.own 1)), (7, .c (.own 2))], [(0, .cells 63 [.int .i64 x0, .int .i64 x1, .int .i64 x2, .sl (.int .i64) x3, .sl .bool x4, .sl (.int .u8) x5]), (1, .vec 5 (.int .u8) x6 true), (2, .vec 5 (.int .u8) x7 true)], 3, 0⟩)
theorem S42_2_okg (fuel : Nat) (f44 : YF44) (f79 : YF79) (R : Ev.St → Option Ans) (K : Ev.Ex → Ev.St → Option Ans) (x0 : (List Bool)) (x1 : Int) (x2 : Int) (x3 : Int) (x4 : Int) (x5 : Int) (x6 : (List Int)) (x7 : (List Bool)) (x8 : (List Int)) (x9 : (List Int)) (x10 : (List Int)) : evalCode tab (Gg42 f44 f79) (J42_2 fuel) kp42 fuel (bodyOf 2 Try.f42) (T42_2 (x0, x1, x2, x3, x4, x5, x6, x7, x8, x9, x10)) (lc kp42 15 2 R K) = (fun (c : ((List Bool) × Int × Int × Int × Int × Int × (List Int) × (List Bool) × (List Int) × (List Int) × (List Int)) → Option Ans) (B : (Int × Int × Int × (List Int) × (List Bool) × (List Int) × (List Int) × (List Int) → Option Ans)) => match B with
  | b =>
   bif Decidable.decide (x2 < x1) then
      bif Decidable.decide ((0 : Int) ≤ x2 ∧ x2 < (↑x0.length : Int)) then
      bif x0.getD x2.toNat Bool.false then
        bif Decidable.decide ((0 : Int) ≤ Go.IntKind.i64.wrap (x2.tdiv (8 : Int)) ∧ Go.IntKind.i64.wrap (x2.tdiv (8 : Int)) < (↑x10.length : Int)) then
        bif Decidable.decide (x2.tmod (8 : Int) < (0 : Int)) then
          none
         else
          bif Decidable.decide ((0 : Int) ≤ Go.IntKind.i64.wrap (x2.tdiv (8 : Int)) ∧ Go.IntKind.i64.wrap (x2.tdiv (8 : Int)) < (↑x10.length : Int)) then
          c (x0, x1, Go.IntKind.i64.wrap (x2 + (1 : Int)), x3, x4, x5, x6, x7, x8, x9, x10.set (Go.IntKind.i64.wrap (x2.tdiv (8 : Int))).toNat (Go.IntKind.u8.wrap (x10.getD (Go.IntKind.i64.wrap (x2.tdiv (8 : Int))).toNat (0 : Int) + Ev.ishr Go.IntKind.u8 (128 : Int) (x2.tmod (8 : Int)))))
          else none
        else none
       else
        c (x0, x1, Go.IntKind.i64.wrap (x2 + (1 : Int)), x3, x4, x5, x6, x7, x8, x9, x10)
      else none
     else
      b (x3, x4, x5, x6, x7, x8, x9, x10)) (fun v => R (T42_2 v)) (E42_2 K) := by
  kernel_rfl
theorem S42_2_ok (fuel : Nat) (R : Ev.St → Option Ans) (K : Ev.Ex → Ev.St → Option Ans) (x0 : (List Bool)) (x1 : Int) (x2 : Int) (x3 : Int) (x4 : Int) (x5 : Int) (x6 : (List Int)) (x7 : (List Bool)) (x8 : (List Int)) (x9 : (List Int)) (x10 : (List Int)) : evalCode tab (G42 fuel) (J42_2 fuel) kp42 fuel (bodyOf 2 Try.f42) (T42_2 (x0, x1, x2, x3, x4, x5, x6, x7, x8, x9, x10)) (lc kp42 15 2 R K) = S_ref12_Header_2 fuel (x0, x1, x2, x3, x4, x5, x6, x7, x8, x9, x10) (fun v => R (T42_2 v)) (E42_2 K) :=
  S42_2_okg fuel (F_ref12_Valid fuel) (F_ref12_size fuel) R K x0 x1 x2 x3 x4 x5 x6 x7 x8 x9 x10
def B42_2 (fuel : Nat) : Ev.Blk := fun st K => match canonO (kp42 15) st with
  | some s => (match s with
    | ⟨[(q0, .c (.ptr q1 q2)), (q3, .c (.own q4)), (q5, .c (.own q6)), (q7, .c (.sl .bool x0)), (q8, .c (.int .i64 x1)), (q9, .c (.int .i64 x2))], [(q10, .cells q11 [.int .i64 x3, .int .i64 x4, .int .i64 x5, .sl (.int .i64) x6, .sl .bool x7, .sl (.int .u8) x8]), (q12, .vec q13 (.int .u8) x9 true), (q14, .vec q15 (.int .u8) x10 true)], q16, q17⟩ => bif Nat.beq q0 1 && Nat.beq q1 0 && Nat.beq q2 0 && Nat.beq q3 4 && Nat.beq q4 1 && Nat.beq q5 7 && Nat.beq q6 2 && Nat.beq q7 61 && Nat.beq q8 62 && Nat.beq q9 63 && Nat.beq q10 0 && Nat.beq q11 63 && Nat.beq q12 1 && Nat.beq q13 5 && Nat.beq q14 2 && Nat.beq q15 5 && Nat.beq q16 3 && Nat.beq q17 0 then iter (S_ref12_Header_2 fuel) fuel (x0, x1, x2, x3, x4, x5, x6, x7, x8, x9, x10) (E42_2 K) else none
    | _ => none)
  | none => none
theorem B42_2_ok (fuel : Nat) (st : Ev.St) (K : Ev.Ex → Ev.St → Option Ans) (r : Ans) (h : B42_2 fuel st K = some r) : evalCode tab (G42 fuel) (J42_2 fuel) kp42 fuel (.block 2 (.loop (bodyOf 2 Try.f42))) st K = some r := by
  unfold B42_2 at h
  split at h
  · rename_i s hs
    split at h
    · obtain ⟨hb, h⟩ := cond_some' h
      simp only [Bool.and_eq_true, Nat.beq_eq, decide_eq_true_eq] at hb
      obtain ⟨⟨⟨⟨⟨⟨⟨⟨⟨⟨⟨⟨⟨⟨⟨⟨⟨rfl, rfl⟩, rfl⟩, rfl⟩, rfl⟩, rfl⟩, rfl⟩, rfl⟩, rfl⟩, rfl⟩, rfl⟩, rfl⟩, rfl⟩, rfl⟩, rfl⟩, rfl⟩, rfl⟩, rfl⟩ := hb
      exact blk_loop (S := T42_2) (ks := E42_2) (step := S_ref12_Header_2 fuel) (v := (_, _, _, _, _, _, _, _, _, _, _)) (by kernel_rfl) (by kernel_rfl) (fun R K v => by obtain ⟨x0, x1, x2, x3, x4, x5, x6, x7, x8, x9, x10⟩ := v; exact S42_2_ok fuel R K x0 x1 x2 x3 x4 x5 x6 x7 x8 x9 x10) hs h
    · cases h
  · cases h
def S_ref12_Header_0 (fuel : Nat) (v : (List Int) × Int × Int × Int × Int × Int × (List Int) × (List Bool) × (List Int) × (List Int)) (c : ((List Int) × Int × Int × Int × Int × Int × (List Int) × (List Bool) × (List Int) × (List Int)) → Option Ans) (B : (Int × Int × Int × (List Int) × (List Bool) × (List Int) × (List Int) → Option Ans)) : Option Ans := match v, B with
  | (x0, x1, x2, x3, x4, x5, x6, x7, x8, x9), b =>
   bif Decidable.decide (x2 < x1) then
      bif Decidable.decide ((0 : Int) ≤ x2 ∧ x2 < (↑x0.length : Int)) then
      (F_ref12_size fuel (Go.IntKind.i64.wrap (x3 - x0.getD x2.toNat (0 : Int)))
         (fun y4 =>
           bif Decidable.decide ((x9.length + y4.length) * (1 : Nat) ≤ (140737488355328 : Nat) ∧ x9.length + y4.length ≤ (140737488355328 : Nat)) then
           c (x0, x1, Go.IntKind.i64.wrap (x2 + (1 : Int)), x3, x4, x5, x6, x7, x8, x9 ++ y4)
           else none))
      else none
     else
      b (x3, x4, x5, x6, x7, x8, x9)
def L_ref12_Header_0 (fuel : Nat) (v : (List Int) × Int × Int × Int × Int × Int × (List Int) × (List Bool) × (List Int) × (List Int)) (b : (Int × Int × Int × (List Int) × (List Bool) × (List Int) × (List Int) → Option Ans)) : Option Ans := iter (S_ref12_Header_0 fuel) fuel v b
def J42_0 (fuel : Nat) (i : Nat) : Option Ev.Blk := Ev.look i [(100002, B42_2 fuel)]
def T42_0 (v : (List Int) × Int × Int × Int × Int × Int × (List Int) × (List Bool) × (List Int) × (List Int)) : Ev.St := match v with | (x0, x1, x2, x3, x4, x5, x6, x7, x8, x9) => ⟨[(1, .c (.ptr 0 0)), (4, .c (.own 1)), (40, .c (.sl (.int .i64) x0)), (41, .c (.int .i64 x1)), (42, .c (.int .i64 x2))], [(0, .cells 63 [.int .i64 x3, .int .i64 x4, .int .i64 x5, .sl (.int .i64) x6, .sl .bool x7, .sl (.int .u8) x8]), (1, .vec 5 (.int .u8) x9 true)], 2, 0⟩
def E42_0 (K : Ev.Ex → Ev.St → Option Ans) : (Int × Int × Int × (List Int) × (List Bool) × (List Int) × (List Int) → Option Ans) := (fun v => match v with | (x0, x1, x2, x3, x4, x5, x6) => K .normal ⟨[(1, .c (.ptr 0 0)), (4, .c (.own 1))], [(0, .cells 63 [.int .i64 x0, .int .i64 x1, .int .i64 x2, .sl (.int .i64) x3, .sl .bool x4, .sl (.int .u8) x5]), (1, .vec 5 (.int .u8) x6 true)], 2, 0⟩)
theorem S42_0_okg (fuel : Nat) (f44 : YF44) (f79 : YF79) (R : Ev.St → Option Ans) (K : Ev.Ex → Ev.St → Option Ans) (x0 : (List Int)) (x1 : Int) (x2 : Int) (x3 : Int) (x4 : Int) (x5 : Int) (x6 : (List Int)) (x7 : (List Bool)) (x8 : (List Int)) (x9 : (List Int)) : evalCode tab (Gg42 f44 f79) (J42_0 fuel) kp42 fuel (bodyOf 0 Try.f42) (T42_0 (x0, x1, x2, x3, x4, x5, x6, x7, x8, x9)) (lc kp42 9 0 R K) = (fun (c : ((List Int) × Int × Int × Int × Int × Int × (List Int) × (List Bool) × (List Int) × (List Int)) → Option Ans) (B : (Int × Int × Int × (List Int) × (List Bool) × (List Int) × (List Int) → Option Ans)) => match B with
  | b =>
   bif Decidable.decide (x2 < x1) then
      bif Decidable.decide ((0 : Int) ≤ x2 ∧ x2 < (↑x0.length : Int)) then
      (f79 (Go.IntKind.i64.wrap (x3 - x0.getD x2.toNat (0 : Int)))
         (fun y4 =>
           bif Decidable.decide ((x9.length + y4.length) * (1 : Nat) ≤ (140737488355328 : Nat) ∧ x9.length + y4.length ≤ (140737488355328 : Nat)) then
           c (x0, x1, Go.IntKind.i64.wrap (x2 + (1 : Int)), x3, x4, x5, x6, x7, x8, x9 ++ y4)
           else none))
      else none
     else
      b (x3, x4, x5, x6, x7, x8, x9)) (fun v => R (T42_0 v)) (E42_0 K) := by
  kernel_rfl
theorem S42_0_ok (fuel : Nat) (R : Ev.St → Option Ans) (K : Ev.Ex → Ev.St → Option Ans) (x0 : (List Int)) (x1 : Int) (x2 : Int) (x3 : Int) (x4 : Int) (x5 : Int) (x6 : (List Int)) (x7 : (List Bool)) (x8 : (List Int)) (x9 : (List Int)) : evalCode tab (G42 fuel) (J42_0 fuel) kp42 fuel (bodyOf 0 Try.f42) (T42_0 (x0, x1, x2, x3, x4, x5, x6, x7, x8, x9)) (lc kp42 9 0 R K) = S_ref12_Header_0 fuel (x0, x1, x2, x3, x4, x5, x6, x7, x8, x9) (fun v => R (T42_0 v)) (E42_0 K) :=
  S42_0_okg fuel (F_ref12_Valid fuel) (F_ref12_size fuel) R K x0 x1 x2 x3 x4 x5 x6 x7 x8 x9
def B42_0 (fuel : Nat) : Ev.Blk := fun st K => match canonO (kp42 9) st with
  | some s => (match s with
    | ⟨[(q0, .c (.ptr q1 q2)), (q3, .c (.own q4)), (q5, .c (.sl (.int .i64) x0)), (q6, .c (.int .i64 x1)), (q7, .c (.int .i64 x2))], [(q8, .cells q9 [.int .i64 x3, .int .i64 x4, .int .i64 x5, .sl (.int .i64) x6, .sl .bool x7, .sl (.int .u8) x8]), (q10, .vec q11 (.int .u8) x9 true)], q12, q13⟩ => bif Nat.beq q0 1 && Nat.beq q1 0 && Nat.beq q2 0 && Nat.beq q3 4 && Nat.beq q4 1 && Nat.beq q5 40 && Nat.beq q6 41 && Nat.beq q7 42 && Nat.beq q8 0 && Nat.beq q9 63 && Nat.beq q10 1 && Nat.beq q11 5 && Nat.beq q12 2 && Nat.beq q13 0 then iter (S_ref12_Header_0 fuel) fuel (x0, x1, x2, x3, x4, x5, x6, x7, x8, x9) (E42_0 K) else none
    | _ => none)
  | none => none
theorem B42_0_ok (fuel : Nat) (st : Ev.St) (K : Ev.Ex → Ev.St → Option Ans) (r : Ans) (h : B42_0 fuel st K = some r) : evalCode tab (G42 fuel) (J42_0 fuel) kp42 fuel (.block 0 (.loop (bodyOf 0 Try.f42))) st K = some r := by
  unfold B42_0 at h
  split at h
  · rename_i s hs
    split at h
    · obtain ⟨hb, h⟩ := cond_some' h
      simp only [Bool.and_eq_true, Nat.beq_eq, decide_eq_true_eq] at hb
      obtain ⟨⟨⟨⟨⟨⟨⟨⟨⟨⟨⟨⟨⟨rfl, rfl⟩, rfl⟩, rfl⟩, rfl⟩, rfl⟩, rfl⟩, rfl⟩, rfl⟩, rfl⟩, rfl⟩, rfl⟩, rfl⟩, rfl⟩ := hb
      exact blk_loop (S := T42_0) (ks := E42_0) (step := S_ref12_Header_0 fuel) (v := (_, _, _, _, _, _, _, _, _, _)) (by kernel_rfl) (by kernel_rfl) (fun R K v => by obtain ⟨x0, x1, x2, x3, x4, x5, x6, x7, x8, x9⟩ := v; exact S42_0_ok fuel R K x0 x1 x2 x3 x4 x5 x6 x7 x8 x9) hs h
    · cases h
  · cases h
def J42 (fuel : Nat) (i : Nat) : Option Ev.Blk := Ev.look i [(100002, B42_2 fuel), (100000, B42_0 fuel)]
def F_ref12_Header (fuel : Nat) (x0 : Int) (x1 : Int) (x2 : Int) (x3 : (List Int)) (x4 : (List Bool)) (x5 : (List Int)) (k0 : (Int × (List Int)) → Option Ans) : Option Ans :=
  (F_ref12_Valid fuel (x0) (x1) (x2) (x3) (x4) (x5)
    (fun y2 =>
      bif !y2 then
       k0 ((2 : Int), [])
      else
       (F_ref12_size fuel (x0)
         (fun y7 =>
           bif (↑x3.length : Int) == (0 : Int) then
            bif Decidable.decide ((y7.length + [Go.IntKind.u8.wrap x1].length) * (1 : Nat) ≤ (140737488355328 : Nat) ∧ y7.length + [Go.IntKind.u8.wrap x1].length ≤ (140737488355328 : Nat)) then
            bif Decidable.decide ((0 : Int) ≤ Go.IntKind.i64.wrap ((Go.IntKind.i64.wrap ((↑x4.length : Int) + (7 : Int))).tdiv (8 : Int)) ∧ Go.IntKind.i64.wrap ((Go.IntKind.i64.wrap ((↑x4.length : Int) + (7 : Int))).tdiv (8 : Int)) = Go.IntKind.i64.wrap ((Go.IntKind.i64.wrap ((↑x4.length : Int) + (7 : Int))).tdiv (8 : Int)) ∧ (↑(1 : Nat) : Int) * Go.IntKind.i64.wrap ((Go.IntKind.i64.wrap ((↑x4.length : Int) + (7 : Int))).tdiv (8 : Int)) ≤ (281474976710656 : Int) ∧ Go.IntKind.i64.wrap ((Go.IntKind.i64.wrap ((↑x4.length : Int) + (7 : Int))).tdiv (8 : Int)) ≤ (281474976710656 : Int)) then
             (L_ref12_Header_2 fuel (x4, (↑x4.length : Int), (0 : Int), x0, x1, x2, x3, x4, x5, y7 ++ [Go.IntKind.u8.wrap x1], List.replicate (Go.IntKind.i64.wrap ((Go.IntKind.i64.wrap ((↑x4.length : Int) + (7 : Int))).tdiv (8 : Int))).toNat (0 : Int))
                (fun (b2_0, b2_1, b2_2, b2_3, b2_4, b2_5, b2_6, b2_7) =>
                  bif Decidable.decide ((b2_6.length + b2_7.length) * (1 : Nat) ≤ (140737488355328 : Nat) ∧ b2_6.length + b2_7.length ≤ (140737488355328 : Nat)) then
                  (F_ref12_size fuel (b2_2)
                     (fun y19 =>
                       bif Decidable.decide (((b2_6 ++ b2_7).length + y19.length) * (1 : Nat) ≤ (140737488355328 : Nat) ∧ (b2_6 ++ b2_7).length + y19.length ≤ (140737488355328 : Nat)) then
                       (F_ref12_size fuel ((↑b2_5.length : Int))
                          (fun y24 =>
                            bif Decidable.decide (((b2_6 ++ b2_7 ++ y19).length + y24.length) * (1 : Nat) ≤ (140737488355328 : Nat) ∧ (b2_6 ++ b2_7 ++ y19).length + y24.length ≤ (140737488355328 : Nat)) then
                            k0 ((0 : Int), b2_6 ++ b2_7 ++ y19 ++ y24)
                            else none))
                       else none))
                  else none))
             else none
            else none
           else
            bif Decidable.decide ((y7.length + [Go.IntKind.u8.wrap (Go.IntKind.i64.wrap (x1 + (16 : Int)))].length) * (1 : Nat) ≤ (140737488355328 : Nat) ∧ y7.length + [Go.IntKind.u8.wrap (Go.IntKind.i64.wrap (x1 + (16 : Int)))].length ≤ (140737488355328 : Nat)) then
            (F_ref12_size fuel ((↑x3.length : Int))
               (fun y13 =>
                 bif Decidable.decide (((y7 ++ [Go.IntKind.u8.wrap (Go.IntKind.i64.wrap (x1 + (16 : Int)))]).length + y13.length) * (1 : Nat) ≤ (140737488355328 : Nat) ∧ (y7 ++ [Go.IntKind.u8.wrap (Go.IntKind.i64.wrap (x1 + (16 : Int)))]).length + y13.length ≤ (140737488355328 : Nat)) then
                 (L_ref12_Header_0 fuel (x3, (↑x3.length : Int), (0 : Int), x0, x1, x2, x3, x4, x5, y7 ++ [Go.IntKind.u8.wrap (Go.IntKind.i64.wrap (x1 + (16 : Int)))] ++ y13)
                    (fun (b0_0, b0_1, b0_2, b0_3, b0_4, b0_5, b0_6) =>
                      bif Decidable.decide ((0 : Int) ≤ Go.IntKind.i64.wrap ((Go.IntKind.i64.wrap ((↑b0_4.length : Int) + (7 : Int))).tdiv (8 : Int)) ∧ Go.IntKind.i64.wrap ((Go.IntKind.i64.wrap ((↑b0_4.length : Int) + (7 : Int))).tdiv (8 : Int)) = Go.IntKind.i64.wrap ((Go.IntKind.i64.wrap ((↑b0_4.length : Int) + (7 : Int))).tdiv (8 : Int)) ∧ (↑(1 : Nat) : Int) * Go.IntKind.i64.wrap ((Go.IntKind.i64.wrap ((↑b0_4.length : Int) + (7 : Int))).tdiv (8 : Int)) ≤ (281474976710656 : Int) ∧ Go.IntKind.i64.wrap ((Go.IntKind.i64.wrap ((↑b0_4.length : Int) + (7 : Int))).tdiv (8 : Int)) ≤ (281474976710656 : Int)) then
                      (L_ref12_Header_2 fuel (b0_4, (↑b0_4.length : Int), (0 : Int), b0_0, b0_1, b0_2, b0_3, b0_4, b0_5, b0_6, List.replicate (Go.IntKind.i64.wrap ((Go.IntKind.i64.wrap ((↑b0_4.length : Int) + (7 : Int))).tdiv (8 : Int))).toNat (0 : Int))
                         (fun (b2_0, b2_1, b2_2, b2_3, b2_4, b2_5, b2_6, b2_7) =>
                           bif Decidable.decide ((b2_6.length + b2_7.length) * (1 : Nat) ≤ (140737488355328 : Nat) ∧ b2_6.length + b2_7.length ≤ (140737488355328 : Nat)) then
                           (F_ref12_size fuel (b2_2)
                              (fun y28 =>
                                bif Decidable.decide (((b2_6 ++ b2_7).length + y28.length) * (1 : Nat) ≤ (140737488355328 : Nat) ∧ (b2_6 ++ b2_7).length + y28.length ≤ (140737488355328 : Nat)) then
                                (F_ref12_size fuel ((↑b2_5.length : Int))
                                   (fun y33 =>
                                     bif Decidable.decide (((b2_6 ++ b2_7 ++ y28).length + y33.length) * (1 : Nat) ≤ (140737488355328 : Nat) ∧ (b2_6 ++ b2_7 ++ y28).length + y33.length ≤ (140737488355328 : Nat)) then
                                     k0 ((0 : Int), b2_6 ++ b2_7 ++ y28 ++ y33)
                                     else none))
                                else none))
                           else none))
                      else none))
                 else none))
            else none))))
abbrev YF42 : Type := (Int) → (Int) → (Int) → ((List Int)) → ((List Bool)) → ((List Int)) → ((Int × (List Int)) → Option Ans) → Option Ans
theorem F42_eqg (fuel : Nat) (f44 : YF44) (f79 : YF79) (x0 : Int) (x1 : Int) (x2 : Int) (x3 : (List Int)) (x4 : (List Bool)) (x5 : (List Int)) (k : Ev.Cont) : evalFn tab (Gg42 f44 f79) (J42 fuel) kp42 fuel Try.f42 [.agg [.int .i64 x0, .int .i64 x1, .int .i64 x2, .sl (.int .i64) x3, .sl .bool x4, .sl (.int .u8) x5]] [] k = (fun  (k0 : (Int × (List Int)) → Option Ans) =>
  (f44 (x0) (x1) (x2) (x3) (x4) (x5)
    (fun y2 =>
      bif !y2 then
       k0 ((2 : Int), [])
      else
       (f79 (x0)
         (fun y7 =>
           bif (↑x3.length : Int) == (0 : Int) then
            bif Decidable.decide ((y7.length + [Go.IntKind.u8.wrap x1].length) * (1 : Nat) ≤ (140737488355328 : Nat) ∧ y7.length + [Go.IntKind.u8.wrap x1].length ≤ (140737488355328 : Nat)) then
            bif Decidable.decide ((0 : Int) ≤ Go.IntKind.i64.wrap ((Go.IntKind.i64.wrap ((↑x4.length : Int) + (7 : Int))).tdiv (8 : Int)) ∧ Go.IntKind.i64.wrap ((Go.IntKind.i64.wrap ((↑x4.length : Int) + (7 : Int))).tdiv (8 : Int)) = Go.IntKind.i64.wrap ((Go.IntKind.i64.wrap ((↑x4.length : Int) + (7 : Int))).tdiv (8 : Int)) ∧ (↑(1 : Nat) : Int) * Go.IntKind.i64.wrap ((Go.IntKind.i64.wrap ((↑x4.length : Int) + (7 : Int))).tdiv (8 : Int)) ≤ (281474976710656 : Int) ∧ Go.IntKind.i64.wrap ((Go.IntKind.i64.wrap ((↑x4.length : Int) + (7 : Int))).tdiv (8 : Int)) ≤ (281474976710656 : Int)) then
             (L_ref12_Header_2 fuel (x4, (↑x4.length : Int), (0 : Int), x0, x1, x2, x3, x4, x5, y7 ++ [Go.IntKind.u8.wrap x1], List.replicate (Go.IntKind.i64.wrap ((Go.IntKind.i64.wrap ((↑x4.length : Int) + (7 : Int))).tdiv (8 : Int))).toNat (0 : Int))
                (fun (b2_0, b2_1, b2_2, b2_3, b2_4, b2_5, b2_6, b2_7) =>
                  bif Decidable.decide ((b2_6.length + b2_7.length) * (1 : Nat) ≤ (140737488355328 : Nat) ∧ b2_6.length + b2_7.length ≤ (140737488355328 : Nat)) then
                  (f79 (b2_2)
                     (fun y19 =>
                       bif Decidable.decide (((b2_6 ++ b2_7).length + y19.length) * (1 : Nat) ≤ (140737488355328 : Nat) ∧ (b2_6 ++ b2_7).length + y19.length ≤ (140737488355328 : Nat)) then
                       (f79 ((↑b2_5.length : Int))
                          (fun y24 =>
                            bif Decidable.decide (((b2_6 ++ b2_7 ++ y19).length + y24.length) * (1 : Nat) ≤ (140737488355328 : Nat) ∧ (b2_6 ++ b2_7 ++ y19).length + y24.length ≤ (140737488355328 : Nat)) then
                            k0 ((0 : Int), b2_6 ++ b2_7 ++ y19 ++ y24)
                            else none))
                       else none))
                  else none))
             else none
            else none
           else
            bif Decidable.decide ((y7.length + [Go.IntKind.u8.wrap (Go.IntKind.i64.wrap (x1 + (16 : Int)))].length) * (1 : Nat) ≤ (140737488355328 : Nat) ∧ y7.length + [Go.IntKind.u8.wrap (Go.IntKind.i64.wrap (x1 + (16 : Int)))].length ≤ (140737488355328 : Nat)) then
            (f79 ((↑x3.length : Int))
               (fun y13 =>
                 bif Decidable.decide (((y7 ++ [Go.IntKind.u8.wrap (Go.IntKind.i64.wrap (x1 + (16 : Int)))]).length + y13.length) * (1 : Nat) ≤ (140737488355328 : Nat) ∧ (y7 ++ [Go.IntKind.u8.wrap (Go.IntKind.i64.wrap (x1 + (16 : Int)))]).length + y13.length ≤ (140737488355328 : Nat)) then
                 (L_ref12_Header_0 fuel (x3, (↑x3.length : Int), (0 : Int), x0, x1, x2, x3, x4, x5, y7 ++ [Go.IntKind.u8.wrap (Go.IntKind.i64.wrap (x1 + (16 : Int)))] ++ y13)
                    (fun (b0_0, b0_1, b0_2, b0_3, b0_4, b0_5, b0_6) =>
                      bif Decidable.decide ((0 : Int) ≤ Go.IntKind.i64.wrap ((Go.IntKind.i64.wrap ((↑b0_4.length : Int) + (7 : Int))).tdiv (8 : Int)) ∧ Go.IntKind.i64.wrap ((Go.IntKind.i64.wrap ((↑b0_4.length : Int) + (7 : Int))).tdiv (8 : Int)) = Go.IntKind.i64.wrap ((Go.IntKind.i64.wrap ((↑b0_4.length : Int) + (7 : Int))).tdiv (8 : Int)) ∧ (↑(1 : Nat) : Int) * Go.IntKind.i64.wrap ((Go.IntKind.i64.wrap ((↑b0_4.length : Int) + (7 : Int))).tdiv (8 : Int)) ≤ (281474976710656 : Int) ∧ Go.IntKind.i64.wrap ((Go.IntKind.i64.wrap ((↑b0_4.length : Int) + (7 : Int))).tdiv (8 : Int)) ≤ (281474976710656 : Int)) then
                      (L_ref12_Header_2 fuel (b0_4, (↑b0_4.length : Int), (0 : Int), b0_0, b0_1, b0_2, b0_3, b0_4, b0_5, b0_6, List.replicate (Go.IntKind.i64.wrap ((Go.IntKind.i64.wrap ((↑b0_4.length : Int) + (7 : Int))).tdiv (8 : Int))).toNat (0 : Int))
                         (fun (b2_0, b2_1, b2_2, b2_3, b2_4, b2_5, b2_6, b2_7) =>
                           bif Decidable.decide ((b2_6.length + b2_7.length) * (1 : Nat) ≤ (140737488355328 : Nat) ∧ b2_6.length + b2_7.length ≤ (140737488355328 : Nat)) then
                           (f79 (b2_2)
                              (fun y28 =>
                                bif Decidable.decide (((b2_6 ++ b2_7).length + y28.length) * (1 : Nat) ≤ (140737488355328 : Nat) ∧ (b2_6 ++ b2_7).length + y28.length ≤ (140737488355328 : Nat)) then
                                (f79 ((↑b2_5.length : Int))
                                   (fun y33 =>
                                     bif Decidable.decide (((b2_6 ++ b2_7 ++ y28).length + y33.length) * (1 : Nat) ≤ (140737488355328 : Nat) ∧ (b2_6 ++ b2_7 ++ y28).length + y33.length ≤ (140737488355328 : Nat)) then
                                     k0 ((0 : Int), b2_6 ++ b2_7 ++ y28 ++ y33)
                                     else none))
                                else none))
                           else none))
                      else none))
                 else none))
            else none))))) (fun r => match r with | (r0, r1) => k (.tup [(false, [.own 0]), (false, [.int .i64 r0])], [.vec 5 (.int .u8) r1 true])) := by
  kernel_rfl
theorem F42_eq (fuel : Nat) (x0 : Int) (x1 : Int) (x2 : Int) (x3 : (List Int)) (x4 : (List Bool)) (x5 : (List Int)) (k : Ev.Cont) : evalFn tab (G42 fuel) (J42 fuel) kp42 fuel Try.f42 [.agg [.int .i64 x0, .int .i64 x1, .int .i64 x2, .sl (.int .i64) x3, .sl .bool x4, .sl (.int .u8) x5]] [] k = F_ref12_Header fuel x0 x1 x2 x3 x4 x5 (fun r => match r with | (r0, r1) => k (.tup [(false, [.own 0]), (false, [.int .i64 r0])], [.vec 5 (.int .u8) r1 true])) :=
  F42_eqg fuel (F_ref12_Valid fuel) (F_ref12_size fuel) x0 x1 x2 x3 x4 x5 k
theorem hG42 (fuel : Nat) : GOK Try.prog (G42 fuel) :=
  gok_cons ⟨ok44 fuel, enters_of Try.func44 (by kernel_rfl) rfl⟩ <|
  gok_cons ⟨ok79 fuel, enters_of Try.func79 (by kernel_rfl) rfl⟩ <|
  gok_nil
theorem B42_2_blk (fuel : Nat) : BlkOK Try.prog Try.f42.ntmps (.block 2 (.loop (bodyOf 2 Try.f42))) (B42_2 fuel) :=
  blk_of (blk_of_code tab_ok (hG42 fuel) mixed (J := J42_2 fuel) (kp := kp42) (fuel := fuel) (by kernel_rfl) (fun q hq => by
    rw [(by kernel_rfl : obl (J42_2 fuel) (.block 2 (.loop (bodyOf 2 Try.f42))) = [])] at hq
    cases hq)) (B42_2_ok fuel)
theorem B42_0_blk (fuel : Nat) : BlkOK Try.prog Try.f42.ntmps (.block 0 (.loop (bodyOf 0 Try.f42))) (B42_0 fuel) :=
  blk_of (blk_of_code tab_ok (hG42 fuel) mixed (J := J42_0 fuel) (kp := kp42) (fuel := fuel) (by kernel_rfl) (fun q hq => by
    rw [(by kernel_rfl : obl (J42_0 fuel) (.block 0 (.loop (bodyOf 0 Try.f42))) = [])] at hq
    cases hq)) (B42_0_ok fuel)
theorem fok42 (fuel : Nat) : FnOK Try.prog 42 (evalFn tab (G42 fuel) (J42 fuel) kp42 fuel Try.f42) :=
  fn_ok tab_ok (hG42 fuel) mixed Try.func42 (c := (Try.f42.body).getD .skip) rfl (fun q hq => by
    rw [(by kernel_rfl : obl (J42 fuel) ((Try.f42.body).getD .skip) = [(.block 0 (.loop (bodyOf 0 Try.f42)), B42_0 fuel), (.block 2 (.loop (bodyOf 2 Try.f42)), B42_2 fuel)])] at hq
    simp only [List.mem_cons, List.not_mem_nil, or_false] at hq
    rcases hq with rfl | rfl
    · exact B42_0_blk fuel
    · exact B42_2_blk fuel)
def mt42 : List Ev.SV → List Ev.Ob → Bool := fun args objs => match args, objs with
  | [.agg [.int .i64 _, .int .i64 _, .int .i64 _, .sl (.int .i64) _, .sl .bool _, .sl (.int .u8) _]], [] => true
  | _, _ => false
def spg42 (F : YF42) : Ev.Spec := fun args objs k => match args, objs with
  | [.agg [.int .i64 x0, .int .i64 x1, .int .i64 x2, .sl (.int .i64) x3, .sl .bool x4, .sl (.int .u8) x5]], [] => bif true then F x0 x1 x2 x3 x4 x5 (fun r => match r with | (r0, r1) => k (.tup [(false, [.own 0]), (false, [.int .i64 r0])], [.vec 5 (.int .u8) r1 true])) else none
  | _, _ => none
def spec42 (fuel : Nat) : Ev.Spec := spg42 (F_ref12_Header fuel)
theorem ok42 (fuel : Nat) : FnOK Try.prog 42 (spec42 fuel) := by
  intro args objs kk r h
  unfold spec42 spg42 at h
  split at h
  · obtain ⟨hb, h⟩ := cond_some' h
    simp only [Bool.and_eq_true, Nat.beq_eq, decide_eq_true_eq] at hb
    clear hb
    exact fok42 fuel _ _ kk r ((F42_eq fuel _ _ _ _ _ _ kk).trans h)
  · cases h
end Go.Proofs.Ytajidgilfkineaa

set_option linter.unusedVariables false
set_option linter.unusedSimpArgs false
set_option maxRecDepth 100000
namespace Go.Proofs.Ytajidgilfkineaa
open Go Ev
def kp82 (i : Nat) : Option (List Nat) := Ev.look i []
def Gg82 (f : Nat) : Option Ev.Spec := Ev.look f []
def G82 (fuel : Nat) : Nat → Option Ev.Spec := Gg82
def J82 (fuel : Nat) (i : Nat) : Option Ev.Blk := Ev.look i []
def F_bytes_Equal (fuel : Nat) (x0 : (List Int)) (x1 : (List Int)) (k0 : (Bool) → Option Ans) : Option Ans :=
  k0 ((Go.strOfNums x0).toList == (Go.strOfNums x1).toList)
abbrev YF82 : Type := ((List Int)) → ((List Int)) → ((Bool) → Option Ans) → Option Ans
theorem F82_eq (fuel : Nat) (x0 : (List Int)) (x1 : (List Int)) (k : Ev.Cont) : evalFn tab (G82 fuel) (J82 fuel) kp82 fuel Try.f82 [.c (.sl (.int .u8) x0), .c (.sl (.int .u8) x1)] [] k = F_bytes_Equal fuel x0 x1 (fun r => match r with | r0 => k (.c (.bool r0), [])) := by
  kernel_rfl
theorem hG82 (fuel : Nat) : GOK Try.prog (G82 fuel) :=
  gok_nil
theorem fok82 (fuel : Nat) : FnOK Try.prog 82 (evalFn tab (G82 fuel) (J82 fuel) kp82 fuel Try.f82) :=
  fn_ok tab_ok (hG82 fuel) mixed Try.func82 (c := (Try.f82.body).getD .skip) rfl (fun q hq => by
    rw [(by kernel_rfl : obl (J82 fuel) ((Try.f82.body).getD .skip) = [])] at hq
    cases hq)
def mt82 : List Ev.SV → List Ev.Ob → Bool := fun args objs => match args, objs with
  | [.c (.sl (.int .u8) _), .c (.sl (.int .u8) _)], [] => true
  | _, _ => false
def spg82 (F : YF82) : Ev.Spec := fun args objs k => match args, objs with
  | [.c (.sl (.int .u8) x0), .c (.sl (.int .u8) x1)], [] => bif true then F x0 x1 (fun r => match r with | r0 => k (.c (.bool r0), [])) else none
  | _, _ => none
def spec82 (fuel : Nat) : Ev.Spec := spg82 (F_bytes_Equal fuel)
theorem ok82 (fuel : Nat) : FnOK Try.prog 82 (spec82 fuel) := by
  intro args objs kk r h
  unfold spec82 spg82 at h
  split at h
  · obtain ⟨hb, h⟩ := cond_some' h
    simp only [Bool.and_eq_true, Nat.beq_eq, decide_eq_true_eq] at hb
    clear hb
    exact fok82 fuel _ _ kk r ((F82_eq fuel _ _ kk).trans h)
  · cases h
end Go.Proofs.Ytajidgilfkineaa

set_option linter.unusedVariables false
set_option linter.unusedSimpArgs false
set_option maxRecDepth 100000
namespace Go.Proofs.Ytajidgilfkineaa
open Go Ev
def kp81 (i : Nat) : Option (List Nat) := Ev.look i [(4, [0, 1, 12, 13]), (100000, []), (400000, [4])]
def Gg81 (f : Nat) : Option Ev.Spec := Ev.look f []
def G81 (fuel : Nat) : Nat → Option Ev.Spec := Gg81
def S_slices_Equal_bool_bool_0 (fuel : Nat) (v : (List Bool) × (List Bool) × Int × Int) (c : ((List Bool) × (List Bool) × Int × Int) → Option Ans) (B : (Bool → Option Ans) × (Unit → Option Ans)) : Option Ans := match v, B with
  | (x0, x1, x2, x3), (ret, b) =>
   bif Decidable.decide (x3 < x2) then
      bif Decidable.decide ((0 : Int) ≤ x3 ∧ x3 < (↑x0.length : Int)) then
      bif Decidable.decide ((0 : Int) ≤ x3 ∧ x3 < (↑x1.length : Int)) then
       bif !x0.getD x3.toNat Bool.false == x1.getD x3.toNat Bool.false then
         ret Bool.false
        else
         c (x0, x1, x2, Go.IntKind.i64.wrap (x3 + (1 : Int)))
       else none
      else none
     else
      b ()
def L_slices_Equal_bool_bool_0 (fuel : Nat) (v : (List Bool) × (List Bool) × Int × Int) (ret : (Bool → Option Ans)) (b : (Unit → Option Ans)) : Option Ans := iter (S_slices_Equal_bool_bool_0 fuel) fuel v (ret, b)
def J81_0 (fuel : Nat) (i : Nat) : Option Ev.Blk := Ev.look i []
def T81_0 (v : (List Bool) × (List Bool) × Int × Int) : Ev.St := match v with | (x0, x1, x2, x3) => ⟨[(0, .c (.sl .bool x0)), (1, .c (.sl .bool x1)), (12, .c (.int .i64 x2)), (13, .c (.int .i64 x3))], [], 0, 0⟩
def E81_0 (K : Ev.Ex → Ev.St → Option Ans) : (Bool → Option Ans) × (Unit → Option Ans) := ((fun v => match v with | x0 => K .ret ⟨[(4, .c (.bool x0))], [], 0, 0⟩), (fun v => match v with | () => K .normal ⟨[], [], 0, 0⟩))
theorem S81_0_ok (fuel : Nat) (R : Ev.St → Option Ans) (K : Ev.Ex → Ev.St → Option Ans) (x0 : (List Bool)) (x1 : (List Bool)) (x2 : Int) (x3 : Int) : evalCode tab (G81 fuel) (J81_0 fuel) kp81 fuel (bodyOf 0 Try.f81) (T81_0 (x0, x1, x2, x3)) (lc kp81 4 0 R K) = S_slices_Equal_bool_bool_0 fuel (x0, x1, x2, x3) (fun v => R (T81_0 v)) (E81_0 K) := by
  kernel_rfl
def B81_0 (fuel : Nat) : Ev.Blk := fun st K => match canonO (kp81 4) st with
  | some s => (match s with
    | ⟨[(q0, .c (.sl .bool x0)), (q1, .c (.sl .bool x1)), (q2, .c (.int .i64 x2)), (q3, .c (.int .i64 x3))], [], q4, q5⟩ => bif Nat.beq q0 0 && Nat.beq q1 1 && Nat.beq q2 12 && Nat.beq q3 13 && Nat.beq q4 0 && Nat.beq q5 0 then iter (S_slices_Equal_bool_bool_0 fuel) fuel (x0, x1, x2, x3) (E81_0 K) else none
    | _ => none)
  | none => none
theorem B81_0_ok (fuel : Nat) (st : Ev.St) (K : Ev.Ex → Ev.St → Option Ans) (r : Ans) (h : B81_0 fuel st K = some r) : evalCode tab (G81 fuel) (J81_0 fuel) kp81 fuel (.block 0 (.loop (bodyOf 0 Try.f81))) st K = some r := by
  unfold B81_0 at h
  split at h
  · rename_i s hs
    split at h
    · obtain ⟨hb, h⟩ := cond_some' h
      simp only [Bool.and_eq_true, Nat.beq_eq, decide_eq_true_eq] at hb
      obtain ⟨⟨⟨⟨⟨rfl, rfl⟩, rfl⟩, rfl⟩, rfl⟩, rfl⟩ := hb
      exact blk_loop (S := T81_0) (ks := E81_0) (step := S_slices_Equal_bool_bool_0 fuel) (v := (_, _, _, _)) (by kernel_rfl) (by kernel_rfl) (fun R K v => by obtain ⟨x0, x1, x2, x3⟩ := v; exact S81_0_ok fuel R K x0 x1 x2 x3) hs h
    · cases h
  · cases h
def J81 (fuel : Nat) (i : Nat) : Option Ev.Blk := Ev.look i [(100000, B81_0 fuel)]
def F_slices_Equal_bool_bool (fuel : Nat) (x0 : (List Bool)) (x1 : (List Bool)) (k0 : (Bool) → Option Ans) : Option Ans :=
  bif (↑x0.length : Int) != (↑x1.length : Int) then
   k0 Bool.false
  else
   (L_slices_Equal_bool_bool_0 fuel (x0, x1, (↑x0.length : Int), (0 : Int))
     (fun ret0_0 =>
       k0 ret0_0)
     (fun () =>
       k0 Bool.true))
abbrev YF81 : Type := ((List Bool)) → ((List Bool)) → ((Bool) → Option Ans) → Option Ans
theorem F81_eq (fuel : Nat) (x0 : (List Bool)) (x1 : (List Bool)) (k : Ev.Cont) : evalFn tab (G81 fuel) (J81 fuel) kp81 fuel Try.f81 [.c (.sl .bool x0), .c (.sl .bool x1)] [] k = F_slices_Equal_bool_bool fuel x0 x1 (fun r => match r with | r0 => k (.c (.bool r0), [])) := by
  kernel_rfl
theorem hG81 (fuel : Nat) : GOK Try.prog (G81 fuel) :=
  gok_nil
theorem B81_0_blk (fuel : Nat) : BlkOK Try.prog Try.f81.ntmps (.block 0 (.loop (bodyOf 0 Try.f81))) (B81_0 fuel) :=
  blk_of (blk_of_code tab_ok (hG81 fuel) mixed (J := J81_0 fuel) (kp := kp81) (fuel := fuel) (by kernel_rfl) (fun q hq => by
    rw [(by kernel_rfl : obl (J81_0 fuel) (.block 0 (.loop (bodyOf 0 Try.f81))) = [])] at hq
    cases hq)) (B81_0_ok fuel)
theorem fok81 (fuel : Nat) : FnOK Try.prog 81 (evalFn tab (G81 fuel) (J81 fuel) kp81 fuel Try.f81) :=
  fn_ok tab_ok (hG81 fuel) mixed Try.func81 (c := (Try.f81.body).getD .skip) rfl (fun q hq => by
    rw [(by kernel_rfl : obl (J81 fuel) ((Try.f81.body).getD .skip) = [(.block 0 (.loop (bodyOf 0 Try.f81)), B81_0 fuel)])] at hq
    simp only [List.mem_cons, List.not_mem_nil, or_false] at hq
    subst hq
    · exact B81_0_blk fuel)
def mt81 : List Ev.SV → List Ev.Ob → Bool := fun args objs => match args, objs with
  | [.c (.sl .bool _), .c (.sl .bool _)], [] => true
  | _, _ => false
def spg81 (F : YF81) : Ev.Spec := fun args objs k => match args, objs with
  | [.c (.sl .bool x0), .c (.sl .bool x1)], [] => bif true then F x0 x1 (fun r => match r with | r0 => k (.c (.bool r0), [])) else none
  | _, _ => none
def spec81 (fuel : Nat) : Ev.Spec := spg81 (F_slices_Equal_bool_bool fuel)
theorem ok81 (fuel : Nat) : FnOK Try.prog 81 (spec81 fuel) := by
  intro args objs kk r h
  unfold spec81 spg81 at h
  split at h
  · obtain ⟨hb, h⟩ := cond_some' h
    simp only [Bool.and_eq_true, Nat.beq_eq, decide_eq_true_eq] at hb
    clear hb
    exact fok81 fuel _ _ kk r ((F81_eq fuel _ _ kk).trans h)
  · cases h
end Go.Proofs.Ytajidgilfkineaa

