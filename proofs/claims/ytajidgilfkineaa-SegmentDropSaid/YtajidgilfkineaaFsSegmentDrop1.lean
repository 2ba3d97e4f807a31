/- What the functions that SegmentDrop reaches do: their typed texts, each with the proof that the machine does it. No condition. -/
import Derived.Test.YtajidgilfkineaaEvU
set_option linter.unusedVariables false
set_option linter.unusedSimpArgs false
set_option linter.unusedVariables false
set_option linter.unusedSimpArgs false
set_option maxRecDepth 100000
namespace Go.Proofs.Ytajidgilfkineaa
open Go Ev
def kp45 (i : Nat) : Option (List Nat) := Ev.look i [(4, [0, 1, 12, 13]), (100000, []), (400000, [4])]
def Gg45 (f : Nat) : Option Ev.Spec := Ev.look f []
def G45 (fuel : Nat) : Nat → Option Ev.Spec := Gg45
def S_ref02_SameBytes_0 (fuel : Nat) (v : (List Int) × (List Int) × Int × Int) (c : ((List Int) × (List Int) × Int × Int) → Option Ans) (B : (Bool → Option Ans) × (Unit → Option Ans)) : Option Ans := match v, B with
  | (x0, x1, x2, x3), (ret, b) =>
   bif Decidable.decide (x3 < x2) then
      bif Decidable.decide ((0 : Int) ≤ x3 ∧ x3 < (↑x0.length : Int)) then
      bif Decidable.decide ((0 : Int) ≤ x3 ∧ x3 < (↑x1.length : Int)) then
       bif x0.getD x3.toNat (0 : Int) != x1.getD x3.toNat (0 : Int) then
         ret Bool.false
        else
         c (x0, x1, x2, Go.IntKind.i64.wrap (x3 + (1 : Int)))
       else none
      else none
     else
      b ()
def L_ref02_SameBytes_0 (fuel : Nat) (v : (List Int) × (List Int) × Int × Int) (ret : (Bool → Option Ans)) (b : (Unit → Option Ans)) : Option Ans := iter (S_ref02_SameBytes_0 fuel) fuel v (ret, b)
def J45_0 (fuel : Nat) (i : Nat) : Option Ev.Blk := Ev.look i []
def T45_0 (v : (List Int) × (List Int) × Int × Int) : Ev.St := match v with | (x0, x1, x2, x3) => ⟨[(0, .c (.sl (.int .u8) x0)), (1, .c (.sl (.int .u8) x1)), (12, .c (.int .i64 x2)), (13, .c (.int .i64 x3))], [], 0, 0⟩
def E45_0 (K : Ev.Ex → Ev.St → Option Ans) : (Bool → Option Ans) × (Unit → Option Ans) := ((fun v => match v with | x0 => K .ret ⟨[(4, .c (.bool x0))], [], 0, 0⟩), (fun v => match v with | () => K .normal ⟨[], [], 0, 0⟩))
theorem S45_0_ok (fuel : Nat) (R : Ev.St → Option Ans) (K : Ev.Ex → Ev.St → Option Ans) (x0 : (List Int)) (x1 : (List Int)) (x2 : Int) (x3 : Int) : evalCode tab (G45 fuel) (J45_0 fuel) kp45 fuel (bodyOf 0 Try.f45) (T45_0 (x0, x1, x2, x3)) (lc kp45 4 0 R K) = S_ref02_SameBytes_0 fuel (x0, x1, x2, x3) (fun v => R (T45_0 v)) (E45_0 K) := by
  kernel_rfl
def B45_0 (fuel : Nat) : Ev.Blk := fun st K => match canonO (kp45 4) st with
  | some s => (match s with
    | ⟨[(q0, .c (.sl (.int .u8) x0)), (q1, .c (.sl (.int .u8) x1)), (q2, .c (.int .i64 x2)), (q3, .c (.int .i64 x3))], [], q4, q5⟩ => bif Nat.beq q0 0 && Nat.beq q1 1 && Nat.beq q2 12 && Nat.beq q3 13 && Nat.beq q4 0 && Nat.beq q5 0 then iter (S_ref02_SameBytes_0 fuel) fuel (x0, x1, x2, x3) (E45_0 K) else none
    | _ => none)
  | none => none
theorem B45_0_ok (fuel : Nat) (st : Ev.St) (K : Ev.Ex → Ev.St → Option Ans) (r : Ans) (h : B45_0 fuel st K = some r) : evalCode tab (G45 fuel) (J45_0 fuel) kp45 fuel (.block 0 (.loop (bodyOf 0 Try.f45))) st K = some r := by
  unfold B45_0 at h
  split at h
  · rename_i s hs
    split at h
    · obtain ⟨hb, h⟩ := cond_some' h
      simp only [Bool.and_eq_true, Nat.beq_eq, decide_eq_true_eq] at hb
      obtain ⟨⟨⟨⟨⟨rfl, rfl⟩, rfl⟩, rfl⟩, rfl⟩, rfl⟩ := hb
      exact blk_loop (S := T45_0) (ks := E45_0) (step := S_ref02_SameBytes_0 fuel) (v := (_, _, _, _)) (by kernel_rfl) (by kernel_rfl) (fun R K v => by obtain ⟨x0, x1, x2, x3⟩ := v; exact S45_0_ok fuel R K x0 x1 x2 x3) hs h
    · cases h
  · cases h
def J45 (fuel : Nat) (i : Nat) : Option Ev.Blk := Ev.look i [(100000, B45_0 fuel)]
def F_ref02_SameBytes (fuel : Nat) (x0 : (List Int)) (x1 : (List Int)) (k0 : (Bool) → Option Ans) : Option Ans :=
  bif (↑x0.length : Int) != (↑x1.length : Int) then
   k0 Bool.false
  else
   (L_ref02_SameBytes_0 fuel (x0, x1, (↑x0.length : Int), (0 : Int))
     (fun ret0_0 =>
       k0 ret0_0)
     (fun () =>
       k0 Bool.true))
abbrev YF45 : Type := ((List Int)) → ((List Int)) → ((Bool) → Option Ans) → Option Ans
theorem F45_eq (fuel : Nat) (x0 : (List Int)) (x1 : (List Int)) (k : Ev.Cont) : evalFn tab (G45 fuel) (J45 fuel) kp45 fuel Try.f45 [.c (.sl (.int .u8) x0), .c (.sl (.int .u8) x1)] [] k = F_ref02_SameBytes fuel x0 x1 (fun r => match r with | r0 => k (.c (.bool r0), [])) := by
  kernel_rfl
theorem hG45 (fuel : Nat) : GOK Try.prog (G45 fuel) :=
  gok_nil
theorem B45_0_blk (fuel : Nat) : BlkOK Try.prog Try.f45.ntmps (.block 0 (.loop (bodyOf 0 Try.f45))) (B45_0 fuel) :=
  blk_of (blk_of_code tab_ok (hG45 fuel) mixed (J := J45_0 fuel) (kp := kp45) (fuel := fuel) (by kernel_rfl) (fun q hq => by
    rw [(by kernel_rfl : obl (J45_0 fuel) (.block 0 (.loop (bodyOf 0 Try.f45))) = [])] at hq
    cases hq)) (B45_0_ok fuel)
theorem fok45 (fuel : Nat) : FnOK Try.prog 45 (evalFn tab (G45 fuel) (J45 fuel) kp45 fuel Try.f45) :=
  fn_ok tab_ok (hG45 fuel) mixed Try.func45 (c := (Try.f45.body).getD .skip) rfl (fun q hq => by
    rw [(by kernel_rfl : obl (J45 fuel) ((Try.f45.body).getD .skip) = [(.block 0 (.loop (bodyOf 0 Try.f45)), B45_0 fuel)])] at hq
    simp only [List.mem_cons, List.not_mem_nil, or_false] at hq
    subst hq
    · exact B45_0_blk fuel)
def mt45 : List Ev.SV → List Ev.Ob → Bool := fun args objs => match args, objs with
  | [.c (.sl (.int .u8) _), .c (.sl (.int .u8) _)], [] => true
  | _, _ => false
def spg45 (F : YF45) : Ev.Spec := fun args objs k => match args, objs with
  | [.c (.sl (.int .u8) x0), .c (.sl (.int .u8) x1)], [] => bif true then F x0 x1 (fun r => match r with | r0 => k (.c (.bool r0), [])) else none
  | _, _ => none
def spec45 (fuel : Nat) : Ev.Spec := spg45 (F_ref02_SameBytes fuel)
theorem ok45 (fuel : Nat) : FnOK Try.prog 45 (spec45 fuel) := by
  intro args objs kk r h
  unfold spec45 spg45 at h
  split at h
  · obtain ⟨hb, h⟩ := cond_some' h
    simp only [Bool.and_eq_true, Nat.beq_eq, decide_eq_true_eq] at hb
    clear hb
    exact fok45 fuel _ _ kk r ((F45_eq fuel _ _ kk).trans h)
  · cases h
end Go.Proofs.Ytajidgilfkineaa

set_option linter.unusedVariables false
set_option linter.unusedSimpArgs false
set_option maxRecDepth 100000
namespace Go.Proofs.Ytajidgilfkineaa
open Go Ev
def kp78 (i : Nat) : Option (List Nat) := Ev.look i [(3, [4, 12, 13, 14]), (100000, [4]), (400000, [2, 3])]
def Gg78 (f : Nat) : Option Ev.Spec := Ev.look f []
def G78 (fuel : Nat) : Nat → Option Ev.Spec := Gg78
def S_bits_Pack_0 (fuel : Nat) (v : (List Int) × Int × Int × (List Int)) (c : ((List Int) × Int × Int × (List Int)) → Option Ans) (B : (Int × (List Int) → Option Ans) × ((List Int) → Option Ans)) : Option Ans := match v, B with
  | (x0, x1, x2, x3), (ret, b) =>
   bif Decidable.decide (x2 < x1) then
      bif Decidable.decide ((0 : Int) ≤ x2 ∧ x2 < (↑x0.length : Int)) then
      bif Decidable.decide (x0.getD x2.toNat (0 : Int) > (1 : Int)) then
        ret ((2 : Int), [])
       else
        bif Decidable.decide ((0 : Int) ≤ Go.IntKind.i64.wrap (x2.tdiv (8 : Int)) ∧ Go.IntKind.i64.wrap (x2.tdiv (8 : Int)) < (↑x3.length : Int)) then
        bif Decidable.decide (Go.IntKind.i64.wrap ((7 : Int) - x2.tmod (8 : Int)) < (0 : Int)) then
          none
         else
          bif Decidable.decide ((0 : Int) ≤ Go.IntKind.i64.wrap (x2.tdiv (8 : Int)) ∧ Go.IntKind.i64.wrap (x2.tdiv (8 : Int)) < (↑x3.length : Int)) then
          c (x0, x1, Go.IntKind.i64.wrap (x2 + (1 : Int)), x3.set (Go.IntKind.i64.wrap (x2.tdiv (8 : Int))).toNat (Ev.ior Go.IntKind.u8 (x3.getD (Go.IntKind.i64.wrap (x2.tdiv (8 : Int))).toNat (0 : Int)) (Ev.ishl Go.IntKind.u8 (x0.getD x2.toNat (0 : Int)) (Go.IntKind.i64.wrap ((7 : Int) - x2.tmod (8 : Int))))))
          else none
        else none
      else none
     else
      b x3
def L_bits_Pack_0 (fuel : Nat) (v : (List Int) × Int × Int × (List Int)) (ret : (Int × (List Int) → Option Ans)) (b : ((List Int) → Option Ans)) : Option Ans := iter (S_bits_Pack_0 fuel) fuel v (ret, b)
def J78_0 (fuel : Nat) (i : Nat) : Option Ev.Blk := Ev.look i []
def T78_0 (v : (List Int) × Int × Int × (List Int)) : Ev.St := match v with | (x0, x1, x2, x3) => ⟨[(4, .c (.own 0)), (12, .c (.sl (.int .u8) x0)), (13, .c (.int .i64 x1)), (14, .c (.int .i64 x2))], [(0, .vec 5 (.int .u8) x3 true)], 1, 0⟩
def E78_0 (K : Ev.Ex → Ev.St → Option Ans) : (Int × (List Int) → Option Ans) × ((List Int) → Option Ans) := ((fun v => match v with | (x0, x1) => K .ret ⟨[(2, .c (.own 0)), (3, .c (.int .i64 x0))], [(0, .vec 5 (.int .u8) x1 true)], 1, 0⟩), (fun v => match v with | x0 => K .normal ⟨[(4, .c (.own 0))], [(0, .vec 5 (.int .u8) x0 true)], 1, 0⟩))
theorem S78_0_ok (fuel : Nat) (R : Ev.St → Option Ans) (K : Ev.Ex → Ev.St → Option Ans) (x0 : (List Int)) (x1 : Int) (x2 : Int) (x3 : (List Int)) : evalCode tab (G78 fuel) (J78_0 fuel) kp78 fuel (bodyOf 0 Try.f78) (T78_0 (x0, x1, x2, x3)) (lc kp78 3 0 R K) = S_bits_Pack_0 fuel (x0, x1, x2, x3) (fun v => R (T78_0 v)) (E78_0 K) := by
  kernel_rfl
def B78_0 (fuel : Nat) : Ev.Blk := fun st K => match canonO (kp78 3) st with
  | some s => (match s with
    | ⟨[(q0, .c (.own q1)), (q2, .c (.sl (.int .u8) x0)), (q3, .c (.int .i64 x1)), (q4, .c (.int .i64 x2))], [(q5, .vec q6 (.int .u8) x3 true)], q7, q8⟩ => bif Nat.beq q0 4 && Nat.beq q1 0 && Nat.beq q2 12 && Nat.beq q3 13 && Nat.beq q4 14 && Nat.beq q5 0 && Nat.beq q6 5 && Nat.beq q7 1 && Nat.beq q8 0 then iter (S_bits_Pack_0 fuel) fuel (x0, x1, x2, x3) (E78_0 K) else none
    | _ => none)
  | none => none
theorem B78_0_ok (fuel : Nat) (st : Ev.St) (K : Ev.Ex → Ev.St → Option Ans) (r : Ans) (h : B78_0 fuel st K = some r) : evalCode tab (G78 fuel) (J78_0 fuel) kp78 fuel (.block 0 (.loop (bodyOf 0 Try.f78))) st K = some r := by
  unfold B78_0 at h
  split at h
  · rename_i s hs
    split at h
    · obtain ⟨hb, h⟩ := cond_some' h
      simp only [Bool.and_eq_true, Nat.beq_eq, decide_eq_true_eq] at hb
      obtain ⟨⟨⟨⟨⟨⟨⟨⟨rfl, rfl⟩, rfl⟩, rfl⟩, rfl⟩, rfl⟩, rfl⟩, rfl⟩, rfl⟩ := hb
      exact blk_loop (S := T78_0) (ks := E78_0) (step := S_bits_Pack_0 fuel) (v := (_, _, _, _)) (by kernel_rfl) (by kernel_rfl) (fun R K v => by obtain ⟨x0, x1, x2, x3⟩ := v; exact S78_0_ok fuel R K x0 x1 x2 x3) hs h
    · cases h
  · cases h
def J78 (fuel : Nat) (i : Nat) : Option Ev.Blk := Ev.look i [(100000, B78_0 fuel)]
def F_bits_Pack (fuel : Nat) (x0 : (List Int)) (k0 : (Int × (List Int)) → Option Ans) : Option Ans :=
  bif Decidable.decide ((0 : Int) ≤ Go.IntKind.i64.wrap ((Go.IntKind.i64.wrap ((↑x0.length : Int) + (7 : Int))).tdiv (8 : Int)) ∧ Go.IntKind.i64.wrap ((Go.IntKind.i64.wrap ((↑x0.length : Int) + (7 : Int))).tdiv (8 : Int)) = Go.IntKind.i64.wrap ((Go.IntKind.i64.wrap ((↑x0.length : Int) + (7 : Int))).tdiv (8 : Int)) ∧ (↑(1 : Nat) : Int) * Go.IntKind.i64.wrap ((Go.IntKind.i64.wrap ((↑x0.length : Int) + (7 : Int))).tdiv (8 : Int)) ≤ (281474976710656 : Int) ∧ Go.IntKind.i64.wrap ((Go.IntKind.i64.wrap ((↑x0.length : Int) + (7 : Int))).tdiv (8 : Int)) ≤ (281474976710656 : Int)) then
  (L_bits_Pack_0 fuel (x0, (↑x0.length : Int), (0 : Int), List.replicate (Go.IntKind.i64.wrap ((Go.IntKind.i64.wrap ((↑x0.length : Int) + (7 : Int))).tdiv (8 : Int))).toNat (0 : Int))
     (fun (ret0_0, ret0_1) =>
       k0 (ret0_0, ret0_1))
     (fun b0_0 =>
       k0 ((0 : Int), b0_0)))
  else none
abbrev YF78 : Type := ((List Int)) → ((Int × (List Int)) → Option Ans) → Option Ans
theorem F78_eq (fuel : Nat) (x0 : (List Int)) (k : Ev.Cont) : evalFn tab (G78 fuel) (J78 fuel) kp78 fuel Try.f78 [.c (.sl (.int .u8) x0)] [] k = F_bits_Pack fuel x0 (fun r => match r with | (r0, r1) => k (.tup [(false, [.own 0]), (false, [.int .i64 r0])], [.vec 5 (.int .u8) r1 true])) := by
  kernel_rfl
theorem hG78 (fuel : Nat) : GOK Try.prog (G78 fuel) :=
  gok_nil
theorem B78_0_blk (fuel : Nat) : BlkOK Try.prog Try.f78.ntmps (.block 0 (.loop (bodyOf 0 Try.f78))) (B78_0 fuel) :=
  blk_of (blk_of_code tab_ok (hG78 fuel) mixed (J := J78_0 fuel) (kp := kp78) (fuel := fuel) (by kernel_rfl) (fun q hq => by
    rw [(by kernel_rfl : obl (J78_0 fuel) (.block 0 (.loop (bodyOf 0 Try.f78))) = [])] at hq
    cases hq)) (B78_0_ok fuel)
theorem fok78 (fuel : Nat) : FnOK Try.prog 78 (evalFn tab (G78 fuel) (J78 fuel) kp78 fuel Try.f78) :=
  fn_ok tab_ok (hG78 fuel) mixed Try.func78 (c := (Try.f78.body).getD .skip) rfl (fun q hq => by
    rw [(by kernel_rfl : obl (J78 fuel) ((Try.f78.body).getD .skip) = [(.block 0 (.loop (bodyOf 0 Try.f78)), B78_0 fuel)])] at hq
    simp only [List.mem_cons, List.not_mem_nil, or_false] at hq
    subst hq
    · exact B78_0_blk fuel)
def mt78 : List Ev.SV → List Ev.Ob → Bool := fun args objs => match args, objs with
  | [.c (.sl (.int .u8) _)], [] => true
  | _, _ => false
def spg78 (F : YF78) : Ev.Spec := fun args objs k => match args, objs with
  | [.c (.sl (.int .u8) x0)], [] => bif true then F x0 (fun r => match r with | (r0, r1) => k (.tup [(false, [.own 0]), (false, [.int .i64 r0])], [.vec 5 (.int .u8) r1 true])) else none
  | _, _ => none
def spec78 (fuel : Nat) : Ev.Spec := spg78 (F_bits_Pack fuel)
theorem ok78 (fuel : Nat) : FnOK Try.prog 78 (spec78 fuel) := by
  intro args objs kk r h
  unfold spec78 spg78 at h
  split at h
  · obtain ⟨hb, h⟩ := cond_some' h
    simp only [Bool.and_eq_true, Nat.beq_eq, decide_eq_true_eq] at hb
    clear hb
    exact fok78 fuel _ _ kk r ((F78_eq fuel _ kk).trans h)
  · cases h
end Go.Proofs.Ytajidgilfkineaa

set_option linter.unusedVariables false
set_option linter.unusedSimpArgs false
set_option maxRecDepth 100000
namespace Go.Proofs.Ytajidgilfkineaa
open Go Ev
def kp76 (i : Nat) : Option (List Nat) := Ev.look i [(5, [0, 4]), (100000, [4]), (400000, [2, 3])]
def Gg76 (f : Nat) : Option Ev.Spec := Ev.look f []
def G76 (fuel : Nat) : Nat → Option Ev.Spec := Gg76
def S_bits_Size_0 (fuel : Nat) (v : Int × (List Int)) (c : (Int × (List Int)) → Option Ans) (B : ((List Int) → Option Ans)) : Option Ans := match v, B with
  | (x0, x1), b =>
   bif Decidable.decide (x0 > (0 : Int)) then
      bif Decidable.decide (([Go.IntKind.u8.wrap (Go.IntKind.u8.wrap (x0.tmod (128 : Int)) + (128 : Int))].length + x1.length) * (1 : Nat) ≤ (140737488355328 : Nat) ∧ [Go.IntKind.u8.wrap (Go.IntKind.u8.wrap (x0.tmod (128 : Int)) + (128 : Int))].length + x1.length ≤ (140737488355328 : Nat)) then
      c (Go.IntKind.i64.wrap (x0.tdiv (128 : Int)), [Go.IntKind.u8.wrap (Go.IntKind.u8.wrap (x0.tmod (128 : Int)) + (128 : Int))] ++ x1)
      else none
     else
      b x1
def L_bits_Size_0 (fuel : Nat) (v : Int × (List Int)) (b : ((List Int) → Option Ans)) : Option Ans := iter (S_bits_Size_0 fuel) fuel v b
def J76_0 (fuel : Nat) (i : Nat) : Option Ev.Blk := Ev.look i []
def T76_0 (v : Int × (List Int)) : Ev.St := match v with | (x0, x1) => ⟨[(0, .c (.int .i64 x0)), (4, .c (.own 0))], [(0, .vec 5 (.int .u8) x1 true)], 1, 0⟩
def E76_0 (K : Ev.Ex → Ev.St → Option Ans) : ((List Int) → Option Ans) := (fun v => match v with | x0 => K .normal ⟨[(4, .c (.own 0))], [(0, .vec 5 (.int .u8) x0 true)], 1, 0⟩)
theorem S76_0_ok (fuel : Nat) (R : Ev.St → Option Ans) (K : Ev.Ex → Ev.St → Option Ans) (x0 : Int) (x1 : (List Int)) : evalCode tab (G76 fuel) (J76_0 fuel) kp76 fuel (bodyOf 0 Try.f76) (T76_0 (x0, x1)) (lc kp76 5 0 R K) = S_bits_Size_0 fuel (x0, x1) (fun v => R (T76_0 v)) (E76_0 K) := by
  kernel_rfl
def B76_0 (fuel : Nat) : Ev.Blk := fun st K => match canonO (kp76 5) st with
  | some s => (match s with
    | ⟨[(q0, .c (.int .i64 x0)), (q1, .c (.own q2))], [(q3, .vec q4 (.int .u8) x1 true)], q5, q6⟩ => bif Nat.beq q0 0 && Nat.beq q1 4 && Nat.beq q2 0 && Nat.beq q3 0 && Nat.beq q4 5 && Nat.beq q5 1 && Nat.beq q6 0 then iter (S_bits_Size_0 fuel) fuel (x0, x1) (E76_0 K) else none
    | _ => none)
  | none => none
theorem B76_0_ok (fuel : Nat) (st : Ev.St) (K : Ev.Ex → Ev.St → Option Ans) (r : Ans) (h : B76_0 fuel st K = some r) : evalCode tab (G76 fuel) (J76_0 fuel) kp76 fuel (.block 0 (.loop (bodyOf 0 Try.f76))) st K = some r := by
  unfold B76_0 at h
  split at h
  · rename_i s hs
    split at h
    · obtain ⟨hb, h⟩ := cond_some' h
      simp only [Bool.and_eq_true, Nat.beq_eq, decide_eq_true_eq] at hb
      obtain ⟨⟨⟨⟨⟨⟨rfl, rfl⟩, rfl⟩, rfl⟩, rfl⟩, rfl⟩, rfl⟩ := hb
      exact blk_loop (S := T76_0) (ks := E76_0) (step := S_bits_Size_0 fuel) (v := (_, _)) (by kernel_rfl) (by kernel_rfl) (fun R K v => by obtain ⟨x0, x1⟩ := v; exact S76_0_ok fuel R K x0 x1) hs h
    · cases h
  · cases h
def J76 (fuel : Nat) (i : Nat) : Option Ev.Blk := Ev.look i [(100000, B76_0 fuel)]
def F_bits_Size (fuel : Nat) (x0 : Int) (k0 : (Int × (List Int)) → Option Ans) : Option Ans :=
  bif Decidable.decide (x0 < (0 : Int)) then
   k0 ((2 : Int), [])
  else
   bif Decidable.decide (x0 > (2147483647 : Int)) then
    k0 ((2 : Int), [])
   else
    (L_bits_Size_0 fuel (Go.IntKind.i64.wrap (x0.tdiv (128 : Int)), [Go.IntKind.u8.wrap (x0.tmod (128 : Int))])
      (fun b0_0 =>
        k0 ((0 : Int), b0_0)))
abbrev YF76 : Type := (Int) → ((Int × (List Int)) → Option Ans) → Option Ans
theorem F76_eq (fuel : Nat) (x0 : Int) (k : Ev.Cont) : evalFn tab (G76 fuel) (J76 fuel) kp76 fuel Try.f76 [.c (.int .i64 x0)] [] k = F_bits_Size fuel x0 (fun r => match r with | (r0, r1) => k (.tup [(false, [.own 0]), (false, [.int .i64 r0])], [.vec 5 (.int .u8) r1 true])) := by
  kernel_rfl
theorem hG76 (fuel : Nat) : GOK Try.prog (G76 fuel) :=
  gok_nil
theorem B76_0_blk (fuel : Nat) : BlkOK Try.prog Try.f76.ntmps (.block 0 (.loop (bodyOf 0 Try.f76))) (B76_0 fuel) :=
  blk_of (blk_of_code tab_ok (hG76 fuel) mixed (J := J76_0 fuel) (kp := kp76) (fuel := fuel) (by kernel_rfl) (fun q hq => by
    rw [(by kernel_rfl : obl (J76_0 fuel) (.block 0 (.loop (bodyOf 0 Try.f76))) = [])] at hq
    cases hq)) (B76_0_ok fuel)
theorem fok76 (fuel : Nat) : FnOK Try.prog 76 (evalFn tab (G76 fuel) (J76 fuel) kp76 fuel Try.f76) :=
  fn_ok tab_ok (hG76 fuel) mixed Try.func76 (c := (Try.f76.body).getD .skip) rfl (fun q hq => by
    rw [(by kernel_rfl : obl (J76 fuel) ((Try.f76.body).getD .skip) = [(.block 0 (.loop (bodyOf 0 Try.f76)), B76_0 fuel)])] at hq
    simp only [List.mem_cons, List.not_mem_nil, or_false] at hq
    subst hq
    · exact B76_0_blk fuel)
def mt76 : List Ev.SV → List Ev.Ob → Bool := fun args objs => match args, objs with
  | [.c (.int .i64 _)], [] => true
  | _, _ => false
def spg76 (F : YF76) : Ev.Spec := fun args objs k => match args, objs with
  | [.c (.int .i64 x0)], [] => bif true then F x0 (fun r => match r with | (r0, r1) => k (.tup [(false, [.own 0]), (false, [.int .i64 r0])], [.vec 5 (.int .u8) r1 true])) else none
  | _, _ => none
def spec76 (fuel : Nat) : Ev.Spec := spg76 (F_bits_Size fuel)
theorem ok76 (fuel : Nat) : FnOK Try.prog 76 (spec76 fuel) := by
  intro args objs kk r h
  unfold spec76 spg76 at h
  split at h
  · obtain ⟨hb, h⟩ := cond_some' h
    simp only [Bool.and_eq_true, Nat.beq_eq, decide_eq_true_eq] at hb
    clear hb
    exact fok76 fuel _ _ kk r ((F76_eq fuel _ kk).trans h)
  · cases h
end Go.Proofs.Ytajidgilfkineaa

set_option linter.unusedVariables false
set_option linter.unusedSimpArgs false
set_option maxRecDepth 100000
namespace Go.Proofs.Ytajidgilfkineaa
open Go Ev
def kp75_35f (i : Nat) : Option (List Nat) := Ev.look i []
def Gg75_35f (f76 : YF76) (f : Nat) : Option Ev.Spec := Ev.look f [(76, spg76 f76)]
def G75_35f (fuel : Nat) : Nat → Option Ev.Spec := Gg75_35f (F_bits_Size fuel)
def J75_35f (fuel : Nat) (i : Nat) : Option Ev.Blk := Ev.look i []
def F_segment_Header_1_35f (fuel : Nat) (x0 : Int) (x1 : (List Int)) (k0 : ((List Int)) → Option Ans) : Option Ans :=
  (F_bits_Size fuel (x0)
    (fun (y2_0, y2_1) =>
      bif Decidable.decide ((x1.length + y2_1.length) * (1 : Nat) ≤ (140737488355328 : Nat) ∧ x1.length + y2_1.length ≤ (140737488355328 : Nat)) then
      k0 (x1 ++ y2_1)
      else none))
abbrev YF75_35f : Type := (Int) → ((List Int)) → (((List Int)) → Option Ans) → Option Ans
theorem F75_35f_eqg (fuel : Nat) (f76 : YF76) (x0 : Int) (x1 : (List Int)) (k : Ev.Cont) : evalFn tab (Gg75_35f f76) (J75_35f fuel) kp75_35f fuel Try.f75 [.c (.int .i64 x0), .c (.ptr 0 0)] [.cells 28 [.own 1], .vec 5 (.int .u8) x1 false] k = (fun  (k0 : ((List Int)) → Option Ans) =>
  (f76 (x0)
    (fun (y2_0, y2_1) =>
      bif Decidable.decide ((x1.length + y2_1.length) * (1 : Nat) ≤ (140737488355328 : Nat) ∧ x1.length + y2_1.length ≤ (140737488355328 : Nat)) then
      k0 (x1 ++ y2_1)
      else none))) (fun r => match r with | r0 => k (.tup [], [.cells 28 [.own 1], .vec 5 (.int .u8) r0 true])) := by
  kernel_rfl
theorem F75_35f_eq (fuel : Nat) (x0 : Int) (x1 : (List Int)) (k : Ev.Cont) : evalFn tab (G75_35f fuel) (J75_35f fuel) kp75_35f fuel Try.f75 [.c (.int .i64 x0), .c (.ptr 0 0)] [.cells 28 [.own 1], .vec 5 (.int .u8) x1 false] k = F_segment_Header_1_35f fuel x0 x1 (fun r => match r with | r0 => k (.tup [], [.cells 28 [.own 1], .vec 5 (.int .u8) r0 true])) :=
  F75_35f_eqg fuel (F_bits_Size fuel) x0 x1 k
theorem hG75_35f (fuel : Nat) : GOK Try.prog (G75_35f fuel) :=
  gok_cons ⟨ok76 fuel, enters_of Try.func76 (by kernel_rfl) rfl⟩ <|
  gok_nil
theorem fok75_35f (fuel : Nat) : FnOK Try.prog 75 (evalFn tab (G75_35f fuel) (J75_35f fuel) kp75_35f fuel Try.f75) :=
  fn_ok tab_ok (hG75_35f fuel) mixed Try.func75 (c := (Try.f75.body).getD .skip) rfl (fun q hq => by
    rw [(by kernel_rfl : obl (J75_35f fuel) ((Try.f75.body).getD .skip) = [])] at hq
    cases hq)
def mt75_35f : List Ev.SV → List Ev.Ob → Bool := fun args objs => match args, objs with
  | [.c (.int .i64 _), .c (.ptr q0 q1)], [.cells q2 [.own q3], .vec q4 (.int .u8) _ false] => Nat.beq q0 0 && Nat.beq q1 0 && Nat.beq q2 28 && Nat.beq q3 1 && Nat.beq q4 5
  | _, _ => false
def spg75_35f (F : YF75_35f) : Ev.Spec := fun args objs k => match args, objs with
  | [.c (.int .i64 x0), .c (.ptr q0 q1)], [.cells q2 [.own q3], .vec q4 (.int .u8) x1 false] => bif Nat.beq q0 0 && Nat.beq q1 0 && Nat.beq q2 28 && Nat.beq q3 1 && Nat.beq q4 5 then F x0 x1 (fun r => match r with | r0 => k (.tup [], [.cells 28 [.own 1], .vec 5 (.int .u8) r0 true])) else none
  | _, _ => none
def spec75_35f (fuel : Nat) : Ev.Spec := spg75_35f (F_segment_Header_1_35f fuel)
theorem ok75_35f (fuel : Nat) : FnOK Try.prog 75 (spec75_35f fuel) := by
  intro args objs kk r h
  unfold spec75_35f spg75_35f at h
  split at h
  · obtain ⟨hb, h⟩ := cond_some' h
    simp only [Bool.and_eq_true, Nat.beq_eq, decide_eq_true_eq] at hb
    obtain ⟨⟨⟨⟨rfl, rfl⟩, rfl⟩, rfl⟩, rfl⟩ := hb
    exact fok75_35f fuel _ _ kk r ((F75_35f_eq fuel _ _ kk).trans h)
  · cases h
end Go.Proofs.Ytajidgilfkineaa

set_option linter.unusedVariables false
set_option linter.unusedSimpArgs false
set_option maxRecDepth 100000
namespace Go.Proofs.Ytajidgilfkineaa
open Go Ev
def kp43 (i : Nat) : Option (List Nat) := Ev.look i [(5, [1, 3, 57, 58, 59]), (100000, []), (400000, [2])]
def Gg43 (f : Nat) : Option Ev.Spec := Ev.look f []
def G43 (fuel : Nat) : Nat → Option Ev.Spec := Gg43
def S_segment_Valid_0 (fuel : Nat) (v : Int × (List Int) × Int × Int × Int × Int × Int × (List Int) × (List Bool) × (List Int)) (c : (Int × (List Int) × Int × Int × Int × Int × Int × (List Int) × (List Bool) × (List Int)) → Option Ans) (B : (Bool → Option Ans) × (Unit → Option Ans)) : Option Ans := match v, B with
  | (x0, x1, x2, x3, x4, x5, x6, x7, x8, x9), (ret, b) =>
   bif Decidable.decide (x3 < x2) then
      bif Decidable.decide ((0 : Int) ≤ x3 ∧ x3 < (↑x1.length : Int)) then
      bif Decidable.decide (x1.getD x3.toNat (0 : Int) ≤ x0) then
        ret Bool.false
       else
        bif Decidable.decide (x1.getD x3.toNat (0 : Int) ≥ x4) then
         ret Bool.false
        else
         c (x1.getD x3.toNat (0 : Int), x1, x2, Go.IntKind.i64.wrap (x3 + (1 : Int)), x4, x5, x6, x7, x8, x9)
      else none
     else
      b ()
def L_segment_Valid_0 (fuel : Nat) (v : Int × (List Int) × Int × Int × Int × Int × Int × (List Int) × (List Bool) × (List Int)) (ret : (Bool → Option Ans)) (b : (Unit → Option Ans)) : Option Ans := iter (S_segment_Valid_0 fuel) fuel v (ret, b)
def J43_0 (fuel : Nat) (i : Nat) : Option Ev.Blk := Ev.look i []
def T43_0 (v : Int × (List Int) × Int × Int × Int × Int × Int × (List Int) × (List Bool) × (List Int)) : Ev.St := match v with | (x0, x1, x2, x3, x4, x5, x6, x7, x8, x9) => ⟨[(1, .c (.ptr 0 0)), (3, .c (.int .i64 x0)), (57, .c (.sl (.int .i64) x1)), (58, .c (.int .i64 x2)), (59, .c (.int .i64 x3))], [(0, .cells 63 [.int .i64 x4, .int .i64 x5, .int .i64 x6, .sl (.int .i64) x7, .sl .bool x8, .sl (.int .u8) x9])], 1, 0⟩
def E43_0 (K : Ev.Ex → Ev.St → Option Ans) : (Bool → Option Ans) × (Unit → Option Ans) := ((fun v => match v with | x0 => K .ret ⟨[(2, .c (.bool x0))], [], 0, 0⟩), (fun v => match v with | () => K .normal ⟨[], [], 0, 0⟩))
theorem S43_0_ok (fuel : Nat) (R : Ev.St → Option Ans) (K : Ev.Ex → Ev.St → Option Ans) (x0 : Int) (x1 : (List Int)) (x2 : Int) (x3 : Int) (x4 : Int) (x5 : Int) (x6 : Int) (x7 : (List Int)) (x8 : (List Bool)) (x9 : (List Int)) : evalCode tab (G43 fuel) (J43_0 fuel) kp43 fuel (bodyOf 0 Try.f43) (T43_0 (x0, x1, x2, x3, x4, x5, x6, x7, x8, x9)) (lc kp43 5 0 R K) = S_segment_Valid_0 fuel (x0, x1, x2, x3, x4, x5, x6, x7, x8, x9) (fun v => R (T43_0 v)) (E43_0 K) := by
  kernel_rfl
def B43_0 (fuel : Nat) : Ev.Blk := fun st K => match canonO (kp43 5) st with
  | some s => (match s with
    | ⟨[(q0, .c (.ptr q1 q2)), (q3, .c (.int .i64 x0)), (q4, .c (.sl (.int .i64) x1)), (q5, .c (.int .i64 x2)), (q6, .c (.int .i64 x3))], [(q7, .cells q8 [.int .i64 x4, .int .i64 x5, .int .i64 x6, .sl (.int .i64) x7, .sl .bool x8, .sl (.int .u8) x9])], q9, q10⟩ => bif Nat.beq q0 1 && Nat.beq q1 0 && Nat.beq q2 0 && Nat.beq q3 3 && Nat.beq q4 57 && Nat.beq q5 58 && Nat.beq q6 59 && Nat.beq q7 0 && Nat.beq q8 63 && Nat.beq q9 1 && Nat.beq q10 0 then iter (S_segment_Valid_0 fuel) fuel (x0, x1, x2, x3, x4, x5, x6, x7, x8, x9) (E43_0 K) else none
    | _ => none)
  | none => none
theorem B43_0_ok (fuel : Nat) (st : Ev.St) (K : Ev.Ex → Ev.St → Option Ans) (r : Ans) (h : B43_0 fuel st K = some r) : evalCode tab (G43 fuel) (J43_0 fuel) kp43 fuel (.block 0 (.loop (bodyOf 0 Try.f43))) st K = some r := by
  unfold B43_0 at h
  split at h
  · rename_i s hs
    split at h
    · obtain ⟨hb, h⟩ := cond_some' h
      simp only [Bool.and_eq_true, Nat.beq_eq, decide_eq_true_eq] at hb
      obtain ⟨⟨⟨⟨⟨⟨⟨⟨⟨⟨rfl, rfl⟩, rfl⟩, rfl⟩, rfl⟩, rfl⟩, rfl⟩, rfl⟩, rfl⟩, rfl⟩, rfl⟩ := hb
      exact blk_loop (S := T43_0) (ks := E43_0) (step := S_segment_Valid_0 fuel) (v := (_, _, _, _, _, _, _, _, _, _)) (by kernel_rfl) (by kernel_rfl) (fun R K v => by obtain ⟨x0, x1, x2, x3, x4, x5, x6, x7, x8, x9⟩ := v; exact S43_0_ok fuel R K x0 x1 x2 x3 x4 x5 x6 x7 x8 x9) hs h
    · cases h
  · cases h
def J43 (fuel : Nat) (i : Nat) : Option Ev.Blk := Ev.look i [(100000, B43_0 fuel)]
def F_segment_Valid (fuel : Nat) (x0 : Int) (x1 : Int) (x2 : Int) (x3 : (List Int)) (x4 : (List Bool)) (x5 : (List Int)) (k0 : (Bool) → Option Ans) : Option Ans :=
  bif Decidable.decide (x0 < (0 : Int)) then
   k0 Bool.false
  else
   bif Decidable.decide (x0 > (10000 : Int)) then
    k0 Bool.false
   else
    bif Decidable.decide (x1 < (0 : Int)) then
     k0 Bool.false
    else
     bif Decidable.decide (x1 > (15 : Int)) then
      k0 Bool.false
     else
      bif Decidable.decide (x2 < (0 : Int)) then
       k0 Bool.false
      else
       bif Decidable.decide (x2 > (1000 : Int)) then
        k0 Bool.false
       else
        bif Decidable.decide ((↑x3.length : Int) > (20 : Int)) then
         k0 Bool.false
        else
         bif (↑x4.length : Int) != Go.IntKind.i64.wrap ((↑x3.length : Int) + (1 : Int)) then
          k0 Bool.false
         else
          bif Decidable.decide ((↑x5.length : Int) > (20000 : Int)) then
           k0 Bool.false
          else
           (L_segment_Valid_0 fuel ((-1 : Int), x3, (↑x3.length : Int), (0 : Int), x0, x1, x2, x3, x4, x5)
             (fun ret0_0 =>
               k0 ret0_0)
             (fun () =>
               k0 Bool.true))
abbrev YF43 : Type := (Int) → (Int) → (Int) → ((List Int)) → ((List Bool)) → ((List Int)) → ((Bool) → Option Ans) → Option Ans
theorem F43_eq (fuel : Nat) (x0 : Int) (x1 : Int) (x2 : Int) (x3 : (List Int)) (x4 : (List Bool)) (x5 : (List Int)) (k : Ev.Cont) : evalFn tab (G43 fuel) (J43 fuel) kp43 fuel Try.f43 [.agg [.int .i64 x0, .int .i64 x1, .int .i64 x2, .sl (.int .i64) x3, .sl .bool x4, .sl (.int .u8) x5]] [] k = F_segment_Valid fuel x0 x1 x2 x3 x4 x5 (fun r => match r with | r0 => k (.c (.bool r0), [])) := by
  kernel_rfl
theorem hG43 (fuel : Nat) : GOK Try.prog (G43 fuel) :=
  gok_nil
theorem B43_0_blk (fuel : Nat) : BlkOK Try.prog Try.f43.ntmps (.block 0 (.loop (bodyOf 0 Try.f43))) (B43_0 fuel) :=
  blk_of (blk_of_code tab_ok (hG43 fuel) mixed (J := J43_0 fuel) (kp := kp43) (fuel := fuel) (by kernel_rfl) (fun q hq => by
    rw [(by kernel_rfl : obl (J43_0 fuel) (.block 0 (.loop (bodyOf 0 Try.f43))) = [])] at hq
    cases hq)) (B43_0_ok fuel)
theorem fok43 (fuel : Nat) : FnOK Try.prog 43 (evalFn tab (G43 fuel) (J43 fuel) kp43 fuel Try.f43) :=
  fn_ok tab_ok (hG43 fuel) mixed Try.func43 (c := (Try.f43.body).getD .skip) rfl (fun q hq => by
    rw [(by kernel_rfl : obl (J43 fuel) ((Try.f43.body).getD .skip) = [(.block 0 (.loop (bodyOf 0 Try.f43)), B43_0 fuel)])] at hq
    simp only [List.mem_cons, List.not_mem_nil, or_false] at hq
    subst hq
    · exact B43_0_blk fuel)
def mt43 : List Ev.SV → List Ev.Ob → Bool := fun args objs => match args, objs with
  | [.agg [.int .i64 _, .int .i64 _, .int .i64 _, .sl (.int .i64) _, .sl .bool _, .sl (.int .u8) _]], [] => true
  | _, _ => false
def spg43 (F : YF43) : Ev.Spec := fun args objs k => match args, objs with
  | [.agg [.int .i64 x0, .int .i64 x1, .int .i64 x2, .sl (.int .i64) x3, .sl .bool x4, .sl (.int .u8) x5]], [] => bif true then F x0 x1 x2 x3 x4 x5 (fun r => match r with | r0 => k (.c (.bool r0), [])) else none
  | _, _ => none
def spec43 (fuel : Nat) : Ev.Spec := spg43 (F_segment_Valid fuel)
theorem ok43 (fuel : Nat) : FnOK Try.prog 43 (spec43 fuel) := by
  intro args objs kk r h
  unfold spec43 spg43 at h
  split at h
  · obtain ⟨hb, h⟩ := cond_some' h
    simp only [Bool.and_eq_true, Nat.beq_eq, decide_eq_true_eq] at hb
    clear hb
    exact fok43 fuel _ _ kk r ((F43_eq fuel _ _ _ _ _ _ kk).trans h)
  · cases h
end Go.Proofs.Ytajidgilfkineaa

set_option linter.unusedVariables false
set_option linter.unusedSimpArgs false
set_option maxRecDepth 100000
namespace Go.Proofs.Ytajidgilfkineaa
open Go Ev
def kp77 (i : Nat) : Option (List Nat) := Ev.look i []
def Gg77 (f : Nat) : Option Ev.Spec := Ev.look f []
def G77 (fuel : Nat) : Nat → Option Ev.Spec := Gg77
def J77 (fuel : Nat) (i : Nat) : Option Ev.Blk := Ev.look i []
def F_segment_flag (fuel : Nat) (x0 : Bool) (k0 : (Int) → Option Ans) : Option Ans :=
  bif x0 then
   k0 ((1 : Int))
  else
   k0 ((0 : Int))
abbrev YF77 : Type := (Bool) → ((Int) → Option Ans) → Option Ans
theorem F77_eq (fuel : Nat) (x0 : Bool) (k : Ev.Cont) : evalFn tab (G77 fuel) (J77 fuel) kp77 fuel Try.f77 [.c (.bool x0)] [] k = F_segment_flag fuel x0 (fun r => match r with | r0 => k (.c (.int .u8 r0), [])) := by
  kernel_rfl
theorem hG77 (fuel : Nat) : GOK Try.prog (G77 fuel) :=
  gok_nil
theorem fok77 (fuel : Nat) : FnOK Try.prog 77 (evalFn tab (G77 fuel) (J77 fuel) kp77 fuel Try.f77) :=
  fn_ok tab_ok (hG77 fuel) mixed Try.func77 (c := (Try.f77.body).getD .skip) rfl (fun q hq => by
    rw [(by kernel_rfl : obl (J77 fuel) ((Try.f77.body).getD .skip) = [])] at hq
    cases hq)
def mt77 : List Ev.SV → List Ev.Ob → Bool := fun args objs => match args, objs with
  | [.c (.bool _)], [] => true
  | _, _ => false
def spg77 (F : YF77) : Ev.Spec := fun args objs k => match args, objs with
  | [.c (.bool x0)], [] => bif true then F x0 (fun r => match r with | r0 => k (.c (.int .u8 r0), [])) else none
  | _, _ => none
def spec77 (fuel : Nat) : Ev.Spec := spg77 (F_segment_flag fuel)
theorem ok77 (fuel : Nat) : FnOK Try.prog 77 (spec77 fuel) := by
  intro args objs kk r h
  unfold spec77 spg77 at h
  split at h
  · obtain ⟨hb, h⟩ := cond_some' h
    simp only [Bool.and_eq_true, Nat.beq_eq, decide_eq_true_eq] at hb
    clear hb
    exact fok77 fuel _ _ kk r ((F77_eq fuel _ kk).trans h)
  · cases h
end Go.Proofs.Ytajidgilfkineaa

set_option linter.unusedVariables false
set_option linter.unusedSimpArgs false
set_option maxRecDepth 100000
namespace Go.Proofs.Ytajidgilfkineaa
open Go Ev
def kp41 (i : Nat) : Option (List Nat) := Ev.look i [(11, [1, 4, 5, 44, 45, 46]), (17, [1, 4, 5, 8, 58, 59, 60]), (100000, [1, 4, 5]), (100002, [1, 4, 5, 8]), (400000, [2, 3]), (400002, [2, 3])]
def Gg41 (f43 : YF43) (f75_35f : YF75_35f) (f77 : YF77) (f78 : YF78) (f : Nat) : Option Ev.Spec := Ev.look f [(43, spg43 f43), (75, spg75_35f f75_35f), (77, spg77 f77), (78, spg78 f78)]
def G41 (fuel : Nat) : Nat → Option Ev.Spec := Gg41 (F_segment_Valid fuel) (F_segment_Header_1_35f fuel) (F_segment_flag fuel) (F_bits_Pack fuel)
def S_segment_Header_2 (fuel : Nat) (v : (List Bool) × Int × Int × Int × Int × Int × (List Int) × (List Bool) × (List Int) × (List Int) × (List Int)) (c : ((List Bool) × Int × Int × Int × Int × Int × (List Int) × (List Bool) × (List Int) × (List Int) × (List Int)) → Option Ans) (B : (Int × Int × Int × (List Int) × (List Bool) × (List Int) × (List Int) × (List Int) → Option Ans)) : Option Ans := match v, B with
  | (x0, x1, x2, x3, x4, x5, x6, x7, x8, x9, x10), b =>
   bif Decidable.decide (x2 < x1) then
      bif Decidable.decide ((0 : Int) ≤ x2 ∧ x2 < (↑x0.length : Int)) then
      (F_segment_flag fuel (x0.getD x2.toNat Bool.false)
         (fun y4 =>
           bif Decidable.decide ((x9.length + [y4].length) * (1 : Nat) ≤ (140737488355328 : Nat) ∧ x9.length + [y4].length ≤ (140737488355328 : Nat)) then
           c (x0, x1, Go.IntKind.i64.wrap (x2 + (1 : Int)), x3, x4, x5, x6, x7, x8, x9 ++ [y4], x10)
           else none))
      else none
     else
      b (x3, x4, x5, x6, x7, x8, x9, x10)
def L_segment_Header_2 (fuel : Nat) (v : (List Bool) × Int × Int × Int × Int × Int × (List Int) × (List Bool) × (List Int) × (List Int) × (List Int)) (b : (Int × Int × Int × (List Int) × (List Bool) × (List Int) × (List Int) × (List Int) → Option Ans)) : Option Ans := iter (S_segment_Header_2 fuel) fuel v b
def J41_2 (fuel : Nat) (i : Nat) : Option Ev.Blk := Ev.look i []
def T41_2 (v : (List Bool) × Int × Int × Int × Int × Int × (List Int) × (List Bool) × (List Int) × (List Int) × (List Int)) : Ev.St := match v with | (x0, x1, x2, x3, x4, x5, x6, x7, x8, x9, x10) => ⟨[(1, .c (.ptr 0 0)), (4, .c (.ptr 1 0)), (5, .c (.clo 75 [1])), (8, .c (.own 2)), (58, .c (.sl .bool x0)), (59, .c (.int .i64 x1)), (60, .c (.int .i64 x2))], [(0, .cells 63 [.int .i64 x3, .int .i64 x4, .int .i64 x5, .sl (.int .i64) x6, .sl .bool x7, .sl (.int .u8) x8]), (1, .cells 28 [.own 3]), (2, .vec 5 (.int .u8) x9 true), (3, .vec 5 (.int .u8) x10 true)], 4, 0⟩
def E41_2 (K : Ev.Ex → Ev.St → Option Ans) : (Int × Int × Int × (List Int) × (List Bool) × (List Int) × (List Int) × (List Int) → Option Ans) := (fun v => match v with | (x0, x1, x2, x3, x4, x5, x6, x7) => K .normal ⟨[(1, .c (.ptr 0 0)), (4, .c (.ptr 1 0)), (5, .c (.clo 75 [1])), (8, .c (.own 2))], [(0, .cells 63 [.int .i64 x0, .int .i64 x1, .int .i64 x2, .sl (.int .i64) x3, .sl .bool x4, .sl (.int .u8) x5]), (1, .cells 28 [.own 3]), (2, .vec 5 (.int .u8) x6 true), (3, .vec 5 (.int .u8) x7 true)], 4, 0⟩)
theorem S41_2_okg (fuel : Nat) (f43 : YF43) (f75_35f : YF75_35f) (f77 : YF77) (f78 : YF78) (R : Ev.St → Option Ans) (K : Ev.Ex → Ev.St → Option Ans) (x0 : (List Bool)) (x1 : Int) (x2 : Int) (x3 : Int) (x4 : Int) (x5 : Int) (x6 : (List Int)) (x7 : (List Bool)) (x8 : (List Int)) (x9 : (List Int)) (x10 : (List Int)) : evalCode tab (Gg41 f43 f75_35f f77 f78) (J41_2 fuel) kp41 fuel (bodyOf 2 Try.f41) (T41_2 (x0, x1, x2, x3, x4, x5, x6, x7, x8, x9, x10)) (lc kp41 17 2 R K) = (fun (c : ((List Bool) × Int × Int × Int × Int × Int × (List Int) × (List Bool) × (List Int) × (List Int) × (List Int)) → Option Ans) (B : (Int × Int × Int × (List Int) × (List Bool) × (List Int) × (List Int) × (List Int) → Option Ans)) => match B with
  | b =>
   bif Decidable.decide (x2 < x1) then
      bif Decidable.decide ((0 : Int) ≤ x2 ∧ x2 < (↑x0.length : Int)) then
      (f77 (x0.getD x2.toNat Bool.false)
         (fun y4 =>
           bif Decidable.decide ((x9.length + [y4].length) * (1 : Nat) ≤ (140737488355328 : Nat) ∧ x9.length + [y4].length ≤ (140737488355328 : Nat)) then
           c (x0, x1, Go.IntKind.i64.wrap (x2 + (1 : Int)), x3, x4, x5, x6, x7, x8, x9 ++ [y4], x10)
           else none))
      else none
     else
      b (x3, x4, x5, x6, x7, x8, x9, x10)) (fun v => R (T41_2 v)) (E41_2 K) := by
  kernel_rfl
theorem S41_2_ok (fuel : Nat) (R : Ev.St → Option Ans) (K : Ev.Ex → Ev.St → Option Ans) (x0 : (List Bool)) (x1 : Int) (x2 : Int) (x3 : Int) (x4 : Int) (x5 : Int) (x6 : (List Int)) (x7 : (List Bool)) (x8 : (List Int)) (x9 : (List Int)) (x10 : (List Int)) : evalCode tab (G41 fuel) (J41_2 fuel) kp41 fuel (bodyOf 2 Try.f41) (T41_2 (x0, x1, x2, x3, x4, x5, x6, x7, x8, x9, x10)) (lc kp41 17 2 R K) = S_segment_Header_2 fuel (x0, x1, x2, x3, x4, x5, x6, x7, x8, x9, x10) (fun v => R (T41_2 v)) (E41_2 K) :=
  S41_2_okg fuel (F_segment_Valid fuel) (F_segment_Header_1_35f fuel) (F_segment_flag fuel) (F_bits_Pack fuel) R K x0 x1 x2 x3 x4 x5 x6 x7 x8 x9 x10
def B41_2 (fuel : Nat) : Ev.Blk := fun st K => match canonO (kp41 17) st with
  | some s => (match s with
    | ⟨[(q0, .c (.ptr q1 q2)), (q3, .c (.ptr q4 q5)), (q6, .c (.clo q7 [q8])), (q9, .c (.own q10)), (q11, .c (.sl .bool x0)), (q12, .c (.int .i64 x1)), (q13, .c (.int .i64 x2))], [(q14, .cells q15 [.int .i64 x3, .int .i64 x4, .int .i64 x5, .sl (.int .i64) x6, .sl .bool x7, .sl (.int .u8) x8]), (q16, .cells q17 [.own q18]), (q19, .vec q20 (.int .u8) x9 true), (q21, .vec q22 (.int .u8) x10 true)], q23, q24⟩ => bif Nat.beq q0 1 && Nat.beq q1 0 && Nat.beq q2 0 && Nat.beq q3 4 && Nat.beq q4 1 && Nat.beq q5 0 && Nat.beq q6 5 && Nat.beq q7 75 && Nat.beq q8 1 && Nat.beq q9 8 && Nat.beq q10 2 && Nat.beq q11 58 && Nat.beq q12 59 && Nat.beq q13 60 && Nat.beq q14 0 && Nat.beq q15 63 && Nat.beq q16 1 && Nat.beq q17 28 && Nat.beq q18 3 && Nat.beq q19 2 && Nat.beq q20 5 && Nat.beq q21 3 && Nat.beq q22 5 && Nat.beq q23 4 && Nat.beq q24 0 then iter (S_segment_Header_2 fuel) fuel (x0, x1, x2, x3, x4, x5, x6, x7, x8, x9, x10) (E41_2 K) else none
    | _ => none)
  | none => none
theorem B41_2_ok (fuel : Nat) (st : Ev.St) (K : Ev.Ex → Ev.St → Option Ans) (r : Ans) (h : B41_2 fuel st K = some r) : evalCode tab (G41 fuel) (J41_2 fuel) kp41 fuel (.block 2 (.loop (bodyOf 2 Try.f41))) st K = some r := by
  unfold B41_2 at h
  split at h
  · rename_i s hs
    split at h
    · obtain ⟨hb, h⟩ := cond_some' h
      simp only [Bool.and_eq_true, Nat.beq_eq, decide_eq_true_eq] at hb
      obtain ⟨⟨⟨⟨⟨⟨⟨⟨⟨⟨⟨⟨⟨⟨⟨⟨⟨⟨⟨⟨⟨⟨⟨⟨rfl, rfl⟩, rfl⟩, rfl⟩, rfl⟩, rfl⟩, rfl⟩, rfl⟩, rfl⟩, rfl⟩, rfl⟩, rfl⟩, rfl⟩, rfl⟩, rfl⟩, rfl⟩, rfl⟩, rfl⟩, rfl⟩, rfl⟩, rfl⟩, rfl⟩, rfl⟩, rfl⟩, rfl⟩ := hb
      exact blk_loop (S := T41_2) (ks := E41_2) (step := S_segment_Header_2 fuel) (v := (_, _, _, _, _, _, _, _, _, _, _)) (by kernel_rfl) (by kernel_rfl) (fun R K v => by obtain ⟨x0, x1, x2, x3, x4, x5, x6, x7, x8, x9, x10⟩ := v; exact S41_2_ok fuel R K x0 x1 x2 x3 x4 x5 x6 x7 x8 x9 x10) hs h
    · cases h
  · cases h
def S_segment_Header_0 (fuel : Nat) (v : (List Int) × Int × Int × Int × Int × Int × (List Int) × (List Bool) × (List Int) × (List Int)) (c : ((List Int) × Int × Int × Int × Int × Int × (List Int) × (List Bool) × (List Int) × (List Int)) → Option Ans) (B : (Int × Int × Int × (List Int) × (List Bool) × (List Int) × (List Int) → Option Ans)) : Option Ans := match v, B with
  | (x0, x1, x2, x3, x4, x5, x6, x7, x8, x9), b =>
   bif Decidable.decide (x2 < x1) then
      bif Decidable.decide ((0 : Int) ≤ x2 ∧ x2 < (↑x0.length : Int)) then
      (F_segment_Header_1_35f fuel (Go.IntKind.i64.wrap (x3 - x0.getD x2.toNat (0 : Int))) (x9)
         (fun y4 =>
           c (x0, x1, Go.IntKind.i64.wrap (x2 + (1 : Int)), x3, x4, x5, x6, x7, x8, y4)))
      else none
     else
      b (x3, x4, x5, x6, x7, x8, x9)
def L_segment_Header_0 (fuel : Nat) (v : (List Int) × Int × Int × Int × Int × Int × (List Int) × (List Bool) × (List Int) × (List Int)) (b : (Int × Int × Int × (List Int) × (List Bool) × (List Int) × (List Int) → Option Ans)) : Option Ans := iter (S_segment_Header_0 fuel) fuel v b
def J41_0 (fuel : Nat) (i : Nat) : Option Ev.Blk := Ev.look i [(100002, B41_2 fuel)]
def T41_0 (v : (List Int) × Int × Int × Int × Int × Int × (List Int) × (List Bool) × (List Int) × (List Int)) : Ev.St := match v with | (x0, x1, x2, x3, x4, x5, x6, x7, x8, x9) => ⟨[(1, .c (.ptr 0 0)), (4, .c (.ptr 1 0)), (5, .c (.clo 75 [1])), (44, .c (.sl (.int .i64) x0)), (45, .c (.int .i64 x1)), (46, .c (.int .i64 x2))], [(0, .cells 63 [.int .i64 x3, .int .i64 x4, .int .i64 x5, .sl (.int .i64) x6, .sl .bool x7, .sl (.int .u8) x8]), (1, .cells 28 [.own 2]), (2, .vec 5 (.int .u8) x9 true)], 3, 0⟩
def E41_0 (K : Ev.Ex → Ev.St → Option Ans) : (Int × Int × Int × (List Int) × (List Bool) × (List Int) × (List Int) → Option Ans) := (fun v => match v with | (x0, x1, x2, x3, x4, x5, x6) => K .normal ⟨[(1, .c (.ptr 0 0)), (4, .c (.ptr 1 0)), (5, .c (.clo 75 [1]))], [(0, .cells 63 [.int .i64 x0, .int .i64 x1, .int .i64 x2, .sl (.int .i64) x3, .sl .bool x4, .sl (.int .u8) x5]), (1, .cells 28 [.own 2]), (2, .vec 5 (.int .u8) x6 true)], 3, 0⟩)
theorem S41_0_okg (fuel : Nat) (f43 : YF43) (f75_35f : YF75_35f) (f77 : YF77) (f78 : YF78) (R : Ev.St → Option Ans) (K : Ev.Ex → Ev.St → Option Ans) (x0 : (List Int)) (x1 : Int) (x2 : Int) (x3 : Int) (x4 : Int) (x5 : Int) (x6 : (List Int)) (x7 : (List Bool)) (x8 : (List Int)) (x9 : (List Int)) : evalCode tab (Gg41 f43 f75_35f f77 f78) (J41_0 fuel) kp41 fuel (bodyOf 0 Try.f41) (T41_0 (x0, x1, x2, x3, x4, x5, x6, x7, x8, x9)) (lc kp41 11 0 R K) = (fun (c : ((List Int) × Int × Int × Int × Int × Int × (List Int) × (List Bool) × (List Int) × (List Int)) → Option Ans) (B : (Int × Int × Int × (List Int) × (List Bool) × (List Int) × (List Int) → Option Ans)) => match B with
  | b =>
   bif Decidable.decide (x2 < x1) then
      bif Decidable.decide ((0 : Int) ≤ x2 ∧ x2 < (↑x0.length : Int)) then
      (f75_35f (Go.IntKind.i64.wrap (x3 - x0.getD x2.toNat (0 : Int))) (x9)
         (fun y4 =>
           c (x0, x1, Go.IntKind.i64.wrap (x2 + (1 : Int)), x3, x4, x5, x6, x7, x8, y4)))
      else none
     else
      b (x3, x4, x5, x6, x7, x8, x9)) (fun v => R (T41_0 v)) (E41_0 K) := by
  kernel_rfl
theorem S41_0_ok (fuel : Nat) (R : Ev.St → Option Ans) (K : Ev.Ex → Ev.St → Option Ans) (x0 : (List Int)) (x1 : Int) (x2 : Int) (x3 : Int) (x4 : Int) (x5 : Int) (x6 : (List Int)) (x7 : (List Bool)) (x8 : (List Int)) (x9 : (List Int)) : evalCode tab (G41 fuel) (J41_0 fuel) kp41 fuel (bodyOf 0 Try.f41) (T41_0 (x0, x1, x2, x3, x4, x5, x6, x7, x8, x9)) (lc kp41 11 0 R K) = S_segment_Header_0 fuel (x0, x1, x2, x3, x4, x5, x6, x7, x8, x9) (fun v => R (T41_0 v)) (E41_0 K) :=
  S41_0_okg fuel (F_segment_Valid fuel) (F_segment_Header_1_35f fuel) (F_segment_flag fuel) (F_bits_Pack fuel) R K x0 x1 x2 x3 x4 x5 x6 x7 x8 x9
def B41_0 (fuel : Nat) : Ev.Blk := fun st K => match canonO (kp41 11) st with
  | some s => (match s with
    | ⟨[(q0, .c (.ptr q1 q2)), (q3, .c (.ptr q4 q5)), (q6, .c (.clo q7 [q8])), (q9, .c (.sl (.int .i64) x0)), (q10, .c (.int .i64 x1)), (q11, .c (.int .i64 x2))], [(q12, .cells q13 [.int .i64 x3, .int .i64 x4, .int .i64 x5, .sl (.int .i64) x6, .sl .bool x7, .sl (.int .u8) x8]), (q14, .cells q15 [.own q16]), (q17, .vec q18 (.int .u8) x9 true)], q19, q20⟩ => bif Nat.beq q0 1 && Nat.beq q1 0 && Nat.beq q2 0 && Nat.beq q3 4 && Nat.beq q4 1 && Nat.beq q5 0 && Nat.beq q6 5 && Nat.beq q7 75 && Nat.beq q8 1 && Nat.beq q9 44 && Nat.beq q10 45 && Nat.beq q11 46 && Nat.beq q12 0 && Nat.beq q13 63 && Nat.beq q14 1 && Nat.beq q15 28 && Nat.beq q16 2 && Nat.beq q17 2 && Nat.beq q18 5 && Nat.beq q19 3 && Nat.beq q20 0 then iter (S_segment_Header_0 fuel) fuel (x0, x1, x2, x3, x4, x5, x6, x7, x8, x9) (E41_0 K) else none
    | _ => none)
  | none => none
theorem B41_0_ok (fuel : Nat) (st : Ev.St) (K : Ev.Ex → Ev.St → Option Ans) (r : Ans) (h : B41_0 fuel st K = some r) : evalCode tab (G41 fuel) (J41_0 fuel) kp41 fuel (.block 0 (.loop (bodyOf 0 Try.f41))) st K = some r := by
  unfold B41_0 at h
  split at h
  · rename_i s hs
    split at h
    · obtain ⟨hb, h⟩ := cond_some' h
      simp only [Bool.and_eq_true, Nat.beq_eq, decide_eq_true_eq] at hb
      obtain ⟨⟨⟨⟨⟨⟨⟨⟨⟨⟨⟨⟨⟨⟨⟨⟨⟨⟨⟨⟨rfl, rfl⟩, rfl⟩, rfl⟩, rfl⟩, rfl⟩, rfl⟩, rfl⟩, rfl⟩, rfl⟩, rfl⟩, rfl⟩, rfl⟩, rfl⟩, rfl⟩, rfl⟩, rfl⟩, rfl⟩, rfl⟩, rfl⟩, rfl⟩ := hb
      exact blk_loop (S := T41_0) (ks := E41_0) (step := S_segment_Header_0 fuel) (v := (_, _, _, _, _, _, _, _, _, _)) (by kernel_rfl) (by kernel_rfl) (fun R K v => by obtain ⟨x0, x1, x2, x3, x4, x5, x6, x7, x8, x9⟩ := v; exact S41_0_ok fuel R K x0 x1 x2 x3 x4 x5 x6 x7 x8 x9) hs h
    · cases h
  · cases h
def J41 (fuel : Nat) (i : Nat) : Option Ev.Blk := Ev.look i [(100002, B41_2 fuel), (100000, B41_0 fuel)]
def F_segment_Header (fuel : Nat) (x0 : Int) (x1 : Int) (x2 : Int) (x3 : (List Int)) (x4 : (List Bool)) (x5 : (List Int)) (k0 : (Int × (List Int)) → Option Ans) : Option Ans :=
  (F_segment_Valid fuel (x0) (x1) (x2) (x3) (x4) (x5)
    (fun y2 =>
      bif !y2 then
       k0 ((2 : Int), [])
      else
       (F_segment_Header_1_35f fuel (x0) ([])
         (fun y7 =>
           bif (↑x3.length : Int) == (0 : Int) then
            bif Decidable.decide ((y7.length + [Go.IntKind.u8.wrap x1].length) * (1 : Nat) ≤ (140737488355328 : Nat) ∧ y7.length + [Go.IntKind.u8.wrap x1].length ≤ (140737488355328 : Nat)) then
            (L_segment_Header_2 fuel (x4, (↑x4.length : Int), (0 : Int), x0, x1, x2, x3, x4, x5, [], y7 ++ [Go.IntKind.u8.wrap x1])
               (fun (b2_0, b2_1, b2_2, b2_3, b2_4, b2_5, b2_6, b2_7) =>
                 (F_bits_Pack fuel (b2_6)
                   (fun (y17_0, y17_1) =>
                     bif Decidable.decide ((b2_7.length + y17_1.length) * (1 : Nat) ≤ (140737488355328 : Nat) ∧ b2_7.length + y17_1.length ≤ (140737488355328 : Nat)) then
                     (F_segment_Header_1_35f fuel (b2_2) (b2_7 ++ y17_1)
                        (fun y22 =>
                          (F_segment_Header_1_35f fuel ((↑b2_5.length : Int)) (y22)
                            (fun y26 =>
                              k0 ((0 : Int), y26)))))
                     else none))))
            else none
           else
            bif Decidable.decide ((y7.length + [Go.IntKind.u8.wrap (Go.IntKind.i64.wrap (x1 + (16 : Int)))].length) * (1 : Nat) ≤ (140737488355328 : Nat) ∧ y7.length + [Go.IntKind.u8.wrap (Go.IntKind.i64.wrap (x1 + (16 : Int)))].length ≤ (140737488355328 : Nat)) then
            (F_segment_Header_1_35f fuel ((↑x3.length : Int)) (y7 ++ [Go.IntKind.u8.wrap (Go.IntKind.i64.wrap (x1 + (16 : Int)))])
               (fun y13 =>
                 (L_segment_Header_0 fuel (x3, (↑x3.length : Int), (0 : Int), x0, x1, x2, x3, x4, x5, y13)
                   (fun (b0_0, b0_1, b0_2, b0_3, b0_4, b0_5, b0_6) =>
                     (L_segment_Header_2 fuel (b0_4, (↑b0_4.length : Int), (0 : Int), b0_0, b0_1, b0_2, b0_3, b0_4, b0_5, [], b0_6)
                       (fun (b2_0, b2_1, b2_2, b2_3, b2_4, b2_5, b2_6, b2_7) =>
                         (F_bits_Pack fuel (b2_6)
                           (fun (y25_0, y25_1) =>
                             bif Decidable.decide ((b2_7.length + y25_1.length) * (1 : Nat) ≤ (140737488355328 : Nat) ∧ b2_7.length + y25_1.length ≤ (140737488355328 : Nat)) then
                             (F_segment_Header_1_35f fuel (b2_2) (b2_7 ++ y25_1)
                                (fun y30 =>
                                  (F_segment_Header_1_35f fuel ((↑b2_5.length : Int)) (y30)
                                    (fun y34 =>
                                      k0 ((0 : Int), y34)))))
                             else none))))))))
            else none))))
abbrev YF41 : Type := (Int) → (Int) → (Int) → ((List Int)) → ((List Bool)) → ((List Int)) → ((Int × (List Int)) → Option Ans) → Option Ans
theorem F41_eqg (fuel : Nat) (f43 : YF43) (f75_35f : YF75_35f) (f77 : YF77) (f78 : YF78) (x0 : Int) (x1 : Int) (x2 : Int) (x3 : (List Int)) (x4 : (List Bool)) (x5 : (List Int)) (k : Ev.Cont) : evalFn tab (Gg41 f43 f75_35f f77 f78) (J41 fuel) kp41 fuel Try.f41 [.agg [.int .i64 x0, .int .i64 x1, .int .i64 x2, .sl (.int .i64) x3, .sl .bool x4, .sl (.int .u8) x5]] [] k = (fun  (k0 : (Int × (List Int)) → Option Ans) =>
  (f43 (x0) (x1) (x2) (x3) (x4) (x5)
    (fun y2 =>
      bif !y2 then
       k0 ((2 : Int), [])
      else
       (f75_35f (x0) ([])
         (fun y7 =>
           bif (↑x3.length : Int) == (0 : Int) then
            bif Decidable.decide ((y7.length + [Go.IntKind.u8.wrap x1].length) * (1 : Nat) ≤ (140737488355328 : Nat) ∧ y7.length + [Go.IntKind.u8.wrap x1].length ≤ (140737488355328 : Nat)) then
            (L_segment_Header_2 fuel (x4, (↑x4.length : Int), (0 : Int), x0, x1, x2, x3, x4, x5, [], y7 ++ [Go.IntKind.u8.wrap x1])
               (fun (b2_0, b2_1, b2_2, b2_3, b2_4, b2_5, b2_6, b2_7) =>
                 (f78 (b2_6)
                   (fun (y17_0, y17_1) =>
                     bif Decidable.decide ((b2_7.length + y17_1.length) * (1 : Nat) ≤ (140737488355328 : Nat) ∧ b2_7.length + y17_1.length ≤ (140737488355328 : Nat)) then
                     (f75_35f (b2_2) (b2_7 ++ y17_1)
                        (fun y22 =>
                          (f75_35f ((↑b2_5.length : Int)) (y22)
                            (fun y26 =>
                              k0 ((0 : Int), y26)))))
                     else none))))
            else none
           else
            bif Decidable.decide ((y7.length + [Go.IntKind.u8.wrap (Go.IntKind.i64.wrap (x1 + (16 : Int)))].length) * (1 : Nat) ≤ (140737488355328 : Nat) ∧ y7.length + [Go.IntKind.u8.wrap (Go.IntKind.i64.wrap (x1 + (16 : Int)))].length ≤ (140737488355328 : Nat)) then
            (f75_35f ((↑x3.length : Int)) (y7 ++ [Go.IntKind.u8.wrap (Go.IntKind.i64.wrap (x1 + (16 : Int)))])
               (fun y13 =>
                 (L_segment_Header_0 fuel (x3, (↑x3.length : Int), (0 : Int), x0, x1, x2, x3, x4, x5, y13)
                   (fun (b0_0, b0_1, b0_2, b0_3, b0_4, b0_5, b0_6) =>
                     (L_segment_Header_2 fuel (b0_4, (↑b0_4.length : Int), (0 : Int), b0_0, b0_1, b0_2, b0_3, b0_4, b0_5, [], b0_6)
                       (fun (b2_0, b2_1, b2_2, b2_3, b2_4, b2_5, b2_6, b2_7) =>
                         (f78 (b2_6)
                           (fun (y25_0, y25_1) =>
                             bif Decidable.decide ((b2_7.length + y25_1.length) * (1 : Nat) ≤ (140737488355328 : Nat) ∧ b2_7.length + y25_1.length ≤ (140737488355328 : Nat)) then
                             (f75_35f (b2_2) (b2_7 ++ y25_1)
                                (fun y30 =>
                                  (f75_35f ((↑b2_5.length : Int)) (y30)
                                    (fun y34 =>
                                      k0 ((0 : Int), y34)))))
                             else none))))))))
            else none))))) (fun r => match r with | (r0, r1) => k (.tup [(false, [.own 0]), (false, [.int .i64 r0])], [.vec 5 (.int .u8) r1 true])) := by
  kernel_rfl
theorem F41_eq (fuel : Nat) (x0 : Int) (x1 : Int) (x2 : Int) (x3 : (List Int)) (x4 : (List Bool)) (x5 : (List Int)) (k : Ev.Cont) : evalFn tab (G41 fuel) (J41 fuel) kp41 fuel Try.f41 [.agg [.int .i64 x0, .int .i64 x1, .int .i64 x2, .sl (.int .i64) x3, .sl .bool x4, .sl (.int .u8) x5]] [] k = F_segment_Header fuel x0 x1 x2 x3 x4 x5 (fun r => match r with | (r0, r1) => k (.tup [(false, [.own 0]), (false, [.int .i64 r0])], [.vec 5 (.int .u8) r1 true])) :=
  F41_eqg fuel (F_segment_Valid fuel) (F_segment_Header_1_35f fuel) (F_segment_flag fuel) (F_bits_Pack fuel) x0 x1 x2 x3 x4 x5 k
theorem hG41 (fuel : Nat) : GOK Try.prog (G41 fuel) :=
  gok_cons ⟨ok43 fuel, enters_of Try.func43 (by kernel_rfl) rfl⟩ <|
  gok_cons ⟨ok75_35f fuel, enters_of Try.func75 (by kernel_rfl) rfl⟩ <|
  gok_cons ⟨ok77 fuel, enters_of Try.func77 (by kernel_rfl) rfl⟩ <|
  gok_cons ⟨ok78 fuel, enters_of Try.func78 (by kernel_rfl) rfl⟩ <|
  gok_nil
theorem B41_2_blk (fuel : Nat) : BlkOK Try.prog Try.f41.ntmps (.block 2 (.loop (bodyOf 2 Try.f41))) (B41_2 fuel) :=
  blk_of (blk_of_code tab_ok (hG41 fuel) mixed (J := J41_2 fuel) (kp := kp41) (fuel := fuel) (by kernel_rfl) (fun q hq => by
    rw [(by kernel_rfl : obl (J41_2 fuel) (.block 2 (.loop (bodyOf 2 Try.f41))) = [])] at hq
    cases hq)) (B41_2_ok fuel)
theorem B41_0_blk (fuel : Nat) : BlkOK Try.prog Try.f41.ntmps (.block 0 (.loop (bodyOf 0 Try.f41))) (B41_0 fuel) :=
  blk_of (blk_of_code tab_ok (hG41 fuel) mixed (J := J41_0 fuel) (kp := kp41) (fuel := fuel) (by kernel_rfl) (fun q hq => by
    rw [(by kernel_rfl : obl (J41_0 fuel) (.block 0 (.loop (bodyOf 0 Try.f41))) = [])] at hq
    cases hq)) (B41_0_ok fuel)
theorem fok41 (fuel : Nat) : FnOK Try.prog 41 (evalFn tab (G41 fuel) (J41 fuel) kp41 fuel Try.f41) :=
  fn_ok tab_ok (hG41 fuel) mixed Try.func41 (c := (Try.f41.body).getD .skip) rfl (fun q hq => by
    rw [(by kernel_rfl : obl (J41 fuel) ((Try.f41.body).getD .skip) = [(.block 0 (.loop (bodyOf 0 Try.f41)), B41_0 fuel), (.block 2 (.loop (bodyOf 2 Try.f41)), B41_2 fuel)])] at hq
    simp only [List.mem_cons, List.not_mem_nil, or_false] at hq
    rcases hq with rfl | rfl
    · exact B41_0_blk fuel
    · exact B41_2_blk fuel)
def mt41 : List Ev.SV → List Ev.Ob → Bool := fun args objs => match args, objs with
  | [.agg [.int .i64 _, .int .i64 _, .int .i64 _, .sl (.int .i64) _, .sl .bool _, .sl (.int .u8) _]], [] => true
  | _, _ => false
def spg41 (F : YF41) : Ev.Spec := fun args objs k => match args, objs with
  | [.agg [.int .i64 x0, .int .i64 x1, .int .i64 x2, .sl (.int .i64) x3, .sl .bool x4, .sl (.int .u8) x5]], [] => bif true then F x0 x1 x2 x3 x4 x5 (fun r => match r with | (r0, r1) => k (.tup [(false, [.own 0]), (false, [.int .i64 r0])], [.vec 5 (.int .u8) r1 true])) else none
  | _, _ => none
def spec41 (fuel : Nat) : Ev.Spec := spg41 (F_segment_Header fuel)
theorem ok41 (fuel : Nat) : FnOK Try.prog 41 (spec41 fuel) := by
  intro args objs kk r h
  unfold spec41 spg41 at h
  split at h
  · obtain ⟨hb, h⟩ := cond_some' h
    simp only [Bool.and_eq_true, Nat.beq_eq, decide_eq_true_eq] at hb
    clear hb
    exact fok41 fuel _ _ kk r ((F41_eq fuel _ _ _ _ _ _ kk).trans h)
  · cases h
end Go.Proofs.Ytajidgilfkineaa

set_option linter.unusedVariables false
set_option linter.unusedSimpArgs false
set_option maxRecDepth 100000
namespace Go.Proofs.Ytajidgilfkineaa
open Go Ev
def kp40 (i : Nat) : Option (List Nat) := Ev.look i []
def Gg40 (f41 : YF41) (f45 : YF45) (f : Nat) : Option Ev.Spec := Ev.look f [(41, spg41 f41), (45, spg45 f45)]
def G40 (fuel : Nat) : Nat → Option Ev.Spec := Gg40 (F_segment_Header fuel) (F_ref02_SameBytes fuel)
def J40 (fuel : Nat) (i : Nat) : Option Ev.Blk := Ev.look i []
def F_law12_Awake (fuel : Nat)  (k0 : (Bool) → Option Ans) : Option Ans :=
  (F_segment_Header fuel ((3 : Int)) ((1 : Int)) ((1 : Int)) ([(0 : Int), (2 : Int)]) ([Bool.true, Bool.false, Bool.true]) ([])
    (fun (y2_0, y2_1) =>
      bif y2_0 == (0 : Int) then
       (F_ref02_SameBytes fuel (y2_1) ([(3 : Int), (17 : Int), (2 : Int), (3 : Int), (1 : Int), (160 : Int), (1 : Int), (0 : Int)])
         (fun y7 =>
           k0 y7))
      else
       k0 Bool.false))
abbrev YF40 : Type := ((Bool) → Option Ans) → Option Ans
theorem F40_eqg (fuel : Nat) (f41 : YF41) (f45 : YF45)  (k : Ev.Cont) : evalFn tab (Gg40 f41 f45) (J40 fuel) kp40 fuel Try.f40 [] [] k = (fun  (k0 : (Bool) → Option Ans) =>
  (f41 ((3 : Int)) ((1 : Int)) ((1 : Int)) ([(0 : Int), (2 : Int)]) ([Bool.true, Bool.false, Bool.true]) ([])
    (fun (y2_0, y2_1) =>
      bif y2_0 == (0 : Int) then
       (f45 (y2_1) ([(3 : Int), (17 : Int), (2 : Int), (3 : Int), (1 : Int), (160 : Int), (1 : Int), (0 : Int)])
         (fun y7 =>
           k0 y7))
      else
       k0 Bool.false))) (fun r => match r with | r0 => k (.c (.bool r0), [])) := by
  kernel_rfl
theorem F40_eq (fuel : Nat)  (k : Ev.Cont) : evalFn tab (G40 fuel) (J40 fuel) kp40 fuel Try.f40 [] [] k = F_law12_Awake fuel  (fun r => match r with | r0 => k (.c (.bool r0), [])) :=
  F40_eqg fuel (F_segment_Header fuel) (F_ref02_SameBytes fuel)  k
theorem hG40 (fuel : Nat) : GOK Try.prog (G40 fuel) :=
  gok_cons ⟨ok41 fuel, enters_of Try.func41 (by kernel_rfl) rfl⟩ <|
  gok_cons ⟨ok45 fuel, enters_of Try.func45 (by kernel_rfl) rfl⟩ <|
  gok_nil
theorem fok40 (fuel : Nat) : FnOK Try.prog 40 (evalFn tab (G40 fuel) (J40 fuel) kp40 fuel Try.f40) :=
  fn_ok tab_ok (hG40 fuel) mixed Try.func40 (c := (Try.f40.body).getD .skip) rfl (fun q hq => by
    rw [(by kernel_rfl : obl (J40 fuel) ((Try.f40.body).getD .skip) = [])] at hq
    cases hq)
def mt40 : List Ev.SV → List Ev.Ob → Bool := fun args objs => match args, objs with
  | [], [] => true
  | _, _ => false
def spg40 (F : YF40) : Ev.Spec := fun args objs k => match args, objs with
  | [], [] => bif true then F  (fun r => match r with | r0 => k (.c (.bool r0), [])) else none
  | _, _ => none
def spec40 (fuel : Nat) : Ev.Spec := spg40 (F_law12_Awake fuel)
theorem ok40 (fuel : Nat) : FnOK Try.prog 40 (spec40 fuel) := by
  intro args objs kk r h
  unfold spec40 spg40 at h
  split at h
  · obtain ⟨hb, h⟩ := cond_some' h
    simp only [Bool.and_eq_true, Nat.beq_eq, decide_eq_true_eq] at hb
    clear hb
    exact fok40 fuel _ _ kk r ((F40_eq fuel kk).trans h)
  · cases h
end Go.Proofs.Ytajidgilfkineaa

set_option linter.unusedVariables false
set_option linter.unusedSimpArgs false
set_option maxRecDepth 100000
namespace Go.Proofs.Ytajidgilfkineaa
open Go Ev
def kp39 (i : Nat) : Option (List Nat) := Ev.look i [(3, [0, 3, 6, 7, 8]), (100000, [0, 3]), (400000, [2])]
def Gg39 (f : Nat) : Option Ev.Spec := Ev.look f []
def G39 (fuel : Nat) : Nat → Option Ev.Spec := Gg39
def S_law12_large_0 (fuel : Nat) (v : (List (Int × (Int × (Int × ((List Int) × ((List Bool) × (List Int))))))) × Int × (List (Int × (Int × (Int × ((List Int) × ((List Bool) × (List Int))))))) × Int × Int) (c : ((List (Int × (Int × (Int × ((List Int) × ((List Bool) × (List Int))))))) × Int × (List (Int × (Int × (Int × ((List Int) × ((List Bool) × (List Int))))))) × Int × Int) → Option Ans) (B : ((List (Int × (Int × (Int × ((List Int) × ((List Bool) × (List Int))))))) × Int → Option Ans)) : Option Ans := match v, B with
  | (x0, x1, x2, x3, x4), b =>
   bif Decidable.decide (x4 < x3) then
      bif Decidable.decide ((0 : Int) ≤ x4 ∧ x4 < (↑x2.length : Int)) then
      c (x0, Go.IntKind.i64.wrap (x1 + Go.IntKind.i64.wrap ((↑(List.length (x2.getD x4.toNat ((0 : Int), (0 : Int), (0 : Int), [], [], [])).snd.snd.snd.snd.snd) : Int) + (↑(List.length (x2.getD x4.toNat ((0 : Int), (0 : Int), (0 : Int), [], [], [])).snd.snd.snd.fst) : Int))), x2, x3, Go.IntKind.i64.wrap (x4 + (1 : Int)))
      else none
     else
      b (x0, x1)
def L_law12_large_0 (fuel : Nat) (v : (List (Int × (Int × (Int × ((List Int) × ((List Bool) × (List Int))))))) × Int × (List (Int × (Int × (Int × ((List Int) × ((List Bool) × (List Int))))))) × Int × Int) (b : ((List (Int × (Int × (Int × ((List Int) × ((List Bool) × (List Int))))))) × Int → Option Ans)) : Option Ans := iter (S_law12_large_0 fuel) fuel v b
def J39_0 (fuel : Nat) (i : Nat) : Option Ev.Blk := Ev.look i []
def T39_0 (v : (List (Int × (Int × (Int × ((List Int) × ((List Bool) × (List Int))))))) × Int × (List (Int × (Int × (Int × ((List Int) × ((List Bool) × (List Int))))))) × Int × Int) : Ev.St := match v with | (x0, x1, x2, x3, x4) => ⟨[(0, .c (.sl (.pair (.int .i64) (.pair (.int .i64) (.pair (.int .i64) (.pair (.sl (.int .i64)) (.pair (.sl .bool) (.sl (.int .u8))))))) x0)), (3, .c (.int .i64 x1)), (6, .c (.sl (.pair (.int .i64) (.pair (.int .i64) (.pair (.int .i64) (.pair (.sl (.int .i64)) (.pair (.sl .bool) (.sl (.int .u8))))))) x2)), (7, .c (.int .i64 x3)), (8, .c (.int .i64 x4))], [], 0, 0⟩
def E39_0 (K : Ev.Ex → Ev.St → Option Ans) : ((List (Int × (Int × (Int × ((List Int) × ((List Bool) × (List Int))))))) × Int → Option Ans) := (fun v => match v with | (x0, x1) => K .normal ⟨[(0, .c (.sl (.pair (.int .i64) (.pair (.int .i64) (.pair (.int .i64) (.pair (.sl (.int .i64)) (.pair (.sl .bool) (.sl (.int .u8))))))) x0)), (3, .c (.int .i64 x1))], [], 0, 0⟩)
theorem S39_0_ok (fuel : Nat) (R : Ev.St → Option Ans) (K : Ev.Ex → Ev.St → Option Ans) (x0 : (List (Int × (Int × (Int × ((List Int) × ((List Bool) × (List Int)))))))) (x1 : Int) (x2 : (List (Int × (Int × (Int × ((List Int) × ((List Bool) × (List Int)))))))) (x3 : Int) (x4 : Int) : evalCode tab (G39 fuel) (J39_0 fuel) kp39 fuel (bodyOf 0 Try.f39) (T39_0 (x0, x1, x2, x3, x4)) (lc kp39 3 0 R K) = S_law12_large_0 fuel (x0, x1, x2, x3, x4) (fun v => R (T39_0 v)) (E39_0 K) := by
  kernel_rfl
def B39_0 (fuel : Nat) : Ev.Blk := fun st K => match canonO (kp39 3) st with
  | some s => (match s with
    | ⟨[(q0, .c (.sl (.pair (.int .i64) (.pair (.int .i64) (.pair (.int .i64) (.pair (.sl (.int .i64)) (.pair (.sl .bool) (.sl (.int .u8))))))) x0)), (q1, .c (.int .i64 x1)), (q2, .c (.sl (.pair (.int .i64) (.pair (.int .i64) (.pair (.int .i64) (.pair (.sl (.int .i64)) (.pair (.sl .bool) (.sl (.int .u8))))))) x2)), (q3, .c (.int .i64 x3)), (q4, .c (.int .i64 x4))], [], q5, q6⟩ => bif Nat.beq q0 0 && Nat.beq q1 3 && Nat.beq q2 6 && Nat.beq q3 7 && Nat.beq q4 8 && Nat.beq q5 0 && Nat.beq q6 0 then iter (S_law12_large_0 fuel) fuel (x0, x1, x2, x3, x4) (E39_0 K) else none
    | _ => none)
  | none => none
theorem B39_0_ok (fuel : Nat) (st : Ev.St) (K : Ev.Ex → Ev.St → Option Ans) (r : Ans) (h : B39_0 fuel st K = some r) : evalCode tab (G39 fuel) (J39_0 fuel) kp39 fuel (.block 0 (.loop (bodyOf 0 Try.f39))) st K = some r := by
  unfold B39_0 at h
  split at h
  · rename_i s hs
    split at h
    · obtain ⟨hb, h⟩ := cond_some' h
      simp only [Bool.and_eq_true, Nat.beq_eq, decide_eq_true_eq] at hb
      obtain ⟨⟨⟨⟨⟨⟨rfl, rfl⟩, rfl⟩, rfl⟩, rfl⟩, rfl⟩, rfl⟩ := hb
      exact blk_loop (S := T39_0) (ks := E39_0) (step := S_law12_large_0 fuel) (v := (_, _, _, _, _)) (by kernel_rfl) (by kernel_rfl) (fun R K v => by obtain ⟨x0, x1, x2, x3, x4⟩ := v; exact S39_0_ok fuel R K x0 x1 x2 x3 x4) hs h
    · cases h
  · cases h
def J39 (fuel : Nat) (i : Nat) : Option Ev.Blk := Ev.look i [(100000, B39_0 fuel)]
def F_law12_large (fuel : Nat) (x0 : (List (Int × Int × Int × (List Int) × (List Bool) × (List Int)))) (k0 : (Bool) → Option Ans) : Option Ans :=
  (L_law12_large_0 fuel (x0, (0 : Int), x0, (↑x0.length : Int), (0 : Int))
    (fun (b0_0, b0_1) =>
      bif Decidable.decide ((↑b0_0.length : Int) > (300 : Int)) then
       k0 Bool.true
      else
       k0 (Decidable.decide (b0_1 > (200000 : Int)))))
abbrev YF39 : Type := ((List (Int × Int × Int × (List Int) × (List Bool) × (List Int)))) → ((Bool) → Option Ans) → Option Ans
theorem F39_eq (fuel : Nat) (x0 : (List (Int × Int × Int × (List Int) × (List Bool) × (List Int)))) (k : Ev.Cont) : evalFn tab (G39 fuel) (J39 fuel) kp39 fuel Try.f39 [.c (.sl (.pair (.int .i64) (.pair (.int .i64) (.pair (.int .i64) (.pair (.sl (.int .i64)) (.pair (.sl .bool) (.sl (.int .u8))))))) x0)] [] k = F_law12_large fuel x0 (fun r => match r with | r0 => k (.c (.bool r0), [])) := by
  kernel_rfl
theorem hG39 (fuel : Nat) : GOK Try.prog (G39 fuel) :=
  gok_nil
theorem B39_0_blk (fuel : Nat) : BlkOK Try.prog Try.f39.ntmps (.block 0 (.loop (bodyOf 0 Try.f39))) (B39_0 fuel) :=
  blk_of (blk_of_code tab_ok (hG39 fuel) mixed (J := J39_0 fuel) (kp := kp39) (fuel := fuel) (by kernel_rfl) (fun q hq => by
    rw [(by kernel_rfl : obl (J39_0 fuel) (.block 0 (.loop (bodyOf 0 Try.f39))) = [])] at hq
    cases hq)) (B39_0_ok fuel)
theorem fok39 (fuel : Nat) : FnOK Try.prog 39 (evalFn tab (G39 fuel) (J39 fuel) kp39 fuel Try.f39) :=
  fn_ok tab_ok (hG39 fuel) mixed Try.func39 (c := (Try.f39.body).getD .skip) rfl (fun q hq => by
    rw [(by kernel_rfl : obl (J39 fuel) ((Try.f39.body).getD .skip) = [(.block 0 (.loop (bodyOf 0 Try.f39)), B39_0 fuel)])] at hq
    simp only [List.mem_cons, List.not_mem_nil, or_false] at hq
    subst hq
    · exact B39_0_blk fuel)
def mt39 : List Ev.SV → List Ev.Ob → Bool := fun args objs => match args, objs with
  | [.c (.sl (.pair (.int .i64) (.pair (.int .i64) (.pair (.int .i64) (.pair (.sl (.int .i64)) (.pair (.sl .bool) (.sl (.int .u8))))))) _)], [] => true
  | _, _ => false
def spg39 (F : YF39) : Ev.Spec := fun args objs k => match args, objs with
  | [.c (.sl (.pair (.int .i64) (.pair (.int .i64) (.pair (.int .i64) (.pair (.sl (.int .i64)) (.pair (.sl .bool) (.sl (.int .u8))))))) x0)], [] => bif true then F x0 (fun r => match r with | r0 => k (.c (.bool r0), [])) else none
  | _, _ => none
def spec39 (fuel : Nat) : Ev.Spec := spg39 (F_law12_large fuel)
theorem ok39 (fuel : Nat) : FnOK Try.prog 39 (spec39 fuel) := by
  intro args objs kk r h
  unfold spec39 spg39 at h
  split at h
  · obtain ⟨hb, h⟩ := cond_some' h
    simp only [Bool.and_eq_true, Nat.beq_eq, decide_eq_true_eq] at hb
    clear hb
    exact fok39 fuel _ _ kk r ((F39_eq fuel _ kk).trans h)
  · cases h
end Go.Proofs.Ytajidgilfkineaa

set_option linter.unusedVariables false
set_option linter.unusedSimpArgs false
set_option maxRecDepth 100000
namespace Go.Proofs.Ytajidgilfkineaa
open Go Ev
def kp44 (i : Nat) : Option (List Nat) := Ev.look i [(7, [1, 3, 55, 56, 57]), (100000, []), (400000, [2])]
def Gg44 (f : Nat) : Option Ev.Spec := Ev.look f []
def G44 (fuel : Nat) : Nat → Option Ev.Spec := Gg44
def S_ref12_Valid_0 (fuel : Nat) (v : Int × (List Int) × Int × Int × Int × Int × Int × (List Int) × (List Bool) × (List Int)) (c : (Int × (List Int) × Int × Int × Int × Int × Int × (List Int) × (List Bool) × (List Int)) → Option Ans) (B : (Bool → Option Ans) × (Unit → Option Ans)) : Option Ans := match v, B with
  | (x0, x1, x2, x3, x4, x5, x6, x7, x8, x9), (ret, b) =>
   bif Decidable.decide (x3 < x2) then
      bif Decidable.decide ((0 : Int) ≤ x3 ∧ x3 < (↑x1.length : Int)) then
      bif Decidable.decide (x1.getD x3.toNat (0 : Int) ≤ x0) then
        ret Bool.false
       else
        bif Decidable.decide (x1.getD x3.toNat (0 : Int) ≥ x4) then
         ret Bool.false
        else
         c (x1.getD x3.toNat (0 : Int), x1, x2, Go.IntKind.i64.wrap (x3 + (1 : Int)), x4, x5, x6, x7, x8, x9)
      else none
     else
      b ()
def L_ref12_Valid_0 (fuel : Nat) (v : Int × (List Int) × Int × Int × Int × Int × Int × (List Int) × (List Bool) × (List Int)) (ret : (Bool → Option Ans)) (b : (Unit → Option Ans)) : Option Ans := iter (S_ref12_Valid_0 fuel) fuel v (ret, b)
def J44_0 (fuel : Nat) (i : Nat) : Option Ev.Blk := Ev.look i []
def T44_0 (v : Int × (List Int) × Int × Int × Int × Int × Int × (List Int) × (List Bool) × (List Int)) : Ev.St := match v with | (x0, x1, x2, x3, x4, x5, x6, x7, x8, x9) => ⟨[(1, .c (.ptr 0 0)), (3, .c (.int .i64 x0)), (55, .c (.sl (.int .i64) x1)), (56, .c (.int .i64 x2)), (57, .c (.int .i64 x3))], [(0, .cells 63 [.int .i64 x4, .int .i64 x5, .int .i64 x6, .sl (.int .i64) x7, .sl .bool x8, .sl (.int .u8) x9])], 1, 0⟩
def E44_0 (K : Ev.Ex → Ev.St → Option Ans) : (Bool → Option Ans) × (Unit → Option Ans) := ((fun v => match v with | x0 => K .ret ⟨[(2, .c (.bool x0))], [], 0, 0⟩), (fun v => match v with | () => K .normal ⟨[], [], 0, 0⟩))
theorem S44_0_ok (fuel : Nat) (R : Ev.St → Option Ans) (K : Ev.Ex → Ev.St → Option Ans) (x0 : Int) (x1 : (List Int)) (x2 : Int) (x3 : Int) (x4 : Int) (x5 : Int) (x6 : Int) (x7 : (List Int)) (x8 : (List Bool)) (x9 : (List Int)) : evalCode tab (G44 fuel) (J44_0 fuel) kp44 fuel (bodyOf 0 Try.f44) (T44_0 (x0, x1, x2, x3, x4, x5, x6, x7, x8, x9)) (lc kp44 7 0 R K) = S_ref12_Valid_0 fuel (x0, x1, x2, x3, x4, x5, x6, x7, x8, x9) (fun v => R (T44_0 v)) (E44_0 K) := by
  kernel_rfl
def B44_0 (fuel : Nat) : Ev.Blk := fun st K => match canonO (kp44 7) st with
  | some s => (match s with
    | ⟨[(q0, .c (.ptr q1 q2)), (q3, .c (.int .i64 x0)), (q4, .c (.sl (.int .i64) x1)), (q5, .c (.int .i64 x2)), (q6, .c (.int .i64 x3))], [(q7, .cells q8 [.int .i64 x4, .int .i64 x5, .int .i64 x6, .sl (.int .i64) x7, .sl .bool x8, .sl (.int .u8) x9])], q9, q10⟩ => bif Nat.beq q0 1 && Nat.beq q1 0 && Nat.beq q2 0 && Nat.beq q3 3 && Nat.beq q4 55 && Nat.beq q5 56 && Nat.beq q6 57 && Nat.beq q7 0 && Nat.beq q8 63 && Nat.beq q9 1 && Nat.beq q10 0 then iter (S_ref12_Valid_0 fuel) fuel (x0, x1, x2, x3, x4, x5, x6, x7, x8, x9) (E44_0 K) else none
    | _ => none)
  | none => none
theorem B44_0_ok (fuel : Nat) (st : Ev.St) (K : Ev.Ex → Ev.St → Option Ans) (r : Ans) (h : B44_0 fuel st K = some r) : evalCode tab (G44 fuel) (J44_0 fuel) kp44 fuel (.block 0 (.loop (bodyOf 0 Try.f44))) st K = some r := by
  unfold B44_0 at h
  split at h
  · rename_i s hs
    split at h
    · obtain ⟨hb, h⟩ := cond_some' h
      simp only [Bool.and_eq_true, Nat.beq_eq, decide_eq_true_eq] at hb
      obtain ⟨⟨⟨⟨⟨⟨⟨⟨⟨⟨rfl, rfl⟩, rfl⟩, rfl⟩, rfl⟩, rfl⟩, rfl⟩, rfl⟩, rfl⟩, rfl⟩, rfl⟩ := hb
      exact blk_loop (S := T44_0) (ks := E44_0) (step := S_ref12_Valid_0 fuel) (v := (_, _, _, _, _, _, _, _, _, _)) (by kernel_rfl) (by kernel_rfl) (fun R K v => by obtain ⟨x0, x1, x2, x3, x4, x5, x6, x7, x8, x9⟩ := v; exact S44_0_ok fuel R K x0 x1 x2 x3 x4 x5 x6 x7 x8 x9) hs h
    · cases h
  · cases h
def J44 (fuel : Nat) (i : Nat) : Option Ev.Blk := Ev.look i [(100000, B44_0 fuel)]
def F_ref12_Valid (fuel : Nat) (x0 : Int) (x1 : Int) (x2 : Int) (x3 : (List Int)) (x4 : (List Bool)) (x5 : (List Int)) (k0 : (Bool) → Option Ans) : Option Ans :=
  bif Decidable.decide (x0 < (0 : Int)) then
   k0 Bool.false
  else
   bif Decidable.decide (x0 > (10000 : Int)) then
    k0 Bool.false
   else
    bif Decidable.decide (x1 < (0 : Int)) then
     k0 Bool.false
    else
     bif Decidable.decide (x1 > (15 : Int)) then
      k0 Bool.false
     else
      bif Decidable.decide (x2 < (0 : Int)) then
       k0 Bool.false
      else
       bif Decidable.decide (x2 > (1000 : Int)) then
        k0 Bool.false
       else
        bif Decidable.decide ((↑x3.length : Int) > (20 : Int)) then
         k0 Bool.false
        else
         bif (↑x4.length : Int) != Go.IntKind.i64.wrap ((↑x3.length : Int) + (1 : Int)) then
          k0 Bool.false
         else
          bif Decidable.decide ((↑x5.length : Int) > (20000 : Int)) then
           k0 Bool.false
          else
           (L_ref12_Valid_0 fuel ((-1 : Int), x3, (↑x3.length : Int), (0 : Int), x0, x1, x2, x3, x4, x5)
             (fun ret0_0 =>
               k0 ret0_0)
             (fun () =>
               k0 Bool.true))
abbrev YF44 : Type := (Int) → (Int) → (Int) → ((List Int)) → ((List Bool)) → ((List Int)) → ((Bool) → Option Ans) → Option Ans
theorem F44_eq (fuel : Nat) (x0 : Int) (x1 : Int) (x2 : Int) (x3 : (List Int)) (x4 : (List Bool)) (x5 : (List Int)) (k : Ev.Cont) : evalFn tab (G44 fuel) (J44 fuel) kp44 fuel Try.f44 [.agg [.int .i64 x0, .int .i64 x1, .int .i64 x2, .sl (.int .i64) x3, .sl .bool x4, .sl (.int .u8) x5]] [] k = F_ref12_Valid fuel x0 x1 x2 x3 x4 x5 (fun r => match r with | r0 => k (.c (.bool r0), [])) := by
  kernel_rfl
theorem hG44 (fuel : Nat) : GOK Try.prog (G44 fuel) :=
  gok_nil
theorem B44_0_blk (fuel : Nat) : BlkOK Try.prog Try.f44.ntmps (.block 0 (.loop (bodyOf 0 Try.f44))) (B44_0 fuel) :=
  blk_of (blk_of_code tab_ok (hG44 fuel) mixed (J := J44_0 fuel) (kp := kp44) (fuel := fuel) (by kernel_rfl) (fun q hq => by
    rw [(by kernel_rfl : obl (J44_0 fuel) (.block 0 (.loop (bodyOf 0 Try.f44))) = [])] at hq
    cases hq)) (B44_0_ok fuel)
theorem fok44 (fuel : Nat) : FnOK Try.prog 44 (evalFn tab (G44 fuel) (J44 fuel) kp44 fuel Try.f44) :=
  fn_ok tab_ok (hG44 fuel) mixed Try.func44 (c := (Try.f44.body).getD .skip) rfl (fun q hq => by
    rw [(by kernel_rfl : obl (J44 fuel) ((Try.f44.body).getD .skip) = [(.block 0 (.loop (bodyOf 0 Try.f44)), B44_0 fuel)])] at hq
    simp only [List.mem_cons, List.not_mem_nil, or_false] at hq
    subst hq
    · exact B44_0_blk fuel)
def mt44 : List Ev.SV → List Ev.Ob → Bool := fun args objs => match args, objs with
  | [.agg [.int .i64 _, .int .i64 _, .int .i64 _, .sl (.int .i64) _, .sl .bool _, .sl (.int .u8) _]], [] => true
  | _, _ => false
def spg44 (F : YF44) : Ev.Spec := fun args objs k => match args, objs with
  | [.agg [.int .i64 x0, .int .i64 x1, .int .i64 x2, .sl (.int .i64) x3, .sl .bool x4, .sl (.int .u8) x5]], [] => bif true then F x0 x1 x2 x3 x4 x5 (fun r => match r with | r0 => k (.c (.bool r0), [])) else none
  | _, _ => none
def spec44 (fuel : Nat) : Ev.Spec := spg44 (F_ref12_Valid fuel)
theorem ok44 (fuel : Nat) : FnOK Try.prog 44 (spec44 fuel) := by
  intro args objs kk r h
  unfold spec44 spg44 at h
  split at h
  · obtain ⟨hb, h⟩ := cond_some' h
    simp only [Bool.and_eq_true, Nat.beq_eq, decide_eq_true_eq] at hb
    clear hb
    exact fok44 fuel _ _ kk r ((F44_eq fuel _ _ _ _ _ _ kk).trans h)
  · cases h
end Go.Proofs.Ytajidgilfkineaa

set_option linter.unusedVariables false
set_option linter.unusedSimpArgs false
set_option maxRecDepth 100000
namespace Go.Proofs.Ytajidgilfkineaa
open Go Ev
def kp117 (i : Nat) : Option (List Nat) := Ev.look i [(2, [1, 7, 8, 9]), (100000, []), (400000, [4])]
def Gg117 (f : Nat) : Option Ev.Spec := Ev.look f []
def G117 (fuel : Nat) : Nat → Option Ev.Spec := Gg117
def S_ref12_find_0 (fuel : Nat) (v : Int × (List (Int × (Int × (Int × ((List Int) × ((List Bool) × (List Int))))))) × Int × Int) (c : (Int × (List (Int × (Int × (Int × ((List Int) × ((List Bool) × (List Int))))))) × Int × Int) → Option Ans) (B : (Int → Option Ans) × (Unit → Option Ans)) : Option Ans := match v, B with
  | (x0, x1, x2, x3), (ret, b) =>
   bif Decidable.decide (x3 < x2) then
      bif Decidable.decide ((0 : Int) ≤ x3 ∧ x3 < (↑x1.length : Int)) then
      bif (x1.getD x3.toNat ((0 : Int), (0 : Int), (0 : Int), [], [], [])).fst == x0 then
        ret x3
       else
        c (x0, x1, x2, Go.IntKind.i64.wrap (x3 + (1 : Int)))
      else none
     else
      b ()
def L_ref12_find_0 (fuel : Nat) (v : Int × (List (Int × (Int × (Int × ((List Int) × ((List Bool) × (List Int))))))) × Int × Int) (ret : (Int → Option Ans)) (b : (Unit → Option Ans)) : Option Ans := iter (S_ref12_find_0 fuel) fuel v (ret, b)
def J117_0 (fuel : Nat) (i : Nat) : Option Ev.Blk := Ev.look i []
def T117_0 (v : Int × (List (Int × (Int × (Int × ((List Int) × ((List Bool) × (List Int))))))) × Int × Int) : Ev.St := match v with | (x0, x1, x2, x3) => ⟨[(1, .c (.int .i64 x0)), (7, .c (.sl (.pair (.int .i64) (.pair (.int .i64) (.pair (.int .i64) (.pair (.sl (.int .i64)) (.pair (.sl .bool) (.sl (.int .u8))))))) x1)), (8, .c (.int .i64 x2)), (9, .c (.int .i64 x3))], [], 0, 0⟩
def E117_0 (K : Ev.Ex → Ev.St → Option Ans) : (Int → Option Ans) × (Unit → Option Ans) := ((fun v => match v with | x0 => K .ret ⟨[(4, .c (.int .i64 x0))], [], 0, 0⟩), (fun v => match v with | () => K .normal ⟨[], [], 0, 0⟩))
theorem S117_0_ok (fuel : Nat) (R : Ev.St → Option Ans) (K : Ev.Ex → Ev.St → Option Ans) (x0 : Int) (x1 : (List (Int × (Int × (Int × ((List Int) × ((List Bool) × (List Int)))))))) (x2 : Int) (x3 : Int) : evalCode tab (G117 fuel) (J117_0 fuel) kp117 fuel (bodyOf 0 Try.f117) (T117_0 (x0, x1, x2, x3)) (lc kp117 2 0 R K) = S_ref12_find_0 fuel (x0, x1, x2, x3) (fun v => R (T117_0 v)) (E117_0 K) := by
  kernel_rfl
def B117_0 (fuel : Nat) : Ev.Blk := fun st K => match canonO (kp117 2) st with
  | some s => (match s with
    | ⟨[(q0, .c (.int .i64 x0)), (q1, .c (.sl (.pair (.int .i64) (.pair (.int .i64) (.pair (.int .i64) (.pair (.sl (.int .i64)) (.pair (.sl .bool) (.sl (.int .u8))))))) x1)), (q2, .c (.int .i64 x2)), (q3, .c (.int .i64 x3))], [], q4, q5⟩ => bif Nat.beq q0 1 && Nat.beq q1 7 && Nat.beq q2 8 && Nat.beq q3 9 && Nat.beq q4 0 && Nat.beq q5 0 then iter (S_ref12_find_0 fuel) fuel (x0, x1, x2, x3) (E117_0 K) else none
    | _ => none)
  | none => none
theorem B117_0_ok (fuel : Nat) (st : Ev.St) (K : Ev.Ex → Ev.St → Option Ans) (r : Ans) (h : B117_0 fuel st K = some r) : evalCode tab (G117 fuel) (J117_0 fuel) kp117 fuel (.block 0 (.loop (bodyOf 0 Try.f117))) st K = some r := by
  unfold B117_0 at h
  split at h
  · rename_i s hs
    split at h
    · obtain ⟨hb, h⟩ := cond_some' h
      simp only [Bool.and_eq_true, Nat.beq_eq, decide_eq_true_eq] at hb
      obtain ⟨⟨⟨⟨⟨rfl, rfl⟩, rfl⟩, rfl⟩, rfl⟩, rfl⟩ := hb
      exact blk_loop (S := T117_0) (ks := E117_0) (step := S_ref12_find_0 fuel) (v := (_, _, _, _)) (by kernel_rfl) (by kernel_rfl) (fun R K v => by obtain ⟨x0, x1, x2, x3⟩ := v; exact S117_0_ok fuel R K x0 x1 x2 x3) hs h
    · cases h
  · cases h
def J117 (fuel : Nat) (i : Nat) : Option Ev.Blk := Ev.look i [(100000, B117_0 fuel)]
def F_ref12_find (fuel : Nat) (x0 : (List (Int × Int × Int × (List Int) × (List Bool) × (List Int)))) (x1 : Int) (k0 : (Int) → Option Ans) : Option Ans :=
  (L_ref12_find_0 fuel (x1, x0, (↑x0.length : Int), (0 : Int))
    (fun ret0_0 =>
      k0 ret0_0)
    (fun () =>
      k0 ((-1 : Int))))
abbrev YF117 : Type := ((List (Int × Int × Int × (List Int) × (List Bool) × (List Int)))) → (Int) → ((Int) → Option Ans) → Option Ans
theorem F117_eq (fuel : Nat) (x0 : (List (Int × Int × Int × (List Int) × (List Bool) × (List Int)))) (x1 : Int) (k : Ev.Cont) : evalFn tab (G117 fuel) (J117 fuel) kp117 fuel Try.f117 [.c (.sl (.pair (.int .i64) (.pair (.int .i64) (.pair (.int .i64) (.pair (.sl (.int .i64)) (.pair (.sl .bool) (.sl (.int .u8))))))) x0), .c (.int .i64 x1)] [] k = F_ref12_find fuel x0 x1 (fun r => match r with | r0 => k (.c (.int .i64 r0), [])) := by
  kernel_rfl
theorem hG117 (fuel : Nat) : GOK Try.prog (G117 fuel) :=
  gok_nil
theorem B117_0_blk (fuel : Nat) : BlkOK Try.prog Try.f117.ntmps (.block 0 (.loop (bodyOf 0 Try.f117))) (B117_0 fuel) :=
  blk_of (blk_of_code tab_ok (hG117 fuel) mixed (J := J117_0 fuel) (kp := kp117) (fuel := fuel) (by kernel_rfl) (fun q hq => by
    rw [(by kernel_rfl : obl (J117_0 fuel) (.block 0 (.loop (bodyOf 0 Try.f117))) = [])] at hq
    cases hq)) (B117_0_ok fuel)
theorem fok117 (fuel : Nat) : FnOK Try.prog 117 (evalFn tab (G117 fuel) (J117 fuel) kp117 fuel Try.f117) :=
  fn_ok tab_ok (hG117 fuel) mixed Try.func117 (c := (Try.f117.body).getD .skip) rfl (fun q hq => by
    rw [(by kernel_rfl : obl (J117 fuel) ((Try.f117.body).getD .skip) = [(.block 0 (.loop (bodyOf 0 Try.f117)), B117_0 fuel)])] at hq
    simp only [List.mem_cons, List.not_mem_nil, or_false] at hq
    subst hq
    · exact B117_0_blk fuel)
def mt117 : List Ev.SV → List Ev.Ob → Bool := fun args objs => match args, objs with
  | [.c (.sl (.pair (.int .i64) (.pair (.int .i64) (.pair (.int .i64) (.pair (.sl (.int .i64)) (.pair (.sl .bool) (.sl (.int .u8))))))) _), .c (.int .i64 _)], [] => true
  | _, _ => false
def spg117 (F : YF117) : Ev.Spec := fun args objs k => match args, objs with
  | [.c (.sl (.pair (.int .i64) (.pair (.int .i64) (.pair (.int .i64) (.pair (.sl (.int .i64)) (.pair (.sl .bool) (.sl (.int .u8))))))) x0), .c (.int .i64 x1)], [] => bif true then F x0 x1 (fun r => match r with | r0 => k (.c (.int .i64 r0), [])) else none
  | _, _ => none
def spec117 (fuel : Nat) : Ev.Spec := spg117 (F_ref12_find fuel)
theorem ok117 (fuel : Nat) : FnOK Try.prog 117 (spec117 fuel) := by
  intro args objs kk r h
  unfold spec117 spg117 at h
  split at h
  · obtain ⟨hb, h⟩ := cond_some' h
    simp only [Bool.and_eq_true, Nat.beq_eq, decide_eq_true_eq] at hb
    clear hb
    exact fok117 fuel _ _ kk r ((F117_eq fuel _ _ kk).trans h)
  · cases h
end Go.Proofs.Ytajidgilfkineaa

set_option linter.unusedVariables false
set_option linter.unusedSimpArgs false
set_option maxRecDepth 100000
namespace Go.Proofs.Ytajidgilfkineaa
open Go Ev
def kp85 (i : Nat) : Option (List Nat) := Ev.look i [(3, [0, 4, 13, 14, 15]), (8, [0, 4, 5, 6, 13, 14, 15, 40, 41, 42]), (100000, [4]), (100002, [0, 4, 5, 6, 13, 14, 15]), (200005, [6]), (200011, [6]), (400000, [2, 3]), (400002, [2, 3])]
def Gg85 (f44 : YF44) (f117 : YF117) (f : Nat) : Option Ev.Spec := Ev.look f [(44, spg44 f44), (117, spg117 f117)]
def G85 (fuel : Nat) : Nat → Option Ev.Spec := Gg85 (F_ref12_Valid fuel) (F_ref12_find fuel)
def S_ref12_kept_2 (fuel : Nat) (v : (List (Int × (Int × (Int × ((List Int) × ((List Bool) × (List Int))))))) × Int × (List (Int × (Int × (Int × ((List Int) × ((List Bool) × (List Int))))))) × Int × Int × (List Int) × Int × Int × (List Bool) × Int × Int × Int × (List Int) × (List Bool) × (List Int)) (c : ((List (Int × (Int × (Int × ((List Int) × ((List Bool) × (List Int))))))) × Int × (List (Int × (Int × (Int × ((List Int) × ((List Bool) × (List Int))))))) × Int × Int × (List Int) × Int × Int × (List Bool) × Int × Int × Int × (List Int) × (List Bool) × (List Int)) → Option Ans) (B : (Int × (List Bool) → Option Ans) × ((List (Int × (Int × (Int × ((List Int) × ((List Bool) × (List Int))))))) × Int × (List (Int × (Int × (Int × ((List Int) × ((List Bool) × (List Int))))))) × Int × Int × (List Bool) × Int × Int × Int × (List Int) × (List Bool) × (List Int) → Option Ans)) : Option Ans := match v, B with
  | (x0, x1, x2, x3, x4, x5, x6, x7, x8, x9, x10, x11, x12, x13, x14), (ret, b) =>
   bif Decidable.decide (x7 < x6) then
      bif Decidable.decide ((0 : Int) ≤ x7 ∧ x7 < (↑x5.length : Int)) then
      bif Decidable.decide ((0 : Int) ≤ Ev.loOf Option.none ∧ Ev.loOf Option.none ≤ Ev.hiOf (Option.some x1) (↑x0.length : Int) ∧ Ev.hiOf (Option.some x1) (↑x0.length : Int) ≤ (↑x0.length : Int)) then
       (F_ref12_find fuel (List.take (Ev.hiOf (Option.some x1) (↑x0.length : Int) - Ev.loOf Option.none).toNat (List.drop (Ev.loOf Option.none).toNat x0)) (x5.getD x7.toNat (0 : Int))
          (fun y5 =>
            bif Decidable.decide (y5 < (0 : Int)) then
             ret (x1, [])
            else
             bif Decidable.decide ((0 : Int) ≤ y5 ∧ y5 < (↑x8.length : Int)) then
             bif !x8.getD y5.toNat Bool.false then
               ret (x1, [])
              else
               bif Decidable.decide ((0 : Int) ≤ y5 ∧ y5 < (↑x0.length : Int)) then
               bif (x0.getD y5.toNat ((0 : Int), (0 : Int), (0 : Int), [], [], [])).snd.snd.fst != (0 : Int) then
                 bif Decidable.decide ((0 : Int) ≤ y5 ∧ y5 < (↑x0.length : Int)) then
                 bif (x0.getD y5.toNat ((0 : Int), (0 : Int), (0 : Int), [], [], [])).snd.snd.fst != x11 then
                   ret (x1, [])
                  else
                   bif Decidable.decide ((0 : Int) ≤ x7 ∧ x7 < (↑x13.length : Int)) then
                   bif Decidable.decide ((0 : Int) ≤ y5 ∧ y5 < (↑x8.length : Int)) then
                    c (x0, x1, x2, x3, x4, x5, x6, Go.IntKind.i64.wrap (x7 + (1 : Int)), x8.set y5.toNat (x13.getD x7.toNat Bool.false), x9, x10, x11, x12, x13, x14)
                    else none
                   else none
                 else none
                else
                 bif Decidable.decide ((0 : Int) ≤ x7 ∧ x7 < (↑x13.length : Int)) then
                 bif Decidable.decide ((0 : Int) ≤ y5 ∧ y5 < (↑x8.length : Int)) then
                  c (x0, x1, x2, x3, x4, x5, x6, Go.IntKind.i64.wrap (x7 + (1 : Int)), x8.set y5.toNat (x13.getD x7.toNat Bool.false), x9, x10, x11, x12, x13, x14)
                  else none
                 else none
               else none
             else none))
       else none
      else none
     else
      b (x0, x1, x2, x3, x4, x8, x9, x10, x11, x12, x13, x14)
def L_ref12_kept_2 (fuel : Nat) (v : (List (Int × (Int × (Int × ((List Int) × ((List Bool) × (List Int))))))) × Int × (List (Int × (Int × (Int × ((List Int) × ((List Bool) × (List Int))))))) × Int × Int × (List Int) × Int × Int × (List Bool) × Int × Int × Int × (List Int) × (List Bool) × (List Int)) (ret : (Int × (List Bool) → Option Ans)) (b : ((List (Int × (Int × (Int × ((List Int) × ((List Bool) × (List Int))))))) × Int × (List (Int × (Int × (Int × ((List Int) × ((List Bool) × (List Int))))))) × Int × Int × (List Bool) × Int × Int × Int × (List Int) × (List Bool) × (List Int) → Option Ans)) : Option Ans := iter (S_ref12_kept_2 fuel) fuel v (ret, b)
def J85_2 (fuel : Nat) (i : Nat) : Option Ev.Blk := Ev.look i []
def T85_2 (v : (List (Int × (Int × (Int × ((List Int) × ((List Bool) × (List Int))))))) × Int × (List (Int × (Int × (Int × ((List Int) × ((List Bool) × (List Int))))))) × Int × Int × (List Int) × Int × Int × (List Bool) × Int × Int × Int × (List Int) × (List Bool) × (List Int)) : Ev.St := match v with | (x0, x1, x2, x3, x4, x5, x6, x7, x8, x9, x10, x11, x12, x13, x14) => ⟨[(0, .c (.sl (.pair (.int .i64) (.pair (.int .i64) (.pair (.int .i64) (.pair (.sl (.int .i64)) (.pair (.sl .bool) (.sl (.int .u8))))))) x0)), (4, .c (.own 0)), (5, .c (.int .i64 x1)), (6, .c (.ptr 1 0)), (13, .c (.sl (.pair (.int .i64) (.pair (.int .i64) (.pair (.int .i64) (.pair (.sl (.int .i64)) (.pair (.sl .bool) (.sl (.int .u8))))))) x2)), (14, .c (.int .i64 x3)), (15, .c (.int .i64 x4)), (40, .c (.sl (.int .i64) x5)), (41, .c (.int .i64 x6)), (42, .c (.int .i64 x7))], [(0, .vec 4 .bool x8 true), (1, .cells 63 [.int .i64 x9, .int .i64 x10, .int .i64 x11, .sl (.int .i64) x12, .sl .bool x13, .sl (.int .u8) x14])], 2, 0⟩
def E85_2 (K : Ev.Ex → Ev.St → Option Ans) : (Int × (List Bool) → Option Ans) × ((List (Int × (Int × (Int × ((List Int) × ((List Bool) × (List Int))))))) × Int × (List (Int × (Int × (Int × ((List Int) × ((List Bool) × (List Int))))))) × Int × Int × (List Bool) × Int × Int × Int × (List Int) × (List Bool) × (List Int) → Option Ans) := ((fun v => match v with | (x0, x1) => K .ret ⟨[(2, .c (.own 0)), (3, .c (.int .i64 x0))], [(0, .vec 4 .bool x1 true)], 1, 0⟩), (fun v => match v with | (x0, x1, x2, x3, x4, x5, x6, x7, x8, x9, x10, x11) => K .normal ⟨[(0, .c (.sl (.pair (.int .i64) (.pair (.int .i64) (.pair (.int .i64) (.pair (.sl (.int .i64)) (.pair (.sl .bool) (.sl (.int .u8))))))) x0)), (4, .c (.own 0)), (5, .c (.int .i64 x1)), (6, .c (.ptr 1 0)), (13, .c (.sl (.pair (.int .i64) (.pair (.int .i64) (.pair (.int .i64) (.pair (.sl (.int .i64)) (.pair (.sl .bool) (.sl (.int .u8))))))) x2)), (14, .c (.int .i64 x3)), (15, .c (.int .i64 x4))], [(0, .vec 4 .bool x5 true), (1, .cells 63 [.int .i64 x6, .int .i64 x7, .int .i64 x8, .sl (.int .i64) x9, .sl .bool x10, .sl (.int .u8) x11])], 2, 0⟩))
theorem S85_2_okg (fuel : Nat) (f44 : YF44) (f117 : YF117) (R : Ev.St → Option Ans) (K : Ev.Ex → Ev.St → Option Ans) (x0 : (List (Int × (Int × (Int × ((List Int) × ((List Bool) × (List Int)))))))) (x1 : Int) (x2 : (List (Int × (Int × (Int × ((List Int) × ((List Bool) × (List Int)))))))) (x3 : Int) (x4 : Int) (x5 : (List Int)) (x6 : Int) (x7 : Int) (x8 : (List Bool)) (x9 : Int) (x10 : Int) (x11 : Int) (x12 : (List Int)) (x13 : (List Bool)) (x14 : (List Int)) : evalCode tab (Gg85 f44 f117) (J85_2 fuel) kp85 fuel (bodyOf 2 Try.f85) (T85_2 (x0, x1, x2, x3, x4, x5, x6, x7, x8, x9, x10, x11, x12, x13, x14)) (lc kp85 8 2 R K) = (fun (c : ((List (Int × (Int × (Int × ((List Int) × ((List Bool) × (List Int))))))) × Int × (List (Int × (Int × (Int × ((List Int) × ((List Bool) × (List Int))))))) × Int × Int × (List Int) × Int × Int × (List Bool) × Int × Int × Int × (List Int) × (List Bool) × (List Int)) → Option Ans) (B : (Int × (List Bool) → Option Ans) × ((List (Int × (Int × (Int × ((List Int) × ((List Bool) × (List Int))))))) × Int × (List (Int × (Int × (Int × ((List Int) × ((List Bool) × (List Int))))))) × Int × Int × (List Bool) × Int × Int × Int × (List Int) × (List Bool) × (List Int) → Option Ans)) => match B with
  | (ret, b) =>
   bif Decidable.decide (x7 < x6) then
      bif Decidable.decide ((0 : Int) ≤ x7 ∧ x7 < (↑x5.length : Int)) then
      bif Decidable.decide ((0 : Int) ≤ Ev.loOf Option.none ∧ Ev.loOf Option.none ≤ Ev.hiOf (Option.some x1) (↑x0.length : Int) ∧ Ev.hiOf (Option.some x1) (↑x0.length : Int) ≤ (↑x0.length : Int)) then
       (f117 (List.take (Ev.hiOf (Option.some x1) (↑x0.length : Int) - Ev.loOf Option.none).toNat (List.drop (Ev.loOf Option.none).toNat x0)) (x5.getD x7.toNat (0 : Int))
          (fun y5 =>
            bif Decidable.decide (y5 < (0 : Int)) then
             ret (x1, [])
            else
             bif Decidable.decide ((0 : Int) ≤ y5 ∧ y5 < (↑x8.length : Int)) then
             bif !x8.getD y5.toNat Bool.false then
               ret (x1, [])
              else
               bif Decidable.decide ((0 : Int) ≤ y5 ∧ y5 < (↑x0.length : Int)) then
               bif (x0.getD y5.toNat ((0 : Int), (0 : Int), (0 : Int), [], [], [])).snd.snd.fst != (0 : Int) then
                 bif Decidable.decide ((0 : Int) ≤ y5 ∧ y5 < (↑x0.length : Int)) then
                 bif (x0.getD y5.toNat ((0 : Int), (0 : Int), (0 : Int), [], [], [])).snd.snd.fst != x11 then
                   ret (x1, [])
                  else
                   bif Decidable.decide ((0 : Int) ≤ x7 ∧ x7 < (↑x13.length : Int)) then
                   bif Decidable.decide ((0 : Int) ≤ y5 ∧ y5 < (↑x8.length : Int)) then
                    c (x0, x1, x2, x3, x4, x5, x6, Go.IntKind.i64.wrap (x7 + (1 : Int)), x8.set y5.toNat (x13.getD x7.toNat Bool.false), x9, x10, x11, x12, x13, x14)
                    else none
                   else none
                 else none
                else
                 bif Decidable.decide ((0 : Int) ≤ x7 ∧ x7 < (↑x13.length : Int)) then
                 bif Decidable.decide ((0 : Int) ≤ y5 ∧ y5 < (↑x8.length : Int)) then
                  c (x0, x1, x2, x3, x4, x5, x6, Go.IntKind.i64.wrap (x7 + (1 : Int)), x8.set y5.toNat (x13.getD x7.toNat Bool.false), x9, x10, x11, x12, x13, x14)
                  else none
                 else none
               else none
             else none))
       else none
      else none
     else
      b (x0, x1, x2, x3, x4, x8, x9, x10, x11, x12, x13, x14)) (fun v => R (T85_2 v)) (E85_2 K) := by
  kernel_rfl
theorem S85_2_ok (fuel : Nat) (R : Ev.St → Option Ans) (K : Ev.Ex → Ev.St → Option Ans) (x0 : (List (Int × (Int × (Int × ((List Int) × ((List Bool) × (List Int)))))))) (x1 : Int) (x2 : (List (Int × (Int × (Int × ((List Int) × ((List Bool) × (List Int)))))))) (x3 : Int) (x4 : Int) (x5 : (List Int)) (x6 : Int) (x7 : Int) (x8 : (List Bool)) (x9 : Int) (x10 : Int) (x11 : Int) (x12 : (List Int)) (x13 : (List Bool)) (x14 : (List Int)) : evalCode tab (G85 fuel) (J85_2 fuel) kp85 fuel (bodyOf 2 Try.f85) (T85_2 (x0, x1, x2, x3, x4, x5, x6, x7, x8, x9, x10, x11, x12, x13, x14)) (lc kp85 8 2 R K) = S_ref12_kept_2 fuel (x0, x1, x2, x3, x4, x5, x6, x7, x8, x9, x10, x11, x12, x13, x14) (fun v => R (T85_2 v)) (E85_2 K) :=
  S85_2_okg fuel (F_ref12_Valid fuel) (F_ref12_find fuel) R K x0 x1 x2 x3 x4 x5 x6 x7 x8 x9 x10 x11 x12 x13 x14
def B85_2 (fuel : Nat) : Ev.Blk := fun st K => match canonO (kp85 8) st with
  | some s => (match s with
    | ⟨[(q0, .c (.sl (.pair (.int .i64) (.pair (.int .i64) (.pair (.int .i64) (.pair (.sl (.int .i64)) (.pair (.sl .bool) (.sl (.int .u8))))))) x0)), (q1, .c (.own q2)), (q3, .c (.int .i64 x1)), (q4, .c (.ptr q5 q6)), (q7, .c (.sl (.pair (.int .i64) (.pair (.int .i64) (.pair (.int .i64) (.pair (.sl (.int .i64)) (.pair (.sl .bool) (.sl (.int .u8))))))) x2)), (q8, .c (.int .i64 x3)), (q9, .c (.int .i64 x4)), (q10, .c (.sl (.int .i64) x5)), (q11, .c (.int .i64 x6)), (q12, .c (.int .i64 x7))], [(q13, .vec q14 .bool x8 true), (q15, .cells q16 [.int .i64 x9, .int .i64 x10, .int .i64 x11, .sl (.int .i64) x12, .sl .bool x13, .sl (.int .u8) x14])], q17, q18⟩ => bif Nat.beq q0 0 && Nat.beq q1 4 && Nat.beq q2 0 && Nat.beq q3 5 && Nat.beq q4 6 && Nat.beq q5 1 && Nat.beq q6 0 && Nat.beq q7 13 && Nat.beq q8 14 && Nat.beq q9 15 && Nat.beq q10 40 && Nat.beq q11 41 && Nat.beq q12 42 && Nat.beq q13 0 && Nat.beq q14 4 && Nat.beq q15 1 && Nat.beq q16 63 && Nat.beq q17 2 && Nat.beq q18 0 then iter (S_ref12_kept_2 fuel) fuel (x0, x1, x2, x3, x4, x5, x6, x7, x8, x9, x10, x11, x12, x13, x14) (E85_2 K) else none
    | _ => none)
  | none => none
theorem B85_2_ok (fuel : Nat) (st : Ev.St) (K : Ev.Ex → Ev.St → Option Ans) (r : Ans) (h : B85_2 fuel st K = some r) : evalCode tab (G85 fuel) (J85_2 fuel) kp85 fuel (.block 2 (.loop (bodyOf 2 Try.f85))) st K = some r := by
  unfold B85_2 at h
  split at h
  · rename_i s hs
    split at h
    · obtain ⟨hb, h⟩ := cond_some' h
      simp only [Bool.and_eq_true, Nat.beq_eq, decide_eq_true_eq] at hb
      obtain ⟨⟨⟨⟨⟨⟨⟨⟨⟨⟨⟨⟨⟨⟨⟨⟨⟨⟨rfl, rfl⟩, rfl⟩, rfl⟩, rfl⟩, rfl⟩, rfl⟩, rfl⟩, rfl⟩, rfl⟩, rfl⟩, rfl⟩, rfl⟩, rfl⟩, rfl⟩, rfl⟩, rfl⟩, rfl⟩, rfl⟩ := hb
      exact blk_loop (S := T85_2) (ks := E85_2) (step := S_ref12_kept_2 fuel) (v := (_, _, _, _, _, _, _, _, _, _, _, _, _, _, _)) (by kernel_rfl) (by kernel_rfl) (fun R K v => by obtain ⟨x0, x1, x2, x3, x4, x5, x6, x7, x8, x9, x10, x11, x12, x13, x14⟩ := v; exact S85_2_ok fuel R K x0 x1 x2 x3 x4 x5 x6 x7 x8 x9 x10 x11 x12 x13 x14) hs h
    · cases h
  · cases h
def S_ref12_kept_0 (fuel : Nat) (v : (List (Int × (Int × (Int × ((List Int) × ((List Bool) × (List Int))))))) × (List (Int × (Int × (Int × ((List Int) × ((List Bool) × (List Int))))))) × Int × Int × (List Bool)) (c : ((List (Int × (Int × (Int × ((List Int) × ((List Bool) × (List Int))))))) × (List (Int × (Int × (Int × ((List Int) × ((List Bool) × (List Int))))))) × Int × Int × (List Bool)) → Option Ans) (B : (Int × (List Bool) → Option Ans) × ((List Bool) → Option Ans)) : Option Ans := match v, B with
  | (x0, x1, x2, x3, x4), (ret, b) =>
   bif Decidable.decide (x3 < x2) then
      bif Decidable.decide ((0 : Int) ≤ x3 ∧ x3 < (↑x1.length : Int)) then
      (F_ref12_Valid fuel ((x1.getD x3.toNat ((0 : Int), (0 : Int), (0 : Int), [], [], [])).fst) ((x1.getD x3.toNat ((0 : Int), (0 : Int), (0 : Int), [], [], [])).snd.fst) ((x1.getD x3.toNat ((0 : Int), (0 : Int), (0 : Int), [], [], [])).snd.snd.fst) ((x1.getD x3.toNat ((0 : Int), (0 : Int), (0 : Int), [], [], [])).snd.snd.snd.fst) ((x1.getD x3.toNat ((0 : Int), (0 : Int), (0 : Int), [], [], [])).snd.snd.snd.snd.fst) ((x1.getD x3.toNat ((0 : Int), (0 : Int), (0 : Int), [], [], [])).snd.snd.snd.snd.snd)
         (fun y4 =>
           bif !y4 then
            ret (x3, [])
           else
            bif Decidable.decide (x3 > (0 : Int)) then
             bif Decidable.decide ((0 : Int) ≤ Go.IntKind.i64.wrap (x3 - (1 : Int)) ∧ Go.IntKind.i64.wrap (x3 - (1 : Int)) < (↑x0.length : Int)) then
             bif Decidable.decide ((x1.getD x3.toNat ((0 : Int), (0 : Int), (0 : Int), [], [], [])).fst ≤ (x0.getD (Go.IntKind.i64.wrap (x3 - (1 : Int))).toNat ((0 : Int), (0 : Int), (0 : Int), [], [], [])).fst) then
               ret (x3, [])
              else
               (L_ref12_kept_2 fuel (x0, x3, x1, x2, x3, (x1.getD x3.toNat ((0 : Int), (0 : Int), (0 : Int), [], [], [])).snd.snd.snd.fst, (↑(List.length (x1.getD x3.toNat ((0 : Int), (0 : Int), (0 : Int), [], [], [])).snd.snd.snd.fst) : Int), (0 : Int), x4, (x1.getD x3.toNat ((0 : Int), (0 : Int), (0 : Int), [], [], [])).fst, (x1.getD x3.toNat ((0 : Int), (0 : Int), (0 : Int), [], [], [])).snd.fst, (x1.getD x3.toNat ((0 : Int), (0 : Int), (0 : Int), [], [], [])).snd.snd.fst, (x1.getD x3.toNat ((0 : Int), (0 : Int), (0 : Int), [], [], [])).snd.snd.snd.fst, (x1.getD x3.toNat ((0 : Int), (0 : Int), (0 : Int), [], [], [])).snd.snd.snd.snd.fst, (x1.getD x3.toNat ((0 : Int), (0 : Int), (0 : Int), [], [], [])).snd.snd.snd.snd.snd)
                 (fun (ret2_0, ret2_1) =>
                   ret (ret2_0, ret2_1))
                 (fun (b2_0, b2_1, b2_2, b2_3, b2_4, b2_5, b2_6, b2_7, b2_8, b2_9, b2_10, b2_11) =>
                   bif Decidable.decide ((0 : Int) ≤ (↑b2_9.length : Int) ∧ (↑b2_9.length : Int) < (↑b2_10.length : Int)) then
                   bif Decidable.decide ((0 : Int) ≤ b2_1 ∧ b2_1 < (↑b2_5.length : Int)) then
                    c (b2_0, b2_2, b2_3, Go.IntKind.i64.wrap (b2_4 + (1 : Int)), b2_5.set b2_1.toNat (b2_10.getD (↑b2_9.length : Int).toNat Bool.false))
                    else none
                   else none))
             else none
            else
             (L_ref12_kept_2 fuel (x0, x3, x1, x2, x3, (x1.getD x3.toNat ((0 : Int), (0 : Int), (0 : Int), [], [], [])).snd.snd.snd.fst, (↑(List.length (x1.getD x3.toNat ((0 : Int), (0 : Int), (0 : Int), [], [], [])).snd.snd.snd.fst) : Int), (0 : Int), x4, (x1.getD x3.toNat ((0 : Int), (0 : Int), (0 : Int), [], [], [])).fst, (x1.getD x3.toNat ((0 : Int), (0 : Int), (0 : Int), [], [], [])).snd.fst, (x1.getD x3.toNat ((0 : Int), (0 : Int), (0 : Int), [], [], [])).snd.snd.fst, (x1.getD x3.toNat ((0 : Int), (0 : Int), (0 : Int), [], [], [])).snd.snd.snd.fst, (x1.getD x3.toNat ((0 : Int), (0 : Int), (0 : Int), [], [], [])).snd.snd.snd.snd.fst, (x1.getD x3.toNat ((0 : Int), (0 : Int), (0 : Int), [], [], [])).snd.snd.snd.snd.snd)
               (fun (ret2_0, ret2_1) =>
                 ret (ret2_0, ret2_1))
               (fun (b2_0, b2_1, b2_2, b2_3, b2_4, b2_5, b2_6, b2_7, b2_8, b2_9, b2_10, b2_11) =>
                 bif Decidable.decide ((0 : Int) ≤ (↑b2_9.length : Int) ∧ (↑b2_9.length : Int) < (↑b2_10.length : Int)) then
                 bif Decidable.decide ((0 : Int) ≤ b2_1 ∧ b2_1 < (↑b2_5.length : Int)) then
                  c (b2_0, b2_2, b2_3, Go.IntKind.i64.wrap (b2_4 + (1 : Int)), b2_5.set b2_1.toNat (b2_10.getD (↑b2_9.length : Int).toNat Bool.false))
                  else none
                 else none))))
      else none
     else
      b x4
def L_ref12_kept_0 (fuel : Nat) (v : (List (Int × (Int × (Int × ((List Int) × ((List Bool) × (List Int))))))) × (List (Int × (Int × (Int × ((List Int) × ((List Bool) × (List Int))))))) × Int × Int × (List Bool)) (ret : (Int × (List Bool) → Option Ans)) (b : ((List Bool) → Option Ans)) : Option Ans := iter (S_ref12_kept_0 fuel) fuel v (ret, b)
def J85_0 (fuel : Nat) (i : Nat) : Option Ev.Blk := Ev.look i [(100002, B85_2 fuel)]
def T85_0 (v : (List (Int × (Int × (Int × ((List Int) × ((List Bool) × (List Int))))))) × (List (Int × (Int × (Int × ((List Int) × ((List Bool) × (List Int))))))) × Int × Int × (List Bool)) : Ev.St := match v with | (x0, x1, x2, x3, x4) => ⟨[(0, .c (.sl (.pair (.int .i64) (.pair (.int .i64) (.pair (.int .i64) (.pair (.sl (.int .i64)) (.pair (.sl .bool) (.sl (.int .u8))))))) x0)), (4, .c (.own 0)), (13, .c (.sl (.pair (.int .i64) (.pair (.int .i64) (.pair (.int .i64) (.pair (.sl (.int .i64)) (.pair (.sl .bool) (.sl (.int .u8))))))) x1)), (14, .c (.int .i64 x2)), (15, .c (.int .i64 x3))], [(0, .vec 4 .bool x4 true)], 1, 0⟩
def E85_0 (K : Ev.Ex → Ev.St → Option Ans) : (Int × (List Bool) → Option Ans) × ((List Bool) → Option Ans) := ((fun v => match v with | (x0, x1) => K .ret ⟨[(2, .c (.own 0)), (3, .c (.int .i64 x0))], [(0, .vec 4 .bool x1 true)], 1, 0⟩), (fun v => match v with | x0 => K .normal ⟨[(4, .c (.own 0))], [(0, .vec 4 .bool x0 true)], 1, 0⟩))
theorem S85_0_okg (fuel : Nat) (f44 : YF44) (f117 : YF117) (R : Ev.St → Option Ans) (K : Ev.Ex → Ev.St → Option Ans) (x0 : (List (Int × (Int × (Int × ((List Int) × ((List Bool) × (List Int)))))))) (x1 : (List (Int × (Int × (Int × ((List Int) × ((List Bool) × (List Int)))))))) (x2 : Int) (x3 : Int) (x4 : (List Bool)) : evalCode tab (Gg85 f44 f117) (J85_0 fuel) kp85 fuel (bodyOf 0 Try.f85) (T85_0 (x0, x1, x2, x3, x4)) (lc kp85 3 0 R K) = (fun (c : ((List (Int × (Int × (Int × ((List Int) × ((List Bool) × (List Int))))))) × (List (Int × (Int × (Int × ((List Int) × ((List Bool) × (List Int))))))) × Int × Int × (List Bool)) → Option Ans) (B : (Int × (List Bool) → Option Ans) × ((List Bool) → Option Ans)) => match B with
  | (ret, b) =>
   bif Decidable.decide (x3 < x2) then
      bif Decidable.decide ((0 : Int) ≤ x3 ∧ x3 < (↑x1.length : Int)) then
      (f44 ((x1.getD x3.toNat ((0 : Int), (0 : Int), (0 : Int), [], [], [])).fst) ((x1.getD x3.toNat ((0 : Int), (0 : Int), (0 : Int), [], [], [])).snd.fst) ((x1.getD x3.toNat ((0 : Int), (0 : Int), (0 : Int), [], [], [])).snd.snd.fst) ((x1.getD x3.toNat ((0 : Int), (0 : Int), (0 : Int), [], [], [])).snd.snd.snd.fst) ((x1.getD x3.toNat ((0 : Int), (0 : Int), (0 : Int), [], [], [])).snd.snd.snd.snd.fst) ((x1.getD x3.toNat ((0 : Int), (0 : Int), (0 : Int), [], [], [])).snd.snd.snd.snd.snd)
         (fun y4 =>
           bif !y4 then
            ret (x3, [])
           else
            bif Decidable.decide (x3 > (0 : Int)) then
             bif Decidable.decide ((0 : Int) ≤ Go.IntKind.i64.wrap (x3 - (1 : Int)) ∧ Go.IntKind.i64.wrap (x3 - (1 : Int)) < (↑x0.length : Int)) then
             bif Decidable.decide ((x1.getD x3.toNat ((0 : Int), (0 : Int), (0 : Int), [], [], [])).fst ≤ (x0.getD (Go.IntKind.i64.wrap (x3 - (1 : Int))).toNat ((0 : Int), (0 : Int), (0 : Int), [], [], [])).fst) then
               ret (x3, [])
              else
               (L_ref12_kept_2 fuel (x0, x3, x1, x2, x3, (x1.getD x3.toNat ((0 : Int), (0 : Int), (0 : Int), [], [], [])).snd.snd.snd.fst, (↑(List.length (x1.getD x3.toNat ((0 : Int), (0 : Int), (0 : Int), [], [], [])).snd.snd.snd.fst) : Int), (0 : Int), x4, (x1.getD x3.toNat ((0 : Int), (0 : Int), (0 : Int), [], [], [])).fst, (x1.getD x3.toNat ((0 : Int), (0 : Int), (0 : Int), [], [], [])).snd.fst, (x1.getD x3.toNat ((0 : Int), (0 : Int), (0 : Int), [], [], [])).snd.snd.fst, (x1.getD x3.toNat ((0 : Int), (0 : Int), (0 : Int), [], [], [])).snd.snd.snd.fst, (x1.getD x3.toNat ((0 : Int), (0 : Int), (0 : Int), [], [], [])).snd.snd.snd.snd.fst, (x1.getD x3.toNat ((0 : Int), (0 : Int), (0 : Int), [], [], [])).snd.snd.snd.snd.snd)
                 (fun (ret2_0, ret2_1) =>
                   ret (ret2_0, ret2_1))
                 (fun (b2_0, b2_1, b2_2, b2_3, b2_4, b2_5, b2_6, b2_7, b2_8, b2_9, b2_10, b2_11) =>
                   bif Decidable.decide ((0 : Int) ≤ (↑b2_9.length : Int) ∧ (↑b2_9.length : Int) < (↑b2_10.length : Int)) then
                   bif Decidable.decide ((0 : Int) ≤ b2_1 ∧ b2_1 < (↑b2_5.length : Int)) then
                    c (b2_0, b2_2, b2_3, Go.IntKind.i64.wrap (b2_4 + (1 : Int)), b2_5.set b2_1.toNat (b2_10.getD (↑b2_9.length : Int).toNat Bool.false))
                    else none
                   else none))
             else none
            else
             (L_ref12_kept_2 fuel (x0, x3, x1, x2, x3, (x1.getD x3.toNat ((0 : Int), (0 : Int), (0 : Int), [], [], [])).snd.snd.snd.fst, (↑(List.length (x1.getD x3.toNat ((0 : Int), (0 : Int), (0 : Int), [], [], [])).snd.snd.snd.fst) : Int), (0 : Int), x4, (x1.getD x3.toNat ((0 : Int), (0 : Int), (0 : Int), [], [], [])).fst, (x1.getD x3.toNat ((0 : Int), (0 : Int), (0 : Int), [], [], [])).snd.fst, (x1.getD x3.toNat ((0 : Int), (0 : Int), (0 : Int), [], [], [])).snd.snd.fst, (x1.getD x3.toNat ((0 : Int), (0 : Int), (0 : Int), [], [], [])).snd.snd.snd.fst, (x1.getD x3.toNat ((0 : Int), (0 : Int), (0 : Int), [], [], [])).snd.snd.snd.snd.fst, (x1.getD x3.toNat ((0 : Int), (0 : Int), (0 : Int), [], [], [])).snd.snd.snd.snd.snd)
               (fun (ret2_0, ret2_1) =>
                 ret (ret2_0, ret2_1))
               (fun (b2_0, b2_1, b2_2, b2_3, b2_4, b2_5, b2_6, b2_7, b2_8, b2_9, b2_10, b2_11) =>
                 bif Decidable.decide ((0 : Int) ≤ (↑b2_9.length : Int) ∧ (↑b2_9.length : Int) < (↑b2_10.length : Int)) then
                 bif Decidable.decide ((0 : Int) ≤ b2_1 ∧ b2_1 < (↑b2_5.length : Int)) then
                  c (b2_0, b2_2, b2_3, Go.IntKind.i64.wrap (b2_4 + (1 : Int)), b2_5.set b2_1.toNat (b2_10.getD (↑b2_9.length : Int).toNat Bool.false))
                  else none
                 else none))))
      else none
     else
      b x4) (fun v => R (T85_0 v)) (E85_0 K) := by
  kernel_rfl
theorem S85_0_ok (fuel : Nat) (R : Ev.St → Option Ans) (K : Ev.Ex → Ev.St → Option Ans) (x0 : (List (Int × (Int × (Int × ((List Int) × ((List Bool) × (List Int)))))))) (x1 : (List (Int × (Int × (Int × ((List Int) × ((List Bool) × (List Int)))))))) (x2 : Int) (x3 : Int) (x4 : (List Bool)) : evalCode tab (G85 fuel) (J85_0 fuel) kp85 fuel (bodyOf 0 Try.f85) (T85_0 (x0, x1, x2, x3, x4)) (lc kp85 3 0 R K) = S_ref12_kept_0 fuel (x0, x1, x2, x3, x4) (fun v => R (T85_0 v)) (E85_0 K) :=
  S85_0_okg fuel (F_ref12_Valid fuel) (F_ref12_find fuel) R K x0 x1 x2 x3 x4
def B85_0 (fuel : Nat) : Ev.Blk := fun st K => match canonO (kp85 3) st with
  | some s => (match s with
    | ⟨[(q0, .c (.sl (.pair (.int .i64) (.pair (.int .i64) (.pair (.int .i64) (.pair (.sl (.int .i64)) (.pair (.sl .bool) (.sl (.int .u8))))))) x0)), (q1, .c (.own q2)), (q3, .c (.sl (.pair (.int .i64) (.pair (.int .i64) (.pair (.int .i64) (.pair (.sl (.int .i64)) (.pair (.sl .bool) (.sl (.int .u8))))))) x1)), (q4, .c (.int .i64 x2)), (q5, .c (.int .i64 x3))], [(q6, .vec q7 .bool x4 true)], q8, q9⟩ => bif Nat.beq q0 0 && Nat.beq q1 4 && Nat.beq q2 0 && Nat.beq q3 13 && Nat.beq q4 14 && Nat.beq q5 15 && Nat.beq q6 0 && Nat.beq q7 4 && Nat.beq q8 1 && Nat.beq q9 0 then iter (S_ref12_kept_0 fuel) fuel (x0, x1, x2, x3, x4) (E85_0 K) else none
    | _ => none)
  | none => none
theorem B85_0_ok (fuel : Nat) (st : Ev.St) (K : Ev.Ex → Ev.St → Option Ans) (r : Ans) (h : B85_0 fuel st K = some r) : evalCode tab (G85 fuel) (J85_0 fuel) kp85 fuel (.block 0 (.loop (bodyOf 0 Try.f85))) st K = some r := by
  unfold B85_0 at h
  split at h
  · rename_i s hs
    split at h
    · obtain ⟨hb, h⟩ := cond_some' h
      simp only [Bool.and_eq_true, Nat.beq_eq, decide_eq_true_eq] at hb
      obtain ⟨⟨⟨⟨⟨⟨⟨⟨⟨rfl, rfl⟩, rfl⟩, rfl⟩, rfl⟩, rfl⟩, rfl⟩, rfl⟩, rfl⟩, rfl⟩ := hb
      exact blk_loop (S := T85_0) (ks := E85_0) (step := S_ref12_kept_0 fuel) (v := (_, _, _, _, _)) (by kernel_rfl) (by kernel_rfl) (fun R K v => by obtain ⟨x0, x1, x2, x3, x4⟩ := v; exact S85_0_ok fuel R K x0 x1 x2 x3 x4) hs h
    · cases h
  · cases h
def J85 (fuel : Nat) (i : Nat) : Option Ev.Blk := Ev.look i [(100002, B85_2 fuel), (100000, B85_0 fuel)]
def F_ref12_kept (fuel : Nat) (x0 : (List (Int × Int × Int × (List Int) × (List Bool) × (List Int)))) (k0 : (Int × (List Bool)) → Option Ans) : Option Ans :=
  bif Decidable.decide ((0 : Int) ≤ (↑x0.length : Int) ∧ (↑x0.length : Int) = (↑x0.length : Int) ∧ (↑(1 : Nat) : Int) * (↑x0.length : Int) ≤ (281474976710656 : Int) ∧ (↑x0.length : Int) ≤ (281474976710656 : Int)) then
  (L_ref12_kept_0 fuel (x0, x0, (↑x0.length : Int), (0 : Int), List.replicate (↑x0.length : Int).toNat Bool.false)
     (fun (ret0_0, ret0_1) =>
       k0 (ret0_0, ret0_1))
     (fun b0_0 =>
       k0 ((-1 : Int), b0_0)))
  else none
abbrev YF85 : Type := ((List (Int × Int × Int × (List Int) × (List Bool) × (List Int)))) → ((Int × (List Bool)) → Option Ans) → Option Ans
theorem F85_eqg (fuel : Nat) (f44 : YF44) (f117 : YF117) (x0 : (List (Int × Int × Int × (List Int) × (List Bool) × (List Int)))) (k : Ev.Cont) : evalFn tab (Gg85 f44 f117) (J85 fuel) kp85 fuel Try.f85 [.c (.sl (.pair (.int .i64) (.pair (.int .i64) (.pair (.int .i64) (.pair (.sl (.int .i64)) (.pair (.sl .bool) (.sl (.int .u8))))))) x0)] [] k = (fun  (k0 : (Int × (List Bool)) → Option Ans) =>
  bif Decidable.decide ((0 : Int) ≤ (↑x0.length : Int) ∧ (↑x0.length : Int) = (↑x0.length : Int) ∧ (↑(1 : Nat) : Int) * (↑x0.length : Int) ≤ (281474976710656 : Int) ∧ (↑x0.length : Int) ≤ (281474976710656 : Int)) then
  (L_ref12_kept_0 fuel (x0, x0, (↑x0.length : Int), (0 : Int), List.replicate (↑x0.length : Int).toNat Bool.false)
     (fun (ret0_0, ret0_1) =>
       k0 (ret0_0, ret0_1))
     (fun b0_0 =>
       k0 ((-1 : Int), b0_0)))
  else none) (fun r => match r with | (r0, r1) => k (.tup [(false, [.own 0]), (false, [.int .i64 r0])], [.vec 4 .bool r1 true])) := by
  kernel_rfl
theorem F85_eq (fuel : Nat) (x0 : (List (Int × Int × Int × (List Int) × (List Bool) × (List Int)))) (k : Ev.Cont) : evalFn tab (G85 fuel) (J85 fuel) kp85 fuel Try.f85 [.c (.sl (.pair (.int .i64) (.pair (.int .i64) (.pair (.int .i64) (.pair (.sl (.int .i64)) (.pair (.sl .bool) (.sl (.int .u8))))))) x0)] [] k = F_ref12_kept fuel x0 (fun r => match r with | (r0, r1) => k (.tup [(false, [.own 0]), (false, [.int .i64 r0])], [.vec 4 .bool r1 true])) :=
  F85_eqg fuel (F_ref12_Valid fuel) (F_ref12_find fuel) x0 k
theorem hG85 (fuel : Nat) : GOK Try.prog (G85 fuel) :=
  gok_cons ⟨ok44 fuel, enters_of Try.func44 (by kernel_rfl) rfl⟩ <|
  gok_cons ⟨ok117 fuel, enters_of Try.func117 (by kernel_rfl) rfl⟩ <|
  gok_nil
theorem B85_2_blk (fuel : Nat) : BlkOK Try.prog Try.f85.ntmps (.block 2 (.loop (bodyOf 2 Try.f85))) (B85_2 fuel) :=
  blk_of (blk_of_code tab_ok (hG85 fuel) mixed (J := J85_2 fuel) (kp := kp85) (fuel := fuel) (by kernel_rfl) (fun q hq => by
    rw [(by kernel_rfl : obl (J85_2 fuel) (.block 2 (.loop (bodyOf 2 Try.f85))) = [])] at hq
    cases hq)) (B85_2_ok fuel)
theorem B85_0_blk (fuel : Nat) : BlkOK Try.prog Try.f85.ntmps (.block 0 (.loop (bodyOf 0 Try.f85))) (B85_0 fuel) :=
  blk_of (blk_of_code tab_ok (hG85 fuel) mixed (J := J85_0 fuel) (kp := kp85) (fuel := fuel) (by kernel_rfl) (fun q hq => by
    rw [(by kernel_rfl : obl (J85_0 fuel) (.block 0 (.loop (bodyOf 0 Try.f85))) = [(.block 2 (.loop (bodyOf 2 Try.f85)), B85_2 fuel)])] at hq
    simp only [List.mem_cons, List.not_mem_nil, or_false] at hq
    subst hq
    · exact B85_2_blk fuel)) (B85_0_ok fuel)
theorem fok85 (fuel : Nat) : FnOK Try.prog 85 (evalFn tab (G85 fuel) (J85 fuel) kp85 fuel Try.f85) :=
  fn_ok tab_ok (hG85 fuel) mixed Try.func85 (c := (Try.f85.body).getD .skip) rfl (fun q hq => by
    rw [(by kernel_rfl : obl (J85 fuel) ((Try.f85.body).getD .skip) = [(.block 0 (.loop (bodyOf 0 Try.f85)), B85_0 fuel)])] at hq
    simp only [List.mem_cons, List.not_mem_nil, or_false] at hq
    subst hq
    · exact B85_0_blk fuel)
def mt85 : List Ev.SV → List Ev.Ob → Bool := fun args objs => match args, objs with
  | [.c (.sl (.pair (.int .i64) (.pair (.int .i64) (.pair (.int .i64) (.pair (.sl (.int .i64)) (.pair (.sl .bool) (.sl (.int .u8))))))) _)], [] => true
  | _, _ => false
def spg85 (F : YF85) : Ev.Spec := fun args objs k => match args, objs with
  | [.c (.sl (.pair (.int .i64) (.pair (.int .i64) (.pair (.int .i64) (.pair (.sl (.int .i64)) (.pair (.sl .bool) (.sl (.int .u8))))))) x0)], [] => bif true then F x0 (fun r => match r with | (r0, r1) => k (.tup [(false, [.own 0]), (false, [.int .i64 r0])], [.vec 4 .bool r1 true])) else none
  | _, _ => none
def spec85 (fuel : Nat) : Ev.Spec := spg85 (F_ref12_kept fuel)
theorem ok85 (fuel : Nat) : FnOK Try.prog 85 (spec85 fuel) := by
  intro args objs kk r h
  unfold spec85 spg85 at h
  split at h
  · obtain ⟨hb, h⟩ := cond_some' h
    simp only [Bool.and_eq_true, Nat.beq_eq, decide_eq_true_eq] at hb
    clear hb
    exact fok85 fuel _ _ kk r ((F85_eq fuel _ kk).trans h)
  · cases h
end Go.Proofs.Ytajidgilfkineaa

set_option linter.unusedVariables false
set_option linter.unusedSimpArgs false
set_option maxRecDepth 100000
namespace Go.Proofs.Ytajidgilfkineaa
open Go Ev
def kp86 (i : Nat) : Option (List Nat) := Ev.look i [(2, [1, 9, 10, 11]), (5, [1, 9, 10, 11, 16, 17, 18]), (100000, []), (100002, [1, 9, 10, 11]), (400000, [4]), (400002, [4])]
def Gg86 (f : Nat) : Option Ev.Spec := Ev.look f []
def G86 (fuel : Nat) : Nat → Option Ev.Spec := Gg86
def S_ref12_wanted_2 (fuel : Nat) (v : Int × (List (Int × (Int × (Int × ((List Int) × ((List Bool) × (List Int))))))) × Int × Int × (List Int) × Int × Int) (c : (Int × (List (Int × (Int × (Int × ((List Int) × ((List Bool) × (List Int))))))) × Int × Int × (List Int) × Int × Int) → Option Ans) (B : (Bool → Option Ans) × (Int × (List (Int × (Int × (Int × ((List Int) × ((List Bool) × (List Int))))))) × Int × Int → Option Ans)) : Option Ans := match v, B with
  | (x0, x1, x2, x3, x4, x5, x6), (ret, b) =>
   bif Decidable.decide (x6 < x5) then
      bif Decidable.decide ((0 : Int) ≤ x6 ∧ x6 < (↑x4.length : Int)) then
      bif x4.getD x6.toNat (0 : Int) == x0 then
        ret Bool.true
       else
        c (x0, x1, x2, x3, x4, x5, Go.IntKind.i64.wrap (x6 + (1 : Int)))
      else none
     else
      b (x0, x1, x2, x3)
def L_ref12_wanted_2 (fuel : Nat) (v : Int × (List (Int × (Int × (Int × ((List Int) × ((List Bool) × (List Int))))))) × Int × Int × (List Int) × Int × Int) (ret : (Bool → Option Ans)) (b : (Int × (List (Int × (Int × (Int × ((List Int) × ((List Bool) × (List Int))))))) × Int × Int → Option Ans)) : Option Ans := iter (S_ref12_wanted_2 fuel) fuel v (ret, b)
def J86_2 (fuel : Nat) (i : Nat) : Option Ev.Blk := Ev.look i []
def T86_2 (v : Int × (List (Int × (Int × (Int × ((List Int) × ((List Bool) × (List Int))))))) × Int × Int × (List Int) × Int × Int) : Ev.St := match v with | (x0, x1, x2, x3, x4, x5, x6) => ⟨[(1, .c (.int .i64 x0)), (9, .c (.sl (.pair (.int .i64) (.pair (.int .i64) (.pair (.int .i64) (.pair (.sl (.int .i64)) (.pair (.sl .bool) (.sl (.int .u8))))))) x1)), (10, .c (.int .i64 x2)), (11, .c (.int .i64 x3)), (16, .c (.sl (.int .i64) x4)), (17, .c (.int .i64 x5)), (18, .c (.int .i64 x6))], [], 0, 0⟩
def E86_2 (K : Ev.Ex → Ev.St → Option Ans) : (Bool → Option Ans) × (Int × (List (Int × (Int × (Int × ((List Int) × ((List Bool) × (List Int))))))) × Int × Int → Option Ans) := ((fun v => match v with | x0 => K .ret ⟨[(4, .c (.bool x0))], [], 0, 0⟩), (fun v => match v with | (x0, x1, x2, x3) => K .normal ⟨[(1, .c (.int .i64 x0)), (9, .c (.sl (.pair (.int .i64) (.pair (.int .i64) (.pair (.int .i64) (.pair (.sl (.int .i64)) (.pair (.sl .bool) (.sl (.int .u8))))))) x1)), (10, .c (.int .i64 x2)), (11, .c (.int .i64 x3))], [], 0, 0⟩))
theorem S86_2_ok (fuel : Nat) (R : Ev.St → Option Ans) (K : Ev.Ex → Ev.St → Option Ans) (x0 : Int) (x1 : (List (Int × (Int × (Int × ((List Int) × ((List Bool) × (List Int)))))))) (x2 : Int) (x3 : Int) (x4 : (List Int)) (x5 : Int) (x6 : Int) : evalCode tab (G86 fuel) (J86_2 fuel) kp86 fuel (bodyOf 2 Try.f86) (T86_2 (x0, x1, x2, x3, x4, x5, x6)) (lc kp86 5 2 R K) = S_ref12_wanted_2 fuel (x0, x1, x2, x3, x4, x5, x6) (fun v => R (T86_2 v)) (E86_2 K) := by
  kernel_rfl
def B86_2 (fuel : Nat) : Ev.Blk := fun st K => match canonO (kp86 5) st with
  | some s => (match s with
    | ⟨[(q0, .c (.int .i64 x0)), (q1, .c (.sl (.pair (.int .i64) (.pair (.int .i64) (.pair (.int .i64) (.pair (.sl (.int .i64)) (.pair (.sl .bool) (.sl (.int .u8))))))) x1)), (q2, .c (.int .i64 x2)), (q3, .c (.int .i64 x3)), (q4, .c (.sl (.int .i64) x4)), (q5, .c (.int .i64 x5)), (q6, .c (.int .i64 x6))], [], q7, q8⟩ => bif Nat.beq q0 1 && Nat.beq q1 9 && Nat.beq q2 10 && Nat.beq q3 11 && Nat.beq q4 16 && Nat.beq q5 17 && Nat.beq q6 18 && Nat.beq q7 0 && Nat.beq q8 0 then iter (S_ref12_wanted_2 fuel) fuel (x0, x1, x2, x3, x4, x5, x6) (E86_2 K) else none
    | _ => none)
  | none => none
theorem B86_2_ok (fuel : Nat) (st : Ev.St) (K : Ev.Ex → Ev.St → Option Ans) (r : Ans) (h : B86_2 fuel st K = some r) : evalCode tab (G86 fuel) (J86_2 fuel) kp86 fuel (.block 2 (.loop (bodyOf 2 Try.f86))) st K = some r := by
  unfold B86_2 at h
  split at h
  · rename_i s hs
    split at h
    · obtain ⟨hb, h⟩ := cond_some' h
      simp only [Bool.and_eq_true, Nat.beq_eq, decide_eq_true_eq] at hb
      obtain ⟨⟨⟨⟨⟨⟨⟨⟨rfl, rfl⟩, rfl⟩, rfl⟩, rfl⟩, rfl⟩, rfl⟩, rfl⟩, rfl⟩ := hb
      exact blk_loop (S := T86_2) (ks := E86_2) (step := S_ref12_wanted_2 fuel) (v := (_, _, _, _, _, _, _)) (by kernel_rfl) (by kernel_rfl) (fun R K v => by obtain ⟨x0, x1, x2, x3, x4, x5, x6⟩ := v; exact S86_2_ok fuel R K x0 x1 x2 x3 x4 x5 x6) hs h
    · cases h
  · cases h
def S_ref12_wanted_0 (fuel : Nat) (v : Int × (List (Int × (Int × (Int × ((List Int) × ((List Bool) × (List Int))))))) × Int × Int) (c : (Int × (List (Int × (Int × (Int × ((List Int) × ((List Bool) × (List Int))))))) × Int × Int) → Option Ans) (B : (Bool → Option Ans) × (Unit → Option Ans)) : Option Ans := match v, B with
  | (x0, x1, x2, x3), (ret, b) =>
   bif Decidable.decide (x3 < x2) then
      bif Decidable.decide ((0 : Int) ≤ x3 ∧ x3 < (↑x1.length : Int)) then
      (L_ref12_wanted_2 fuel (x0, x1, x2, x3, (x1.getD x3.toNat ((0 : Int), (0 : Int), (0 : Int), [], [], [])).snd.snd.snd.fst, (↑(List.length (x1.getD x3.toNat ((0 : Int), (0 : Int), (0 : Int), [], [], [])).snd.snd.snd.fst) : Int), (0 : Int))
         (fun ret2_0 =>
           ret ret2_0)
         (fun (b2_0, b2_1, b2_2, b2_3) =>
           c (b2_0, b2_1, b2_2, Go.IntKind.i64.wrap (b2_3 + (1 : Int)))))
      else none
     else
      b ()
def L_ref12_wanted_0 (fuel : Nat) (v : Int × (List (Int × (Int × (Int × ((List Int) × ((List Bool) × (List Int))))))) × Int × Int) (ret : (Bool → Option Ans)) (b : (Unit → Option Ans)) : Option Ans := iter (S_ref12_wanted_0 fuel) fuel v (ret, b)
def J86_0 (fuel : Nat) (i : Nat) : Option Ev.Blk := Ev.look i [(100002, B86_2 fuel)]
def T86_0 (v : Int × (List (Int × (Int × (Int × ((List Int) × ((List Bool) × (List Int))))))) × Int × Int) : Ev.St := match v with | (x0, x1, x2, x3) => ⟨[(1, .c (.int .i64 x0)), (9, .c (.sl (.pair (.int .i64) (.pair (.int .i64) (.pair (.int .i64) (.pair (.sl (.int .i64)) (.pair (.sl .bool) (.sl (.int .u8))))))) x1)), (10, .c (.int .i64 x2)), (11, .c (.int .i64 x3))], [], 0, 0⟩
def E86_0 (K : Ev.Ex → Ev.St → Option Ans) : (Bool → Option Ans) × (Unit → Option Ans) := ((fun v => match v with | x0 => K .ret ⟨[(4, .c (.bool x0))], [], 0, 0⟩), (fun v => match v with | () => K .normal ⟨[], [], 0, 0⟩))
theorem S86_0_ok (fuel : Nat) (R : Ev.St → Option Ans) (K : Ev.Ex → Ev.St → Option Ans) (x0 : Int) (x1 : (List (Int × (Int × (Int × ((List Int) × ((List Bool) × (List Int)))))))) (x2 : Int) (x3 : Int) : evalCode tab (G86 fuel) (J86_0 fuel) kp86 fuel (bodyOf 0 Try.f86) (T86_0 (x0, x1, x2, x3)) (lc kp86 2 0 R K) = S_ref12_wanted_0 fuel (x0, x1, x2, x3) (fun v => R (T86_0 v)) (E86_0 K) := by
  kernel_rfl
def B86_0 (fuel : Nat) : Ev.Blk := fun st K => match canonO (kp86 2) st with
  | some s => (match s with
    | ⟨[(q0, .c (.int .i64 x0)), (q1, .c (.sl (.pair (.int .i64) (.pair (.int .i64) (.pair (.int .i64) (.pair (.sl (.int .i64)) (.pair (.sl .bool) (.sl (.int .u8))))))) x1)), (q2, .c (.int .i64 x2)), (q3, .c (.int .i64 x3))], [], q4, q5⟩ => bif Nat.beq q0 1 && Nat.beq q1 9 && Nat.beq q2 10 && Nat.beq q3 11 && Nat.beq q4 0 && Nat.beq q5 0 then iter (S_ref12_wanted_0 fuel) fuel (x0, x1, x2, x3) (E86_0 K) else none
    | _ => none)
  | none => none
theorem B86_0_ok (fuel : Nat) (st : Ev.St) (K : Ev.Ex → Ev.St → Option Ans) (r : Ans) (h : B86_0 fuel st K = some r) : evalCode tab (G86 fuel) (J86_0 fuel) kp86 fuel (.block 0 (.loop (bodyOf 0 Try.f86))) st K = some r := by
  unfold B86_0 at h
  split at h
  · rename_i s hs
    split at h
    · obtain ⟨hb, h⟩ := cond_some' h
      simp only [Bool.and_eq_true, Nat.beq_eq, decide_eq_true_eq] at hb
      obtain ⟨⟨⟨⟨⟨rfl, rfl⟩, rfl⟩, rfl⟩, rfl⟩, rfl⟩ := hb
      exact blk_loop (S := T86_0) (ks := E86_0) (step := S_ref12_wanted_0 fuel) (v := (_, _, _, _)) (by kernel_rfl) (by kernel_rfl) (fun R K v => by obtain ⟨x0, x1, x2, x3⟩ := v; exact S86_0_ok fuel R K x0 x1 x2 x3) hs h
    · cases h
  · cases h
def J86 (fuel : Nat) (i : Nat) : Option Ev.Blk := Ev.look i [(100002, B86_2 fuel), (100000, B86_0 fuel)]
def F_ref12_wanted (fuel : Nat) (x0 : (List (Int × Int × Int × (List Int) × (List Bool) × (List Int)))) (x1 : Int) (k0 : (Bool) → Option Ans) : Option Ans :=
  (L_ref12_wanted_0 fuel (x1, x0, (↑x0.length : Int), (0 : Int))
    (fun ret0_0 =>
      k0 ret0_0)
    (fun () =>
      k0 Bool.false))
abbrev YF86 : Type := ((List (Int × Int × Int × (List Int) × (List Bool) × (List Int)))) → (Int) → ((Bool) → Option Ans) → Option Ans
theorem F86_eq (fuel : Nat) (x0 : (List (Int × Int × Int × (List Int) × (List Bool) × (List Int)))) (x1 : Int) (k : Ev.Cont) : evalFn tab (G86 fuel) (J86 fuel) kp86 fuel Try.f86 [.c (.sl (.pair (.int .i64) (.pair (.int .i64) (.pair (.int .i64) (.pair (.sl (.int .i64)) (.pair (.sl .bool) (.sl (.int .u8))))))) x0), .c (.int .i64 x1)] [] k = F_ref12_wanted fuel x0 x1 (fun r => match r with | r0 => k (.c (.bool r0), [])) := by
  kernel_rfl
theorem hG86 (fuel : Nat) : GOK Try.prog (G86 fuel) :=
  gok_nil
theorem B86_2_blk (fuel : Nat) : BlkOK Try.prog Try.f86.ntmps (.block 2 (.loop (bodyOf 2 Try.f86))) (B86_2 fuel) :=
  blk_of (blk_of_code tab_ok (hG86 fuel) mixed (J := J86_2 fuel) (kp := kp86) (fuel := fuel) (by kernel_rfl) (fun q hq => by
    rw [(by kernel_rfl : obl (J86_2 fuel) (.block 2 (.loop (bodyOf 2 Try.f86))) = [])] at hq
    cases hq)) (B86_2_ok fuel)
theorem B86_0_blk (fuel : Nat) : BlkOK Try.prog Try.f86.ntmps (.block 0 (.loop (bodyOf 0 Try.f86))) (B86_0 fuel) :=
  blk_of (blk_of_code tab_ok (hG86 fuel) mixed (J := J86_0 fuel) (kp := kp86) (fuel := fuel) (by kernel_rfl) (fun q hq => by
    rw [(by kernel_rfl : obl (J86_0 fuel) (.block 0 (.loop (bodyOf 0 Try.f86))) = [(.block 2 (.loop (bodyOf 2 Try.f86)), B86_2 fuel)])] at hq
    simp only [List.mem_cons, List.not_mem_nil, or_false] at hq
    subst hq
    · exact B86_2_blk fuel)) (B86_0_ok fuel)
theorem fok86 (fuel : Nat) : FnOK Try.prog 86 (evalFn tab (G86 fuel) (J86 fuel) kp86 fuel Try.f86) :=
  fn_ok tab_ok (hG86 fuel) mixed Try.func86 (c := (Try.f86.body).getD .skip) rfl (fun q hq => by
    rw [(by kernel_rfl : obl (J86 fuel) ((Try.f86.body).getD .skip) = [(.block 0 (.loop (bodyOf 0 Try.f86)), B86_0 fuel)])] at hq
    simp only [List.mem_cons, List.not_mem_nil, or_false] at hq
    subst hq
    · exact B86_0_blk fuel)
def mt86 : List Ev.SV → List Ev.Ob → Bool := fun args objs => match args, objs with
  | [.c (.sl (.pair (.int .i64) (.pair (.int .i64) (.pair (.int .i64) (.pair (.sl (.int .i64)) (.pair (.sl .bool) (.sl (.int .u8))))))) _), .c (.int .i64 _)], [] => true
  | _, _ => false
def spg86 (F : YF86) : Ev.Spec := fun args objs k => match args, objs with
  | [.c (.sl (.pair (.int .i64) (.pair (.int .i64) (.pair (.int .i64) (.pair (.sl (.int .i64)) (.pair (.sl .bool) (.sl (.int .u8))))))) x0), .c (.int .i64 x1)], [] => bif true then F x0 x1 (fun r => match r with | r0 => k (.c (.bool r0), [])) else none
  | _, _ => none
def spec86 (fuel : Nat) : Ev.Spec := spg86 (F_ref12_wanted fuel)
theorem ok86 (fuel : Nat) : FnOK Try.prog 86 (spec86 fuel) := by
  intro args objs kk r h
  unfold spec86 spg86 at h
  split at h
  · obtain ⟨hb, h⟩ := cond_some' h
    simp only [Bool.and_eq_true, Nat.beq_eq, decide_eq_true_eq] at hb
    clear hb
    exact fok86 fuel _ _ kk r ((F86_eq fuel _ _ kk).trans h)
  · cases h
end Go.Proofs.Ytajidgilfkineaa

set_option linter.unusedVariables false
set_option linter.unusedSimpArgs false
set_option maxRecDepth 100000
namespace Go.Proofs.Ytajidgilfkineaa
open Go Ev
def kp49 (i : Nat) : Option (List Nat) := Ev.look i [(6, [0, 6, 19, 20, 21]), (10, [0, 6, 7, 8, 9, 19, 20, 21, 27, 28, 29]), (100000, [6]), (100002, [0, 6, 7, 8, 9, 19, 20, 21]), (400000, [2, 3]), (400002, [2, 3])]
def Gg49 (f85 : YF85) (f86 : YF86) (f : Nat) : Option Ev.Spec := Ev.look f [(85, spg85 f85), (86, spg86 f86)]
def G49 (fuel : Nat) : Nat → Option Ev.Spec := Gg49 (F_ref12_kept fuel) (F_ref12_wanted fuel)
def S_ref12_Drop_2 (fuel : Nat) (v : (List (Int × (Int × (Int × ((List Int) × ((List Bool) × (List Int))))))) × Int × (List (Int × (Int × (Int × ((List Int) × ((List Bool) × (List Int))))))) × Int × Int × (List Int) × Int × Int × (List (Int × (Int × (Int × ((List Int) × ((List Bool) × (List Int))))))) × Int × Int × Int × (List Int) × (List Bool) × (List Int) × (List Bool)) (c : ((List (Int × (Int × (Int × ((List Int) × ((List Bool) × (List Int))))))) × Int × (List (Int × (Int × (Int × ((List Int) × ((List Bool) × (List Int))))))) × Int × Int × (List Int) × Int × Int × (List (Int × (Int × (Int × ((List Int) × ((List Bool) × (List Int))))))) × Int × Int × Int × (List Int) × (List Bool) × (List Int) × (List Bool)) → Option Ans) (B : ((List (Int × (Int × (Int × ((List Int) × ((List Bool) × (List Int))))))) × Int × (List (Int × (Int × (Int × ((List Int) × ((List Bool) × (List Int))))))) × Int × Int × (List (Int × (Int × (Int × ((List Int) × ((List Bool) × (List Int))))))) × Int × Int × Int × (List Int) × (List Bool) × (List Int) × (List Bool) → Option Ans)) : Option Ans := match v, B with
  | (x0, x1, x2, x3, x4, x5, x6, x7, x8, x9, x10, x11, x12, x13, x14, x15), b =>
   bif Decidable.decide (x7 < x6) then
      bif Decidable.decide ((0 : Int) ≤ x7 ∧ x7 < (↑x5.length : Int)) then
      bif Decidable.decide ((0 : Int) ≤ Ev.loOf (Option.some (Go.IntKind.i64.wrap (x1 + (1 : Int)))) ∧ Ev.loOf (Option.some (Go.IntKind.i64.wrap (x1 + (1 : Int)))) ≤ Ev.hiOf Option.none (↑x0.length : Int) ∧ Ev.hiOf Option.none (↑x0.length : Int) ≤ (↑x0.length : Int)) then
       (F_ref12_wanted fuel (List.take (Ev.hiOf Option.none (↑x0.length : Int) - Ev.loOf (Option.some (Go.IntKind.i64.wrap (x1 + (1 : Int))))).toNat (List.drop (Ev.loOf (Option.some (Go.IntKind.i64.wrap (x1 + (1 : Int))))).toNat x0)) (x5.getD x7.toNat (0 : Int))
          (fun y5 =>
            bif Decidable.decide ((x15.length + [y5].length) * (1 : Nat) ≤ (140737488355328 : Nat) ∧ x15.length + [y5].length ≤ (140737488355328 : Nat)) then
            c (x0, x1, x2, x3, x4, x5, x6, Go.IntKind.i64.wrap (x7 + (1 : Int)), x8, x9, x10, x11, x12, x13, x14, x15 ++ [y5])
            else none))
       else none
      else none
     else
      b (x0, x1, x2, x3, x4, x8, x9, x10, x11, x12, x13, x14, x15)
def L_ref12_Drop_2 (fuel : Nat) (v : (List (Int × (Int × (Int × ((List Int) × ((List Bool) × (List Int))))))) × Int × (List (Int × (Int × (Int × ((List Int) × ((List Bool) × (List Int))))))) × Int × Int × (List Int) × Int × Int × (List (Int × (Int × (Int × ((List Int) × ((List Bool) × (List Int))))))) × Int × Int × Int × (List Int) × (List Bool) × (List Int) × (List Bool)) (b : ((List (Int × (Int × (Int × ((List Int) × ((List Bool) × (List Int))))))) × Int × (List (Int × (Int × (Int × ((List Int) × ((List Bool) × (List Int))))))) × Int × Int × (List (Int × (Int × (Int × ((List Int) × ((List Bool) × (List Int))))))) × Int × Int × Int × (List Int) × (List Bool) × (List Int) × (List Bool) → Option Ans)) : Option Ans := iter (S_ref12_Drop_2 fuel) fuel v b
def J49_2 (fuel : Nat) (i : Nat) : Option Ev.Blk := Ev.look i []
def T49_2 (v : (List (Int × (Int × (Int × ((List Int) × ((List Bool) × (List Int))))))) × Int × (List (Int × (Int × (Int × ((List Int) × ((List Bool) × (List Int))))))) × Int × Int × (List Int) × Int × Int × (List (Int × (Int × (Int × ((List Int) × ((List Bool) × (List Int))))))) × Int × Int × Int × (List Int) × (List Bool) × (List Int) × (List Bool)) : Ev.St := match v with | (x0, x1, x2, x3, x4, x5, x6, x7, x8, x9, x10, x11, x12, x13, x14, x15) => ⟨[(0, .c (.sl (.pair (.int .i64) (.pair (.int .i64) (.pair (.int .i64) (.pair (.sl (.int .i64)) (.pair (.sl .bool) (.sl (.int .u8))))))) x0)), (6, .c (.own 0)), (7, .c (.int .i64 x1)), (8, .c (.ptr 1 0)), (9, .c (.own 2)), (19, .c (.sl (.pair (.int .i64) (.pair (.int .i64) (.pair (.int .i64) (.pair (.sl (.int .i64)) (.pair (.sl .bool) (.sl (.int .u8))))))) x2)), (20, .c (.int .i64 x3)), (21, .c (.int .i64 x4)), (27, .c (.sl (.int .i64) x5)), (28, .c (.int .i64 x6)), (29, .c (.int .i64 x7))], [(0, .vec 63 (.pair (.int .i64) (.pair (.int .i64) (.pair (.int .i64) (.pair (.sl (.int .i64)) (.pair (.sl .bool) (.sl (.int .u8))))))) x8 true), (1, .cells 63 [.int .i64 x9, .int .i64 x10, .int .i64 x11, .sl (.int .i64) x12, .sl .bool x13, .sl (.int .u8) x14]), (2, .vec 4 .bool x15 true)], 3, 0⟩
def E49_2 (K : Ev.Ex → Ev.St → Option Ans) : ((List (Int × (Int × (Int × ((List Int) × ((List Bool) × (List Int))))))) × Int × (List (Int × (Int × (Int × ((List Int) × ((List Bool) × (List Int))))))) × Int × Int × (List (Int × (Int × (Int × ((List Int) × ((List Bool) × (List Int))))))) × Int × Int × Int × (List Int) × (List Bool) × (List Int) × (List Bool) → Option Ans) := (fun v => match v with | (x0, x1, x2, x3, x4, x5, x6, x7, x8, x9, x10, x11, x12) => K .normal ⟨[(0, .c (.sl (.pair (.int .i64) (.pair (.int .i64) (.pair (.int .i64) (.pair (.sl (.int .i64)) (.pair (.sl .bool) (.sl (.int .u8))))))) x0)), (6, .c (.own 0)), (7, .c (.int .i64 x1)), (8, .c (.ptr 1 0)), (9, .c (.own 2)), (19, .c (.sl (.pair (.int .i64) (.pair (.int .i64) (.pair (.int .i64) (.pair (.sl (.int .i64)) (.pair (.sl .bool) (.sl (.int .u8))))))) x2)), (20, .c (.int .i64 x3)), (21, .c (.int .i64 x4))], [(0, .vec 63 (.pair (.int .i64) (.pair (.int .i64) (.pair (.int .i64) (.pair (.sl (.int .i64)) (.pair (.sl .bool) (.sl (.int .u8))))))) x5 true), (1, .cells 63 [.int .i64 x6, .int .i64 x7, .int .i64 x8, .sl (.int .i64) x9, .sl .bool x10, .sl (.int .u8) x11]), (2, .vec 4 .bool x12 true)], 3, 0⟩)
theorem S49_2_okg (fuel : Nat) (f85 : YF85) (f86 : YF86) (R : Ev.St → Option Ans) (K : Ev.Ex → Ev.St → Option Ans) (x0 : (List (Int × (Int × (Int × ((List Int) × ((List Bool) × (List Int)))))))) (x1 : Int) (x2 : (List (Int × (Int × (Int × ((List Int) × ((List Bool) × (List Int)))))))) (x3 : Int) (x4 : Int) (x5 : (List Int)) (x6 : Int) (x7 : Int) (x8 : (List (Int × (Int × (Int × ((List Int) × ((List Bool) × (List Int)))))))) (x9 : Int) (x10 : Int) (x11 : Int) (x12 : (List Int)) (x13 : (List Bool)) (x14 : (List Int)) (x15 : (List Bool)) : evalCode tab (Gg49 f85 f86) (J49_2 fuel) kp49 fuel (bodyOf 2 Try.f49) (T49_2 (x0, x1, x2, x3, x4, x5, x6, x7, x8, x9, x10, x11, x12, x13, x14, x15)) (lc kp49 10 2 R K) = (fun (c : ((List (Int × (Int × (Int × ((List Int) × ((List Bool) × (List Int))))))) × Int × (List (Int × (Int × (Int × ((List Int) × ((List Bool) × (List Int))))))) × Int × Int × (List Int) × Int × Int × (List (Int × (Int × (Int × ((List Int) × ((List Bool) × (List Int))))))) × Int × Int × Int × (List Int) × (List Bool) × (List Int) × (List Bool)) → Option Ans) (B : ((List (Int × (Int × (Int × ((List Int) × ((List Bool) × (List Int))))))) × Int × (List (Int × (Int × (Int × ((List Int) × ((List Bool) × (List Int))))))) × Int × Int × (List (Int × (Int × (Int × ((List Int) × ((List Bool) × (List Int))))))) × Int × Int × Int × (List Int) × (List Bool) × (List Int) × (List Bool) → Option Ans)) => match B with
  | b =>
   bif Decidable.decide (x7 < x6) then
      bif Decidable.decide ((0 : Int) ≤ x7 ∧ x7 < (↑x5.length : Int)) then
      bif Decidable.decide ((0 : Int) ≤ Ev.loOf (Option.some (Go.IntKind.i64.wrap (x1 + (1 : Int)))) ∧ Ev.loOf (Option.some (Go.IntKind.i64.wrap (x1 + (1 : Int)))) ≤ Ev.hiOf Option.none (↑x0.length : Int) ∧ Ev.hiOf Option.none (↑x0.length : Int) ≤ (↑x0.length : Int)) then
       (f86 (List.take (Ev.hiOf Option.none (↑x0.length : Int) - Ev.loOf (Option.some (Go.IntKind.i64.wrap (x1 + (1 : Int))))).toNat (List.drop (Ev.loOf (Option.some (Go.IntKind.i64.wrap (x1 + (1 : Int))))).toNat x0)) (x5.getD x7.toNat (0 : Int))
          (fun y5 =>
            bif Decidable.decide ((x15.length + [y5].length) * (1 : Nat) ≤ (140737488355328 : Nat) ∧ x15.length + [y5].length ≤ (140737488355328 : Nat)) then
            c (x0, x1, x2, x3, x4, x5, x6, Go.IntKind.i64.wrap (x7 + (1 : Int)), x8, x9, x10, x11, x12, x13, x14, x15 ++ [y5])
            else none))
       else none
      else none
     else
      b (x0, x1, x2, x3, x4, x8, x9, x10, x11, x12, x13, x14, x15)) (fun v => R (T49_2 v)) (E49_2 K) := by
  kernel_rfl
theorem S49_2_ok (fuel : Nat) (R : Ev.St → Option Ans) (K : Ev.Ex → Ev.St → Option Ans) (x0 : (List (Int × (Int × (Int × ((List Int) × ((List Bool) × (List Int)))))))) (x1 : Int) (x2 : (List (Int × (Int × (Int × ((List Int) × ((List Bool) × (List Int)))))))) (x3 : Int) (x4 : Int) (x5 : (List Int)) (x6 : Int) (x7 : Int) (x8 : (List (Int × (Int × (Int × ((List Int) × ((List Bool) × (List Int)))))))) (x9 : Int) (x10 : Int) (x11 : Int) (x12 : (List Int)) (x13 : (List Bool)) (x14 : (List Int)) (x15 : (List Bool)) : evalCode tab (G49 fuel) (J49_2 fuel) kp49 fuel (bodyOf 2 Try.f49) (T49_2 (x0, x1, x2, x3, x4, x5, x6, x7, x8, x9, x10, x11, x12, x13, x14, x15)) (lc kp49 10 2 R K) = S_ref12_Drop_2 fuel (x0, x1, x2, x3, x4, x5, x6, x7, x8, x9, x10, x11, x12, x13, x14, x15) (fun v => R (T49_2 v)) (E49_2 K) :=
  S49_2_okg fuel (F_ref12_kept fuel) (F_ref12_wanted fuel) R K x0 x1 x2 x3 x4 x5 x6 x7 x8 x9 x10 x11 x12 x13 x14 x15
def B49_2 (fuel : Nat) : Ev.Blk := fun st K => match canonO (kp49 10) st with
  | some s => (match s with
    | ⟨[(q0, .c (.sl (.pair (.int .i64) (.pair (.int .i64) (.pair (.int .i64) (.pair (.sl (.int .i64)) (.pair (.sl .bool) (.sl (.int .u8))))))) x0)), (q1, .c (.own q2)), (q3, .c (.int .i64 x1)), (q4, .c (.ptr q5 q6)), (q7, .c (.own q8)), (q9, .c (.sl (.pair (.int .i64) (.pair (.int .i64) (.pair (.int .i64) (.pair (.sl (.int .i64)) (.pair (.sl .bool) (.sl (.int .u8))))))) x2)), (q10, .c (.int .i64 x3)), (q11, .c (.int .i64 x4)), (q12, .c (.sl (.int .i64) x5)), (q13, .c (.int .i64 x6)), (q14, .c (.int .i64 x7))], [(q15, .vec q16 (.pair (.int .i64) (.pair (.int .i64) (.pair (.int .i64) (.pair (.sl (.int .i64)) (.pair (.sl .bool) (.sl (.int .u8))))))) x8 true), (q17, .cells q18 [.int .i64 x9, .int .i64 x10, .int .i64 x11, .sl (.int .i64) x12, .sl .bool x13, .sl (.int .u8) x14]), (q19, .vec q20 .bool x15 true)], q21, q22⟩ => bif Nat.beq q0 0 && Nat.beq q1 6 && Nat.beq q2 0 && Nat.beq q3 7 && Nat.beq q4 8 && Nat.beq q5 1 && Nat.beq q6 0 && Nat.beq q7 9 && Nat.beq q8 2 && Nat.beq q9 19 && Nat.beq q10 20 && Nat.beq q11 21 && Nat.beq q12 27 && Nat.beq q13 28 && Nat.beq q14 29 && Nat.beq q15 0 && Nat.beq q16 63 && Nat.beq q17 1 && Nat.beq q18 63 && Nat.beq q19 2 && Nat.beq q20 4 && Nat.beq q21 3 && Nat.beq q22 0 then iter (S_ref12_Drop_2 fuel) fuel (x0, x1, x2, x3, x4, x5, x6, x7, x8, x9, x10, x11, x12, x13, x14, x15) (E49_2 K) else none
    | _ => none)
  | none => none
theorem B49_2_ok (fuel : Nat) (st : Ev.St) (K : Ev.Ex → Ev.St → Option Ans) (r : Ans) (h : B49_2 fuel st K = some r) : evalCode tab (G49 fuel) (J49_2 fuel) kp49 fuel (.block 2 (.loop (bodyOf 2 Try.f49))) st K = some r := by
  unfold B49_2 at h
  split at h
  · rename_i s hs
    split at h
    · obtain ⟨hb, h⟩ := cond_some' h
      simp only [Bool.and_eq_true, Nat.beq_eq, decide_eq_true_eq] at hb
      obtain ⟨⟨⟨⟨⟨⟨⟨⟨⟨⟨⟨⟨⟨⟨⟨⟨⟨⟨⟨⟨⟨⟨rfl, rfl⟩, rfl⟩, rfl⟩, rfl⟩, rfl⟩, rfl⟩, rfl⟩, rfl⟩, rfl⟩, rfl⟩, rfl⟩, rfl⟩, rfl⟩, rfl⟩, rfl⟩, rfl⟩, rfl⟩, rfl⟩, rfl⟩, rfl⟩, rfl⟩, rfl⟩ := hb
      exact blk_loop (S := T49_2) (ks := E49_2) (step := S_ref12_Drop_2 fuel) (v := (_, _, _, _, _, _, _, _, _, _, _, _, _, _, _, _)) (by kernel_rfl) (by kernel_rfl) (fun R K v => by obtain ⟨x0, x1, x2, x3, x4, x5, x6, x7, x8, x9, x10, x11, x12, x13, x14, x15⟩ := v; exact S49_2_ok fuel R K x0 x1 x2 x3 x4 x5 x6 x7 x8 x9 x10 x11 x12 x13 x14 x15) hs h
    · cases h
  · cases h
def S_ref12_Drop_0 (fuel : Nat) (v : (List (Int × (Int × (Int × ((List Int) × ((List Bool) × (List Int))))))) × (List (Int × (Int × (Int × ((List Int) × ((List Bool) × (List Int))))))) × Int × Int × (List (Int × (Int × (Int × ((List Int) × ((List Bool) × (List Int)))))))) (c : ((List (Int × (Int × (Int × ((List Int) × ((List Bool) × (List Int))))))) × (List (Int × (Int × (Int × ((List Int) × ((List Bool) × (List Int))))))) × Int × Int × (List (Int × (Int × (Int × ((List Int) × ((List Bool) × (List Int)))))))) → Option Ans) (B : ((List (Int × (Int × (Int × ((List Int) × ((List Bool) × (List Int))))))) → Option Ans)) : Option Ans := match v, B with
  | (x0, x1, x2, x3, x4), b =>
   bif Decidable.decide (x3 < x2) then
      bif Decidable.decide ((0 : Int) ≤ x3 ∧ x3 < (↑x1.length : Int)) then
      (L_ref12_Drop_2 fuel (x0, x3, x1, x2, x3, (x1.getD x3.toNat ((0 : Int), (0 : Int), (0 : Int), [], [], [])).snd.snd.snd.fst, (↑(List.length (x1.getD x3.toNat ((0 : Int), (0 : Int), (0 : Int), [], [], [])).snd.snd.snd.fst) : Int), (0 : Int), x4, (x1.getD x3.toNat ((0 : Int), (0 : Int), (0 : Int), [], [], [])).fst, (x1.getD x3.toNat ((0 : Int), (0 : Int), (0 : Int), [], [], [])).snd.fst, (x1.getD x3.toNat ((0 : Int), (0 : Int), (0 : Int), [], [], [])).snd.snd.fst, (x1.getD x3.toNat ((0 : Int), (0 : Int), (0 : Int), [], [], [])).snd.snd.snd.fst, (x1.getD x3.toNat ((0 : Int), (0 : Int), (0 : Int), [], [], [])).snd.snd.snd.snd.fst, (x1.getD x3.toNat ((0 : Int), (0 : Int), (0 : Int), [], [], [])).snd.snd.snd.snd.snd, [])
         (fun (b2_0, b2_1, b2_2, b2_3, b2_4, b2_5, b2_6, b2_7, b2_8, b2_9, b2_10, b2_11, b2_12) =>
           bif Decidable.decide ((0 : Int) ≤ Ev.loOf (Option.some (Go.IntKind.i64.wrap (b2_1 + (1 : Int)))) ∧ Ev.loOf (Option.some (Go.IntKind.i64.wrap (b2_1 + (1 : Int)))) ≤ Ev.hiOf Option.none (↑b2_0.length : Int) ∧ Ev.hiOf Option.none (↑b2_0.length : Int) ≤ (↑b2_0.length : Int)) then
           (F_ref12_wanted fuel (List.take (Ev.hiOf Option.none (↑b2_0.length : Int) - Ev.loOf (Option.some (Go.IntKind.i64.wrap (b2_1 + (1 : Int))))).toNat (List.drop (Ev.loOf (Option.some (Go.IntKind.i64.wrap (b2_1 + (1 : Int))))).toNat b2_0)) (b2_6)
              (fun y9 =>
                bif Decidable.decide ((b2_12.length + [y9].length) * (1 : Nat) ≤ (140737488355328 : Nat) ∧ b2_12.length + [y9].length ≤ (140737488355328 : Nat)) then
                bif Decidable.decide ((b2_5.length + [(b2_6, b2_7, b2_8, b2_9, b2_12 ++ [y9], b2_11)].length) * (96 : Nat) ≤ (140737488355328 : Nat) ∧ b2_5.length + [(b2_6, b2_7, b2_8, b2_9, b2_12 ++ [y9], b2_11)].length ≤ (140737488355328 : Nat)) then
                 c (b2_0, b2_2, b2_3, Go.IntKind.i64.wrap (b2_4 + (1 : Int)), b2_5 ++ [(b2_6, b2_7, b2_8, b2_9, b2_12 ++ [y9], b2_11)])
                 else none
                else none))
           else none))
      else none
     else
      b x4
def L_ref12_Drop_0 (fuel : Nat) (v : (List (Int × (Int × (Int × ((List Int) × ((List Bool) × (List Int))))))) × (List (Int × (Int × (Int × ((List Int) × ((List Bool) × (List Int))))))) × Int × Int × (List (Int × (Int × (Int × ((List Int) × ((List Bool) × (List Int)))))))) (b : ((List (Int × (Int × (Int × ((List Int) × ((List Bool) × (List Int))))))) → Option Ans)) : Option Ans := iter (S_ref12_Drop_0 fuel) fuel v b
def J49_0 (fuel : Nat) (i : Nat) : Option Ev.Blk := Ev.look i [(100002, B49_2 fuel)]
def T49_0 (v : (List (Int × (Int × (Int × ((List Int) × ((List Bool) × (List Int))))))) × (List (Int × (Int × (Int × ((List Int) × ((List Bool) × (List Int))))))) × Int × Int × (List (Int × (Int × (Int × ((List Int) × ((List Bool) × (List Int)))))))) : Ev.St := match v with | (x0, x1, x2, x3, x4) => ⟨[(0, .c (.sl (.pair (.int .i64) (.pair (.int .i64) (.pair (.int .i64) (.pair (.sl (.int .i64)) (.pair (.sl .bool) (.sl (.int .u8))))))) x0)), (6, .c (.own 0)), (19, .c (.sl (.pair (.int .i64) (.pair (.int .i64) (.pair (.int .i64) (.pair (.sl (.int .i64)) (.pair (.sl .bool) (.sl (.int .u8))))))) x1)), (20, .c (.int .i64 x2)), (21, .c (.int .i64 x3))], [(0, .vec 63 (.pair (.int .i64) (.pair (.int .i64) (.pair (.int .i64) (.pair (.sl (.int .i64)) (.pair (.sl .bool) (.sl (.int .u8))))))) x4 true)], 1, 0⟩
def E49_0 (K : Ev.Ex → Ev.St → Option Ans) : ((List (Int × (Int × (Int × ((List Int) × ((List Bool) × (List Int))))))) → Option Ans) := (fun v => match v with | x0 => K .normal ⟨[(6, .c (.own 0))], [(0, .vec 63 (.pair (.int .i64) (.pair (.int .i64) (.pair (.int .i64) (.pair (.sl (.int .i64)) (.pair (.sl .bool) (.sl (.int .u8))))))) x0 true)], 1, 0⟩)
theorem S49_0_okg (fuel : Nat) (f85 : YF85) (f86 : YF86) (R : Ev.St → Option Ans) (K : Ev.Ex → Ev.St → Option Ans) (x0 : (List (Int × (Int × (Int × ((List Int) × ((List Bool) × (List Int)))))))) (x1 : (List (Int × (Int × (Int × ((List Int) × ((List Bool) × (List Int)))))))) (x2 : Int) (x3 : Int) (x4 : (List (Int × (Int × (Int × ((List Int) × ((List Bool) × (List Int)))))))) : evalCode tab (Gg49 f85 f86) (J49_0 fuel) kp49 fuel (bodyOf 0 Try.f49) (T49_0 (x0, x1, x2, x3, x4)) (lc kp49 6 0 R K) = (fun (c : ((List (Int × (Int × (Int × ((List Int) × ((List Bool) × (List Int))))))) × (List (Int × (Int × (Int × ((List Int) × ((List Bool) × (List Int))))))) × Int × Int × (List (Int × (Int × (Int × ((List Int) × ((List Bool) × (List Int)))))))) → Option Ans) (B : ((List (Int × (Int × (Int × ((List Int) × ((List Bool) × (List Int))))))) → Option Ans)) => match B with
  | b =>
   bif Decidable.decide (x3 < x2) then
      bif Decidable.decide ((0 : Int) ≤ x3 ∧ x3 < (↑x1.length : Int)) then
      (L_ref12_Drop_2 fuel (x0, x3, x1, x2, x3, (x1.getD x3.toNat ((0 : Int), (0 : Int), (0 : Int), [], [], [])).snd.snd.snd.fst, (↑(List.length (x1.getD x3.toNat ((0 : Int), (0 : Int), (0 : Int), [], [], [])).snd.snd.snd.fst) : Int), (0 : Int), x4, (x1.getD x3.toNat ((0 : Int), (0 : Int), (0 : Int), [], [], [])).fst, (x1.getD x3.toNat ((0 : Int), (0 : Int), (0 : Int), [], [], [])).snd.fst, (x1.getD x3.toNat ((0 : Int), (0 : Int), (0 : Int), [], [], [])).snd.snd.fst, (x1.getD x3.toNat ((0 : Int), (0 : Int), (0 : Int), [], [], [])).snd.snd.snd.fst, (x1.getD x3.toNat ((0 : Int), (0 : Int), (0 : Int), [], [], [])).snd.snd.snd.snd.fst, (x1.getD x3.toNat ((0 : Int), (0 : Int), (0 : Int), [], [], [])).snd.snd.snd.snd.snd, [])
         (fun (b2_0, b2_1, b2_2, b2_3, b2_4, b2_5, b2_6, b2_7, b2_8, b2_9, b2_10, b2_11, b2_12) =>
           bif Decidable.decide ((0 : Int) ≤ Ev.loOf (Option.some (Go.IntKind.i64.wrap (b2_1 + (1 : Int)))) ∧ Ev.loOf (Option.some (Go.IntKind.i64.wrap (b2_1 + (1 : Int)))) ≤ Ev.hiOf Option.none (↑b2_0.length : Int) ∧ Ev.hiOf Option.none (↑b2_0.length : Int) ≤ (↑b2_0.length : Int)) then
           (f86 (List.take (Ev.hiOf Option.none (↑b2_0.length : Int) - Ev.loOf (Option.some (Go.IntKind.i64.wrap (b2_1 + (1 : Int))))).toNat (List.drop (Ev.loOf (Option.some (Go.IntKind.i64.wrap (b2_1 + (1 : Int))))).toNat b2_0)) (b2_6)
              (fun y9 =>
                bif Decidable.decide ((b2_12.length + [y9].length) * (1 : Nat) ≤ (140737488355328 : Nat) ∧ b2_12.length + [y9].length ≤ (140737488355328 : Nat)) then
                bif Decidable.decide ((b2_5.length + [(b2_6, b2_7, b2_8, b2_9, b2_12 ++ [y9], b2_11)].length) * (96 : Nat) ≤ (140737488355328 : Nat) ∧ b2_5.length + [(b2_6, b2_7, b2_8, b2_9, b2_12 ++ [y9], b2_11)].length ≤ (140737488355328 : Nat)) then
                 c (b2_0, b2_2, b2_3, Go.IntKind.i64.wrap (b2_4 + (1 : Int)), b2_5 ++ [(b2_6, b2_7, b2_8, b2_9, b2_12 ++ [y9], b2_11)])
                 else none
                else none))
           else none))
      else none
     else
      b x4) (fun v => R (T49_0 v)) (E49_0 K) := by
  kernel_rfl
theorem S49_0_ok (fuel : Nat) (R : Ev.St → Option Ans) (K : Ev.Ex → Ev.St → Option Ans) (x0 : (List (Int × (Int × (Int × ((List Int) × ((List Bool) × (List Int)))))))) (x1 : (List (Int × (Int × (Int × ((List Int) × ((List Bool) × (List Int)))))))) (x2 : Int) (x3 : Int) (x4 : (List (Int × (Int × (Int × ((List Int) × ((List Bool) × (List Int)))))))) : evalCode tab (G49 fuel) (J49_0 fuel) kp49 fuel (bodyOf 0 Try.f49) (T49_0 (x0, x1, x2, x3, x4)) (lc kp49 6 0 R K) = S_ref12_Drop_0 fuel (x0, x1, x2, x3, x4) (fun v => R (T49_0 v)) (E49_0 K) :=
  S49_0_okg fuel (F_ref12_kept fuel) (F_ref12_wanted fuel) R K x0 x1 x2 x3 x4
def B49_0 (fuel : Nat) : Ev.Blk := fun st K => match canonO (kp49 6) st with
  | some s => (match s with
    | ⟨[(q0, .c (.sl (.pair (.int .i64) (.pair (.int .i64) (.pair (.int .i64) (.pair (.sl (.int .i64)) (.pair (.sl .bool) (.sl (.int .u8))))))) x0)), (q1, .c (.own q2)), (q3, .c (.sl (.pair (.int .i64) (.pair (.int .i64) (.pair (.int .i64) (.pair (.sl (.int .i64)) (.pair (.sl .bool) (.sl (.int .u8))))))) x1)), (q4, .c (.int .i64 x2)), (q5, .c (.int .i64 x3))], [(q6, .vec q7 (.pair (.int .i64) (.pair (.int .i64) (.pair (.int .i64) (.pair (.sl (.int .i64)) (.pair (.sl .bool) (.sl (.int .u8))))))) x4 true)], q8, q9⟩ => bif Nat.beq q0 0 && Nat.beq q1 6 && Nat.beq q2 0 && Nat.beq q3 19 && Nat.beq q4 20 && Nat.beq q5 21 && Nat.beq q6 0 && Nat.beq q7 63 && Nat.beq q8 1 && Nat.beq q9 0 then iter (S_ref12_Drop_0 fuel) fuel (x0, x1, x2, x3, x4) (E49_0 K) else none
    | _ => none)
  | none => none
theorem B49_0_ok (fuel : Nat) (st : Ev.St) (K : Ev.Ex → Ev.St → Option Ans) (r : Ans) (h : B49_0 fuel st K = some r) : evalCode tab (G49 fuel) (J49_0 fuel) kp49 fuel (.block 0 (.loop (bodyOf 0 Try.f49))) st K = some r := by
  unfold B49_0 at h
  split at h
  · rename_i s hs
    split at h
    · obtain ⟨hb, h⟩ := cond_some' h
      simp only [Bool.and_eq_true, Nat.beq_eq, decide_eq_true_eq] at hb
      obtain ⟨⟨⟨⟨⟨⟨⟨⟨⟨rfl, rfl⟩, rfl⟩, rfl⟩, rfl⟩, rfl⟩, rfl⟩, rfl⟩, rfl⟩, rfl⟩ := hb
      exact blk_loop (S := T49_0) (ks := E49_0) (step := S_ref12_Drop_0 fuel) (v := (_, _, _, _, _)) (by kernel_rfl) (by kernel_rfl) (fun R K v => by obtain ⟨x0, x1, x2, x3, x4⟩ := v; exact S49_0_ok fuel R K x0 x1 x2 x3 x4) hs h
    · cases h
  · cases h
def J49 (fuel : Nat) (i : Nat) : Option Ev.Blk := Ev.look i [(100002, B49_2 fuel), (100000, B49_0 fuel)]
def F_ref12_Drop (fuel : Nat) (x0 : (List (Int × Int × Int × (List Int) × (List Bool) × (List Int)))) (k0 : (Int × (List (Int × (Int × (Int × ((List Int) × ((List Bool) × (List Int)))))))) → Option Ans) : Option Ans :=
  (F_ref12_kept fuel (x0)
    (fun (y2_0, y2_1) =>
      bif Decidable.decide (y2_0 ≥ (0 : Int)) then
       k0 ((40 : Int), [])
      else
       (L_ref12_Drop_0 fuel (x0, x0, (↑x0.length : Int), (0 : Int), [])
         (fun b0_0 =>
           k0 ((0 : Int), b0_0)))))
abbrev YF49 : Type := ((List (Int × Int × Int × (List Int) × (List Bool) × (List Int)))) → ((Int × (List (Int × (Int × (Int × ((List Int) × ((List Bool) × (List Int)))))))) → Option Ans) → Option Ans
theorem F49_eqg (fuel : Nat) (f85 : YF85) (f86 : YF86) (x0 : (List (Int × Int × Int × (List Int) × (List Bool) × (List Int)))) (k : Ev.Cont) : evalFn tab (Gg49 f85 f86) (J49 fuel) kp49 fuel Try.f49 [.c (.sl (.pair (.int .i64) (.pair (.int .i64) (.pair (.int .i64) (.pair (.sl (.int .i64)) (.pair (.sl .bool) (.sl (.int .u8))))))) x0)] [] k = (fun  (k0 : (Int × (List (Int × (Int × (Int × ((List Int) × ((List Bool) × (List Int)))))))) → Option Ans) =>
  (f85 (x0)
    (fun (y2_0, y2_1) =>
      bif Decidable.decide (y2_0 ≥ (0 : Int)) then
       k0 ((40 : Int), [])
      else
       (L_ref12_Drop_0 fuel (x0, x0, (↑x0.length : Int), (0 : Int), [])
         (fun b0_0 =>
           k0 ((0 : Int), b0_0)))))) (fun r => match r with | (r0, r1) => k (.tup [(false, [.own 0]), (false, [.int .i64 r0])], [.vec 63 (.pair (.int .i64) (.pair (.int .i64) (.pair (.int .i64) (.pair (.sl (.int .i64)) (.pair (.sl .bool) (.sl (.int .u8))))))) r1 true])) := by
  kernel_rfl
theorem F49_eq (fuel : Nat) (x0 : (List (Int × Int × Int × (List Int) × (List Bool) × (List Int)))) (k : Ev.Cont) : evalFn tab (G49 fuel) (J49 fuel) kp49 fuel Try.f49 [.c (.sl (.pair (.int .i64) (.pair (.int .i64) (.pair (.int .i64) (.pair (.sl (.int .i64)) (.pair (.sl .bool) (.sl (.int .u8))))))) x0)] [] k = F_ref12_Drop fuel x0 (fun r => match r with | (r0, r1) => k (.tup [(false, [.own 0]), (false, [.int .i64 r0])], [.vec 63 (.pair (.int .i64) (.pair (.int .i64) (.pair (.int .i64) (.pair (.sl (.int .i64)) (.pair (.sl .bool) (.sl (.int .u8))))))) r1 true])) :=
  F49_eqg fuel (F_ref12_kept fuel) (F_ref12_wanted fuel) x0 k
theorem hG49 (fuel : Nat) : GOK Try.prog (G49 fuel) :=
  gok_cons ⟨ok85 fuel, enters_of Try.func85 (by kernel_rfl) rfl⟩ <|
  gok_cons ⟨ok86 fuel, enters_of Try.func86 (by kernel_rfl) rfl⟩ <|
  gok_nil
theorem B49_2_blk (fuel : Nat) : BlkOK Try.prog Try.f49.ntmps (.block 2 (.loop (bodyOf 2 Try.f49))) (B49_2 fuel) :=
  blk_of (blk_of_code tab_ok (hG49 fuel) mixed (J := J49_2 fuel) (kp := kp49) (fuel := fuel) (by kernel_rfl) (fun q hq => by
    rw [(by kernel_rfl : obl (J49_2 fuel) (.block 2 (.loop (bodyOf 2 Try.f49))) = [])] at hq
    cases hq)) (B49_2_ok fuel)
theorem B49_0_blk (fuel : Nat) : BlkOK Try.prog Try.f49.ntmps (.block 0 (.loop (bodyOf 0 Try.f49))) (B49_0 fuel) :=
  blk_of (blk_of_code tab_ok (hG49 fuel) mixed (J := J49_0 fuel) (kp := kp49) (fuel := fuel) (by kernel_rfl) (fun q hq => by
    rw [(by kernel_rfl : obl (J49_0 fuel) (.block 0 (.loop (bodyOf 0 Try.f49))) = [(.block 2 (.loop (bodyOf 2 Try.f49)), B49_2 fuel)])] at hq
    simp only [List.mem_cons, List.not_mem_nil, or_false] at hq
    subst hq
    · exact B49_2_blk fuel)) (B49_0_ok fuel)
theorem fok49 (fuel : Nat) : FnOK Try.prog 49 (evalFn tab (G49 fuel) (J49 fuel) kp49 fuel Try.f49) :=
  fn_ok tab_ok (hG49 fuel) mixed Try.func49 (c := (Try.f49.body).getD .skip) rfl (fun q hq => by
    rw [(by kernel_rfl : obl (J49 fuel) ((Try.f49.body).getD .skip) = [(.block 0 (.loop (bodyOf 0 Try.f49)), B49_0 fuel)])] at hq
    simp only [List.mem_cons, List.not_mem_nil, or_false] at hq
    subst hq
    · exact B49_0_blk fuel)
def mt49 : List Ev.SV → List Ev.Ob → Bool := fun args objs => match args, objs with
  | [.c (.sl (.pair (.int .i64) (.pair (.int .i64) (.pair (.int .i64) (.pair (.sl (.int .i64)) (.pair (.sl .bool) (.sl (.int .u8))))))) _)], [] => true
  | _, _ => false
def spg49 (F : YF49) : Ev.Spec := fun args objs k => match args, objs with
  | [.c (.sl (.pair (.int .i64) (.pair (.int .i64) (.pair (.int .i64) (.pair (.sl (.int .i64)) (.pair (.sl .bool) (.sl (.int .u8))))))) x0)], [] => bif true then F x0 (fun r => match r with | (r0, r1) => k (.tup [(false, [.own 0]), (false, [.int .i64 r0])], [.vec 63 (.pair (.int .i64) (.pair (.int .i64) (.pair (.int .i64) (.pair (.sl (.int .i64)) (.pair (.sl .bool) (.sl (.int .u8))))))) r1 true])) else none
  | _, _ => none
def spec49 (fuel : Nat) : Ev.Spec := spg49 (F_ref12_Drop fuel)
theorem ok49 (fuel : Nat) : FnOK Try.prog 49 (spec49 fuel) := by
  intro args objs kk r h
  unfold spec49 spg49 at h
  split at h
  · obtain ⟨hb, h⟩ := cond_some' h
    simp only [Bool.and_eq_true, Nat.beq_eq, decide_eq_true_eq] at hb
    clear hb
    exact fok49 fuel _ _ kk r ((F49_eq fuel _ kk).trans h)
  · cases h
end Go.Proofs.Ytajidgilfkineaa

set_option linter.unusedVariables false
set_option linter.unusedSimpArgs false
set_option maxRecDepth 100000
namespace Go.Proofs.Ytajidgilfkineaa
open Go Ev
def kp47 (i : Nat) : Option (List Nat) := Ev.look i [(4, [2, 3, 55, 56]), (10, [2, 3, 73, 74]), (100000, [2, 3]), (100002, []), (200006, [2, 3]), (200012, [2, 3]), (400000, [4]), (400002, [4])]
def Gg47 (f : Nat) : Option Ev.Spec := Ev.look f []
def G47 (fuel : Nat) : Nat → Option Ev.Spec := Gg47
def S_ref12_Same_0 (fuel : Nat) (v : Int × Int × Int × Int × Int × (List Int) × (List Bool) × (List Int) × Int × Int × Int × (List Int) × (List Bool) × (List Int)) (c : (Int × Int × Int × Int × Int × (List Int) × (List Bool) × (List Int) × Int × Int × Int × (List Int) × (List Bool) × (List Int)) → Option Ans) (B : (Bool → Option Ans) × (Int × Int × Int × (List Int) × (List Bool) × (List Int) × Int × Int × Int × (List Int) × (List Bool) × (List Int) → Option Ans)) : Option Ans := match v, B with
  | (x0, x1, x2, x3, x4, x5, x6, x7, x8, x9, x10, x11, x12, x13), (ret, b) =>
   bif Decidable.decide (x1 < x0) then
      bif Decidable.decide ((0 : Int) ≤ x1 ∧ x1 < (↑x5.length : Int)) then
      bif Decidable.decide ((0 : Int) ≤ x1 ∧ x1 < (↑x11.length : Int)) then
       bif x5.getD x1.toNat (0 : Int) != x11.getD x1.toNat (0 : Int) then
         ret Bool.false
        else
         c (x0, Go.IntKind.i64.wrap (x1 + (1 : Int)), x2, x3, x4, x5, x6, x7, x8, x9, x10, x11, x12, x13)
       else none
      else none
     else
      b (x2, x3, x4, x5, x6, x7, x8, x9, x10, x11, x12, x13)
def L_ref12_Same_0 (fuel : Nat) (v : Int × Int × Int × Int × Int × (List Int) × (List Bool) × (List Int) × Int × Int × Int × (List Int) × (List Bool) × (List Int)) (ret : (Bool → Option Ans)) (b : (Int × Int × Int × (List Int) × (List Bool) × (List Int) × Int × Int × Int × (List Int) × (List Bool) × (List Int) → Option Ans)) : Option Ans := iter (S_ref12_Same_0 fuel) fuel v (ret, b)
def J47_0 (fuel : Nat) (i : Nat) : Option Ev.Blk := Ev.look i []
def T47_0 (v : Int × Int × Int × Int × Int × (List Int) × (List Bool) × (List Int) × Int × Int × Int × (List Int) × (List Bool) × (List Int)) : Ev.St := match v with | (x0, x1, x2, x3, x4, x5, x6, x7, x8, x9, x10, x11, x12, x13) => ⟨[(2, .c (.ptr 0 0)), (3, .c (.ptr 1 0)), (55, .c (.int .i64 x0)), (56, .c (.int .i64 x1))], [(0, .cells 63 [.int .i64 x2, .int .i64 x3, .int .i64 x4, .sl (.int .i64) x5, .sl .bool x6, .sl (.int .u8) x7]), (1, .cells 63 [.int .i64 x8, .int .i64 x9, .int .i64 x10, .sl (.int .i64) x11, .sl .bool x12, .sl (.int .u8) x13])], 2, 0⟩
def E47_0 (K : Ev.Ex → Ev.St → Option Ans) : (Bool → Option Ans) × (Int × Int × Int × (List Int) × (List Bool) × (List Int) × Int × Int × Int × (List Int) × (List Bool) × (List Int) → Option Ans) := ((fun v => match v with | x0 => K .ret ⟨[(4, .c (.bool x0))], [], 0, 0⟩), (fun v => match v with | (x0, x1, x2, x3, x4, x5, x6, x7, x8, x9, x10, x11) => K .normal ⟨[(2, .c (.ptr 0 0)), (3, .c (.ptr 1 0))], [(0, .cells 63 [.int .i64 x0, .int .i64 x1, .int .i64 x2, .sl (.int .i64) x3, .sl .bool x4, .sl (.int .u8) x5]), (1, .cells 63 [.int .i64 x6, .int .i64 x7, .int .i64 x8, .sl (.int .i64) x9, .sl .bool x10, .sl (.int .u8) x11])], 2, 0⟩))
theorem S47_0_ok (fuel : Nat) (R : Ev.St → Option Ans) (K : Ev.Ex → Ev.St → Option Ans) (x0 : Int) (x1 : Int) (x2 : Int) (x3 : Int) (x4 : Int) (x5 : (List Int)) (x6 : (List Bool)) (x7 : (List Int)) (x8 : Int) (x9 : Int) (x10 : Int) (x11 : (List Int)) (x12 : (List Bool)) (x13 : (List Int)) : evalCode tab (G47 fuel) (J47_0 fuel) kp47 fuel (bodyOf 0 Try.f47) (T47_0 (x0, x1, x2, x3, x4, x5, x6, x7, x8, x9, x10, x11, x12, x13)) (lc kp47 4 0 R K) = S_ref12_Same_0 fuel (x0, x1, x2, x3, x4, x5, x6, x7, x8, x9, x10, x11, x12, x13) (fun v => R (T47_0 v)) (E47_0 K) := by
  kernel_rfl
def B47_0 (fuel : Nat) : Ev.Blk := fun st K => match canonO (kp47 4) st with
  | some s => (match s with
    | ⟨[(q0, .c (.ptr q1 q2)), (q3, .c (.ptr q4 q5)), (q6, .c (.int .i64 x0)), (q7, .c (.int .i64 x1))], [(q8, .cells q9 [.int .i64 x2, .int .i64 x3, .int .i64 x4, .sl (.int .i64) x5, .sl .bool x6, .sl (.int .u8) x7]), (q10, .cells q11 [.int .i64 x8, .int .i64 x9, .int .i64 x10, .sl (.int .i64) x11, .sl .bool x12, .sl (.int .u8) x13])], q12, q13⟩ => bif Nat.beq q0 2 && Nat.beq q1 0 && Nat.beq q2 0 && Nat.beq q3 3 && Nat.beq q4 1 && Nat.beq q5 0 && Nat.beq q6 55 && Nat.beq q7 56 && Nat.beq q8 0 && Nat.beq q9 63 && Nat.beq q10 1 && Nat.beq q11 63 && Nat.beq q12 2 && Nat.beq q13 0 then iter (S_ref12_Same_0 fuel) fuel (x0, x1, x2, x3, x4, x5, x6, x7, x8, x9, x10, x11, x12, x13) (E47_0 K) else none
    | _ => none)
  | none => none
theorem B47_0_ok (fuel : Nat) (st : Ev.St) (K : Ev.Ex → Ev.St → Option Ans) (r : Ans) (h : B47_0 fuel st K = some r) : evalCode tab (G47 fuel) (J47_0 fuel) kp47 fuel (.block 0 (.loop (bodyOf 0 Try.f47))) st K = some r := by
  unfold B47_0 at h
  split at h
  · rename_i s hs
    split at h
    · obtain ⟨hb, h⟩ := cond_some' h
      simp only [Bool.and_eq_true, Nat.beq_eq, decide_eq_true_eq] at hb
      obtain ⟨⟨⟨⟨⟨⟨⟨⟨⟨⟨⟨⟨⟨rfl, rfl⟩, rfl⟩, rfl⟩, rfl⟩, rfl⟩, rfl⟩, rfl⟩, rfl⟩, rfl⟩, rfl⟩, rfl⟩, rfl⟩, rfl⟩ := hb
      exact blk_loop (S := T47_0) (ks := E47_0) (step := S_ref12_Same_0 fuel) (v := (_, _, _, _, _, _, _, _, _, _, _, _, _, _)) (by kernel_rfl) (by kernel_rfl) (fun R K v => by obtain ⟨x0, x1, x2, x3, x4, x5, x6, x7, x8, x9, x10, x11, x12, x13⟩ := v; exact S47_0_ok fuel R K x0 x1 x2 x3 x4 x5 x6 x7 x8 x9 x10 x11 x12 x13) hs h
    · cases h
  · cases h
def S_ref12_Same_2 (fuel : Nat) (v : Int × Int × Int × Int × Int × (List Int) × (List Bool) × (List Int) × Int × Int × Int × (List Int) × (List Bool) × (List Int)) (c : (Int × Int × Int × Int × Int × (List Int) × (List Bool) × (List Int) × Int × Int × Int × (List Int) × (List Bool) × (List Int)) → Option Ans) (B : (Bool → Option Ans) × (Unit → Option Ans)) : Option Ans := match v, B with
  | (x0, x1, x2, x3, x4, x5, x6, x7, x8, x9, x10, x11, x12, x13), (ret, b) =>
   bif Decidable.decide (x1 < x0) then
      bif Decidable.decide ((0 : Int) ≤ x1 ∧ x1 < (↑x6.length : Int)) then
      bif Decidable.decide ((0 : Int) ≤ x1 ∧ x1 < (↑x12.length : Int)) then
       bif !x6.getD x1.toNat Bool.false == x12.getD x1.toNat Bool.false then
         ret Bool.false
        else
         c (x0, Go.IntKind.i64.wrap (x1 + (1 : Int)), x2, x3, x4, x5, x6, x7, x8, x9, x10, x11, x12, x13)
       else none
      else none
     else
      b ()
def L_ref12_Same_2 (fuel : Nat) (v : Int × Int × Int × Int × Int × (List Int) × (List Bool) × (List Int) × Int × Int × Int × (List Int) × (List Bool) × (List Int)) (ret : (Bool → Option Ans)) (b : (Unit → Option Ans)) : Option Ans := iter (S_ref12_Same_2 fuel) fuel v (ret, b)
def J47_2 (fuel : Nat) (i : Nat) : Option Ev.Blk := Ev.look i [(100000, B47_0 fuel)]
def T47_2 (v : Int × Int × Int × Int × Int × (List Int) × (List Bool) × (List Int) × Int × Int × Int × (List Int) × (List Bool) × (List Int)) : Ev.St := match v with | (x0, x1, x2, x3, x4, x5, x6, x7, x8, x9, x10, x11, x12, x13) => ⟨[(2, .c (.ptr 0 0)), (3, .c (.ptr 1 0)), (73, .c (.int .i64 x0)), (74, .c (.int .i64 x1))], [(0, .cells 63 [.int .i64 x2, .int .i64 x3, .int .i64 x4, .sl (.int .i64) x5, .sl .bool x6, .sl (.int .u8) x7]), (1, .cells 63 [.int .i64 x8, .int .i64 x9, .int .i64 x10, .sl (.int .i64) x11, .sl .bool x12, .sl (.int .u8) x13])], 2, 0⟩
def E47_2 (K : Ev.Ex → Ev.St → Option Ans) : (Bool → Option Ans) × (Unit → Option Ans) := ((fun v => match v with | x0 => K .ret ⟨[(4, .c (.bool x0))], [], 0, 0⟩), (fun v => match v with | () => K .normal ⟨[], [], 0, 0⟩))
theorem S47_2_ok (fuel : Nat) (R : Ev.St → Option Ans) (K : Ev.Ex → Ev.St → Option Ans) (x0 : Int) (x1 : Int) (x2 : Int) (x3 : Int) (x4 : Int) (x5 : (List Int)) (x6 : (List Bool)) (x7 : (List Int)) (x8 : Int) (x9 : Int) (x10 : Int) (x11 : (List Int)) (x12 : (List Bool)) (x13 : (List Int)) : evalCode tab (G47 fuel) (J47_2 fuel) kp47 fuel (bodyOf 2 Try.f47) (T47_2 (x0, x1, x2, x3, x4, x5, x6, x7, x8, x9, x10, x11, x12, x13)) (lc kp47 10 2 R K) = S_ref12_Same_2 fuel (x0, x1, x2, x3, x4, x5, x6, x7, x8, x9, x10, x11, x12, x13) (fun v => R (T47_2 v)) (E47_2 K) := by
  kernel_rfl
def B47_2 (fuel : Nat) : Ev.Blk := fun st K => match canonO (kp47 10) st with
  | some s => (match s with
    | ⟨[(q0, .c (.ptr q1 q2)), (q3, .c (.ptr q4 q5)), (q6, .c (.int .i64 x0)), (q7, .c (.int .i64 x1))], [(q8, .cells q9 [.int .i64 x2, .int .i64 x3, .int .i64 x4, .sl (.int .i64) x5, .sl .bool x6, .sl (.int .u8) x7]), (q10, .cells q11 [.int .i64 x8, .int .i64 x9, .int .i64 x10, .sl (.int .i64) x11, .sl .bool x12, .sl (.int .u8) x13])], q12, q13⟩ => bif Nat.beq q0 2 && Nat.beq q1 0 && Nat.beq q2 0 && Nat.beq q3 3 && Nat.beq q4 1 && Nat.beq q5 0 && Nat.beq q6 73 && Nat.beq q7 74 && Nat.beq q8 0 && Nat.beq q9 63 && Nat.beq q10 1 && Nat.beq q11 63 && Nat.beq q12 2 && Nat.beq q13 0 then iter (S_ref12_Same_2 fuel) fuel (x0, x1, x2, x3, x4, x5, x6, x7, x8, x9, x10, x11, x12, x13) (E47_2 K) else none
    | _ => none)
  | none => none
theorem B47_2_ok (fuel : Nat) (st : Ev.St) (K : Ev.Ex → Ev.St → Option Ans) (r : Ans) (h : B47_2 fuel st K = some r) : evalCode tab (G47 fuel) (J47_2 fuel) kp47 fuel (.block 2 (.loop (bodyOf 2 Try.f47))) st K = some r := by
  unfold B47_2 at h
  split at h
  · rename_i s hs
    split at h
    · obtain ⟨hb, h⟩ := cond_some' h
      simp only [Bool.and_eq_true, Nat.beq_eq, decide_eq_true_eq] at hb
      obtain ⟨⟨⟨⟨⟨⟨⟨⟨⟨⟨⟨⟨⟨rfl, rfl⟩, rfl⟩, rfl⟩, rfl⟩, rfl⟩, rfl⟩, rfl⟩, rfl⟩, rfl⟩, rfl⟩, rfl⟩, rfl⟩, rfl⟩ := hb
      exact blk_loop (S := T47_2) (ks := E47_2) (step := S_ref12_Same_2 fuel) (v := (_, _, _, _, _, _, _, _, _, _, _, _, _, _)) (by kernel_rfl) (by kernel_rfl) (fun R K v => by obtain ⟨x0, x1, x2, x3, x4, x5, x6, x7, x8, x9, x10, x11, x12, x13⟩ := v; exact S47_2_ok fuel R K x0 x1 x2 x3 x4 x5 x6 x7 x8 x9 x10 x11 x12 x13) hs h
    · cases h
  · cases h
def J47 (fuel : Nat) (i : Nat) : Option Ev.Blk := Ev.look i [(100000, B47_0 fuel), (100002, B47_2 fuel)]
def F_ref12_Same (fuel : Nat) (x0 : Int) (x1 : Int) (x2 : Int) (x3 : (List Int)) (x4 : (List Bool)) (x5 : (List Int)) (x6 : Int) (x7 : Int) (x8 : Int) (x9 : (List Int)) (x10 : (List Bool)) (x11 : (List Int)) (k0 : (Bool) → Option Ans) : Option Ans :=
  bif x0 != x6 then
   k0 Bool.false
  else
   bif x1 != x7 then
    k0 Bool.false
   else
    bif x2 != x8 then
     k0 Bool.false
    else
     bif (↑x3.length : Int) != (↑x9.length : Int) then
      k0 Bool.false
     else
      bif (↑x4.length : Int) != (↑x10.length : Int) then
       k0 Bool.false
      else
       bif !(Go.strOfNums x5).toList == (Go.strOfNums x11).toList then
        k0 Bool.false
       else
        (L_ref12_Same_0 fuel ((↑x3.length : Int), (0 : Int), x0, x1, x2, x3, x4, x5, x6, x7, x8, x9, x10, x11)
          (fun ret0_0 =>
            k0 ret0_0)
          (fun (b0_0, b0_1, b0_2, b0_3, b0_4, b0_5, b0_6, b0_7, b0_8, b0_9, b0_10, b0_11) =>
            (L_ref12_Same_2 fuel ((↑b0_4.length : Int), (0 : Int), b0_0, b0_1, b0_2, b0_3, b0_4, b0_5, b0_6, b0_7, b0_8, b0_9, b0_10, b0_11)
              (fun ret2_0 =>
                k0 ret2_0)
              (fun () =>
                k0 Bool.true))))
abbrev YF47 : Type := (Int) → (Int) → (Int) → ((List Int)) → ((List Bool)) → ((List Int)) → (Int) → (Int) → (Int) → ((List Int)) → ((List Bool)) → ((List Int)) → ((Bool) → Option Ans) → Option Ans
theorem F47_eq (fuel : Nat) (x0 : Int) (x1 : Int) (x2 : Int) (x3 : (List Int)) (x4 : (List Bool)) (x5 : (List Int)) (x6 : Int) (x7 : Int) (x8 : Int) (x9 : (List Int)) (x10 : (List Bool)) (x11 : (List Int)) (k : Ev.Cont) : evalFn tab (G47 fuel) (J47 fuel) kp47 fuel Try.f47 [.agg [.int .i64 x0, .int .i64 x1, .int .i64 x2, .sl (.int .i64) x3, .sl .bool x4, .sl (.int .u8) x5], .agg [.int .i64 x6, .int .i64 x7, .int .i64 x8, .sl (.int .i64) x9, .sl .bool x10, .sl (.int .u8) x11]] [] k = F_ref12_Same fuel x0 x1 x2 x3 x4 x5 x6 x7 x8 x9 x10 x11 (fun r => match r with | r0 => k (.c (.bool r0), [])) := by
  kernel_rfl
theorem hG47 (fuel : Nat) : GOK Try.prog (G47 fuel) :=
  gok_nil
theorem B47_0_blk (fuel : Nat) : BlkOK Try.prog Try.f47.ntmps (.block 0 (.loop (bodyOf 0 Try.f47))) (B47_0 fuel) :=
  blk_of (blk_of_code tab_ok (hG47 fuel) mixed (J := J47_0 fuel) (kp := kp47) (fuel := fuel) (by kernel_rfl) (fun q hq => by
    rw [(by kernel_rfl : obl (J47_0 fuel) (.block 0 (.loop (bodyOf 0 Try.f47))) = [])] at hq
    cases hq)) (B47_0_ok fuel)
theorem B47_2_blk (fuel : Nat) : BlkOK Try.prog Try.f47.ntmps (.block 2 (.loop (bodyOf 2 Try.f47))) (B47_2 fuel) :=
  blk_of (blk_of_code tab_ok (hG47 fuel) mixed (J := J47_2 fuel) (kp := kp47) (fuel := fuel) (by kernel_rfl) (fun q hq => by
    rw [(by kernel_rfl : obl (J47_2 fuel) (.block 2 (.loop (bodyOf 2 Try.f47))) = [])] at hq
    cases hq)) (B47_2_ok fuel)
theorem fok47 (fuel : Nat) : FnOK Try.prog 47 (evalFn tab (G47 fuel) (J47 fuel) kp47 fuel Try.f47) :=
  fn_ok tab_ok (hG47 fuel) mixed Try.func47 (c := (Try.f47.body).getD .skip) rfl (fun q hq => by
    rw [(by kernel_rfl : obl (J47 fuel) ((Try.f47.body).getD .skip) = [(.block 0 (.loop (bodyOf 0 Try.f47)), B47_0 fuel), (.block 2 (.loop (bodyOf 2 Try.f47)), B47_2 fuel)])] at hq
    simp only [List.mem_cons, List.not_mem_nil, or_false] at hq
    rcases hq with rfl | rfl
    · exact B47_0_blk fuel
    · exact B47_2_blk fuel)
def mt47 : List Ev.SV → List Ev.Ob → Bool := fun args objs => match args, objs with
  | [.agg [.int .i64 _, .int .i64 _, .int .i64 _, .sl (.int .i64) _, .sl .bool _, .sl (.int .u8) _], .agg [.int .i64 _, .int .i64 _, .int .i64 _, .sl (.int .i64) _, .sl .bool _, .sl (.int .u8) _]], [] => true
  | _, _ => false
def spg47 (F : YF47) : Ev.Spec := fun args objs k => match args, objs with
  | [.agg [.int .i64 x0, .int .i64 x1, .int .i64 x2, .sl (.int .i64) x3, .sl .bool x4, .sl (.int .u8) x5], .agg [.int .i64 x6, .int .i64 x7, .int .i64 x8, .sl (.int .i64) x9, .sl .bool x10, .sl (.int .u8) x11]], [] => bif true then F x0 x1 x2 x3 x4 x5 x6 x7 x8 x9 x10 x11 (fun r => match r with | r0 => k (.c (.bool r0), [])) else none
  | _, _ => none
def spec47 (fuel : Nat) : Ev.Spec := spg47 (F_ref12_Same fuel)
theorem ok47 (fuel : Nat) : FnOK Try.prog 47 (spec47 fuel) := by
  intro args objs kk r h
  unfold spec47 spg47 at h
  split at h
  · obtain ⟨hb, h⟩ := cond_some' h
    simp only [Bool.and_eq_true, Nat.beq_eq, decide_eq_true_eq] at hb
    clear hb
    exact fok47 fuel _ _ kk r ((F47_eq fuel _ _ _ _ _ _ _ _ _ _ _ _ kk).trans h)
  · cases h
end Go.Proofs.Ytajidgilfkineaa

set_option linter.unusedVariables false
set_option linter.unusedSimpArgs false
set_option maxRecDepth 100000
namespace Go.Proofs.Ytajidgilfkineaa
open Go Ev
def kp50 (i : Nat) : Option (List Nat) := Ev.look i [(4, [0, 1, 12, 13]), (100000, []), (400000, [4])]
def Gg50 (f47 : YF47) (f : Nat) : Option Ev.Spec := Ev.look f [(47, spg47 f47)]
def G50 (fuel : Nat) : Nat → Option Ev.Spec := Gg50 (F_ref12_Same fuel)
def S_ref12_SameList_0 (fuel : Nat) (v : (List (Int × (Int × (Int × ((List Int) × ((List Bool) × (List Int))))))) × (List (Int × (Int × (Int × ((List Int) × ((List Bool) × (List Int))))))) × Int × Int) (c : ((List (Int × (Int × (Int × ((List Int) × ((List Bool) × (List Int))))))) × (List (Int × (Int × (Int × ((List Int) × ((List Bool) × (List Int))))))) × Int × Int) → Option Ans) (B : (Bool → Option Ans) × (Unit → Option Ans)) : Option Ans := match v, B with
  | (x0, x1, x2, x3), (ret, b) =>
   bif Decidable.decide (x3 < x2) then
      bif Decidable.decide ((0 : Int) ≤ x3 ∧ x3 < (↑x0.length : Int)) then
      bif Decidable.decide ((0 : Int) ≤ x3 ∧ x3 < (↑x1.length : Int)) then
       (F_ref12_Same fuel ((x0.getD x3.toNat ((0 : Int), (0 : Int), (0 : Int), [], [], [])).fst) ((x0.getD x3.toNat ((0 : Int), (0 : Int), (0 : Int), [], [], [])).snd.fst) ((x0.getD x3.toNat ((0 : Int), (0 : Int), (0 : Int), [], [], [])).snd.snd.fst) ((x0.getD x3.toNat ((0 : Int), (0 : Int), (0 : Int), [], [], [])).snd.snd.snd.fst) ((x0.getD x3.toNat ((0 : Int), (0 : Int), (0 : Int), [], [], [])).snd.snd.snd.snd.fst) ((x0.getD x3.toNat ((0 : Int), (0 : Int), (0 : Int), [], [], [])).snd.snd.snd.snd.snd) ((x1.getD x3.toNat ((0 : Int), (0 : Int), (0 : Int), [], [], [])).fst) ((x1.getD x3.toNat ((0 : Int), (0 : Int), (0 : Int), [], [], [])).snd.fst) ((x1.getD x3.toNat ((0 : Int), (0 : Int), (0 : Int), [], [], [])).snd.snd.fst) ((x1.getD x3.toNat ((0 : Int), (0 : Int), (0 : Int), [], [], [])).snd.snd.snd.fst) ((x1.getD x3.toNat ((0 : Int), (0 : Int), (0 : Int), [], [], [])).snd.snd.snd.snd.fst) ((x1.getD x3.toNat ((0 : Int), (0 : Int), (0 : Int), [], [], [])).snd.snd.snd.snd.snd)
          (fun y5 =>
            bif !y5 then
             ret Bool.false
            else
             c (x0, x1, x2, Go.IntKind.i64.wrap (x3 + (1 : Int)))))
       else none
      else none
     else
      b ()
def L_ref12_SameList_0 (fuel : Nat) (v : (List (Int × (Int × (Int × ((List Int) × ((List Bool) × (List Int))))))) × (List (Int × (Int × (Int × ((List Int) × ((List Bool) × (List Int))))))) × Int × Int) (ret : (Bool → Option Ans)) (b : (Unit → Option Ans)) : Option Ans := iter (S_ref12_SameList_0 fuel) fuel v (ret, b)
def J50_0 (fuel : Nat) (i : Nat) : Option Ev.Blk := Ev.look i []
def T50_0 (v : (List (Int × (Int × (Int × ((List Int) × ((List Bool) × (List Int))))))) × (List (Int × (Int × (Int × ((List Int) × ((List Bool) × (List Int))))))) × Int × Int) : Ev.St := match v with | (x0, x1, x2, x3) => ⟨[(0, .c (.sl (.pair (.int .i64) (.pair (.int .i64) (.pair (.int .i64) (.pair (.sl (.int .i64)) (.pair (.sl .bool) (.sl (.int .u8))))))) x0)), (1, .c (.sl (.pair (.int .i64) (.pair (.int .i64) (.pair (.int .i64) (.pair (.sl (.int .i64)) (.pair (.sl .bool) (.sl (.int .u8))))))) x1)), (12, .c (.int .i64 x2)), (13, .c (.int .i64 x3))], [], 0, 0⟩
def E50_0 (K : Ev.Ex → Ev.St → Option Ans) : (Bool → Option Ans) × (Unit → Option Ans) := ((fun v => match v with | x0 => K .ret ⟨[(4, .c (.bool x0))], [], 0, 0⟩), (fun v => match v with | () => K .normal ⟨[], [], 0, 0⟩))
theorem S50_0_okg (fuel : Nat) (f47 : YF47) (R : Ev.St → Option Ans) (K : Ev.Ex → Ev.St → Option Ans) (x0 : (List (Int × (Int × (Int × ((List Int) × ((List Bool) × (List Int)))))))) (x1 : (List (Int × (Int × (Int × ((List Int) × ((List Bool) × (List Int)))))))) (x2 : Int) (x3 : Int) : evalCode tab (Gg50 f47) (J50_0 fuel) kp50 fuel (bodyOf 0 Try.f50) (T50_0 (x0, x1, x2, x3)) (lc kp50 4 0 R K) = (fun (c : ((List (Int × (Int × (Int × ((List Int) × ((List Bool) × (List Int))))))) × (List (Int × (Int × (Int × ((List Int) × ((List Bool) × (List Int))))))) × Int × Int) → Option Ans) (B : (Bool → Option Ans) × (Unit → Option Ans)) => match B with
  | (ret, b) =>
   bif Decidable.decide (x3 < x2) then
      bif Decidable.decide ((0 : Int) ≤ x3 ∧ x3 < (↑x0.length : Int)) then
      bif Decidable.decide ((0 : Int) ≤ x3 ∧ x3 < (↑x1.length : Int)) then
       (f47 ((x0.getD x3.toNat ((0 : Int), (0 : Int), (0 : Int), [], [], [])).fst) ((x0.getD x3.toNat ((0 : Int), (0 : Int), (0 : Int), [], [], [])).snd.fst) ((x0.getD x3.toNat ((0 : Int), (0 : Int), (0 : Int), [], [], [])).snd.snd.fst) ((x0.getD x3.toNat ((0 : Int), (0 : Int), (0 : Int), [], [], [])).snd.snd.snd.fst) ((x0.getD x3.toNat ((0 : Int), (0 : Int), (0 : Int), [], [], [])).snd.snd.snd.snd.fst) ((x0.getD x3.toNat ((0 : Int), (0 : Int), (0 : Int), [], [], [])).snd.snd.snd.snd.snd) ((x1.getD x3.toNat ((0 : Int), (0 : Int), (0 : Int), [], [], [])).fst) ((x1.getD x3.toNat ((0 : Int), (0 : Int), (0 : Int), [], [], [])).snd.fst) ((x1.getD x3.toNat ((0 : Int), (0 : Int), (0 : Int), [], [], [])).snd.snd.fst) ((x1.getD x3.toNat ((0 : Int), (0 : Int), (0 : Int), [], [], [])).snd.snd.snd.fst) ((x1.getD x3.toNat ((0 : Int), (0 : Int), (0 : Int), [], [], [])).snd.snd.snd.snd.fst) ((x1.getD x3.toNat ((0 : Int), (0 : Int), (0 : Int), [], [], [])).snd.snd.snd.snd.snd)
          (fun y5 =>
            bif !y5 then
             ret Bool.false
            else
             c (x0, x1, x2, Go.IntKind.i64.wrap (x3 + (1 : Int)))))
       else none
      else none
     else
      b ()) (fun v => R (T50_0 v)) (E50_0 K) := by
  kernel_rfl
theorem S50_0_ok (fuel : Nat) (R : Ev.St → Option Ans) (K : Ev.Ex → Ev.St → Option Ans) (x0 : (List (Int × (Int × (Int × ((List Int) × ((List Bool) × (List Int)))))))) (x1 : (List (Int × (Int × (Int × ((List Int) × ((List Bool) × (List Int)))))))) (x2 : Int) (x3 : Int) : evalCode tab (G50 fuel) (J50_0 fuel) kp50 fuel (bodyOf 0 Try.f50) (T50_0 (x0, x1, x2, x3)) (lc kp50 4 0 R K) = S_ref12_SameList_0 fuel (x0, x1, x2, x3) (fun v => R (T50_0 v)) (E50_0 K) :=
  S50_0_okg fuel (F_ref12_Same fuel) R K x0 x1 x2 x3
def B50_0 (fuel : Nat) : Ev.Blk := fun st K => match canonO (kp50 4) st with
  | some s => (match s with
    | ⟨[(q0, .c (.sl (.pair (.int .i64) (.pair (.int .i64) (.pair (.int .i64) (.pair (.sl (.int .i64)) (.pair (.sl .bool) (.sl (.int .u8))))))) x0)), (q1, .c (.sl (.pair (.int .i64) (.pair (.int .i64) (.pair (.int .i64) (.pair (.sl (.int .i64)) (.pair (.sl .bool) (.sl (.int .u8))))))) x1)), (q2, .c (.int .i64 x2)), (q3, .c (.int .i64 x3))], [], q4, q5⟩ => bif Nat.beq q0 0 && Nat.beq q1 1 && Nat.beq q2 12 && Nat.beq q3 13 && Nat.beq q4 0 && Nat.beq q5 0 then iter (S_ref12_SameList_0 fuel) fuel (x0, x1, x2, x3) (E50_0 K) else none
    | _ => none)
  | none => none
theorem B50_0_ok (fuel : Nat) (st : Ev.St) (K : Ev.Ex → Ev.St → Option Ans) (r : Ans) (h : B50_0 fuel st K = some r) : evalCode tab (G50 fuel) (J50_0 fuel) kp50 fuel (.block 0 (.loop (bodyOf 0 Try.f50))) st K = some r := by
  unfold B50_0 at h
  split at h
  · rename_i s hs
    split at h
    · obtain ⟨hb, h⟩ := cond_some' h
      simp only [Bool.and_eq_true, Nat.beq_eq, decide_eq_true_eq] at hb
      obtain ⟨⟨⟨⟨⟨rfl, rfl⟩, rfl⟩, rfl⟩, rfl⟩, rfl⟩ := hb
      exact blk_loop (S := T50_0) (ks := E50_0) (step := S_ref12_SameList_0 fuel) (v := (_, _, _, _)) (by kernel_rfl) (by kernel_rfl) (fun R K v => by obtain ⟨x0, x1, x2, x3⟩ := v; exact S50_0_ok fuel R K x0 x1 x2 x3) hs h
    · cases h
  · cases h
def J50 (fuel : Nat) (i : Nat) : Option Ev.Blk := Ev.look i [(100000, B50_0 fuel)]
def F_ref12_SameList (fuel : Nat) (x0 : (List (Int × Int × Int × (List Int) × (List Bool) × (List Int)))) (x1 : (List (Int × Int × Int × (List Int) × (List Bool) × (List Int)))) (k0 : (Bool) → Option Ans) : Option Ans :=
  bif (↑x0.length : Int) != (↑x1.length : Int) then
   k0 Bool.false
  else
   (L_ref12_SameList_0 fuel (x0, x1, (↑x0.length : Int), (0 : Int))
     (fun ret0_0 =>
       k0 ret0_0)
     (fun () =>
       k0 Bool.true))
abbrev YF50 : Type := ((List (Int × Int × Int × (List Int) × (List Bool) × (List Int)))) → ((List (Int × Int × Int × (List Int) × (List Bool) × (List Int)))) → ((Bool) → Option Ans) → Option Ans
theorem F50_eqg (fuel : Nat) (f47 : YF47) (x0 : (List (Int × Int × Int × (List Int) × (List Bool) × (List Int)))) (x1 : (List (Int × Int × Int × (List Int) × (List Bool) × (List Int)))) (k : Ev.Cont) : evalFn tab (Gg50 f47) (J50 fuel) kp50 fuel Try.f50 [.c (.sl (.pair (.int .i64) (.pair (.int .i64) (.pair (.int .i64) (.pair (.sl (.int .i64)) (.pair (.sl .bool) (.sl (.int .u8))))))) x0), .c (.sl (.pair (.int .i64) (.pair (.int .i64) (.pair (.int .i64) (.pair (.sl (.int .i64)) (.pair (.sl .bool) (.sl (.int .u8))))))) x1)] [] k = (fun  (k0 : (Bool) → Option Ans) =>
  bif (↑x0.length : Int) != (↑x1.length : Int) then
   k0 Bool.false
  else
   (L_ref12_SameList_0 fuel (x0, x1, (↑x0.length : Int), (0 : Int))
     (fun ret0_0 =>
       k0 ret0_0)
     (fun () =>
       k0 Bool.true))) (fun r => match r with | r0 => k (.c (.bool r0), [])) := by
  kernel_rfl
theorem F50_eq (fuel : Nat) (x0 : (List (Int × Int × Int × (List Int) × (List Bool) × (List Int)))) (x1 : (List (Int × Int × Int × (List Int) × (List Bool) × (List Int)))) (k : Ev.Cont) : evalFn tab (G50 fuel) (J50 fuel) kp50 fuel Try.f50 [.c (.sl (.pair (.int .i64) (.pair (.int .i64) (.pair (.int .i64) (.pair (.sl (.int .i64)) (.pair (.sl .bool) (.sl (.int .u8))))))) x0), .c (.sl (.pair (.int .i64) (.pair (.int .i64) (.pair (.int .i64) (.pair (.sl (.int .i64)) (.pair (.sl .bool) (.sl (.int .u8))))))) x1)] [] k = F_ref12_SameList fuel x0 x1 (fun r => match r with | r0 => k (.c (.bool r0), [])) :=
  F50_eqg fuel (F_ref12_Same fuel) x0 x1 k
theorem hG50 (fuel : Nat) : GOK Try.prog (G50 fuel) :=
  gok_cons ⟨ok47 fuel, enters_of Try.func47 (by kernel_rfl) rfl⟩ <|
  gok_nil
theorem B50_0_blk (fuel : Nat) : BlkOK Try.prog Try.f50.ntmps (.block 0 (.loop (bodyOf 0 Try.f50))) (B50_0 fuel) :=
  blk_of (blk_of_code tab_ok (hG50 fuel) mixed (J := J50_0 fuel) (kp := kp50) (fuel := fuel) (by kernel_rfl) (fun q hq => by
    rw [(by kernel_rfl : obl (J50_0 fuel) (.block 0 (.loop (bodyOf 0 Try.f50))) = [])] at hq
    cases hq)) (B50_0_ok fuel)
theorem fok50 (fuel : Nat) : FnOK Try.prog 50 (evalFn tab (G50 fuel) (J50 fuel) kp50 fuel Try.f50) :=
  fn_ok tab_ok (hG50 fuel) mixed Try.func50 (c := (Try.f50.body).getD .skip) rfl (fun q hq => by
    rw [(by kernel_rfl : obl (J50 fuel) ((Try.f50.body).getD .skip) = [(.block 0 (.loop (bodyOf 0 Try.f50)), B50_0 fuel)])] at hq
    simp only [List.mem_cons, List.not_mem_nil, or_false] at hq
    subst hq
    · exact B50_0_blk fuel)
def mt50 : List Ev.SV → List Ev.Ob → Bool := fun args objs => match args, objs with
  | [.c (.sl (.pair (.int .i64) (.pair (.int .i64) (.pair (.int .i64) (.pair (.sl (.int .i64)) (.pair (.sl .bool) (.sl (.int .u8))))))) _), .c (.sl (.pair (.int .i64) (.pair (.int .i64) (.pair (.int .i64) (.pair (.sl (.int .i64)) (.pair (.sl .bool) (.sl (.int .u8))))))) _)], [] => true
  | _, _ => false
def spg50 (F : YF50) : Ev.Spec := fun args objs k => match args, objs with
  | [.c (.sl (.pair (.int .i64) (.pair (.int .i64) (.pair (.int .i64) (.pair (.sl (.int .i64)) (.pair (.sl .bool) (.sl (.int .u8))))))) x0), .c (.sl (.pair (.int .i64) (.pair (.int .i64) (.pair (.int .i64) (.pair (.sl (.int .i64)) (.pair (.sl .bool) (.sl (.int .u8))))))) x1)], [] => bif true then F x0 x1 (fun r => match r with | r0 => k (.c (.bool r0), [])) else none
  | _, _ => none
def spec50 (fuel : Nat) : Ev.Spec := spg50 (F_ref12_SameList fuel)
theorem ok50 (fuel : Nat) : FnOK Try.prog 50 (spec50 fuel) := by
  intro args objs kk r h
  unfold spec50 spg50 at h
  split at h
  · obtain ⟨hb, h⟩ := cond_some' h
    simp only [Bool.and_eq_true, Nat.beq_eq, decide_eq_true_eq] at hb
    clear hb
    exact fok50 fuel _ _ kk r ((F50_eq fuel _ _ kk).trans h)
  · cases h
end Go.Proofs.Ytajidgilfkineaa

set_option linter.unusedVariables false
set_option linter.unusedSimpArgs false
set_option maxRecDepth 100000
namespace Go.Proofs.Ytajidgilfkineaa
open Go Ev
def kp116 (i : Nat) : Option (List Nat) := Ev.look i []
def Gg116 (f : Nat) : Option Ev.Spec := Ev.look f []
def G116 (fuel : Nat) : Nat → Option Ev.Spec := Gg116
def J116 (fuel : Nat) (i : Nat) : Option Ev.Blk := Ev.look i []
def F_bytes_Clone (fuel : Nat) (x0 : (List Int)) (k0 : ((List Int)) → Option Ans) : Option Ans :=
  bif Decidable.decide ((↑x0.length : Int) = (0 : Int)) then
   both (k0 [])
    (bif Decidable.decide (((0 : Nat) + x0.length) * (1 : Nat) ≤ (140737488355328 : Nat) ∧ (0 : Nat) + x0.length ≤ (140737488355328 : Nat)) then
     k0 ([] ++ x0)
     else none)
  else
   bif Decidable.decide (((0 : Nat) + x0.length) * (1 : Nat) ≤ (140737488355328 : Nat) ∧ (0 : Nat) + x0.length ≤ (140737488355328 : Nat)) then
   k0 ([] ++ x0)
   else none
abbrev YF116 : Type := ((List Int)) → (((List Int)) → Option Ans) → Option Ans
theorem F116_eq (fuel : Nat) (x0 : (List Int)) (k : Ev.Cont) : evalFn tab (G116 fuel) (J116 fuel) kp116 fuel Try.f116 [.c (.sl (.int .u8) x0)] [] k = F_bytes_Clone fuel x0 (fun r => match r with | r0 => k (.c (.own 0), [.vec 5 (.int .u8) r0 true])) := by
  kernel_rfl
theorem hG116 (fuel : Nat) : GOK Try.prog (G116 fuel) :=
  gok_nil
theorem fok116 (fuel : Nat) : FnOK Try.prog 116 (evalFn tab (G116 fuel) (J116 fuel) kp116 fuel Try.f116) :=
  fn_ok tab_ok (hG116 fuel) mixed Try.func116 (c := (Try.f116.body).getD .skip) rfl (fun q hq => by
    rw [(by kernel_rfl : obl (J116 fuel) ((Try.f116.body).getD .skip) = [])] at hq
    cases hq)
def mt116 : List Ev.SV → List Ev.Ob → Bool := fun args objs => match args, objs with
  | [.c (.sl (.int .u8) _)], [] => true
  | _, _ => false
def spg116 (F : YF116) : Ev.Spec := fun args objs k => match args, objs with
  | [.c (.sl (.int .u8) x0)], [] => bif true then F x0 (fun r => match r with | r0 => k (.c (.own 0), [.vec 5 (.int .u8) r0 true])) else none
  | _, _ => none
def spec116 (fuel : Nat) : Ev.Spec := spg116 (F_bytes_Clone fuel)
theorem ok116 (fuel : Nat) : FnOK Try.prog 116 (spec116 fuel) := by
  intro args objs kk r h
  unfold spec116 spg116 at h
  split at h
  · obtain ⟨hb, h⟩ := cond_some' h
    simp only [Bool.and_eq_true, Nat.beq_eq, decide_eq_true_eq] at hb
    clear hb
    exact fok116 fuel _ _ kk r ((F116_eq fuel _ kk).trans h)
  · cases h
end Go.Proofs.Ytajidgilfkineaa

set_option linter.unusedVariables false
set_option linter.unusedSimpArgs false
set_option maxRecDepth 100000
namespace Go.Proofs.Ytajidgilfkineaa
open Go Ev
def kp115 (i : Nat) : Option (List Nat) := Ev.look i []
def Gg115 (f : Nat) : Option Ev.Spec := Ev.look f []
def G115 (fuel : Nat) : Nat → Option Ev.Spec := Gg115
def J115 (fuel : Nat) (i : Nat) : Option Ev.Blk := Ev.look i []
def F_slices_Clone_bool_bool (fuel : Nat) (x0 : (List Bool)) (k0 : ((List Bool)) → Option Ans) : Option Ans :=
  bif Decidable.decide ((↑x0.length : Int) = (0 : Int)) then
   both (k0 [])
    (bif Decidable.decide (((0 : Nat) + x0.length) * (1 : Nat) ≤ (140737488355328 : Nat) ∧ (0 : Nat) + x0.length ≤ (140737488355328 : Nat)) then
     k0 ([] ++ x0)
     else none)
  else
   bif Decidable.decide (((0 : Nat) + x0.length) * (1 : Nat) ≤ (140737488355328 : Nat) ∧ (0 : Nat) + x0.length ≤ (140737488355328 : Nat)) then
   k0 ([] ++ x0)
   else none
abbrev YF115 : Type := ((List Bool)) → (((List Bool)) → Option Ans) → Option Ans
theorem F115_eq (fuel : Nat) (x0 : (List Bool)) (k : Ev.Cont) : evalFn tab (G115 fuel) (J115 fuel) kp115 fuel Try.f115 [.c (.sl .bool x0)] [] k = F_slices_Clone_bool_bool fuel x0 (fun r => match r with | r0 => k (.c (.own 0), [.vec 4 .bool r0 true])) := by
  kernel_rfl
theorem hG115 (fuel : Nat) : GOK Try.prog (G115 fuel) :=
  gok_nil
theorem fok115 (fuel : Nat) : FnOK Try.prog 115 (evalFn tab (G115 fuel) (J115 fuel) kp115 fuel Try.f115) :=
  fn_ok tab_ok (hG115 fuel) mixed Try.func115 (c := (Try.f115.body).getD .skip) rfl (fun q hq => by
    rw [(by kernel_rfl : obl (J115 fuel) ((Try.f115.body).getD .skip) = [])] at hq
    cases hq)
def mt115 : List Ev.SV → List Ev.Ob → Bool := fun args objs => match args, objs with
  | [.c (.sl .bool _)], [] => true
  | _, _ => false
def spg115 (F : YF115) : Ev.Spec := fun args objs k => match args, objs with
  | [.c (.sl .bool x0)], [] => bif true then F x0 (fun r => match r with | r0 => k (.c (.own 0), [.vec 4 .bool r0 true])) else none
  | _, _ => none
def spec115 (fuel : Nat) : Ev.Spec := spg115 (F_slices_Clone_bool_bool fuel)
theorem ok115 (fuel : Nat) : FnOK Try.prog 115 (spec115 fuel) := by
  intro args objs kk r h
  unfold spec115 spg115 at h
  split at h
  · obtain ⟨hb, h⟩ := cond_some' h
    simp only [Bool.and_eq_true, Nat.beq_eq, decide_eq_true_eq] at hb
    clear hb
    exact fok115 fuel _ _ kk r ((F115_eq fuel _ kk).trans h)
  · cases h
end Go.Proofs.Ytajidgilfkineaa

set_option linter.unusedVariables false
set_option linter.unusedSimpArgs false
set_option maxRecDepth 100000
namespace Go.Proofs.Ytajidgilfkineaa
open Go Ev
def kp114 (i : Nat) : Option (List Nat) := Ev.look i []
def Gg114 (f : Nat) : Option Ev.Spec := Ev.look f []
def G114 (fuel : Nat) : Nat → Option Ev.Spec := Gg114
def J114 (fuel : Nat) (i : Nat) : Option Ev.Blk := Ev.look i []
def F_slices_Clone_int_int (fuel : Nat) (x0 : (List Int)) (k0 : ((List Int)) → Option Ans) : Option Ans :=
  bif Decidable.decide ((↑x0.length : Int) = (0 : Int)) then
   both (k0 [])
    (bif Decidable.decide (((0 : Nat) + x0.length) * (8 : Nat) ≤ (140737488355328 : Nat) ∧ (0 : Nat) + x0.length ≤ (140737488355328 : Nat)) then
     k0 ([] ++ x0)
     else none)
  else
   bif Decidable.decide (((0 : Nat) + x0.length) * (8 : Nat) ≤ (140737488355328 : Nat) ∧ (0 : Nat) + x0.length ≤ (140737488355328 : Nat)) then
   k0 ([] ++ x0)
   else none
abbrev YF114 : Type := ((List Int)) → (((List Int)) → Option Ans) → Option Ans
theorem F114_eq (fuel : Nat) (x0 : (List Int)) (k : Ev.Cont) : evalFn tab (G114 fuel) (J114 fuel) kp114 fuel Try.f114 [.c (.sl (.int .i64) x0)] [] k = F_slices_Clone_int_int fuel x0 (fun r => match r with | r0 => k (.c (.own 0), [.vec 3 (.int .i64) r0 true])) := by
  kernel_rfl
theorem hG114 (fuel : Nat) : GOK Try.prog (G114 fuel) :=
  gok_nil
theorem fok114 (fuel : Nat) : FnOK Try.prog 114 (evalFn tab (G114 fuel) (J114 fuel) kp114 fuel Try.f114) :=
  fn_ok tab_ok (hG114 fuel) mixed Try.func114 (c := (Try.f114.body).getD .skip) rfl (fun q hq => by
    rw [(by kernel_rfl : obl (J114 fuel) ((Try.f114.body).getD .skip) = [])] at hq
    cases hq)
def mt114 : List Ev.SV → List Ev.Ob → Bool := fun args objs => match args, objs with
  | [.c (.sl (.int .i64) _)], [] => true
  | _, _ => false
def spg114 (F : YF114) : Ev.Spec := fun args objs k => match args, objs with
  | [.c (.sl (.int .i64) x0)], [] => bif true then F x0 (fun r => match r with | r0 => k (.c (.own 0), [.vec 3 (.int .i64) r0 true])) else none
  | _, _ => none
def spec114 (fuel : Nat) : Ev.Spec := spg114 (F_slices_Clone_int_int fuel)
theorem ok114 (fuel : Nat) : FnOK Try.prog 114 (spec114 fuel) := by
  intro args objs kk r h
  unfold spec114 spg114 at h
  split at h
  · obtain ⟨hb, h⟩ := cond_some' h
    simp only [Bool.and_eq_true, Nat.beq_eq, decide_eq_true_eq] at hb
    clear hb
    exact fok114 fuel _ _ kk r ((F114_eq fuel _ kk).trans h)
  · cases h
end Go.Proofs.Ytajidgilfkineaa

set_option linter.unusedVariables false
set_option linter.unusedSimpArgs false
set_option maxRecDepth 100000
namespace Go.Proofs.Ytajidgilfkineaa
open Go Ev
def kp84 (i : Nat) : Option (List Nat) := Ev.look i []
def Gg84 (f114 : YF114) (f115 : YF115) (f116 : YF116) (f : Nat) : Option Ev.Spec := Ev.look f [(114, spg114 f114), (115, spg115 f115), (116, spg116 f116)]
def G84 (fuel : Nat) : Nat → Option Ev.Spec := Gg84 (F_slices_Clone_int_int fuel) (F_slices_Clone_bool_bool fuel) (F_bytes_Clone fuel)
def J84 (fuel : Nat) (i : Nat) : Option Ev.Blk := Ev.look i []
def F_segment_clone (fuel : Nat) (x0 : Int) (x1 : Int) (x2 : Int) (x3 : (List Int)) (x4 : (List Bool)) (x5 : (List Int)) (k0 : (Int × Int × Int × (List Int) × (List Bool) × (List Int)) → Option Ans) : Option Ans :=
  both (both ((F_slices_Clone_int_int fuel (x3)
        (fun y6 =>
          both (both ((F_slices_Clone_bool_bool fuel (x4)
                (fun y14 =>
                  (F_bytes_Clone fuel (x5)
                    (fun y18 =>
                      k0 (x0, x1, x2, y6, y14, y18))))))
             ((F_slices_Clone_bool_bool fuel (x4)
                (fun y14 =>
                  (F_bytes_Clone fuel (x5)
                    (fun y18 =>
                      k0 (x0, x1, x2, y6, y14, y18)))))))
           ((F_slices_Clone_bool_bool fuel (x4)
              (fun y12 =>
                (F_bytes_Clone fuel (x5)
                  (fun y16 =>
                    k0 (x0, x1, x2, y6, y12, y16)))))))))
     (both (both ((F_slices_Clone_int_int fuel (x3)
            (fun y10 =>
              both ((F_slices_Clone_bool_bool fuel (x4)
                  (fun y16 =>
                    (F_bytes_Clone fuel (x5)
                      (fun y20 =>
                        k0 (x0, x1, x2, y10, y16, y20))))))
               ((F_slices_Clone_bool_bool fuel (x4)
                  (fun y16 =>
                    (F_bytes_Clone fuel (x5)
                      (fun y20 =>
                        k0 (x0, x1, x2, y10, y16, y20)))))))))
         ((F_slices_Clone_int_int fuel (x3)
            (fun y10 =>
              (F_slices_Clone_bool_bool fuel (x4)
                (fun y14 =>
                  (F_bytes_Clone fuel (x5)
                    (fun y18 =>
                      k0 (x0, x1, x2, y10, y14, y18)))))))))
       (both ((F_slices_Clone_int_int fuel (x3)
            (fun y10 =>
              (F_slices_Clone_bool_bool fuel (x4)
                (fun y14 =>
                  (F_bytes_Clone fuel (x5)
                    (fun y18 =>
                      k0 (x0, x1, x2, y10, y14, y18))))))))
         ((F_slices_Clone_int_int fuel (x3)
            (fun y10 =>
              (F_slices_Clone_bool_bool fuel (x4)
                (fun y14 =>
                  (F_bytes_Clone fuel (x5)
                    (fun y18 =>
                      k0 (x0, x1, x2, y10, y14, y18)))))))))))
   (both (both (both ((F_slices_Clone_int_int fuel (x3)
            (fun y10 =>
              both ((F_slices_Clone_bool_bool fuel (x4)
                  (fun y16 =>
                    (F_bytes_Clone fuel (x5)
                      (fun y20 =>
                        k0 (x0, x1, x2, y10, y16, y20))))))
               ((F_slices_Clone_bool_bool fuel (x4)
                  (fun y16 =>
                    (F_bytes_Clone fuel (x5)
                      (fun y20 =>
                        k0 (x0, x1, x2, y10, y16, y20)))))))))
         ((F_slices_Clone_int_int fuel (x3)
            (fun y10 =>
              (F_slices_Clone_bool_bool fuel (x4)
                (fun y14 =>
                  (F_bytes_Clone fuel (x5)
                    (fun y18 =>
                      k0 (x0, x1, x2, y10, y14, y18)))))))))
       ((F_slices_Clone_int_int fuel (x3)
          (fun y8 =>
            (F_slices_Clone_bool_bool fuel (x4)
              (fun y12 =>
                (F_bytes_Clone fuel (x5)
                  (fun y16 =>
                    k0 (x0, x1, x2, y8, y12, y16)))))))))
     (both (both ((F_slices_Clone_int_int fuel (x3)
            (fun y10 =>
              (F_slices_Clone_bool_bool fuel (x4)
                (fun y14 =>
                  (F_bytes_Clone fuel (x5)
                    (fun y18 =>
                      k0 (x0, x1, x2, y10, y14, y18))))))))
         ((F_slices_Clone_int_int fuel (x3)
            (fun y10 =>
              (F_slices_Clone_bool_bool fuel (x4)
                (fun y14 =>
                  (F_bytes_Clone fuel (x5)
                    (fun y18 =>
                      k0 (x0, x1, x2, y10, y14, y18)))))))))
       ((F_slices_Clone_int_int fuel (x3)
          (fun y8 =>
            (F_slices_Clone_bool_bool fuel (x4)
              (fun y12 =>
                (F_bytes_Clone fuel (x5)
                  (fun y16 =>
                    k0 (x0, x1, x2, y8, y12, y16))))))))))
abbrev YF84 : Type := (Int) → (Int) → (Int) → ((List Int)) → ((List Bool)) → ((List Int)) → ((Int × Int × Int × (List Int) × (List Bool) × (List Int)) → Option Ans) → Option Ans
theorem F84_eqg (fuel : Nat) (f114 : YF114) (f115 : YF115) (f116 : YF116) (x0 : Int) (x1 : Int) (x2 : Int) (x3 : (List Int)) (x4 : (List Bool)) (x5 : (List Int)) (k : Ev.Cont) : evalFn tab (Gg84 f114 f115 f116) (J84 fuel) kp84 fuel Try.f84 [.agg [.int .i64 x0, .int .i64 x1, .int .i64 x2, .sl (.int .i64) x3, .sl .bool x4, .sl (.int .u8) x5]] [] k = (fun  (k0 : (Int × Int × Int × (List Int) × (List Bool) × (List Int)) → Option Ans) =>
  both (both ((f114 (x3)
        (fun y6 =>
          both (both ((f115 (x4)
                (fun y14 =>
                  (f116 (x5)
                    (fun y18 =>
                      k0 (x0, x1, x2, y6, y14, y18))))))
             ((f115 (x4)
                (fun y14 =>
                  (f116 (x5)
                    (fun y18 =>
                      k0 (x0, x1, x2, y6, y14, y18)))))))
           ((f115 (x4)
              (fun y12 =>
                (f116 (x5)
                  (fun y16 =>
                    k0 (x0, x1, x2, y6, y12, y16)))))))))
     (both (both ((f114 (x3)
            (fun y10 =>
              both ((f115 (x4)
                  (fun y16 =>
                    (f116 (x5)
                      (fun y20 =>
                        k0 (x0, x1, x2, y10, y16, y20))))))
               ((f115 (x4)
                  (fun y16 =>
                    (f116 (x5)
                      (fun y20 =>
                        k0 (x0, x1, x2, y10, y16, y20)))))))))
         ((f114 (x3)
            (fun y10 =>
              (f115 (x4)
                (fun y14 =>
                  (f116 (x5)
                    (fun y18 =>
                      k0 (x0, x1, x2, y10, y14, y18)))))))))
       (both ((f114 (x3)
            (fun y10 =>
              (f115 (x4)
                (fun y14 =>
                  (f116 (x5)
                    (fun y18 =>
                      k0 (x0, x1, x2, y10, y14, y18))))))))
         ((f114 (x3)
            (fun y10 =>
              (f115 (x4)
                (fun y14 =>
                  (f116 (x5)
                    (fun y18 =>
                      k0 (x0, x1, x2, y10, y14, y18)))))))))))
   (both (both (both ((f114 (x3)
            (fun y10 =>
              both ((f115 (x4)
                  (fun y16 =>
                    (f116 (x5)
                      (fun y20 =>
                        k0 (x0, x1, x2, y10, y16, y20))))))
               ((f115 (x4)
                  (fun y16 =>
                    (f116 (x5)
                      (fun y20 =>
                        k0 (x0, x1, x2, y10, y16, y20)))))))))
         ((f114 (x3)
            (fun y10 =>
              (f115 (x4)
                (fun y14 =>
                  (f116 (x5)
                    (fun y18 =>
                      k0 (x0, x1, x2, y10, y14, y18)))))))))
       ((f114 (x3)
          (fun y8 =>
            (f115 (x4)
              (fun y12 =>
                (f116 (x5)
                  (fun y16 =>
                    k0 (x0, x1, x2, y8, y12, y16)))))))))
     (both (both ((f114 (x3)
            (fun y10 =>
              (f115 (x4)
                (fun y14 =>
                  (f116 (x5)
                    (fun y18 =>
                      k0 (x0, x1, x2, y10, y14, y18))))))))
         ((f114 (x3)
            (fun y10 =>
              (f115 (x4)
                (fun y14 =>
                  (f116 (x5)
                    (fun y18 =>
                      k0 (x0, x1, x2, y10, y14, y18)))))))))
       ((f114 (x3)
          (fun y8 =>
            (f115 (x4)
              (fun y12 =>
                (f116 (x5)
                  (fun y16 =>
                    k0 (x0, x1, x2, y8, y12, y16))))))))))) (fun r => match r with | (r0, r1, r2, r3, r4, r5) => k (.agg [.int .i64 r0, .int .i64 r1, .int .i64 r2, .own 0, .own 1, .own 2], [.vec 3 (.int .i64) r3 true, .vec 4 .bool r4 true, .vec 5 (.int .u8) r5 true])) := by
  kernel_rfl
theorem F84_eq (fuel : Nat) (x0 : Int) (x1 : Int) (x2 : Int) (x3 : (List Int)) (x4 : (List Bool)) (x5 : (List Int)) (k : Ev.Cont) : evalFn tab (G84 fuel) (J84 fuel) kp84 fuel Try.f84 [.agg [.int .i64 x0, .int .i64 x1, .int .i64 x2, .sl (.int .i64) x3, .sl .bool x4, .sl (.int .u8) x5]] [] k = F_segment_clone fuel x0 x1 x2 x3 x4 x5 (fun r => match r with | (r0, r1, r2, r3, r4, r5) => k (.agg [.int .i64 r0, .int .i64 r1, .int .i64 r2, .own 0, .own 1, .own 2], [.vec 3 (.int .i64) r3 true, .vec 4 .bool r4 true, .vec 5 (.int .u8) r5 true])) :=
  F84_eqg fuel (F_slices_Clone_int_int fuel) (F_slices_Clone_bool_bool fuel) (F_bytes_Clone fuel) x0 x1 x2 x3 x4 x5 k
theorem hG84 (fuel : Nat) : GOK Try.prog (G84 fuel) :=
  gok_cons ⟨ok114 fuel, enters_of Try.func114 (by kernel_rfl) rfl⟩ <|
  gok_cons ⟨ok115 fuel, enters_of Try.func115 (by kernel_rfl) rfl⟩ <|
  gok_cons ⟨ok116 fuel, enters_of Try.func116 (by kernel_rfl) rfl⟩ <|
  gok_nil
theorem fok84 (fuel : Nat) : FnOK Try.prog 84 (evalFn tab (G84 fuel) (J84 fuel) kp84 fuel Try.f84) :=
  fn_ok tab_ok (hG84 fuel) mixed Try.func84 (c := (Try.f84.body).getD .skip) rfl (fun q hq => by
    rw [(by kernel_rfl : obl (J84 fuel) ((Try.f84.body).getD .skip) = [])] at hq
    cases hq)
def mt84 : List Ev.SV → List Ev.Ob → Bool := fun args objs => match args, objs with
  | [.agg [.int .i64 _, .int .i64 _, .int .i64 _, .sl (.int .i64) _, .sl .bool _, .sl (.int .u8) _]], [] => true
  | _, _ => false
def spg84 (F : YF84) : Ev.Spec := fun args objs k => match args, objs with
  | [.agg [.int .i64 x0, .int .i64 x1, .int .i64 x2, .sl (.int .i64) x3, .sl .bool x4, .sl (.int .u8) x5]], [] => bif true then F x0 x1 x2 x3 x4 x5 (fun r => match r with | (r0, r1, r2, r3, r4, r5) => k (.agg [.int .i64 r0, .int .i64 r1, .int .i64 r2, .own 0, .own 1, .own 2], [.vec 3 (.int .i64) r3 true, .vec 4 .bool r4 true, .vec 5 (.int .u8) r5 true])) else none
  | _, _ => none
def spec84 (fuel : Nat) : Ev.Spec := spg84 (F_segment_clone fuel)
theorem ok84 (fuel : Nat) : FnOK Try.prog 84 (spec84 fuel) := by
  intro args objs kk r h
  unfold spec84 spg84 at h
  split at h
  · obtain ⟨hb, h⟩ := cond_some' h
    simp only [Bool.and_eq_true, Nat.beq_eq, decide_eq_true_eq] at hb
    clear hb
    exact fok84 fuel _ _ kk r ((F84_eq fuel _ _ _ _ _ _ kk).trans h)
  · cases h
end Go.Proofs.Ytajidgilfkineaa

set_option linter.unusedVariables false
set_option linter.unusedSimpArgs false
set_option maxRecDepth 100000
namespace Go.Proofs.Ytajidgilfkineaa
open Go Ev
def kp113_88a (i : Nat) : Option (List Nat) := Ev.look i [(4, [0, 4, 23, 24, 25]), (11, [0, 4, 49, 50, 51]), (100000, [0, 4]), (100002, [0, 4]), (400000, [6]), (400002, [6])]
def Gg113_88a (f43 : YF43) (f : Nat) : Option Ev.Spec := Ev.look f [(43, spg43 f43)]
def G113_88a (fuel : Nat) : Nat → Option Ev.Spec := Gg113_88a (F_segment_Valid fuel)
def S_segment_store_takes_88a_0 (fuel : Nat) (v : (List Int) × Int × Int × (List (Int × Int)) × Int × Int × Int × (List Int) × (List Bool) × (List Int)) (c : ((List Int) × Int × Int × (List (Int × Int)) × Int × Int × Int × (List Int) × (List Bool) × (List Int)) → Option Ans) (B : (Bool × (List (Int × Int)) → Option Ans) × ((List (Int × Int)) × Int × Int × Int × (List Int) × (List Bool) × (List Int) → Option Ans)) : Option Ans := match v, B with
  | (x0, x1, x2, x3, x4, x5, x6, x7, x8, x9), (ret, b) =>
   bif Decidable.decide (x2 < x1) then
      bif Decidable.decide ((0 : Int) ≤ x2 ∧ x2 < (↑x0.length : Int)) then
      bif !Ev.mhas (x0.getD x2.toNat (0 : Int)) x3 then
        ret (Bool.false, x3)
       else
        bif Ev.mget (0 : Int) (x0.getD x2.toNat (0 : Int)) x3 != (0 : Int) then
         bif Ev.mget (0 : Int) (x0.getD x2.toNat (0 : Int)) x3 != x6 then
          ret (Bool.false, x3)
         else
          c (x0, x1, Go.IntKind.i64.wrap (x2 + (1 : Int)), x3, x4, x5, x6, x7, x8, x9)
        else
         c (x0, x1, Go.IntKind.i64.wrap (x2 + (1 : Int)), x3, x4, x5, x6, x7, x8, x9)
      else none
     else
      b (x3, x4, x5, x6, x7, x8, x9)
def L_segment_store_takes_88a_0 (fuel : Nat) (v : (List Int) × Int × Int × (List (Int × Int)) × Int × Int × Int × (List Int) × (List Bool) × (List Int)) (ret : (Bool × (List (Int × Int)) → Option Ans)) (b : ((List (Int × Int)) × Int × Int × Int × (List Int) × (List Bool) × (List Int) → Option Ans)) : Option Ans := iter (S_segment_store_takes_88a_0 fuel) fuel v (ret, b)
def J113_88a_0 (fuel : Nat) (i : Nat) : Option Ev.Blk := Ev.look i []
def T113_88a_0 (v : (List Int) × Int × Int × (List (Int × Int)) × Int × Int × Int × (List Int) × (List Bool) × (List Int)) : Ev.St := match v with | (x0, x1, x2, x3, x4, x5, x6, x7, x8, x9) => ⟨[(0, .c (.mp 0)), (4, .c (.ptr 1 0)), (23, .c (.sl (.int .i64) x0)), (24, .c (.int .i64 x1)), (25, .c (.int .i64 x2))], [(0, .dict .i64 (.int .i64) x3), (1, .cells 63 [.int .i64 x4, .int .i64 x5, .int .i64 x6, .sl (.int .i64) x7, .sl .bool x8, .sl (.int .u8) x9])], 2, 1⟩
def E113_88a_0 (K : Ev.Ex → Ev.St → Option Ans) : (Bool × (List (Int × Int)) → Option Ans) × ((List (Int × Int)) × Int × Int × Int × (List Int) × (List Bool) × (List Int) → Option Ans) := ((fun v => match v with | (x0, x1) => K .ret ⟨[(6, .c (.bool x0))], [(0, .dict .i64 (.int .i64) x1)], 1, 1⟩), (fun v => match v with | (x0, x1, x2, x3, x4, x5, x6) => K .normal ⟨[(0, .c (.mp 0)), (4, .c (.ptr 1 0))], [(0, .dict .i64 (.int .i64) x0), (1, .cells 63 [.int .i64 x1, .int .i64 x2, .int .i64 x3, .sl (.int .i64) x4, .sl .bool x5, .sl (.int .u8) x6])], 2, 1⟩))
theorem S113_88a_0_okg (fuel : Nat) (f43 : YF43) (R : Ev.St → Option Ans) (K : Ev.Ex → Ev.St → Option Ans) (x0 : (List Int)) (x1 : Int) (x2 : Int) (x3 : (List (Int × Int))) (x4 : Int) (x5 : Int) (x6 : Int) (x7 : (List Int)) (x8 : (List Bool)) (x9 : (List Int)) : evalCode tab (Gg113_88a f43) (J113_88a_0 fuel) kp113_88a fuel (bodyOf 0 Try.f113) (T113_88a_0 (x0, x1, x2, x3, x4, x5, x6, x7, x8, x9)) (lc kp113_88a 4 0 R K) = (fun (c : ((List Int) × Int × Int × (List (Int × Int)) × Int × Int × Int × (List Int) × (List Bool) × (List Int)) → Option Ans) (B : (Bool × (List (Int × Int)) → Option Ans) × ((List (Int × Int)) × Int × Int × Int × (List Int) × (List Bool) × (List Int) → Option Ans)) => match B with
  | (ret, b) =>
   bif Decidable.decide (x2 < x1) then
      bif Decidable.decide ((0 : Int) ≤ x2 ∧ x2 < (↑x0.length : Int)) then
      bif !Ev.mhas (x0.getD x2.toNat (0 : Int)) x3 then
        ret (Bool.false, x3)
       else
        bif Ev.mget (0 : Int) (x0.getD x2.toNat (0 : Int)) x3 != (0 : Int) then
         bif Ev.mget (0 : Int) (x0.getD x2.toNat (0 : Int)) x3 != x6 then
          ret (Bool.false, x3)
         else
          c (x0, x1, Go.IntKind.i64.wrap (x2 + (1 : Int)), x3, x4, x5, x6, x7, x8, x9)
        else
         c (x0, x1, Go.IntKind.i64.wrap (x2 + (1 : Int)), x3, x4, x5, x6, x7, x8, x9)
      else none
     else
      b (x3, x4, x5, x6, x7, x8, x9)) (fun v => R (T113_88a_0 v)) (E113_88a_0 K) := by
  kernel_rfl
theorem S113_88a_0_ok (fuel : Nat) (R : Ev.St → Option Ans) (K : Ev.Ex → Ev.St → Option Ans) (x0 : (List Int)) (x1 : Int) (x2 : Int) (x3 : (List (Int × Int))) (x4 : Int) (x5 : Int) (x6 : Int) (x7 : (List Int)) (x8 : (List Bool)) (x9 : (List Int)) : evalCode tab (G113_88a fuel) (J113_88a_0 fuel) kp113_88a fuel (bodyOf 0 Try.f113) (T113_88a_0 (x0, x1, x2, x3, x4, x5, x6, x7, x8, x9)) (lc kp113_88a 4 0 R K) = S_segment_store_takes_88a_0 fuel (x0, x1, x2, x3, x4, x5, x6, x7, x8, x9) (fun v => R (T113_88a_0 v)) (E113_88a_0 K) :=
  S113_88a_0_okg fuel (F_segment_Valid fuel) R K x0 x1 x2 x3 x4 x5 x6 x7 x8 x9
def B113_88a_0 (fuel : Nat) : Ev.Blk := fun st K => match canonO (kp113_88a 4) st with
  | some s => (match s with
    | ⟨[(q0, .c (.mp q1)), (q2, .c (.ptr q3 q4)), (q5, .c (.sl (.int .i64) x0)), (q6, .c (.int .i64 x1)), (q7, .c (.int .i64 x2))], [(q8, .dict .i64 (.int .i64) x3), (q9, .cells q10 [.int .i64 x4, .int .i64 x5, .int .i64 x6, .sl (.int .i64) x7, .sl .bool x8, .sl (.int .u8) x9])], q11, q12⟩ => bif Nat.beq q0 0 && Nat.beq q1 0 && Nat.beq q2 4 && Nat.beq q3 1 && Nat.beq q4 0 && Nat.beq q5 23 && Nat.beq q6 24 && Nat.beq q7 25 && Nat.beq q8 0 && Nat.beq q9 1 && Nat.beq q10 63 && Nat.beq q11 2 && Nat.beq q12 1 then iter (S_segment_store_takes_88a_0 fuel) fuel (x0, x1, x2, x3, x4, x5, x6, x7, x8, x9) (E113_88a_0 K) else none
    | _ => none)
  | none => none
theorem B113_88a_0_ok (fuel : Nat) (st : Ev.St) (K : Ev.Ex → Ev.St → Option Ans) (r : Ans) (h : B113_88a_0 fuel st K = some r) : evalCode tab (G113_88a fuel) (J113_88a_0 fuel) kp113_88a fuel (.block 0 (.loop (bodyOf 0 Try.f113))) st K = some r := by
  unfold B113_88a_0 at h
  split at h
  · rename_i s hs
    split at h
    · obtain ⟨hb, h⟩ := cond_some' h
      simp only [Bool.and_eq_true, Nat.beq_eq, decide_eq_true_eq] at hb
      obtain ⟨⟨⟨⟨⟨⟨⟨⟨⟨⟨⟨⟨rfl, rfl⟩, rfl⟩, rfl⟩, rfl⟩, rfl⟩, rfl⟩, rfl⟩, rfl⟩, rfl⟩, rfl⟩, rfl⟩, rfl⟩ := hb
      exact blk_loop (S := T113_88a_0) (ks := E113_88a_0) (step := S_segment_store_takes_88a_0 fuel) (v := (_, _, _, _, _, _, _, _, _, _)) (by kernel_rfl) (by kernel_rfl) (fun R K v => by obtain ⟨x0, x1, x2, x3, x4, x5, x6, x7, x8, x9⟩ := v; exact S113_88a_0_ok fuel R K x0 x1 x2 x3 x4 x5 x6 x7 x8 x9) hs h
    · cases h
  · cases h
def S_segment_store_takes_88a_2 (fuel : Nat) (v : (List Int) × Int × Int × (List (Int × Int)) × Int × Int × Int × (List Int) × (List Bool) × (List Int)) (c : ((List Int) × Int × Int × (List (Int × Int)) × Int × Int × Int × (List Int) × (List Bool) × (List Int)) → Option Ans) (B : ((List (Int × Int)) × Int × Int × Int × (List Int) × (List Bool) × (List Int) → Option Ans)) : Option Ans := match v, B with
  | (x0, x1, x2, x3, x4, x5, x6, x7, x8, x9), b =>
   bif Decidable.decide (x2 < x1) then
      bif Decidable.decide ((0 : Int) ≤ x2 ∧ x2 < (↑x0.length : Int)) then
      bif Decidable.decide ((0 : Int) ≤ x2 ∧ x2 < (↑x8.length : Int)) then
       bif !x8.getD x2.toNat Bool.false then
         c (x0, x1, Go.IntKind.i64.wrap (x2 + (1 : Int)), Ev.mdel (x0.getD x2.toNat (0 : Int)) x3, x4, x5, x6, x7, x8, x9)
        else
         c (x0, x1, Go.IntKind.i64.wrap (x2 + (1 : Int)), x3, x4, x5, x6, x7, x8, x9)
       else none
      else none
     else
      b (x3, x4, x5, x6, x7, x8, x9)
def L_segment_store_takes_88a_2 (fuel : Nat) (v : (List Int) × Int × Int × (List (Int × Int)) × Int × Int × Int × (List Int) × (List Bool) × (List Int)) (b : ((List (Int × Int)) × Int × Int × Int × (List Int) × (List Bool) × (List Int) → Option Ans)) : Option Ans := iter (S_segment_store_takes_88a_2 fuel) fuel v b
def J113_88a_2 (fuel : Nat) (i : Nat) : Option Ev.Blk := Ev.look i [(100000, B113_88a_0 fuel)]
def T113_88a_2 (v : (List Int) × Int × Int × (List (Int × Int)) × Int × Int × Int × (List Int) × (List Bool) × (List Int)) : Ev.St := match v with | (x0, x1, x2, x3, x4, x5, x6, x7, x8, x9) => ⟨[(0, .c (.mp 0)), (4, .c (.ptr 1 0)), (49, .c (.sl (.int .i64) x0)), (50, .c (.int .i64 x1)), (51, .c (.int .i64 x2))], [(0, .dict .i64 (.int .i64) x3), (1, .cells 63 [.int .i64 x4, .int .i64 x5, .int .i64 x6, .sl (.int .i64) x7, .sl .bool x8, .sl (.int .u8) x9])], 2, 1⟩
def E113_88a_2 (K : Ev.Ex → Ev.St → Option Ans) : ((List (Int × Int)) × Int × Int × Int × (List Int) × (List Bool) × (List Int) → Option Ans) := (fun v => match v with | (x0, x1, x2, x3, x4, x5, x6) => K .normal ⟨[(0, .c (.mp 0)), (4, .c (.ptr 1 0))], [(0, .dict .i64 (.int .i64) x0), (1, .cells 63 [.int .i64 x1, .int .i64 x2, .int .i64 x3, .sl (.int .i64) x4, .sl .bool x5, .sl (.int .u8) x6])], 2, 1⟩)
theorem S113_88a_2_okg (fuel : Nat) (f43 : YF43) (R : Ev.St → Option Ans) (K : Ev.Ex → Ev.St → Option Ans) (x0 : (List Int)) (x1 : Int) (x2 : Int) (x3 : (List (Int × Int))) (x4 : Int) (x5 : Int) (x6 : Int) (x7 : (List Int)) (x8 : (List Bool)) (x9 : (List Int)) : evalCode tab (Gg113_88a f43) (J113_88a_2 fuel) kp113_88a fuel (bodyOf 2 Try.f113) (T113_88a_2 (x0, x1, x2, x3, x4, x5, x6, x7, x8, x9)) (lc kp113_88a 11 2 R K) = (fun (c : ((List Int) × Int × Int × (List (Int × Int)) × Int × Int × Int × (List Int) × (List Bool) × (List Int)) → Option Ans) (B : ((List (Int × Int)) × Int × Int × Int × (List Int) × (List Bool) × (List Int) → Option Ans)) => match B with
  | b =>
   bif Decidable.decide (x2 < x1) then
      bif Decidable.decide ((0 : Int) ≤ x2 ∧ x2 < (↑x0.length : Int)) then
      bif Decidable.decide ((0 : Int) ≤ x2 ∧ x2 < (↑x8.length : Int)) then
       bif !x8.getD x2.toNat Bool.false then
         c (x0, x1, Go.IntKind.i64.wrap (x2 + (1 : Int)), Ev.mdel (x0.getD x2.toNat (0 : Int)) x3, x4, x5, x6, x7, x8, x9)
        else
         c (x0, x1, Go.IntKind.i64.wrap (x2 + (1 : Int)), x3, x4, x5, x6, x7, x8, x9)
       else none
      else none
     else
      b (x3, x4, x5, x6, x7, x8, x9)) (fun v => R (T113_88a_2 v)) (E113_88a_2 K) := by
  kernel_rfl
theorem S113_88a_2_ok (fuel : Nat) (R : Ev.St → Option Ans) (K : Ev.Ex → Ev.St → Option Ans) (x0 : (List Int)) (x1 : Int) (x2 : Int) (x3 : (List (Int × Int))) (x4 : Int) (x5 : Int) (x6 : Int) (x7 : (List Int)) (x8 : (List Bool)) (x9 : (List Int)) : evalCode tab (G113_88a fuel) (J113_88a_2 fuel) kp113_88a fuel (bodyOf 2 Try.f113) (T113_88a_2 (x0, x1, x2, x3, x4, x5, x6, x7, x8, x9)) (lc kp113_88a 11 2 R K) = S_segment_store_takes_88a_2 fuel (x0, x1, x2, x3, x4, x5, x6, x7, x8, x9) (fun v => R (T113_88a_2 v)) (E113_88a_2 K) :=
  S113_88a_2_okg fuel (F_segment_Valid fuel) R K x0 x1 x2 x3 x4 x5 x6 x7 x8 x9
def B113_88a_2 (fuel : Nat) : Ev.Blk := fun st K => match canonO (kp113_88a 11) st with
  | some s => (match s with
    | ⟨[(q0, .c (.mp q1)), (q2, .c (.ptr q3 q4)), (q5, .c (.sl (.int .i64) x0)), (q6, .c (.int .i64 x1)), (q7, .c (.int .i64 x2))], [(q8, .dict .i64 (.int .i64) x3), (q9, .cells q10 [.int .i64 x4, .int .i64 x5, .int .i64 x6, .sl (.int .i64) x7, .sl .bool x8, .sl (.int .u8) x9])], q11, q12⟩ => bif Nat.beq q0 0 && Nat.beq q1 0 && Nat.beq q2 4 && Nat.beq q3 1 && Nat.beq q4 0 && Nat.beq q5 49 && Nat.beq q6 50 && Nat.beq q7 51 && Nat.beq q8 0 && Nat.beq q9 1 && Nat.beq q10 63 && Nat.beq q11 2 && Nat.beq q12 1 then iter (S_segment_store_takes_88a_2 fuel) fuel (x0, x1, x2, x3, x4, x5, x6, x7, x8, x9) (E113_88a_2 K) else none
    | _ => none)
  | none => none
theorem B113_88a_2_ok (fuel : Nat) (st : Ev.St) (K : Ev.Ex → Ev.St → Option Ans) (r : Ans) (h : B113_88a_2 fuel st K = some r) : evalCode tab (G113_88a fuel) (J113_88a_2 fuel) kp113_88a fuel (.block 2 (.loop (bodyOf 2 Try.f113))) st K = some r := by
  unfold B113_88a_2 at h
  split at h
  · rename_i s hs
    split at h
    · obtain ⟨hb, h⟩ := cond_some' h
      simp only [Bool.and_eq_true, Nat.beq_eq, decide_eq_true_eq] at hb
      obtain ⟨⟨⟨⟨⟨⟨⟨⟨⟨⟨⟨⟨rfl, rfl⟩, rfl⟩, rfl⟩, rfl⟩, rfl⟩, rfl⟩, rfl⟩, rfl⟩, rfl⟩, rfl⟩, rfl⟩, rfl⟩ := hb
      exact blk_loop (S := T113_88a_2) (ks := E113_88a_2) (step := S_segment_store_takes_88a_2 fuel) (v := (_, _, _, _, _, _, _, _, _, _)) (by kernel_rfl) (by kernel_rfl) (fun R K v => by obtain ⟨x0, x1, x2, x3, x4, x5, x6, x7, x8, x9⟩ := v; exact S113_88a_2_ok fuel R K x0 x1 x2 x3 x4 x5 x6 x7 x8 x9) hs h
    · cases h
  · cases h
def J113_88a (fuel : Nat) (i : Nat) : Option Ev.Blk := Ev.look i [(100000, B113_88a_0 fuel), (100002, B113_88a_2 fuel)]
def F_segment_store_takes_88a (fuel : Nat) (x0 : Int) (x1 : Int) (x2 : Int) (x3 : (List Int)) (x4 : (List Bool)) (x5 : (List Int)) (x6 : Int) (x7 : (List (Int × Int))) (k0 : (Bool × (List (Int × Int))) → Option Ans) : Option Ans :=
  (F_segment_Valid fuel (x0) (x1) (x2) (x3) (x4) (x5)
    (fun y2 =>
      bif !y2 then
       k0 (Bool.false, x7)
      else
       bif Decidable.decide (x0 ≤ x6) then
        k0 (Bool.false, x7)
       else
        (L_segment_store_takes_88a_0 fuel (x3, (↑x3.length : Int), (0 : Int), x7, x0, x1, x2, x3, x4, x5)
          (fun (ret0_0, ret0_1) =>
            k0 (ret0_0, ret0_1))
          (fun (b0_0, b0_1, b0_2, b0_3, b0_4, b0_5, b0_6) =>
            (L_segment_store_takes_88a_2 fuel (b0_4, (↑b0_4.length : Int), (0 : Int), b0_0, b0_1, b0_2, b0_3, b0_4, b0_5, b0_6)
              (fun (b2_0, b2_1, b2_2, b2_3, b2_4, b2_5, b2_6) =>
                bif Decidable.decide ((0 : Int) ≤ (↑b2_4.length : Int) ∧ (↑b2_4.length : Int) < (↑b2_5.length : Int)) then
                bif b2_5.getD (↑b2_4.length : Int).toNat Bool.false then
                  k0 (Bool.true, Ev.mput b2_1 b2_3 b2_0)
                 else
                  k0 (Bool.true, b2_0)
                else none))))))
abbrev YF113_88a : Type := (Int) → (Int) → (Int) → ((List Int)) → ((List Bool)) → ((List Int)) → (Int) → ((List (Int × Int))) → ((Bool × (List (Int × Int))) → Option Ans) → Option Ans
theorem F113_88a_eqg (fuel : Nat) (f43 : YF43) (x0 : Int) (x1 : Int) (x2 : Int) (x3 : (List Int)) (x4 : (List Bool)) (x5 : (List Int)) (x6 : Int) (x7 : (List (Int × Int))) (k : Ev.Cont) : evalFn tab (Gg113_88a f43) (J113_88a fuel) kp113_88a fuel Try.f113 [.c (.mp 0), .agg [.int .i64 x0, .int .i64 x1, .int .i64 x2, .sl (.int .i64) x3, .sl .bool x4, .sl (.int .u8) x5], .c (.int .i64 x6)] [.dict .i64 (.int .i64) x7] k = (fun  (k0 : (Bool × (List (Int × Int))) → Option Ans) =>
  (f43 (x0) (x1) (x2) (x3) (x4) (x5)
    (fun y2 =>
      bif !y2 then
       k0 (Bool.false, x7)
      else
       bif Decidable.decide (x0 ≤ x6) then
        k0 (Bool.false, x7)
       else
        (L_segment_store_takes_88a_0 fuel (x3, (↑x3.length : Int), (0 : Int), x7, x0, x1, x2, x3, x4, x5)
          (fun (ret0_0, ret0_1) =>
            k0 (ret0_0, ret0_1))
          (fun (b0_0, b0_1, b0_2, b0_3, b0_4, b0_5, b0_6) =>
            (L_segment_store_takes_88a_2 fuel (b0_4, (↑b0_4.length : Int), (0 : Int), b0_0, b0_1, b0_2, b0_3, b0_4, b0_5, b0_6)
              (fun (b2_0, b2_1, b2_2, b2_3, b2_4, b2_5, b2_6) =>
                bif Decidable.decide ((0 : Int) ≤ (↑b2_4.length : Int) ∧ (↑b2_4.length : Int) < (↑b2_5.length : Int)) then
                bif b2_5.getD (↑b2_4.length : Int).toNat Bool.false then
                  k0 (Bool.true, Ev.mput b2_1 b2_3 b2_0)
                 else
                  k0 (Bool.true, b2_0)
                else none))))))) (fun r => match r with | (r0, r1) => k (.c (.bool r0), [.dict .i64 (.int .i64) r1])) := by
  kernel_rfl
theorem F113_88a_eq (fuel : Nat) (x0 : Int) (x1 : Int) (x2 : Int) (x3 : (List Int)) (x4 : (List Bool)) (x5 : (List Int)) (x6 : Int) (x7 : (List (Int × Int))) (k : Ev.Cont) : evalFn tab (G113_88a fuel) (J113_88a fuel) kp113_88a fuel Try.f113 [.c (.mp 0), .agg [.int .i64 x0, .int .i64 x1, .int .i64 x2, .sl (.int .i64) x3, .sl .bool x4, .sl (.int .u8) x5], .c (.int .i64 x6)] [.dict .i64 (.int .i64) x7] k = F_segment_store_takes_88a fuel x0 x1 x2 x3 x4 x5 x6 x7 (fun r => match r with | (r0, r1) => k (.c (.bool r0), [.dict .i64 (.int .i64) r1])) :=
  F113_88a_eqg fuel (F_segment_Valid fuel) x0 x1 x2 x3 x4 x5 x6 x7 k
theorem hG113_88a (fuel : Nat) : GOK Try.prog (G113_88a fuel) :=
  gok_cons ⟨ok43 fuel, enters_of Try.func43 (by kernel_rfl) rfl⟩ <|
  gok_nil
theorem B113_88a_0_blk (fuel : Nat) : BlkOK Try.prog Try.f113.ntmps (.block 0 (.loop (bodyOf 0 Try.f113))) (B113_88a_0 fuel) :=
  blk_of (blk_of_code tab_ok (hG113_88a fuel) mixed (J := J113_88a_0 fuel) (kp := kp113_88a) (fuel := fuel) (by kernel_rfl) (fun q hq => by
    rw [(by kernel_rfl : obl (J113_88a_0 fuel) (.block 0 (.loop (bodyOf 0 Try.f113))) = [])] at hq
    cases hq)) (B113_88a_0_ok fuel)
theorem B113_88a_2_blk (fuel : Nat) : BlkOK Try.prog Try.f113.ntmps (.block 2 (.loop (bodyOf 2 Try.f113))) (B113_88a_2 fuel) :=
  blk_of (blk_of_code tab_ok (hG113_88a fuel) mixed (J := J113_88a_2 fuel) (kp := kp113_88a) (fuel := fuel) (by kernel_rfl) (fun q hq => by
    rw [(by kernel_rfl : obl (J113_88a_2 fuel) (.block 2 (.loop (bodyOf 2 Try.f113))) = [])] at hq
    cases hq)) (B113_88a_2_ok fuel)
theorem fok113_88a (fuel : Nat) : FnOK Try.prog 113 (evalFn tab (G113_88a fuel) (J113_88a fuel) kp113_88a fuel Try.f113) :=
  fn_ok tab_ok (hG113_88a fuel) mixed Try.func113 (c := (Try.f113.body).getD .skip) rfl (fun q hq => by
    rw [(by kernel_rfl : obl (J113_88a fuel) ((Try.f113.body).getD .skip) = [(.block 0 (.loop (bodyOf 0 Try.f113)), B113_88a_0 fuel), (.block 2 (.loop (bodyOf 2 Try.f113)), B113_88a_2 fuel)])] at hq
    simp only [List.mem_cons, List.not_mem_nil, or_false] at hq
    rcases hq with rfl | rfl
    · exact B113_88a_0_blk fuel
    · exact B113_88a_2_blk fuel)
def mt113_88a : List Ev.SV → List Ev.Ob → Bool := fun args objs => match args, objs with
  | [.c (.mp q0), .agg [.int .i64 _, .int .i64 _, .int .i64 _, .sl (.int .i64) _, .sl .bool _, .sl (.int .u8) _], .c (.int .i64 _)], [.dict .i64 (.int .i64) _] => Nat.beq q0 0
  | _, _ => false
def spg113_88a (F : YF113_88a) : Ev.Spec := fun args objs k => match args, objs with
  | [.c (.mp q0), .agg [.int .i64 x0, .int .i64 x1, .int .i64 x2, .sl (.int .i64) x3, .sl .bool x4, .sl (.int .u8) x5], .c (.int .i64 x6)], [.dict .i64 (.int .i64) x7] => bif Nat.beq q0 0 then F x0 x1 x2 x3 x4 x5 x6 x7 (fun r => match r with | (r0, r1) => k (.c (.bool r0), [.dict .i64 (.int .i64) r1])) else none
  | _, _ => none
def spec113_88a (fuel : Nat) : Ev.Spec := spg113_88a (F_segment_store_takes_88a fuel)
theorem ok113_88a (fuel : Nat) : FnOK Try.prog 113 (spec113_88a fuel) := by
  intro args objs kk r h
  unfold spec113_88a spg113_88a at h
  split at h
  · obtain ⟨hb, h⟩ := cond_some' h
    simp only [Bool.and_eq_true, Nat.beq_eq, decide_eq_true_eq] at hb
    obtain rfl := hb
    exact fok113_88a fuel _ _ kk r ((F113_88a_eq fuel _ _ _ _ _ _ _ _ kk).trans h)
  · cases h
end Go.Proofs.Ytajidgilfkineaa

set_option linter.unusedVariables false
set_option linter.unusedSimpArgs false
set_option maxRecDepth 100000
namespace Go.Proofs.Ytajidgilfkineaa
open Go Ev
def kp83 (i : Nat) : Option (List Nat) := Ev.look i [(4, [4, 5, 9, 10, 11]), (100000, [4]), (400000, [2, 3])]
def Gg83 (f113_88a : YF113_88a) (f : Nat) : Option Ev.Spec := Ev.look f [(113, spg113_88a f113_88a)]
def G83 (fuel : Nat) : Nat → Option Ev.Spec := Gg83 (F_segment_store_takes_88a fuel)
def S_segment_order_0 (fuel : Nat) (v : Int × (List (Int × (Int × (Int × ((List Int) × ((List Bool) × (List Int))))))) × Int × Int × (List (Int × Int))) (c : (Int × (List (Int × (Int × (Int × ((List Int) × ((List Bool) × (List Int))))))) × Int × Int × (List (Int × Int))) → Option Ans) (B : (Int × (List (Int × Int)) → Option Ans) × ((List (Int × Int)) → Option Ans)) : Option Ans := match v, B with
  | (x0, x1, x2, x3, x4), (ret, b) =>
   bif Decidable.decide (x3 < x2) then
      bif Decidable.decide ((0 : Int) ≤ x3 ∧ x3 < (↑x1.length : Int)) then
      (F_segment_store_takes_88a fuel ((x1.getD x3.toNat ((0 : Int), (0 : Int), (0 : Int), [], [], [])).fst) ((x1.getD x3.toNat ((0 : Int), (0 : Int), (0 : Int), [], [], [])).snd.fst) ((x1.getD x3.toNat ((0 : Int), (0 : Int), (0 : Int), [], [], [])).snd.snd.fst) ((x1.getD x3.toNat ((0 : Int), (0 : Int), (0 : Int), [], [], [])).snd.snd.snd.fst) ((x1.getD x3.toNat ((0 : Int), (0 : Int), (0 : Int), [], [], [])).snd.snd.snd.snd.fst) ((x1.getD x3.toNat ((0 : Int), (0 : Int), (0 : Int), [], [], [])).snd.snd.snd.snd.snd) (x0) (x4)
         (fun (y4_0, y4_1) =>
           bif !y4_0 then
            ret (x3, y4_1)
           else
            c ((x1.getD x3.toNat ((0 : Int), (0 : Int), (0 : Int), [], [], [])).fst, x1, x2, Go.IntKind.i64.wrap (x3 + (1 : Int)), y4_1)))
      else none
     else
      b x4
def L_segment_order_0 (fuel : Nat) (v : Int × (List (Int × (Int × (Int × ((List Int) × ((List Bool) × (List Int))))))) × Int × Int × (List (Int × Int))) (ret : (Int × (List (Int × Int)) → Option Ans)) (b : ((List (Int × Int)) → Option Ans)) : Option Ans := iter (S_segment_order_0 fuel) fuel v (ret, b)
def J83_0 (fuel : Nat) (i : Nat) : Option Ev.Blk := Ev.look i []
def T83_0 (v : Int × (List (Int × (Int × (Int × ((List Int) × ((List Bool) × (List Int))))))) × Int × Int × (List (Int × Int))) : Ev.St := match v with | (x0, x1, x2, x3, x4) => ⟨[(4, .c (.mp 0)), (5, .c (.int .i64 x0)), (9, .c (.sl (.pair (.int .i64) (.pair (.int .i64) (.pair (.int .i64) (.pair (.sl (.int .i64)) (.pair (.sl .bool) (.sl (.int .u8))))))) x1)), (10, .c (.int .i64 x2)), (11, .c (.int .i64 x3))], [(0, .dict .i64 (.int .i64) x4)], 1, 0⟩
def E83_0 (K : Ev.Ex → Ev.St → Option Ans) : (Int × (List (Int × Int)) → Option Ans) × ((List (Int × Int)) → Option Ans) := ((fun v => match v with | (x0, x1) => K .ret ⟨[(2, .c (.mp 0)), (3, .c (.int .i64 x0))], [(0, .dict .i64 (.int .i64) x1)], 1, 0⟩), (fun v => match v with | x0 => K .normal ⟨[(4, .c (.mp 0))], [(0, .dict .i64 (.int .i64) x0)], 1, 0⟩))
theorem S83_0_okg (fuel : Nat) (f113_88a : YF113_88a) (R : Ev.St → Option Ans) (K : Ev.Ex → Ev.St → Option Ans) (x0 : Int) (x1 : (List (Int × (Int × (Int × ((List Int) × ((List Bool) × (List Int)))))))) (x2 : Int) (x3 : Int) (x4 : (List (Int × Int))) : evalCode tab (Gg83 f113_88a) (J83_0 fuel) kp83 fuel (bodyOf 0 Try.f83) (T83_0 (x0, x1, x2, x3, x4)) (lc kp83 4 0 R K) = (fun (c : (Int × (List (Int × (Int × (Int × ((List Int) × ((List Bool) × (List Int))))))) × Int × Int × (List (Int × Int))) → Option Ans) (B : (Int × (List (Int × Int)) → Option Ans) × ((List (Int × Int)) → Option Ans)) => match B with
  | (ret, b) =>
   bif Decidable.decide (x3 < x2) then
      bif Decidable.decide ((0 : Int) ≤ x3 ∧ x3 < (↑x1.length : Int)) then
      (f113_88a ((x1.getD x3.toNat ((0 : Int), (0 : Int), (0 : Int), [], [], [])).fst) ((x1.getD x3.toNat ((0 : Int), (0 : Int), (0 : Int), [], [], [])).snd.fst) ((x1.getD x3.toNat ((0 : Int), (0 : Int), (0 : Int), [], [], [])).snd.snd.fst) ((x1.getD x3.toNat ((0 : Int), (0 : Int), (0 : Int), [], [], [])).snd.snd.snd.fst) ((x1.getD x3.toNat ((0 : Int), (0 : Int), (0 : Int), [], [], [])).snd.snd.snd.snd.fst) ((x1.getD x3.toNat ((0 : Int), (0 : Int), (0 : Int), [], [], [])).snd.snd.snd.snd.snd) (x0) (x4)
         (fun (y4_0, y4_1) =>
           bif !y4_0 then
            ret (x3, y4_1)
           else
            c ((x1.getD x3.toNat ((0 : Int), (0 : Int), (0 : Int), [], [], [])).fst, x1, x2, Go.IntKind.i64.wrap (x3 + (1 : Int)), y4_1)))
      else none
     else
      b x4) (fun v => R (T83_0 v)) (E83_0 K) := by
  kernel_rfl
theorem S83_0_ok (fuel : Nat) (R : Ev.St → Option Ans) (K : Ev.Ex → Ev.St → Option Ans) (x0 : Int) (x1 : (List (Int × (Int × (Int × ((List Int) × ((List Bool) × (List Int)))))))) (x2 : Int) (x3 : Int) (x4 : (List (Int × Int))) : evalCode tab (G83 fuel) (J83_0 fuel) kp83 fuel (bodyOf 0 Try.f83) (T83_0 (x0, x1, x2, x3, x4)) (lc kp83 4 0 R K) = S_segment_order_0 fuel (x0, x1, x2, x3, x4) (fun v => R (T83_0 v)) (E83_0 K) :=
  S83_0_okg fuel (F_segment_store_takes_88a fuel) R K x0 x1 x2 x3 x4
def B83_0 (fuel : Nat) : Ev.Blk := fun st K => match canonO (kp83 4) st with
  | some s => (match s with
    | ⟨[(q0, .c (.mp q1)), (q2, .c (.int .i64 x0)), (q3, .c (.sl (.pair (.int .i64) (.pair (.int .i64) (.pair (.int .i64) (.pair (.sl (.int .i64)) (.pair (.sl .bool) (.sl (.int .u8))))))) x1)), (q4, .c (.int .i64 x2)), (q5, .c (.int .i64 x3))], [(q6, .dict .i64 (.int .i64) x4)], q7, q8⟩ => bif Nat.beq q0 4 && Nat.beq q1 0 && Nat.beq q2 5 && Nat.beq q3 9 && Nat.beq q4 10 && Nat.beq q5 11 && Nat.beq q6 0 && Nat.beq q7 1 && Nat.beq q8 0 then iter (S_segment_order_0 fuel) fuel (x0, x1, x2, x3, x4) (E83_0 K) else none
    | _ => none)
  | none => none
theorem B83_0_ok (fuel : Nat) (st : Ev.St) (K : Ev.Ex → Ev.St → Option Ans) (r : Ans) (h : B83_0 fuel st K = some r) : evalCode tab (G83 fuel) (J83_0 fuel) kp83 fuel (.block 0 (.loop (bodyOf 0 Try.f83))) st K = some r := by
  unfold B83_0 at h
  split at h
  · rename_i s hs
    split at h
    · obtain ⟨hb, h⟩ := cond_some' h
      simp only [Bool.and_eq_true, Nat.beq_eq, decide_eq_true_eq] at hb
      obtain ⟨⟨⟨⟨⟨⟨⟨⟨rfl, rfl⟩, rfl⟩, rfl⟩, rfl⟩, rfl⟩, rfl⟩, rfl⟩, rfl⟩ := hb
      exact blk_loop (S := T83_0) (ks := E83_0) (step := S_segment_order_0 fuel) (v := (_, _, _, _, _)) (by kernel_rfl) (by kernel_rfl) (fun R K v => by obtain ⟨x0, x1, x2, x3, x4⟩ := v; exact S83_0_ok fuel R K x0 x1 x2 x3 x4) hs h
    · cases h
  · cases h
def J83 (fuel : Nat) (i : Nat) : Option Ev.Blk := Ev.look i [(100000, B83_0 fuel)]
def F_segment_order (fuel : Nat) (x0 : (List (Int × Int × Int × (List Int) × (List Bool) × (List Int)))) (k0 : (Int × (List (Int × Int))) → Option Ans) : Option Ans :=
  (L_segment_order_0 fuel ((-1 : Int), x0, (↑x0.length : Int), (0 : Int), [])
    (fun (ret0_0, ret0_1) =>
      k0 (ret0_0, ret0_1))
    (fun b0_0 =>
      k0 ((-1 : Int), b0_0)))
abbrev YF83 : Type := ((List (Int × Int × Int × (List Int) × (List Bool) × (List Int)))) → ((Int × (List (Int × Int))) → Option Ans) → Option Ans
theorem F83_eqg (fuel : Nat) (f113_88a : YF113_88a) (x0 : (List (Int × Int × Int × (List Int) × (List Bool) × (List Int)))) (k : Ev.Cont) : evalFn tab (Gg83 f113_88a) (J83 fuel) kp83 fuel Try.f83 [.c (.sl (.pair (.int .i64) (.pair (.int .i64) (.pair (.int .i64) (.pair (.sl (.int .i64)) (.pair (.sl .bool) (.sl (.int .u8))))))) x0)] [] k = (fun  (k0 : (Int × (List (Int × Int))) → Option Ans) =>
  (L_segment_order_0 fuel ((-1 : Int), x0, (↑x0.length : Int), (0 : Int), [])
    (fun (ret0_0, ret0_1) =>
      k0 (ret0_0, ret0_1))
    (fun b0_0 =>
      k0 ((-1 : Int), b0_0)))) (fun r => match r with | (r0, r1) => k (.tup [(false, [.mp 0]), (false, [.int .i64 r0])], [.dict .i64 (.int .i64) r1])) := by
  kernel_rfl
theorem F83_eq (fuel : Nat) (x0 : (List (Int × Int × Int × (List Int) × (List Bool) × (List Int)))) (k : Ev.Cont) : evalFn tab (G83 fuel) (J83 fuel) kp83 fuel Try.f83 [.c (.sl (.pair (.int .i64) (.pair (.int .i64) (.pair (.int .i64) (.pair (.sl (.int .i64)) (.pair (.sl .bool) (.sl (.int .u8))))))) x0)] [] k = F_segment_order fuel x0 (fun r => match r with | (r0, r1) => k (.tup [(false, [.mp 0]), (false, [.int .i64 r0])], [.dict .i64 (.int .i64) r1])) :=
  F83_eqg fuel (F_segment_store_takes_88a fuel) x0 k
theorem hG83 (fuel : Nat) : GOK Try.prog (G83 fuel) :=
  gok_cons ⟨ok113_88a fuel, enters_of Try.func113 (by kernel_rfl) rfl⟩ <|
  gok_nil
theorem B83_0_blk (fuel : Nat) : BlkOK Try.prog Try.f83.ntmps (.block 0 (.loop (bodyOf 0 Try.f83))) (B83_0 fuel) :=
  blk_of (blk_of_code tab_ok (hG83 fuel) mixed (J := J83_0 fuel) (kp := kp83) (fuel := fuel) (by kernel_rfl) (fun q hq => by
    rw [(by kernel_rfl : obl (J83_0 fuel) (.block 0 (.loop (bodyOf 0 Try.f83))) = [])] at hq
    cases hq)) (B83_0_ok fuel)
theorem fok83 (fuel : Nat) : FnOK Try.prog 83 (evalFn tab (G83 fuel) (J83 fuel) kp83 fuel Try.f83) :=
  fn_ok tab_ok (hG83 fuel) mixed Try.func83 (c := (Try.f83.body).getD .skip) rfl (fun q hq => by
    rw [(by kernel_rfl : obl (J83 fuel) ((Try.f83.body).getD .skip) = [(.block 0 (.loop (bodyOf 0 Try.f83)), B83_0 fuel)])] at hq
    simp only [List.mem_cons, List.not_mem_nil, or_false] at hq
    subst hq
    · exact B83_0_blk fuel)
def mt83 : List Ev.SV → List Ev.Ob → Bool := fun args objs => match args, objs with
  | [.c (.sl (.pair (.int .i64) (.pair (.int .i64) (.pair (.int .i64) (.pair (.sl (.int .i64)) (.pair (.sl .bool) (.sl (.int .u8))))))) _)], [] => true
  | _, _ => false
def spg83 (F : YF83) : Ev.Spec := fun args objs k => match args, objs with
  | [.c (.sl (.pair (.int .i64) (.pair (.int .i64) (.pair (.int .i64) (.pair (.sl (.int .i64)) (.pair (.sl .bool) (.sl (.int .u8))))))) x0)], [] => bif true then F x0 (fun r => match r with | (r0, r1) => k (.tup [(false, [.mp 0]), (false, [.int .i64 r0])], [.dict .i64 (.int .i64) r1])) else none
  | _, _ => none
def spec83 (fuel : Nat) : Ev.Spec := spg83 (F_segment_order fuel)
theorem ok83 (fuel : Nat) : FnOK Try.prog 83 (spec83 fuel) := by
  intro args objs kk r h
  unfold spec83 spg83 at h
  split at h
  · obtain ⟨hb, h⟩ := cond_some' h
    simp only [Bool.and_eq_true, Nat.beq_eq, decide_eq_true_eq] at hb
    clear hb
    exact fok83 fuel _ _ kk r ((F83_eq fuel _ kk).trans h)
  · cases h
end Go.Proofs.Ytajidgilfkineaa

