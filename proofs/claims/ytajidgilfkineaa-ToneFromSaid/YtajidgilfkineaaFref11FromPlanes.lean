/- incunable/incunableref11.FromPlanes: its typed text, and that the machine does it. -/
import Derived.Test.YtajidgilfkineaaEvU
set_option linter.unusedVariables false
set_option linter.unusedSimpArgs false
set_option maxRecDepth 100000
namespace Go.Proofs.Ytajidgilfkineaa
open Go Ev
def kp22 (i : Nat) : Option (List Nat) := Ev.look i [(7, [0, 4, 5]), (12, [0, 4, 5, 6]), (100000, [4]), (100002, [0, 4, 5]), (400000, [2, 3]), (400002, [2, 3])]
def Gg22 (f : Nat) : Option Ev.Spec := Ev.look f []
def G22 (fuel : Nat) : Nat → Option Ev.Spec := Gg22
def S_ref11_FromPlanes_2 (fuel : Nat) (v : (List (List Int)) × Int × Int × (List Int)) (c : ((List (List Int)) × Int × Int × (List Int)) → Option Ans) (B : (Int × (List Int) → Option Ans) × ((List (List Int)) × Int × (List Int) → Option Ans)) : Option Ans := match v, B with
  | (x0, x1, x2, x3), (ret, b) =>
   bif Decidable.decide (x2 < (↑x3.length : Int)) then
      bif Decidable.decide ((0 : Int) ≤ x1 ∧ x1 < (↑x0.length : Int)) then
      bif Decidable.decide ((0 : Int) ≤ x2 ∧ x2 < (↑(List.length (x0.getD x1.toNat [])) : Int)) then
       bif Decidable.decide (List.getD (x0.getD x1.toNat []) x2.toNat (0 : Int) > (1 : Int)) then
         ret ((2 : Int), [])
        else
         bif Decidable.decide ((0 : Int) ≤ x2 ∧ x2 < (↑x3.length : Int)) then
         bif Decidable.decide ((0 : Int) ≤ x2 ∧ x2 < (↑x3.length : Int)) then
          bif Decidable.decide ((0 : Int) ≤ x1 ∧ x1 < (↑x0.length : Int)) then
           bif Decidable.decide ((0 : Int) ≤ x2 ∧ x2 < (↑(List.length (x0.getD x1.toNat [])) : Int)) then
            bif Decidable.decide ((0 : Int) ≤ x2 ∧ x2 < (↑x3.length : Int)) then
             c (x0, x1, Go.IntKind.i64.wrap (x2 + (1 : Int)), x3.set x2.toNat (Go.IntKind.i64.wrap (Go.IntKind.i64.wrap ((2 : Int) * x3.getD x2.toNat (0 : Int)) + (Go.IntKind.i64.wrap (Go.IntKind.i64.wrap (List.getD (x0.getD x1.toNat []) x2.toNat (0 : Int)) + Int.tmod (x3.getD x2.toNat (0 : Int)) (2 : Int))).tmod (2 : Int))))
             else none
            else none
           else none
          else none
         else none
       else none
      else none
     else
      b (x0, x1, x3)
def L_ref11_FromPlanes_2 (fuel : Nat) (v : (List (List Int)) × Int × Int × (List Int)) (ret : (Int × (List Int) → Option Ans)) (b : ((List (List Int)) × Int × (List Int) → Option Ans)) : Option Ans := iter (S_ref11_FromPlanes_2 fuel) fuel v (ret, b)
def J22_2 (fuel : Nat) (i : Nat) : Option Ev.Blk := Ev.look i []
def T22_2 (v : (List (List Int)) × Int × Int × (List Int)) : Ev.St := match v with | (x0, x1, x2, x3) => ⟨[(0, .c (.sl (.sl (.int .u8)) x0)), (4, .c (.own 0)), (5, .c (.int .i64 x1)), (6, .c (.int .i64 x2))], [(0, .vec 3 (.int .i64) x3 true)], 1, 0⟩
def E22_2 (K : Ev.Ex → Ev.St → Option Ans) : (Int × (List Int) → Option Ans) × ((List (List Int)) × Int × (List Int) → Option Ans) := ((fun v => match v with | (x0, x1) => K .ret ⟨[(2, .c (.own 0)), (3, .c (.int .i64 x0))], [(0, .vec 3 (.int .i64) x1 true)], 1, 0⟩), (fun v => match v with | (x0, x1, x2) => K .normal ⟨[(0, .c (.sl (.sl (.int .u8)) x0)), (4, .c (.own 0)), (5, .c (.int .i64 x1))], [(0, .vec 3 (.int .i64) x2 true)], 1, 0⟩))
theorem S22_2_ok (fuel : Nat) (R : Ev.St → Option Ans) (K : Ev.Ex → Ev.St → Option Ans) (x0 : (List (List Int))) (x1 : Int) (x2 : Int) (x3 : (List Int)) : evalCode tab (G22 fuel) (J22_2 fuel) kp22 fuel (bodyOf 2 Try.f22) (T22_2 (x0, x1, x2, x3)) (lc kp22 12 2 R K) = S_ref11_FromPlanes_2 fuel (x0, x1, x2, x3) (fun v => R (T22_2 v)) (E22_2 K) := by
  kernel_rfl
def B22_2 (fuel : Nat) : Ev.Blk := fun st K => match canonO (kp22 12) st with
  | some s => (match s with
    | ⟨[(q0, .c (.sl (.sl (.int .u8)) x0)), (q1, .c (.own q2)), (q3, .c (.int .i64 x1)), (q4, .c (.int .i64 x2))], [(q5, .vec q6 (.int .i64) x3 true)], q7, q8⟩ => bif Nat.beq q0 0 && Nat.beq q1 4 && Nat.beq q2 0 && Nat.beq q3 5 && Nat.beq q4 6 && Nat.beq q5 0 && Nat.beq q6 3 && Nat.beq q7 1 && Nat.beq q8 0 then iter (S_ref11_FromPlanes_2 fuel) fuel (x0, x1, x2, x3) (E22_2 K) else none
    | _ => none)
  | none => none
theorem B22_2_ok (fuel : Nat) (st : Ev.St) (K : Ev.Ex → Ev.St → Option Ans) (r : Ans) (h : B22_2 fuel st K = some r) : evalCode tab (G22 fuel) (J22_2 fuel) kp22 fuel (.block 2 (.loop (bodyOf 2 Try.f22))) st K = some r := by
  unfold B22_2 at h
  split at h
  · rename_i s hs
    split at h
    · obtain ⟨hb, h⟩ := cond_some' h
      simp only [Bool.and_eq_true, Nat.beq_eq, decide_eq_true_eq] at hb
      obtain ⟨⟨⟨⟨⟨⟨⟨⟨rfl, rfl⟩, rfl⟩, rfl⟩, rfl⟩, rfl⟩, rfl⟩, rfl⟩, rfl⟩ := hb
      exact blk_loop (S := T22_2) (ks := E22_2) (step := S_ref11_FromPlanes_2 fuel) (v := (_, _, _, _)) (by kernel_rfl) (by kernel_rfl) (fun R K v => by obtain ⟨x0, x1, x2, x3⟩ := v; exact S22_2_ok fuel R K x0 x1 x2 x3) hs h
    · cases h
  · cases h
def S_ref11_FromPlanes_0 (fuel : Nat) (v : (List (List Int)) × Int × (List Int)) (c : ((List (List Int)) × Int × (List Int)) → Option Ans) (B : (Int × (List Int) → Option Ans) × ((List Int) → Option Ans)) : Option Ans := match v, B with
  | (x0, x1, x2), (ret, b) =>
   bif Decidable.decide (x1 < (↑x0.length : Int)) then
      bif Decidable.decide ((0 : Int) ≤ x1 ∧ x1 < (↑x0.length : Int)) then
      bif (↑(List.length (x0.getD x1.toNat [])) : Int) != (↑x2.length : Int) then
        ret ((2 : Int), [])
       else
        (L_ref11_FromPlanes_2 fuel (x0, x1, (0 : Int), x2)
          (fun (ret2_0, ret2_1) =>
            ret (ret2_0, ret2_1))
          (fun (b2_0, b2_1, b2_2) =>
            c (b2_0, Go.IntKind.i64.wrap (b2_1 + (1 : Int)), b2_2)))
      else none
     else
      b x2
def L_ref11_FromPlanes_0 (fuel : Nat) (v : (List (List Int)) × Int × (List Int)) (ret : (Int × (List Int) → Option Ans)) (b : ((List Int) → Option Ans)) : Option Ans := iter (S_ref11_FromPlanes_0 fuel) fuel v (ret, b)
def J22_0 (fuel : Nat) (i : Nat) : Option Ev.Blk := Ev.look i [(100002, B22_2 fuel)]
def T22_0 (v : (List (List Int)) × Int × (List Int)) : Ev.St := match v with | (x0, x1, x2) => ⟨[(0, .c (.sl (.sl (.int .u8)) x0)), (4, .c (.own 0)), (5, .c (.int .i64 x1))], [(0, .vec 3 (.int .i64) x2 true)], 1, 0⟩
def E22_0 (K : Ev.Ex → Ev.St → Option Ans) : (Int × (List Int) → Option Ans) × ((List Int) → Option Ans) := ((fun v => match v with | (x0, x1) => K .ret ⟨[(2, .c (.own 0)), (3, .c (.int .i64 x0))], [(0, .vec 3 (.int .i64) x1 true)], 1, 0⟩), (fun v => match v with | x0 => K .normal ⟨[(4, .c (.own 0))], [(0, .vec 3 (.int .i64) x0 true)], 1, 0⟩))
theorem S22_0_ok (fuel : Nat) (R : Ev.St → Option Ans) (K : Ev.Ex → Ev.St → Option Ans) (x0 : (List (List Int))) (x1 : Int) (x2 : (List Int)) : evalCode tab (G22 fuel) (J22_0 fuel) kp22 fuel (bodyOf 0 Try.f22) (T22_0 (x0, x1, x2)) (lc kp22 7 0 R K) = S_ref11_FromPlanes_0 fuel (x0, x1, x2) (fun v => R (T22_0 v)) (E22_0 K) := by
  kernel_rfl
def B22_0 (fuel : Nat) : Ev.Blk := fun st K => match canonO (kp22 7) st with
  | some s => (match s with
    | ⟨[(q0, .c (.sl (.sl (.int .u8)) x0)), (q1, .c (.own q2)), (q3, .c (.int .i64 x1))], [(q4, .vec q5 (.int .i64) x2 true)], q6, q7⟩ => bif Nat.beq q0 0 && Nat.beq q1 4 && Nat.beq q2 0 && Nat.beq q3 5 && Nat.beq q4 0 && Nat.beq q5 3 && Nat.beq q6 1 && Nat.beq q7 0 then iter (S_ref11_FromPlanes_0 fuel) fuel (x0, x1, x2) (E22_0 K) else none
    | _ => none)
  | none => none
theorem B22_0_ok (fuel : Nat) (st : Ev.St) (K : Ev.Ex → Ev.St → Option Ans) (r : Ans) (h : B22_0 fuel st K = some r) : evalCode tab (G22 fuel) (J22_0 fuel) kp22 fuel (.block 0 (.loop (bodyOf 0 Try.f22))) st K = some r := by
  unfold B22_0 at h
  split at h
  · rename_i s hs
    split at h
    · obtain ⟨hb, h⟩ := cond_some' h
      simp only [Bool.and_eq_true, Nat.beq_eq, decide_eq_true_eq] at hb
      obtain ⟨⟨⟨⟨⟨⟨⟨rfl, rfl⟩, rfl⟩, rfl⟩, rfl⟩, rfl⟩, rfl⟩, rfl⟩ := hb
      exact blk_loop (S := T22_0) (ks := E22_0) (step := S_ref11_FromPlanes_0 fuel) (v := (_, _, _)) (by kernel_rfl) (by kernel_rfl) (fun R K v => by obtain ⟨x0, x1, x2⟩ := v; exact S22_0_ok fuel R K x0 x1 x2) hs h
    · cases h
  · cases h
def J22 (fuel : Nat) (i : Nat) : Option Ev.Blk := Ev.look i [(100002, B22_2 fuel), (100000, B22_0 fuel)]
def F_ref11_FromPlanes (fuel : Nat) (x0 : (List (List Int))) (k0 : (Int × (List Int)) → Option Ans) : Option Ans :=
  bif Decidable.decide ((↑x0.length : Int) > (8 : Int)) then
   k0 ((2 : Int), [])
  else
   bif (↑x0.length : Int) == (0 : Int) then
    k0 ((0 : Int), [])
   else
    bif Decidable.decide ((0 : Int) ≤ (0 : Int) ∧ (0 : Int) < (↑x0.length : Int)) then
    bif Decidable.decide ((0 : Int) ≤ (↑(List.length (x0.getD (Int.toNat (0 : Int)) [])) : Int) ∧ (↑(List.length (x0.getD (Int.toNat (0 : Int)) [])) : Int) = (↑(List.length (x0.getD (Int.toNat (0 : Int)) [])) : Int) ∧ (↑(8 : Nat) : Int) * (↑(List.length (x0.getD (Int.toNat (0 : Int)) [])) : Int) ≤ (281474976710656 : Int) ∧ (↑(List.length (x0.getD (Int.toNat (0 : Int)) [])) : Int) ≤ (281474976710656 : Int)) then
     (L_ref11_FromPlanes_0 fuel (x0, (0 : Int), List.replicate (↑(List.length (x0.getD (Int.toNat (0 : Int)) [])) : Int).toNat (0 : Int))
        (fun (ret0_0, ret0_1) =>
          k0 (ret0_0, ret0_1))
        (fun b0_0 =>
          k0 ((0 : Int), b0_0)))
     else none
    else none
abbrev YF22 : Type := ((List (List Int))) → ((Int × (List Int)) → Option Ans) → Option Ans
theorem F22_eq (fuel : Nat) (x0 : (List (List Int))) (k : Ev.Cont) : evalFn tab (G22 fuel) (J22 fuel) kp22 fuel Try.f22 [.c (.sl (.sl (.int .u8)) x0)] [] k = F_ref11_FromPlanes fuel x0 (fun r => match r with | (r0, r1) => k (.tup [(false, [.own 0]), (false, [.int .i64 r0])], [.vec 3 (.int .i64) r1 true])) := by
  kernel_rfl
theorem hG22 (fuel : Nat) : GOK Try.prog (G22 fuel) :=
  gok_nil
theorem B22_2_blk (fuel : Nat) : BlkOK Try.prog Try.f22.ntmps (.block 2 (.loop (bodyOf 2 Try.f22))) (B22_2 fuel) :=
  blk_of (blk_of_code tab_ok (hG22 fuel) mixed (J := J22_2 fuel) (kp := kp22) (fuel := fuel) (by kernel_rfl) (fun q hq => by
    rw [(by kernel_rfl : obl (J22_2 fuel) (.block 2 (.loop (bodyOf 2 Try.f22))) = [])] at hq
    cases hq)) (B22_2_ok fuel)
theorem B22_0_blk (fuel : Nat) : BlkOK Try.prog Try.f22.ntmps (.block 0 (.loop (bodyOf 0 Try.f22))) (B22_0 fuel) :=
  blk_of (blk_of_code tab_ok (hG22 fuel) mixed (J := J22_0 fuel) (kp := kp22) (fuel := fuel) (by kernel_rfl) (fun q hq => by
    rw [(by kernel_rfl : obl (J22_0 fuel) (.block 0 (.loop (bodyOf 0 Try.f22))) = [(.block 2 (.loop (bodyOf 2 Try.f22)), B22_2 fuel)])] at hq
    simp only [List.mem_cons, List.not_mem_nil, or_false] at hq
    subst hq
    · exact B22_2_blk fuel)) (B22_0_ok fuel)
theorem fok22 (fuel : Nat) : FnOK Try.prog 22 (evalFn tab (G22 fuel) (J22 fuel) kp22 fuel Try.f22) :=
  fn_ok tab_ok (hG22 fuel) mixed Try.func22 (c := (Try.f22.body).getD .skip) rfl (fun q hq => by
    rw [(by kernel_rfl : obl (J22 fuel) ((Try.f22.body).getD .skip) = [(.block 0 (.loop (bodyOf 0 Try.f22)), B22_0 fuel)])] at hq
    simp only [List.mem_cons, List.not_mem_nil, or_false] at hq
    subst hq
    · exact B22_0_blk fuel)
def mt22 : List Ev.SV → List Ev.Ob → Bool := fun args objs => match args, objs with
  | [.c (.sl (.sl (.int .u8)) _)], [] => true
  | _, _ => false
def spg22 (F : YF22) : Ev.Spec := fun args objs k => match args, objs with
  | [.c (.sl (.sl (.int .u8)) x0)], [] => bif true then F x0 (fun r => match r with | (r0, r1) => k (.tup [(false, [.own 0]), (false, [.int .i64 r0])], [.vec 3 (.int .i64) r1 true])) else none
  | _, _ => none
def spec22 (fuel : Nat) : Ev.Spec := spg22 (F_ref11_FromPlanes fuel)
theorem ok22 (fuel : Nat) : FnOK Try.prog 22 (spec22 fuel) := by
  intro args objs kk r h
  unfold spec22 spg22 at h
  split at h
  · obtain ⟨hb, h⟩ := cond_some' h
    simp only [Bool.and_eq_true, Nat.beq_eq, decide_eq_true_eq] at hb
    clear hb
    exact fok22 fuel _ _ kk r ((F22_eq fuel _ kk).trans h)
  · cases h
end Go.Proofs.Ytajidgilfkineaa
