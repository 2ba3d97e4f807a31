/- slices.Equal[[]bool,bool]: its typed text, and that the machine does it. -/
import Derived.Test.YtajidgilfkineaaEvU
set_option linter.unusedVariables false
set_option linter.unusedSimpArgs false
set_option maxRecDepth 100000
namespace Go.Proofs.Ytajidgilfkineaa
open Go Ev
def kp81 (i : Nat) : Option (List Nat) := Ev.look i [(4, [0, 1, 12, 13]), (100000, []), (400000, [4])]
def Gg81 (f : Nat) : Option Ev.Spec := Ev.look f []
def G81 (fuel : Nat) : Nat → Option Ev.Spec := Gg81
def S_slices_Equal_bool_bool_0 (fuel : Nat) (v : (List Bool) × (List Bool) × Int × Int) (c : ((List Bool) × (List Bool) × Int × Int) → Option Ans) (B : (Bool → Option Ans) × (Unit → Option Ans)) : Option Ans := match v, B with
  | (x0, x1, x2, x3), (ret, b) =>
   bif Decidable.decide (x3 < x2) then
      bif Decidable.decide ((0 : Int) ≤ x3 ∧ x3 < (↑x0.length : Int)) then
      bif Decidable.decide ((0 : Int) ≤ x3 ∧ x3 < (↑x1.length : Int)) then
       bif !x0.getD x3.toNat Bool.false == x1.getD x3.toNat Bool.false then
         ret Bool.false
        else
         c (x0, x1, x2, Go.IntKind.i64.wrap (x3 + (1 : Int)))
       else none
      else none
     else
      b ()
def L_slices_Equal_bool_bool_0 (fuel : Nat) (v : (List Bool) × (List Bool) × Int × Int) (ret : (Bool → Option Ans)) (b : (Unit → Option Ans)) : Option Ans := iter (S_slices_Equal_bool_bool_0 fuel) fuel v (ret, b)
def J81_0 (fuel : Nat) (i : Nat) : Option Ev.Blk := Ev.look i []
def T81_0 (v : (List Bool) × (List Bool) × Int × Int) : Ev.St := match v with | (x0, x1, x2, x3) => ⟨[(0, .c (.sl .bool x0)), (1, .c (.sl .bool x1)), (12, .c (.int .i64 x2)), (13, .c (.int .i64 x3))], [], 0, 0⟩
def E81_0 (K : Ev.Ex → Ev.St → Option Ans) : (Bool → Option Ans) × (Unit → Option Ans) := ((fun v => match v with | x0 => K .ret ⟨[(4, .c (.bool x0))], [], 0, 0⟩), (fun v => match v with | () => K .normal ⟨[], [], 0, 0⟩))
theorem S81_0_ok (fuel : Nat) (R : Ev.St → Option Ans) (K : Ev.Ex → Ev.St → Option Ans) (x0 : (List Bool)) (x1 : (List Bool)) (x2 : Int) (x3 : Int) : evalCode tab (G81 fuel) (J81_0 fuel) kp81 fuel (bodyOf 0 Try.f81) (T81_0 (x0, x1, x2, x3)) (lc kp81 4 0 R K) = S_slices_Equal_bool_bool_0 fuel (x0, x1, x2, x3) (fun v => R (T81_0 v)) (E81_0 K) := by
  kernel_rfl
def B81_0 (fuel : Nat) : Ev.Blk := fun st K => match canonO (kp81 4) st with
  | some s => (match s with
    | ⟨[(q0, .c (.sl .bool x0)), (q1, .c (.sl .bool x1)), (q2, .c (.int .i64 x2)), (q3, .c (.int .i64 x3))], [], q4, q5⟩ => bif Nat.beq q0 0 && Nat.beq q1 1 && Nat.beq q2 12 && Nat.beq q3 13 && Nat.beq q4 0 && Nat.beq q5 0 then iter (S_slices_Equal_bool_bool_0 fuel) fuel (x0, x1, x2, x3) (E81_0 K) else none
    | _ => none)
  | none => none
theorem B81_0_ok (fuel : Nat) (st : Ev.St) (K : Ev.Ex → Ev.St → Option Ans) (r : Ans) (h : B81_0 fuel st K = some r) : evalCode tab (G81 fuel) (J81_0 fuel) kp81 fuel (.block 0 (.loop (bodyOf 0 Try.f81))) st K = some r := by
  unfold B81_0 at h
  split at h
  · rename_i s hs
    split at h
    · obtain ⟨hb, h⟩ := cond_some' h
      simp only [Bool.and_eq_true, Nat.beq_eq, decide_eq_true_eq] at hb
      obtain ⟨⟨⟨⟨⟨rfl, rfl⟩, rfl⟩, rfl⟩, rfl⟩, rfl⟩ := hb
      exact blk_loop (S := T81_0) (ks := E81_0) (step := S_slices_Equal_bool_bool_0 fuel) (v := (_, _, _, _)) (by kernel_rfl) (by kernel_rfl) (fun R K v => by obtain ⟨x0, x1, x2, x3⟩ := v; exact S81_0_ok fuel R K x0 x1 x2 x3) hs h
    · cases h
  · cases h
def J81 (fuel : Nat) (i : Nat) : Option Ev.Blk := Ev.look i [(100000, B81_0 fuel)]
def F_slices_Equal_bool_bool (fuel : Nat) (x0 : (List Bool)) (x1 : (List Bool)) (k0 : (Bool) → Option Ans) : Option Ans :=
  bif (↑x0.length : Int) != (↑x1.length : Int) then
   k0 Bool.false
  else
   (L_slices_Equal_bool_bool_0 fuel (x0, x1, (↑x0.length : Int), (0 : Int))
     (fun ret0_0 =>
       k0 ret0_0)
     (fun () =>
       k0 Bool.true))
abbrev YF81 : Type := ((List Bool)) → ((List Bool)) → ((Bool) → Option Ans) → Option Ans
theorem F81_eq (fuel : Nat) (x0 : (List Bool)) (x1 : (List Bool)) (k : Ev.Cont) : evalFn tab (G81 fuel) (J81 fuel) kp81 fuel Try.f81 [.c (.sl .bool x0), .c (.sl .bool x1)] [] k = F_slices_Equal_bool_bool fuel x0 x1 (fun r => match r with | r0 => k (.c (.bool r0), [])) := by
  kernel_rfl
theorem hG81 (fuel : Nat) : GOK Try.prog (G81 fuel) :=
  gok_nil
theorem B81_0_blk (fuel : Nat) : BlkOK Try.prog Try.f81.ntmps (.block 0 (.loop (bodyOf 0 Try.f81))) (B81_0 fuel) :=
  blk_of (blk_of_code tab_ok (hG81 fuel) mixed (J := J81_0 fuel) (kp := kp81) (fuel := fuel) (by kernel_rfl) (fun q hq => by
    rw [(by kernel_rfl : obl (J81_0 fuel) (.block 0 (.loop (bodyOf 0 Try.f81))) = [])] at hq
    cases hq)) (B81_0_ok fuel)
theorem fok81 (fuel : Nat) : FnOK Try.prog 81 (evalFn tab (G81 fuel) (J81 fuel) kp81 fuel Try.f81) :=
  fn_ok tab_ok (hG81 fuel) mixed Try.func81 (c := (Try.f81.body).getD .skip) rfl (fun q hq => by
    rw [(by kernel_rfl : obl (J81 fuel) ((Try.f81.body).getD .skip) = [(.block 0 (.loop (bodyOf 0 Try.f81)), B81_0 fuel)])] at hq
    simp only [List.mem_cons, List.not_mem_nil, or_false] at hq
    subst hq
    · exact B81_0_blk fuel)
def mt81 : List Ev.SV → List Ev.Ob → Bool := fun args objs => match args, objs with
  | [.c (.sl .bool _), .c (.sl .bool _)], [] => true
  | _, _ => false
def spg81 (F : YF81) : Ev.Spec := fun args objs k => match args, objs with
  | [.c (.sl .bool x0), .c (.sl .bool x1)], [] => bif true then F x0 x1 (fun r => match r with | r0 => k (.c (.bool r0), [])) else none
  | _, _ => none
def spec81 (fuel : Nat) : Ev.Spec := spg81 (F_slices_Equal_bool_bool fuel)
theorem ok81 (fuel : Nat) : FnOK Try.prog 81 (spec81 fuel) := by
  intro args objs kk r h
  unfold spec81 spg81 at h
  split at h
  · obtain ⟨hb, h⟩ := cond_some' h
    simp only [Bool.and_eq_true, Nat.beq_eq, decide_eq_true_eq] at hb
    clear hb
    exact fok81 fuel _ _ kk r ((F81_eq fuel _ _ kk).trans h)
  · cases h
end Go.Proofs.Ytajidgilfkineaa
