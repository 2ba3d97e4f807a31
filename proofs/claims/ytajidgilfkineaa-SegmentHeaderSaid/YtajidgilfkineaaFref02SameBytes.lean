/- incunable/incunableref02.SameBytes: its typed text, and that the machine does it. -/
import Derived.Test.YtajidgilfkineaaEvU
set_option linter.unusedVariables false
set_option linter.unusedSimpArgs false
set_option maxRecDepth 100000
namespace Go.Proofs.Ytajidgilfkineaa
open Go Ev
def kp45 (i : Nat) : Option (List Nat) := Ev.look i [(4, [0, 1, 12, 13]), (100000, []), (400000, [4])]
def Gg45 (f : Nat) : Option Ev.Spec := Ev.look f []
def G45 (fuel : Nat) : Nat → Option Ev.Spec := Gg45
def S_ref02_SameBytes_0 (fuel : Nat) (v : (List Int) × (List Int) × Int × Int) (c : ((List Int) × (List Int) × Int × Int) → Option Ans) (B : (Bool → Option Ans) × (Unit → Option Ans)) : Option Ans := match v, B with
  | (x0, x1, x2, x3), (ret, b) =>
   bif Decidable.decide (x3 < x2) then
      bif Decidable.decide ((0 : Int) ≤ x3 ∧ x3 < (↑x0.length : Int)) then
      bif Decidable.decide ((0 : Int) ≤ x3 ∧ x3 < (↑x1.length : Int)) then
       bif x0.getD x3.toNat (0 : Int) != x1.getD x3.toNat (0 : Int) then
         ret Bool.false
        else
         c (x0, x1, x2, Go.IntKind.i64.wrap (x3 + (1 : Int)))
       else none
      else none
     else
      b ()
def L_ref02_SameBytes_0 (fuel : Nat) (v : (List Int) × (List Int) × Int × Int) (ret : (Bool → Option Ans)) (b : (Unit → Option Ans)) : Option Ans := iter (S_ref02_SameBytes_0 fuel) fuel v (ret, b)
def J45_0 (fuel : Nat) (i : Nat) : Option Ev.Blk := Ev.look i []
def T45_0 (v : (List Int) × (List Int) × Int × Int) : Ev.St := match v with | (x0, x1, x2, x3) => ⟨[(0, .c (.sl (.int .u8) x0)), (1, .c (.sl (.int .u8) x1)), (12, .c (.int .i64 x2)), (13, .c (.int .i64 x3))], [], 0, 0⟩
def E45_0 (K : Ev.Ex → Ev.St → Option Ans) : (Bool → Option Ans) × (Unit → Option Ans) := ((fun v => match v with | x0 => K .ret ⟨[(4, .c (.bool x0))], [], 0, 0⟩), (fun v => match v with | () => K .normal ⟨[], [], 0, 0⟩))
theorem S45_0_ok (fuel : Nat) (R : Ev.St → Option Ans) (K : Ev.Ex → Ev.St → Option Ans) (x0 : (List Int)) (x1 : (List Int)) (x2 : Int) (x3 : Int) : evalCode tab (G45 fuel) (J45_0 fuel) kp45 fuel (bodyOf 0 Try.f45) (T45_0 (x0, x1, x2, x3)) (lc kp45 4 0 R K) = S_ref02_SameBytes_0 fuel (x0, x1, x2, x3) (fun v => R (T45_0 v)) (E45_0 K) := by
  kernel_rfl
def B45_0 (fuel : Nat) : Ev.Blk := fun st K => match canonO (kp45 4) st with
  | some s => (match s with
    | ⟨[(q0, .c (.sl (.int .u8) x0)), (q1, .c (.sl (.int .u8) x1)), (q2, .c (.int .i64 x2)), (q3, .c (.int .i64 x3))], [], q4, q5⟩ => bif Nat.beq q0 0 && Nat.beq q1 1 && Nat.beq q2 12 && Nat.beq q3 13 && Nat.beq q4 0 && Nat.beq q5 0 then iter (S_ref02_SameBytes_0 fuel) fuel (x0, x1, x2, x3) (E45_0 K) else none
    | _ => none)
  | none => none
theorem B45_0_ok (fuel : Nat) (st : Ev.St) (K : Ev.Ex → Ev.St → Option Ans) (r : Ans) (h : B45_0 fuel st K = some r) : evalCode tab (G45 fuel) (J45_0 fuel) kp45 fuel (.block 0 (.loop (bodyOf 0 Try.f45))) st K = some r := by
  unfold B45_0 at h
  split at h
  · rename_i s hs
    split at h
    · obtain ⟨hb, h⟩ := cond_some' h
      simp only [Bool.and_eq_true, Nat.beq_eq, decide_eq_true_eq] at hb
      obtain ⟨⟨⟨⟨⟨rfl, rfl⟩, rfl⟩, rfl⟩, rfl⟩, rfl⟩ := hb
      exact blk_loop (S := T45_0) (ks := E45_0) (step := S_ref02_SameBytes_0 fuel) (v := (_, _, _, _)) (by kernel_rfl) (by kernel_rfl) (fun R K v => by obtain ⟨x0, x1, x2, x3⟩ := v; exact S45_0_ok fuel R K x0 x1 x2 x3) hs h
    · cases h
  · cases h
def J45 (fuel : Nat) (i : Nat) : Option Ev.Blk := Ev.look i [(100000, B45_0 fuel)]
def F_ref02_SameBytes (fuel : Nat) (x0 : (List Int)) (x1 : (List Int)) (k0 : (Bool) → Option Ans) : Option Ans :=
  bif (↑x0.length : Int) != (↑x1.length : Int) then
   k0 Bool.false
  else
   (L_ref02_SameBytes_0 fuel (x0, x1, (↑x0.length : Int), (0 : Int))
     (fun ret0_0 =>
       k0 ret0_0)
     (fun () =>
       k0 Bool.true))
abbrev YF45 : Type := ((List Int)) → ((List Int)) → ((Bool) → Option Ans) → Option Ans
theorem F45_eq (fuel : Nat) (x0 : (List Int)) (x1 : (List Int)) (k : Ev.Cont) : evalFn tab (G45 fuel) (J45 fuel) kp45 fuel Try.f45 [.c (.sl (.int .u8) x0), .c (.sl (.int .u8) x1)] [] k = F_ref02_SameBytes fuel x0 x1 (fun r => match r with | r0 => k (.c (.bool r0), [])) := by
  kernel_rfl
theorem hG45 (fuel : Nat) : GOK Try.prog (G45 fuel) :=
  gok_nil
theorem B45_0_blk (fuel : Nat) : BlkOK Try.prog Try.f45.ntmps (.block 0 (.loop (bodyOf 0 Try.f45))) (B45_0 fuel) :=
  blk_of (blk_of_code tab_ok (hG45 fuel) mixed (J := J45_0 fuel) (kp := kp45) (fuel := fuel) (by kernel_rfl) (fun q hq => by
    rw [(by kernel_rfl : obl (J45_0 fuel) (.block 0 (.loop (bodyOf 0 Try.f45))) = [])] at hq
    cases hq)) (B45_0_ok fuel)
theorem fok45 (fuel : Nat) : FnOK Try.prog 45 (evalFn tab (G45 fuel) (J45 fuel) kp45 fuel Try.f45) :=
  fn_ok tab_ok (hG45 fuel) mixed Try.func45 (c := (Try.f45.body).getD .skip) rfl (fun q hq => by
    rw [(by kernel_rfl : obl (J45 fuel) ((Try.f45.body).getD .skip) = [(.block 0 (.loop (bodyOf 0 Try.f45)), B45_0 fuel)])] at hq
    simp only [List.mem_cons, List.not_mem_nil, or_false] at hq
    subst hq
    · exact B45_0_blk fuel)
def mt45 : List Ev.SV → List Ev.Ob → Bool := fun args objs => match args, objs with
  | [.c (.sl (.int .u8) _), .c (.sl (.int .u8) _)], [] => true
  | _, _ => false
def spg45 (F : YF45) : Ev.Spec := fun args objs k => match args, objs with
  | [.c (.sl (.int .u8) x0), .c (.sl (.int .u8) x1)], [] => bif true then F x0 x1 (fun r => match r with | r0 => k (.c (.bool r0), [])) else none
  | _, _ => none
def spec45 (fuel : Nat) : Ev.Spec := spg45 (F_ref02_SameBytes fuel)
theorem ok45 (fuel : Nat) : FnOK Try.prog 45 (spec45 fuel) := by
  intro args objs kk r h
  unfold spec45 spg45 at h
  split at h
  · obtain ⟨hb, h⟩ := cond_some' h
    simp only [Bool.and_eq_true, Nat.beq_eq, decide_eq_true_eq] at hb
    clear hb
    exact fok45 fuel _ _ kk r ((F45_eq fuel _ _ kk).trans h)
  · cases h
end Go.Proofs.Ytajidgilfkineaa
