/- incunable/incunableref01.SameInts: its typed text, and that the machine does it. -/
import Derived.Test.YtajidgilfkineaaEvU
set_option linter.unusedVariables false
set_option linter.unusedSimpArgs false
set_option maxRecDepth 100000
namespace Go.Proofs.Ytajidgilfkineaa
open Go Ev
def kp21 (i : Nat) : Option (List Nat) := Ev.look i [(4, [0, 1, 5]), (100000, []), (400000, [4])]
def Gg21 (f : Nat) : Option Ev.Spec := Ev.look f []
def G21 (fuel : Nat) : Nat → Option Ev.Spec := Gg21
def S_ref01_SameInts_0 (fuel : Nat) (v : (List Int) × (List Int) × Int) (c : ((List Int) × (List Int) × Int) → Option Ans) (B : (Bool → Option Ans) × (Unit → Option Ans)) : Option Ans := match v, B with
  | (x0, x1, x2), (ret, b) =>
   bif Decidable.decide (x2 < (↑x0.length : Int)) then
      bif Decidable.decide ((0 : Int) ≤ x2 ∧ x2 < (↑x0.length : Int)) then
      bif Decidable.decide ((0 : Int) ≤ x2 ∧ x2 < (↑x1.length : Int)) then
       bif x0.getD x2.toNat (0 : Int) != x1.getD x2.toNat (0 : Int) then
         ret Bool.false
        else
         c (x0, x1, Go.IntKind.i64.wrap (x2 + (1 : Int)))
       else none
      else none
     else
      b ()
def L_ref01_SameInts_0 (fuel : Nat) (v : (List Int) × (List Int) × Int) (ret : (Bool → Option Ans)) (b : (Unit → Option Ans)) : Option Ans := iter (S_ref01_SameInts_0 fuel) fuel v (ret, b)
def J21_0 (fuel : Nat) (i : Nat) : Option Ev.Blk := Ev.look i []
def T21_0 (v : (List Int) × (List Int) × Int) : Ev.St := match v with | (x0, x1, x2) => ⟨[(0, .c (.sl (.int .i64) x0)), (1, .c (.sl (.int .i64) x1)), (5, .c (.int .i64 x2))], [], 0, 0⟩
def E21_0 (K : Ev.Ex → Ev.St → Option Ans) : (Bool → Option Ans) × (Unit → Option Ans) := ((fun v => match v with | x0 => K .ret ⟨[(4, .c (.bool x0))], [], 0, 0⟩), (fun v => match v with | () => K .normal ⟨[], [], 0, 0⟩))
theorem S21_0_ok (fuel : Nat) (R : Ev.St → Option Ans) (K : Ev.Ex → Ev.St → Option Ans) (x0 : (List Int)) (x1 : (List Int)) (x2 : Int) : evalCode tab (G21 fuel) (J21_0 fuel) kp21 fuel (bodyOf 0 Try.f21) (T21_0 (x0, x1, x2)) (lc kp21 4 0 R K) = S_ref01_SameInts_0 fuel (x0, x1, x2) (fun v => R (T21_0 v)) (E21_0 K) := by
  kernel_rfl
def B21_0 (fuel : Nat) : Ev.Blk := fun st K => match canonO (kp21 4) st with
  | some s => (match s with
    | ⟨[(q0, .c (.sl (.int .i64) x0)), (q1, .c (.sl (.int .i64) x1)), (q2, .c (.int .i64 x2))], [], q3, q4⟩ => bif Nat.beq q0 0 && Nat.beq q1 1 && Nat.beq q2 5 && Nat.beq q3 0 && Nat.beq q4 0 then iter (S_ref01_SameInts_0 fuel) fuel (x0, x1, x2) (E21_0 K) else none
    | _ => none)
  | none => none
theorem B21_0_ok (fuel : Nat) (st : Ev.St) (K : Ev.Ex → Ev.St → Option Ans) (r : Ans) (h : B21_0 fuel st K = some r) : evalCode tab (G21 fuel) (J21_0 fuel) kp21 fuel (.block 0 (.loop (bodyOf 0 Try.f21))) st K = some r := by
  unfold B21_0 at h
  split at h
  · rename_i s hs
    split at h
    · obtain ⟨hb, h⟩ := cond_some' h
      simp only [Bool.and_eq_true, Nat.beq_eq, decide_eq_true_eq] at hb
      obtain ⟨⟨⟨⟨rfl, rfl⟩, rfl⟩, rfl⟩, rfl⟩ := hb
      exact blk_loop (S := T21_0) (ks := E21_0) (step := S_ref01_SameInts_0 fuel) (v := (_, _, _)) (by kernel_rfl) (by kernel_rfl) (fun R K v => by obtain ⟨x0, x1, x2⟩ := v; exact S21_0_ok fuel R K x0 x1 x2) hs h
    · cases h
  · cases h
def J21 (fuel : Nat) (i : Nat) : Option Ev.Blk := Ev.look i [(100000, B21_0 fuel)]
def F_ref01_SameInts (fuel : Nat) (x0 : (List Int)) (x1 : (List Int)) (k0 : (Bool) → Option Ans) : Option Ans :=
  bif (↑x0.length : Int) != (↑x1.length : Int) then
   k0 Bool.false
  else
   (L_ref01_SameInts_0 fuel (x0, x1, (0 : Int))
     (fun ret0_0 =>
       k0 ret0_0)
     (fun () =>
       k0 Bool.true))
abbrev YF21 : Type := ((List Int)) → ((List Int)) → ((Bool) → Option Ans) → Option Ans
theorem F21_eq (fuel : Nat) (x0 : (List Int)) (x1 : (List Int)) (k : Ev.Cont) : evalFn tab (G21 fuel) (J21 fuel) kp21 fuel Try.f21 [.c (.sl (.int .i64) x0), .c (.sl (.int .i64) x1)] [] k = F_ref01_SameInts fuel x0 x1 (fun r => match r with | r0 => k (.c (.bool r0), [])) := by
  kernel_rfl
theorem hG21 (fuel : Nat) : GOK Try.prog (G21 fuel) :=
  gok_nil
theorem B21_0_blk (fuel : Nat) : BlkOK Try.prog Try.f21.ntmps (.block 0 (.loop (bodyOf 0 Try.f21))) (B21_0 fuel) :=
  blk_of (blk_of_code tab_ok (hG21 fuel) mixed (J := J21_0 fuel) (kp := kp21) (fuel := fuel) (by kernel_rfl) (fun q hq => by
    rw [(by kernel_rfl : obl (J21_0 fuel) (.block 0 (.loop (bodyOf 0 Try.f21))) = [])] at hq
    cases hq)) (B21_0_ok fuel)
theorem fok21 (fuel : Nat) : FnOK Try.prog 21 (evalFn tab (G21 fuel) (J21 fuel) kp21 fuel Try.f21) :=
  fn_ok tab_ok (hG21 fuel) mixed Try.func21 (c := (Try.f21.body).getD .skip) rfl (fun q hq => by
    rw [(by kernel_rfl : obl (J21 fuel) ((Try.f21.body).getD .skip) = [(.block 0 (.loop (bodyOf 0 Try.f21)), B21_0 fuel)])] at hq
    simp only [List.mem_cons, List.not_mem_nil, or_false] at hq
    subst hq
    · exact B21_0_blk fuel)
def mt21 : List Ev.SV → List Ev.Ob → Bool := fun args objs => match args, objs with
  | [.c (.sl (.int .i64) _), .c (.sl (.int .i64) _)], [] => true
  | _, _ => false
def spg21 (F : YF21) : Ev.Spec := fun args objs k => match args, objs with
  | [.c (.sl (.int .i64) x0), .c (.sl (.int .i64) x1)], [] => bif true then F x0 x1 (fun r => match r with | r0 => k (.c (.bool r0), [])) else none
  | _, _ => none
def spec21 (fuel : Nat) : Ev.Spec := spg21 (F_ref01_SameInts fuel)
theorem ok21 (fuel : Nat) : FnOK Try.prog 21 (spec21 fuel) := by
  intro args objs kk r h
  unfold spec21 spg21 at h
  split at h
  · obtain ⟨hb, h⟩ := cond_some' h
    simp only [Bool.and_eq_true, Nat.beq_eq, decide_eq_true_eq] at hb
    clear hb
    exact fok21 fuel _ _ kk r ((F21_eq fuel _ _ kk).trans h)
  · cases h
end Go.Proofs.Ytajidgilfkineaa
