/- slices.Equal[[]int,int]: its typed text, and that the machine does it. -/
import Derived.Test.YtajidgilfkineaaEvU
set_option linter.unusedVariables false
set_option linter.unusedSimpArgs false
set_option maxRecDepth 100000
namespace Go.Proofs.Ytajidgilfkineaa
open Go Ev
def kp80 (i : Nat) : Option (List Nat) := Ev.look i [(4, [0, 1, 12, 13]), (100000, []), (400000, [4])]
def Gg80 (f : Nat) : Option Ev.Spec := Ev.look f []
def G80 (fuel : Nat) : Nat → Option Ev.Spec := Gg80
def S_slices_Equal_int_int_0 (fuel : Nat) (v : (List Int) × (List Int) × Int × Int) (c : ((List Int) × (List Int) × Int × Int) → Option Ans) (B : (Bool → Option Ans) × (Unit → Option Ans)) : Option Ans := match v, B with
  | (x0, x1, x2, x3), (ret, b) =>
   bif Decidable.decide (x3 < x2) then
      bif Decidable.decide ((0 : Int) ≤ x3 ∧ x3 < (↑x0.length : Int)) then
      bif Decidable.decide ((0 : Int) ≤ x3 ∧ x3 < (↑x1.length : Int)) then
       bif x0.getD x3.toNat (0 : Int) != x1.getD x3.toNat (0 : Int) then
         ret Bool.false
        else
         c (x0, x1, x2, Go.IntKind.i64.wrap (x3 + (1 : Int)))
       else none
      else none
     else
      b ()
def L_slices_Equal_int_int_0 (fuel : Nat) (v : (List Int) × (List Int) × Int × Int) (ret : (Bool → Option Ans)) (b : (Unit → Option Ans)) : Option Ans := iter (S_slices_Equal_int_int_0 fuel) fuel v (ret, b)
def J80_0 (fuel : Nat) (i : Nat) : Option Ev.Blk := Ev.look i []
def T80_0 (v : (List Int) × (List Int) × Int × Int) : Ev.St := match v with | (x0, x1, x2, x3) => ⟨[(0, .c (.sl (.int .i64) x0)), (1, .c (.sl (.int .i64) x1)), (12, .c (.int .i64 x2)), (13, .c (.int .i64 x3))], [], 0, 0⟩
def E80_0 (K : Ev.Ex → Ev.St → Option Ans) : (Bool → Option Ans) × (Unit → Option Ans) := ((fun v => match v with | x0 => K .ret ⟨[(4, .c (.bool x0))], [], 0, 0⟩), (fun v => match v with | () => K .normal ⟨[], [], 0, 0⟩))
theorem S80_0_ok (fuel : Nat) (R : Ev.St → Option Ans) (K : Ev.Ex → Ev.St → Option Ans) (x0 : (List Int)) (x1 : (List Int)) (x2 : Int) (x3 : Int) : evalCode tab (G80 fuel) (J80_0 fuel) kp80 fuel (bodyOf 0 Try.f80) (T80_0 (x0, x1, x2, x3)) (lc kp80 4 0 R K) = S_slices_Equal_int_int_0 fuel (x0, x1, x2, x3) (fun v => R (T80_0 v)) (E80_0 K) := by
  kernel_rfl
def B80_0 (fuel : Nat) : Ev.Blk := fun st K => match canonO (kp80 4) st with
  | some s => (match s with
    | ⟨[(q0, .c (.sl (.int .i64) x0)), (q1, .c (.sl (.int .i64) x1)), (q2, .c (.int .i64 x2)), (q3, .c (.int .i64 x3))], [], q4, q5⟩ => bif Nat.beq q0 0 && Nat.beq q1 1 && Nat.beq q2 12 && Nat.beq q3 13 && Nat.beq q4 0 && Nat.beq q5 0 then iter (S_slices_Equal_int_int_0 fuel) fuel (x0, x1, x2, x3) (E80_0 K) else none
    | _ => none)
  | none => none
theorem B80_0_ok (fuel : Nat) (st : Ev.St) (K : Ev.Ex → Ev.St → Option Ans) (r : Ans) (h : B80_0 fuel st K = some r) : evalCode tab (G80 fuel) (J80_0 fuel) kp80 fuel (.block 0 (.loop (bodyOf 0 Try.f80))) st K = some r := by
  unfold B80_0 at h
  split at h
  · rename_i s hs
    split at h
    · obtain ⟨hb, h⟩ := cond_some' h
      simp only [Bool.and_eq_true, Nat.beq_eq, decide_eq_true_eq] at hb
      obtain ⟨⟨⟨⟨⟨rfl, rfl⟩, rfl⟩, rfl⟩, rfl⟩, rfl⟩ := hb
      exact blk_loop (S := T80_0) (ks := E80_0) (step := S_slices_Equal_int_int_0 fuel) (v := (_, _, _, _)) (by kernel_rfl) (by kernel_rfl) (fun R K v => by obtain ⟨x0, x1, x2, x3⟩ := v; exact S80_0_ok fuel R K x0 x1 x2 x3) hs h
    · cases h
  · cases h
def J80 (fuel : Nat) (i : Nat) : Option Ev.Blk := Ev.look i [(100000, B80_0 fuel)]
def F_slices_Equal_int_int (fuel : Nat) (x0 : (List Int)) (x1 : (List Int)) (k0 : (Bool) → Option Ans) : Option Ans :=
  bif (↑x0.length : Int) != (↑x1.length : Int) then
   k0 Bool.false
  else
   (L_slices_Equal_int_int_0 fuel (x0, x1, (↑x0.length : Int), (0 : Int))
     (fun ret0_0 =>
       k0 ret0_0)
     (fun () =>
       k0 Bool.true))
abbrev YF80 : Type := ((List Int)) → ((List Int)) → ((Bool) → Option Ans) → Option Ans
theorem F80_eq (fuel : Nat) (x0 : (List Int)) (x1 : (List Int)) (k : Ev.Cont) : evalFn tab (G80 fuel) (J80 fuel) kp80 fuel Try.f80 [.c (.sl (.int .i64) x0), .c (.sl (.int .i64) x1)] [] k = F_slices_Equal_int_int fuel x0 x1 (fun r => match r with | r0 => k (.c (.bool r0), [])) := by
  kernel_rfl
theorem hG80 (fuel : Nat) : GOK Try.prog (G80 fuel) :=
  gok_nil
theorem B80_0_blk (fuel : Nat) : BlkOK Try.prog Try.f80.ntmps (.block 0 (.loop (bodyOf 0 Try.f80))) (B80_0 fuel) :=
  blk_of (blk_of_code tab_ok (hG80 fuel) mixed (J := J80_0 fuel) (kp := kp80) (fuel := fuel) (by kernel_rfl) (fun q hq => by
    rw [(by kernel_rfl : obl (J80_0 fuel) (.block 0 (.loop (bodyOf 0 Try.f80))) = [])] at hq
    cases hq)) (B80_0_ok fuel)
theorem fok80 (fuel : Nat) : FnOK Try.prog 80 (evalFn tab (G80 fuel) (J80 fuel) kp80 fuel Try.f80) :=
  fn_ok tab_ok (hG80 fuel) mixed Try.func80 (c := (Try.f80.body).getD .skip) rfl (fun q hq => by
    rw [(by kernel_rfl : obl (J80 fuel) ((Try.f80.body).getD .skip) = [(.block 0 (.loop (bodyOf 0 Try.f80)), B80_0 fuel)])] at hq
    simp only [List.mem_cons, List.not_mem_nil, or_false] at hq
    subst hq
    · exact B80_0_blk fuel)
def mt80 : List Ev.SV → List Ev.Ob → Bool := fun args objs => match args, objs with
  | [.c (.sl (.int .i64) _), .c (.sl (.int .i64) _)], [] => true
  | _, _ => false
def spg80 (F : YF80) : Ev.Spec := fun args objs k => match args, objs with
  | [.c (.sl (.int .i64) x0), .c (.sl (.int .i64) x1)], [] => bif true then F x0 x1 (fun r => match r with | r0 => k (.c (.bool r0), [])) else none
  | _, _ => none
def spec80 (fuel : Nat) : Ev.Spec := spg80 (F_slices_Equal_int_int fuel)
theorem ok80 (fuel : Nat) : FnOK Try.prog 80 (spec80 fuel) := by
  intro args objs kk r h
  unfold spec80 spg80 at h
  split at h
  · obtain ⟨hb, h⟩ := cond_some' h
    simp only [Bool.and_eq_true, Nat.beq_eq, decide_eq_true_eq] at hb
    clear hb
    exact fok80 fuel _ _ kk r ((F80_eq fuel _ _ kk).trans h)
  · cases h
end Go.Proofs.Ytajidgilfkineaa
