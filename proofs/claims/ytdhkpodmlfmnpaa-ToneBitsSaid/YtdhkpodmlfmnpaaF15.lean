/- incunable/incunableref03.Width: its typed text, and that the machine does it. -/
import Derived.Test.YtdhkpodmlfmnpaaEvU
set_option linter.unusedVariables false
set_option maxRecDepth 100000
namespace Go.Proofs.Ytdhkpodmlfmnpaa
open Go Ev
def kp15 (i : Nat) : Option (List Nat) := Ev.look i [(2, [0, 3]), (100000, [0, 3]), (400000, [2])]
def G15 (fuel : Nat) (f : Nat) : Option Ev.Spec := Ev.look f []
def S15_0 (fuel : Nat) (v : Int × Int) (c : (Int × Int) → Option Ans) (B : (Int × Int → Option Ans)) : Option Ans := match v, B with
  | (x0, x1), b =>
   bif Decidable.decide (x1 < (62 : Int)) then
      bif Decidable.decide (x1 < (0 : Int)) then
       none
      else
       bif Decidable.decide (Ev.ishl Go.IntKind.i64 (1 : Int) x1 < x0) then
        c (x0, Go.IntKind.i64.wrap (x1 + (1 : Int)))
       else
        b (x0, x1)
     else
      b (x0, x1)
def L15_0 (fuel : Nat) (v : Int × Int) (b : (Int × Int → Option Ans)) : Option Ans := iter (S15_0 fuel) fuel v b
def J15_0 (fuel : Nat) (i : Nat) : Option Ev.Blk := Ev.look i []
def T15_0 (v : Int × Int) : Ev.St := match v with | (x0, x1) => ⟨[(0, .c (.int .i64 x0)), (3, .c (.int .i64 x1))], [], 0, 0⟩
def E15_0 (K : Ev.Ex → Ev.St → Option Ans) : (Int × Int → Option Ans) := (fun v => match v with | (x0, x1) => K .normal ⟨[(0, .c (.int .i64 x0)), (3, .c (.int .i64 x1))], [], 0, 0⟩)
theorem S15_0_ok (fuel : Nat) (R : Ev.St → Option Ans) (K : Ev.Ex → Ev.St → Option Ans) (x0 : Int) (x1 : Int) : evalCode tab (G15 fuel) (J15_0 fuel) kp15 fuel (bodyOf 0 Try.f15) (T15_0 (x0, x1)) (lc kp15 2 0 R K) = S15_0 fuel (x0, x1) (fun v => R (T15_0 v)) (E15_0 K) := by
  kernel_rfl
def B15_0 (fuel : Nat) : Ev.Blk := fun st K => match canonO (kp15 2) st with
  | some s => (match s with
    | ⟨[(q0, .c (.int .i64 x0)), (q1, .c (.int .i64 x1))], [], q2, q3⟩ => bif Nat.beq q0 0 && Nat.beq q1 3 && Nat.beq q2 0 && Nat.beq q3 0 then iter (S15_0 fuel) fuel (x0, x1) (E15_0 K) else none
    | _ => none)
  | none => none
theorem B15_0_ok (fuel : Nat) (st : Ev.St) (K : Ev.Ex → Ev.St → Option Ans) (r : Ans) (h : B15_0 fuel st K = some r) : evalCode tab (G15 fuel) (J15_0 fuel) kp15 fuel (.block 0 (.loop (bodyOf 0 Try.f15))) st K = some r := by
  unfold B15_0 at h
  split at h
  · rename_i s hs
    split at h
    · obtain ⟨hb, h⟩ := cond_some' h
      simp only [Bool.and_eq_true, Nat.beq_eq] at hb
      obtain ⟨⟨⟨rfl, rfl⟩, rfl⟩, rfl⟩ := hb
      exact blk_loop (S := T15_0) (ks := E15_0) (step := S15_0 fuel) (v := (_, _)) (by kernel_rfl) (by kernel_rfl) (fun R K v => by obtain ⟨x0, x1⟩ := v; exact S15_0_ok fuel R K x0 x1) hs h
    · cases h
  · cases h
def J15 (fuel : Nat) (i : Nat) : Option Ev.Blk := Ev.look i [(100000, B15_0 fuel)]
def F15 (fuel : Nat) (x0 : Int) (k0 : (Int) → Option Ans) : Option Ans :=
  (L15_0 fuel (x0, (0 : Int))
    (fun (b0_0, b0_1) =>
      bif Decidable.decide (b0_1 < (0 : Int)) then
       none
      else
       bif Decidable.decide (Ev.ishl Go.IntKind.i64 (1 : Int) b0_1 < b0_0) then
        k0 (63 : Int)
       else
        k0 b0_1))
theorem F15_eq (fuel : Nat) (x0 : Int) (k : Ev.Cont) : evalFn tab (G15 fuel) (J15 fuel) kp15 fuel Try.f15 [.c (.int .i64 x0)] [] k = F15 fuel x0 (fun r => match r with | r0 => k (.c (.int .i64 r0), [])) := by
  kernel_rfl
theorem hG15 (fuel : Nat) : GOK Try.prog (G15 fuel) :=
  gok_nil
theorem B15_0_blk (fuel : Nat) : BlkOK Try.prog Try.f15.ntmps (.block 0 (.loop (bodyOf 0 Try.f15))) (B15_0 fuel) :=
  blk_of (blk_of_code tab_ok (hG15 fuel) mixed (J := J15_0 fuel) (kp := kp15) (fuel := fuel) (by kernel_rfl) (fun q hq => by
    rw [(by kernel_rfl : obl (J15_0 fuel) (.block 0 (.loop (bodyOf 0 Try.f15))) = [])] at hq
    cases hq)) (B15_0_ok fuel)
theorem fok15 (fuel : Nat) : FnOK Try.prog 15 (evalFn tab (G15 fuel) (J15 fuel) kp15 fuel Try.f15) :=
  fn_ok tab_ok (hG15 fuel) mixed Try.func15 (c := (Try.f15.body).getD .skip) rfl (fun q hq => by
    rw [(by kernel_rfl : obl (J15 fuel) ((Try.f15.body).getD .skip) = [(.block 0 (.loop (bodyOf 0 Try.f15)), B15_0 fuel)])] at hq
    simp only [List.mem_cons, List.not_mem_nil, or_false] at hq
    subst hq
    · exact B15_0_blk fuel)
def spec15 (fuel : Nat) : Ev.Spec := fun args objs k => match args, objs with
  | [.c (.int .i64 x0)], [] => bif true then F15 fuel x0 (fun r => match r with | r0 => k (.c (.int .i64 r0), [])) else none
  | _, _ => none
theorem ok15 (fuel : Nat) : FnOK Try.prog 15 (spec15 fuel) := by
  intro args objs kk r h
  unfold spec15 at h
  split at h
  · obtain ⟨hb, h⟩ := cond_some' h
    simp only [Bool.and_eq_true, Nat.beq_eq] at hb
    clear hb
    exact fok15 fuel _ _ kk r ((F15_eq fuel _ kk).trans h)
  · cases h
end Go.Proofs.Ytdhkpodmlfmnpaa
