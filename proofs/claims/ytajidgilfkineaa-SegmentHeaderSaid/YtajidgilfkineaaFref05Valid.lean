/- incunable/incunableref05.Valid: its typed text, and that the machine does it. -/
import Derived.Test.YtajidgilfkineaaEvU
import Derived.Test.YtajidgilfkineaaFref05Sides
set_option linter.unusedVariables false
set_option linter.unusedSimpArgs false
set_option maxRecDepth 100000
namespace Go.Proofs.Ytajidgilfkineaa
open Go Ev
def kp28 (i : Nat) : Option (List Nat) := Ev.look i [(4, [1, 3]), (100000, []), (400000, [2])]
def Gg28 (f68 : YF68) (f : Nat) : Option Ev.Spec := Ev.look f [(68, spg68 f68)]
def G28 (fuel : Nat) : Nat → Option Ev.Spec := Gg28 (F_ref05_Sides fuel)
def S_ref05_Valid_0 (fuel : Nat) (v : Int × Int × Int × (List Int)) (c : (Int × Int × Int × (List Int)) → Option Ans) (B : (Bool → Option Ans) × (Unit → Option Ans)) : Option Ans := match v, B with
  | (x0, x1, x2, x3), (ret, b) =>
   bif Decidable.decide (x0 < (↑x3.length : Int)) then
      bif Decidable.decide ((0 : Int) ≤ x0 ∧ x0 < (↑x3.length : Int)) then
      bif Decidable.decide (x3.getD x0.toNat (0 : Int) > (1 : Int)) then
        ret Bool.false
       else
        c (Go.IntKind.i64.wrap (x0 + (1 : Int)), x1, x2, x3)
      else none
     else
      b ()
def L_ref05_Valid_0 (fuel : Nat) (v : Int × Int × Int × (List Int)) (ret : (Bool → Option Ans)) (b : (Unit → Option Ans)) : Option Ans := iter (S_ref05_Valid_0 fuel) fuel v (ret, b)
def J28_0 (fuel : Nat) (i : Nat) : Option Ev.Blk := Ev.look i []
def T28_0 (v : Int × Int × Int × (List Int)) : Ev.St := match v with | (x0, x1, x2, x3) => ⟨[(1, .c (.ptr 0 0)), (3, .c (.int .i64 x0))], [(0, .cells 45 [.int .i64 x1, .int .i64 x2, .sl (.int .u8) x3])], 1, 0⟩
def E28_0 (K : Ev.Ex → Ev.St → Option Ans) : (Bool → Option Ans) × (Unit → Option Ans) := ((fun v => match v with | x0 => K .ret ⟨[(2, .c (.bool x0))], [], 0, 0⟩), (fun v => match v with | () => K .normal ⟨[], [], 0, 0⟩))
theorem S28_0_okg (fuel : Nat) (f68 : YF68) (R : Ev.St → Option Ans) (K : Ev.Ex → Ev.St → Option Ans) (x0 : Int) (x1 : Int) (x2 : Int) (x3 : (List Int)) : evalCode tab (Gg28 f68) (J28_0 fuel) kp28 fuel (bodyOf 0 Try.f28) (T28_0 (x0, x1, x2, x3)) (lc kp28 4 0 R K) = (fun (c : (Int × Int × Int × (List Int)) → Option Ans) (B : (Bool → Option Ans) × (Unit → Option Ans)) => match B with
  | (ret, b) =>
   bif Decidable.decide (x0 < (↑x3.length : Int)) then
      bif Decidable.decide ((0 : Int) ≤ x0 ∧ x0 < (↑x3.length : Int)) then
      bif Decidable.decide (x3.getD x0.toNat (0 : Int) > (1 : Int)) then
        ret Bool.false
       else
        c (Go.IntKind.i64.wrap (x0 + (1 : Int)), x1, x2, x3)
      else none
     else
      b ()) (fun v => R (T28_0 v)) (E28_0 K) := by
  kernel_rfl
theorem S28_0_ok (fuel : Nat) (R : Ev.St → Option Ans) (K : Ev.Ex → Ev.St → Option Ans) (x0 : Int) (x1 : Int) (x2 : Int) (x3 : (List Int)) : evalCode tab (G28 fuel) (J28_0 fuel) kp28 fuel (bodyOf 0 Try.f28) (T28_0 (x0, x1, x2, x3)) (lc kp28 4 0 R K) = S_ref05_Valid_0 fuel (x0, x1, x2, x3) (fun v => R (T28_0 v)) (E28_0 K) :=
  S28_0_okg fuel (F_ref05_Sides fuel) R K x0 x1 x2 x3
def B28_0 (fuel : Nat) : Ev.Blk := fun st K => match canonO (kp28 4) st with
  | some s => (match s with
    | ⟨[(q0, .c (.ptr q1 q2)), (q3, .c (.int .i64 x0))], [(q4, .cells q5 [.int .i64 x1, .int .i64 x2, .sl (.int .u8) x3])], q6, q7⟩ => bif Nat.beq q0 1 && Nat.beq q1 0 && Nat.beq q2 0 && Nat.beq q3 3 && Nat.beq q4 0 && Nat.beq q5 45 && Nat.beq q6 1 && Nat.beq q7 0 then iter (S_ref05_Valid_0 fuel) fuel (x0, x1, x2, x3) (E28_0 K) else none
    | _ => none)
  | none => none
theorem B28_0_ok (fuel : Nat) (st : Ev.St) (K : Ev.Ex → Ev.St → Option Ans) (r : Ans) (h : B28_0 fuel st K = some r) : evalCode tab (G28 fuel) (J28_0 fuel) kp28 fuel (.block 0 (.loop (bodyOf 0 Try.f28))) st K = some r := by
  unfold B28_0 at h
  split at h
  · rename_i s hs
    split at h
    · obtain ⟨hb, h⟩ := cond_some' h
      simp only [Bool.and_eq_true, Nat.beq_eq, decide_eq_true_eq] at hb
      obtain ⟨⟨⟨⟨⟨⟨⟨rfl, rfl⟩, rfl⟩, rfl⟩, rfl⟩, rfl⟩, rfl⟩, rfl⟩ := hb
      exact blk_loop (S := T28_0) (ks := E28_0) (step := S_ref05_Valid_0 fuel) (v := (_, _, _, _)) (by kernel_rfl) (by kernel_rfl) (fun R K v => by obtain ⟨x0, x1, x2, x3⟩ := v; exact S28_0_ok fuel R K x0 x1 x2 x3) hs h
    · cases h
  · cases h
def J28 (fuel : Nat) (i : Nat) : Option Ev.Blk := Ev.look i [(100000, B28_0 fuel)]
def F_ref05_Valid (fuel : Nat) (x0 : Int) (x1 : Int) (x2 : (List Int)) (k0 : (Bool) → Option Ans) : Option Ans :=
  (F_ref05_Sides fuel (x0) (x1)
    (fun y2 =>
      bif !y2 then
       k0 Bool.false
      else
       bif (↑x2.length : Int) != Go.IntKind.i64.wrap (x0 * x1) then
        k0 Bool.false
       else
        (L_ref05_Valid_0 fuel ((0 : Int), x0, x1, x2)
          (fun ret0_0 =>
            k0 ret0_0)
          (fun () =>
            k0 Bool.true))))
abbrev YF28 : Type := (Int) → (Int) → ((List Int)) → ((Bool) → Option Ans) → Option Ans
theorem F28_eqg (fuel : Nat) (f68 : YF68) (x0 : Int) (x1 : Int) (x2 : (List Int)) (k : Ev.Cont) : evalFn tab (Gg28 f68) (J28 fuel) kp28 fuel Try.f28 [.agg [.int .i64 x0, .int .i64 x1, .sl (.int .u8) x2]] [] k = (fun  (k0 : (Bool) → Option Ans) =>
  (f68 (x0) (x1)
    (fun y2 =>
      bif !y2 then
       k0 Bool.false
      else
       bif (↑x2.length : Int) != Go.IntKind.i64.wrap (x0 * x1) then
        k0 Bool.false
       else
        (L_ref05_Valid_0 fuel ((0 : Int), x0, x1, x2)
          (fun ret0_0 =>
            k0 ret0_0)
          (fun () =>
            k0 Bool.true))))) (fun r => match r with | r0 => k (.c (.bool r0), [])) := by
  kernel_rfl
theorem F28_eq (fuel : Nat) (x0 : Int) (x1 : Int) (x2 : (List Int)) (k : Ev.Cont) : evalFn tab (G28 fuel) (J28 fuel) kp28 fuel Try.f28 [.agg [.int .i64 x0, .int .i64 x1, .sl (.int .u8) x2]] [] k = F_ref05_Valid fuel x0 x1 x2 (fun r => match r with | r0 => k (.c (.bool r0), [])) :=
  F28_eqg fuel (F_ref05_Sides fuel) x0 x1 x2 k
theorem hG28 (fuel : Nat) : GOK Try.prog (G28 fuel) :=
  gok_cons ⟨ok68 fuel, enters_of Try.func68 (by kernel_rfl) rfl⟩ <|
  gok_nil
theorem B28_0_blk (fuel : Nat) : BlkOK Try.prog Try.f28.ntmps (.block 0 (.loop (bodyOf 0 Try.f28))) (B28_0 fuel) :=
  blk_of (blk_of_code tab_ok (hG28 fuel) mixed (J := J28_0 fuel) (kp := kp28) (fuel := fuel) (by kernel_rfl) (fun q hq => by
    rw [(by kernel_rfl : obl (J28_0 fuel) (.block 0 (.loop (bodyOf 0 Try.f28))) = [])] at hq
    cases hq)) (B28_0_ok fuel)
theorem fok28 (fuel : Nat) : FnOK Try.prog 28 (evalFn tab (G28 fuel) (J28 fuel) kp28 fuel Try.f28) :=
  fn_ok tab_ok (hG28 fuel) mixed Try.func28 (c := (Try.f28.body).getD .skip) rfl (fun q hq => by
    rw [(by kernel_rfl : obl (J28 fuel) ((Try.f28.body).getD .skip) = [(.block 0 (.loop (bodyOf 0 Try.f28)), B28_0 fuel)])] at hq
    simp only [List.mem_cons, List.not_mem_nil, or_false] at hq
    subst hq
    · exact B28_0_blk fuel)
def mt28 : List Ev.SV → List Ev.Ob → Bool := fun args objs => match args, objs with
  | [.agg [.int .i64 _, .int .i64 _, .sl (.int .u8) _]], [] => true
  | _, _ => false
def spg28 (F : YF28) : Ev.Spec := fun args objs k => match args, objs with
  | [.agg [.int .i64 x0, .int .i64 x1, .sl (.int .u8) x2]], [] => bif true then F x0 x1 x2 (fun r => match r with | r0 => k (.c (.bool r0), [])) else none
  | _, _ => none
def spec28 (fuel : Nat) : Ev.Spec := spg28 (F_ref05_Valid fuel)
theorem ok28 (fuel : Nat) : FnOK Try.prog 28 (spec28 fuel) := by
  intro args objs kk r h
  unfold spec28 spg28 at h
  split at h
  · obtain ⟨hb, h⟩ := cond_some' h
    simp only [Bool.and_eq_true, Nat.beq_eq, decide_eq_true_eq] at hb
    clear hb
    exact fok28 fuel _ _ kk r ((F28_eq fuel _ _ _ kk).trans h)
  · cases h
end Go.Proofs.Ytajidgilfkineaa
