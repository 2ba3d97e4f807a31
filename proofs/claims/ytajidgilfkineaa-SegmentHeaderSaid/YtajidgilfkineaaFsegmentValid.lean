/- incunable/segment.Valid: its typed text, and that the machine does it. -/
import Derived.Test.YtajidgilfkineaaEvU
set_option linter.unusedVariables false
set_option linter.unusedSimpArgs false
set_option maxRecDepth 100000
namespace Go.Proofs.Ytajidgilfkineaa
open Go Ev
def kp43 (i : Nat) : Option (List Nat) := Ev.look i [(5, [1, 3, 57, 58, 59]), (100000, []), (400000, [2])]
def Gg43 (f : Nat) : Option Ev.Spec := Ev.look f []
def G43 (fuel : Nat) : Nat → Option Ev.Spec := Gg43
def S_segment_Valid_0 (fuel : Nat) (v : Int × (List Int) × Int × Int × Int × Int × Int × (List Int) × (List Bool) × (List Int)) (c : (Int × (List Int) × Int × Int × Int × Int × Int × (List Int) × (List Bool) × (List Int)) → Option Ans) (B : (Bool → Option Ans) × (Unit → Option Ans)) : Option Ans := match v, B with
  | (x0, x1, x2, x3, x4, x5, x6, x7, x8, x9), (ret, b) =>
   bif Decidable.decide (x3 < x2) then
      bif Decidable.decide ((0 : Int) ≤ x3 ∧ x3 < (↑x1.length : Int)) then
      bif Decidable.decide (x1.getD x3.toNat (0 : Int) ≤ x0) then
        ret Bool.false
       else
        bif Decidable.decide (x1.getD x3.toNat (0 : Int) ≥ x4) then
         ret Bool.false
        else
         c (x1.getD x3.toNat (0 : Int), x1, x2, Go.IntKind.i64.wrap (x3 + (1 : Int)), x4, x5, x6, x7, x8, x9)
      else none
     else
      b ()
def L_segment_Valid_0 (fuel : Nat) (v : Int × (List Int) × Int × Int × Int × Int × Int × (List Int) × (List Bool) × (List Int)) (ret : (Bool → Option Ans)) (b : (Unit → Option Ans)) : Option Ans := iter (S_segment_Valid_0 fuel) fuel v (ret, b)
def J43_0 (fuel : Nat) (i : Nat) : Option Ev.Blk := Ev.look i []
def T43_0 (v : Int × (List Int) × Int × Int × Int × Int × Int × (List Int) × (List Bool) × (List Int)) : Ev.St := match v with | (x0, x1, x2, x3, x4, x5, x6, x7, x8, x9) => ⟨[(1, .c (.ptr 0 0)), (3, .c (.int .i64 x0)), (57, .c (.sl (.int .i64) x1)), (58, .c (.int .i64 x2)), (59, .c (.int .i64 x3))], [(0, .cells 63 [.int .i64 x4, .int .i64 x5, .int .i64 x6, .sl (.int .i64) x7, .sl .bool x8, .sl (.int .u8) x9])], 1, 0⟩
def E43_0 (K : Ev.Ex → Ev.St → Option Ans) : (Bool → Option Ans) × (Unit → Option Ans) := ((fun v => match v with | x0 => K .ret ⟨[(2, .c (.bool x0))], [], 0, 0⟩), (fun v => match v with | () => K .normal ⟨[], [], 0, 0⟩))
theorem S43_0_ok (fuel : Nat) (R : Ev.St → Option Ans) (K : Ev.Ex → Ev.St → Option Ans) (x0 : Int) (x1 : (List Int)) (x2 : Int) (x3 : Int) (x4 : Int) (x5 : Int) (x6 : Int) (x7 : (List Int)) (x8 : (List Bool)) (x9 : (List Int)) : evalCode tab (G43 fuel) (J43_0 fuel) kp43 fuel (bodyOf 0 Try.f43) (T43_0 (x0, x1, x2, x3, x4, x5, x6, x7, x8, x9)) (lc kp43 5 0 R K) = S_segment_Valid_0 fuel (x0, x1, x2, x3, x4, x5, x6, x7, x8, x9) (fun v => R (T43_0 v)) (E43_0 K) := by
  kernel_rfl
def B43_0 (fuel : Nat) : Ev.Blk := fun st K => match canonO (kp43 5) st with
  | some s => (match s with
    | ⟨[(q0, .c (.ptr q1 q2)), (q3, .c (.int .i64 x0)), (q4, .c (.sl (.int .i64) x1)), (q5, .c (.int .i64 x2)), (q6, .c (.int .i64 x3))], [(q7, .cells q8 [.int .i64 x4, .int .i64 x5, .int .i64 x6, .sl (.int .i64) x7, .sl .bool x8, .sl (.int .u8) x9])], q9, q10⟩ => bif Nat.beq q0 1 && Nat.beq q1 0 && Nat.beq q2 0 && Nat.beq q3 3 && Nat.beq q4 57 && Nat.beq q5 58 && Nat.beq q6 59 && Nat.beq q7 0 && Nat.beq q8 63 && Nat.beq q9 1 && Nat.beq q10 0 then iter (S_segment_Valid_0 fuel) fuel (x0, x1, x2, x3, x4, x5, x6, x7, x8, x9) (E43_0 K) else none
    | _ => none)
  | none => none
theorem B43_0_ok (fuel : Nat) (st : Ev.St) (K : Ev.Ex → Ev.St → Option Ans) (r : Ans) (h : B43_0 fuel st K = some r) : evalCode tab (G43 fuel) (J43_0 fuel) kp43 fuel (.block 0 (.loop (bodyOf 0 Try.f43))) st K = some r := by
  unfold B43_0 at h
  split at h
  · rename_i s hs
    split at h
    · obtain ⟨hb, h⟩ := cond_some' h
      simp only [Bool.and_eq_true, Nat.beq_eq, decide_eq_true_eq] at hb
      obtain ⟨⟨⟨⟨⟨⟨⟨⟨⟨⟨rfl, rfl⟩, rfl⟩, rfl⟩, rfl⟩, rfl⟩, rfl⟩, rfl⟩, rfl⟩, rfl⟩, rfl⟩ := hb
      exact blk_loop (S := T43_0) (ks := E43_0) (step := S_segment_Valid_0 fuel) (v := (_, _, _, _, _, _, _, _, _, _)) (by kernel_rfl) (by kernel_rfl) (fun R K v => by obtain ⟨x0, x1, x2, x3, x4, x5, x6, x7, x8, x9⟩ := v; exact S43_0_ok fuel R K x0 x1 x2 x3 x4 x5 x6 x7 x8 x9) hs h
    · cases h
  · cases h
def J43 (fuel : Nat) (i : Nat) : Option Ev.Blk := Ev.look i [(100000, B43_0 fuel)]
def F_segment_Valid (fuel : Nat) (x0 : Int) (x1 : Int) (x2 : Int) (x3 : (List Int)) (x4 : (List Bool)) (x5 : (List Int)) (k0 : (Bool) → Option Ans) : Option Ans :=
  bif Decidable.decide (x0 < (0 : Int)) then
   k0 Bool.false
  else
   bif Decidable.decide (x0 > (10000 : Int)) then
    k0 Bool.false
   else
    bif Decidable.decide (x1 < (0 : Int)) then
     k0 Bool.false
    else
     bif Decidable.decide (x1 > (15 : Int)) then
      k0 Bool.false
     else
      bif Decidable.decide (x2 < (0 : Int)) then
       k0 Bool.false
      else
       bif Decidable.decide (x2 > (1000 : Int)) then
        k0 Bool.false
       else
        bif Decidable.decide ((↑x3.length : Int) > (20 : Int)) then
         k0 Bool.false
        else
         bif (↑x4.length : Int) != Go.IntKind.i64.wrap ((↑x3.length : Int) + (1 : Int)) then
          k0 Bool.false
         else
          bif Decidable.decide ((↑x5.length : Int) > (20000 : Int)) then
           k0 Bool.false
          else
           (L_segment_Valid_0 fuel ((-1 : Int), x3, (↑x3.length : Int), (0 : Int), x0, x1, x2, x3, x4, x5)
             (fun ret0_0 =>
               k0 ret0_0)
             (fun () =>
               k0 Bool.true))
abbrev YF43 : Type := (Int) → (Int) → (Int) → ((List Int)) → ((List Bool)) → ((List Int)) → ((Bool) → Option Ans) → Option Ans
theorem F43_eq (fuel : Nat) (x0 : Int) (x1 : Int) (x2 : Int) (x3 : (List Int)) (x4 : (List Bool)) (x5 : (List Int)) (k : Ev.Cont) : evalFn tab (G43 fuel) (J43 fuel) kp43 fuel Try.f43 [.agg [.int .i64 x0, .int .i64 x1, .int .i64 x2, .sl (.int .i64) x3, .sl .bool x4, .sl (.int .u8) x5]] [] k = F_segment_Valid fuel x0 x1 x2 x3 x4 x5 (fun r => match r with | r0 => k (.c (.bool r0), [])) := by
  kernel_rfl
theorem hG43 (fuel : Nat) : GOK Try.prog (G43 fuel) :=
  gok_nil
theorem B43_0_blk (fuel : Nat) : BlkOK Try.prog Try.f43.ntmps (.block 0 (.loop (bodyOf 0 Try.f43))) (B43_0 fuel) :=
  blk_of (blk_of_code tab_ok (hG43 fuel) mixed (J := J43_0 fuel) (kp := kp43) (fuel := fuel) (by kernel_rfl) (fun q hq => by
    rw [(by kernel_rfl : obl (J43_0 fuel) (.block 0 (.loop (bodyOf 0 Try.f43))) = [])] at hq
    cases hq)) (B43_0_ok fuel)
theorem fok43 (fuel : Nat) : FnOK Try.prog 43 (evalFn tab (G43 fuel) (J43 fuel) kp43 fuel Try.f43) :=
  fn_ok tab_ok (hG43 fuel) mixed Try.func43 (c := (Try.f43.body).getD .skip) rfl (fun q hq => by
    rw [(by kernel_rfl : obl (J43 fuel) ((Try.f43.body).getD .skip) = [(.block 0 (.loop (bodyOf 0 Try.f43)), B43_0 fuel)])] at hq
    simp only [List.mem_cons, List.not_mem_nil, or_false] at hq
    subst hq
    · exact B43_0_blk fuel)
def mt43 : List Ev.SV → List Ev.Ob → Bool := fun args objs => match args, objs with
  | [.agg [.int .i64 _, .int .i64 _, .int .i64 _, .sl (.int .i64) _, .sl .bool _, .sl (.int .u8) _]], [] => true
  | _, _ => false
def spg43 (F : YF43) : Ev.Spec := fun args objs k => match args, objs with
  | [.agg [.int .i64 x0, .int .i64 x1, .int .i64 x2, .sl (.int .i64) x3, .sl .bool x4, .sl (.int .u8) x5]], [] => bif true then F x0 x1 x2 x3 x4 x5 (fun r => match r with | r0 => k (.c (.bool r0), [])) else none
  | _, _ => none
def spec43 (fuel : Nat) : Ev.Spec := spg43 (F_segment_Valid fuel)
theorem ok43 (fuel : Nat) : FnOK Try.prog 43 (spec43 fuel) := by
  intro args objs kk r h
  unfold spec43 spg43 at h
  split at h
  · obtain ⟨hb, h⟩ := cond_some' h
    simp only [Bool.and_eq_true, Nat.beq_eq, decide_eq_true_eq] at hb
    clear hb
    exact fok43 fuel _ _ kk r ((F43_eq fuel _ _ _ _ _ _ kk).trans h)
  · cases h
end Go.Proofs.Ytajidgilfkineaa
