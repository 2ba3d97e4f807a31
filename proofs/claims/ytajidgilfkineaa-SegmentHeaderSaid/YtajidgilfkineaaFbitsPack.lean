/- incunable/bits.Pack: its typed text, and that the machine does it. -/
import Derived.Test.YtajidgilfkineaaEvU
set_option linter.unusedVariables false
set_option linter.unusedSimpArgs false
set_option maxRecDepth 100000
namespace Go.Proofs.Ytajidgilfkineaa
open Go Ev
def kp78 (i : Nat) : Option (List Nat) := Ev.look i [(3, [4, 12, 13, 14]), (100000, [4]), (400000, [2, 3])]
def Gg78 (f : Nat) : Option Ev.Spec := Ev.look f []
def G78 (fuel : Nat) : Nat → Option Ev.Spec := Gg78
def S_bits_Pack_0 (fuel : Nat) (v : (List Int) × Int × Int × (List Int)) (c : ((List Int) × Int × Int × (List Int)) → Option Ans) (B : (Int × (List Int) → Option Ans) × ((List Int) → Option Ans)) : Option Ans := match v, B with
  | (x0, x1, x2, x3), (ret, b) =>
   bif Decidable.decide (x2 < x1) then
      bif Decidable.decide ((0 : Int) ≤ x2 ∧ x2 < (↑x0.length : Int)) then
      bif Decidable.decide (x0.getD x2.toNat (0 : Int) > (1 : Int)) then
        ret ((2 : Int), [])
       else
        bif Decidable.decide ((0 : Int) ≤ Go.IntKind.i64.wrap (x2.tdiv (8 : Int)) ∧ Go.IntKind.i64.wrap (x2.tdiv (8 : Int)) < (↑x3.length : Int)) then
        bif Decidable.decide (Go.IntKind.i64.wrap ((7 : Int) - x2.tmod (8 : Int)) < (0 : Int)) then
          none
         else
          bif Decidable.decide ((0 : Int) ≤ Go.IntKind.i64.wrap (x2.tdiv (8 : Int)) ∧ Go.IntKind.i64.wrap (x2.tdiv (8 : Int)) < (↑x3.length : Int)) then
          c (x0, x1, Go.IntKind.i64.wrap (x2 + (1 : Int)), x3.set (Go.IntKind.i64.wrap (x2.tdiv (8 : Int))).toNat (Ev.ior Go.IntKind.u8 (x3.getD (Go.IntKind.i64.wrap (x2.tdiv (8 : Int))).toNat (0 : Int)) (Ev.ishl Go.IntKind.u8 (x0.getD x2.toNat (0 : Int)) (Go.IntKind.i64.wrap ((7 : Int) - x2.tmod (8 : Int))))))
          else none
        else none
      else none
     else
      b x3
def L_bits_Pack_0 (fuel : Nat) (v : (List Int) × Int × Int × (List Int)) (ret : (Int × (List Int) → Option Ans)) (b : ((List Int) → Option Ans)) : Option Ans := iter (S_bits_Pack_0 fuel) fuel v (ret, b)
def J78_0 (fuel : Nat) (i : Nat) : Option Ev.Blk := Ev.look i []
def T78_0 (v : (List Int) × Int × Int × (List Int)) : Ev.St := match v with | (x0, x1, x2, x3) => ⟨[(4, .c (.own 0)), (12, .c (.sl (.int .u8) x0)), (13, .c (.int .i64 x1)), (14, .c (.int .i64 x2))], [(0, .vec 5 (.int .u8) x3 true)], 1, 0⟩
def E78_0 (K : Ev.Ex → Ev.St → Option Ans) : (Int × (List Int) → Option Ans) × ((List Int) → Option Ans) := ((fun v => match v with | (x0, x1) => K .ret ⟨[(2, .c (.own 0)), (3, .c (.int .i64 x0))], [(0, .vec 5 (.int .u8) x1 true)], 1, 0⟩), (fun v => match v with | x0 => K .normal ⟨[(4, .c (.own 0))], [(0, .vec 5 (.int .u8) x0 true)], 1, 0⟩))
theorem S78_0_ok (fuel : Nat) (R : Ev.St → Option Ans) (K : Ev.Ex → Ev.St → Option Ans) (x0 : (List Int)) (x1 : Int) (x2 : Int) (x3 : (List Int)) : evalCode tab (G78 fuel) (J78_0 fuel) kp78 fuel (bodyOf 0 Try.f78) (T78_0 (x0, x1, x2, x3)) (lc kp78 3 0 R K) = S_bits_Pack_0 fuel (x0, x1, x2, x3) (fun v => R (T78_0 v)) (E78_0 K) := by
  kernel_rfl
def B78_0 (fuel : Nat) : Ev.Blk := fun st K => match canonO (kp78 3) st with
  | some s => (match s with
    | ⟨[(q0, .c (.own q1)), (q2, .c (.sl (.int .u8) x0)), (q3, .c (.int .i64 x1)), (q4, .c (.int .i64 x2))], [(q5, .vec q6 (.int .u8) x3 true)], q7, q8⟩ => bif Nat.beq q0 4 && Nat.beq q1 0 && Nat.beq q2 12 && Nat.beq q3 13 && Nat.beq q4 14 && Nat.beq q5 0 && Nat.beq q6 5 && Nat.beq q7 1 && Nat.beq q8 0 then iter (S_bits_Pack_0 fuel) fuel (x0, x1, x2, x3) (E78_0 K) else none
    | _ => none)
  | none => none
theorem B78_0_ok (fuel : Nat) (st : Ev.St) (K : Ev.Ex → Ev.St → Option Ans) (r : Ans) (h : B78_0 fuel st K = some r) : evalCode tab (G78 fuel) (J78_0 fuel) kp78 fuel (.block 0 (.loop (bodyOf 0 Try.f78))) st K = some r := by
  unfold B78_0 at h
  split at h
  · rename_i s hs
    split at h
    · obtain ⟨hb, h⟩ := cond_some' h
      simp only [Bool.and_eq_true, Nat.beq_eq, decide_eq_true_eq] at hb
      obtain ⟨⟨⟨⟨⟨⟨⟨⟨rfl, rfl⟩, rfl⟩, rfl⟩, rfl⟩, rfl⟩, rfl⟩, rfl⟩, rfl⟩ := hb
      exact blk_loop (S := T78_0) (ks := E78_0) (step := S_bits_Pack_0 fuel) (v := (_, _, _, _)) (by kernel_rfl) (by kernel_rfl) (fun R K v => by obtain ⟨x0, x1, x2, x3⟩ := v; exact S78_0_ok fuel R K x0 x1 x2 x3) hs h
    · cases h
  · cases h
def J78 (fuel : Nat) (i : Nat) : Option Ev.Blk := Ev.look i [(100000, B78_0 fuel)]
def F_bits_Pack (fuel : Nat) (x0 : (List Int)) (k0 : (Int × (List Int)) → Option Ans) : Option Ans :=
  bif Decidable.decide ((0 : Int) ≤ Go.IntKind.i64.wrap ((Go.IntKind.i64.wrap ((↑x0.length : Int) + (7 : Int))).tdiv (8 : Int)) ∧ Go.IntKind.i64.wrap ((Go.IntKind.i64.wrap ((↑x0.length : Int) + (7 : Int))).tdiv (8 : Int)) = Go.IntKind.i64.wrap ((Go.IntKind.i64.wrap ((↑x0.length : Int) + (7 : Int))).tdiv (8 : Int)) ∧ (↑(1 : Nat) : Int) * Go.IntKind.i64.wrap ((Go.IntKind.i64.wrap ((↑x0.length : Int) + (7 : Int))).tdiv (8 : Int)) ≤ (281474976710656 : Int) ∧ Go.IntKind.i64.wrap ((Go.IntKind.i64.wrap ((↑x0.length : Int) + (7 : Int))).tdiv (8 : Int)) ≤ (281474976710656 : Int)) then
  (L_bits_Pack_0 fuel (x0, (↑x0.length : Int), (0 : Int), List.replicate (Go.IntKind.i64.wrap ((Go.IntKind.i64.wrap ((↑x0.length : Int) + (7 : Int))).tdiv (8 : Int))).toNat (0 : Int))
     (fun (ret0_0, ret0_1) =>
       k0 (ret0_0, ret0_1))
     (fun b0_0 =>
       k0 ((0 : Int), b0_0)))
  else none
abbrev YF78 : Type := ((List Int)) → ((Int × (List Int)) → Option Ans) → Option Ans
theorem F78_eq (fuel : Nat) (x0 : (List Int)) (k : Ev.Cont) : evalFn tab (G78 fuel) (J78 fuel) kp78 fuel Try.f78 [.c (.sl (.int .u8) x0)] [] k = F_bits_Pack fuel x0 (fun r => match r with | (r0, r1) => k (.tup [(false, [.own 0]), (false, [.int .i64 r0])], [.vec 5 (.int .u8) r1 true])) := by
  kernel_rfl
theorem hG78 (fuel : Nat) : GOK Try.prog (G78 fuel) :=
  gok_nil
theorem B78_0_blk (fuel : Nat) : BlkOK Try.prog Try.f78.ntmps (.block 0 (.loop (bodyOf 0 Try.f78))) (B78_0 fuel) :=
  blk_of (blk_of_code tab_ok (hG78 fuel) mixed (J := J78_0 fuel) (kp := kp78) (fuel := fuel) (by kernel_rfl) (fun q hq => by
    rw [(by kernel_rfl : obl (J78_0 fuel) (.block 0 (.loop (bodyOf 0 Try.f78))) = [])] at hq
    cases hq)) (B78_0_ok fuel)
theorem fok78 (fuel : Nat) : FnOK Try.prog 78 (evalFn tab (G78 fuel) (J78 fuel) kp78 fuel Try.f78) :=
  fn_ok tab_ok (hG78 fuel) mixed Try.func78 (c := (Try.f78.body).getD .skip) rfl (fun q hq => by
    rw [(by kernel_rfl : obl (J78 fuel) ((Try.f78.body).getD .skip) = [(.block 0 (.loop (bodyOf 0 Try.f78)), B78_0 fuel)])] at hq
    simp only [List.mem_cons, List.not_mem_nil, or_false] at hq
    subst hq
    · exact B78_0_blk fuel)
def mt78 : List Ev.SV → List Ev.Ob → Bool := fun args objs => match args, objs with
  | [.c (.sl (.int .u8) _)], [] => true
  | _, _ => false
def spg78 (F : YF78) : Ev.Spec := fun args objs k => match args, objs with
  | [.c (.sl (.int .u8) x0)], [] => bif true then F x0 (fun r => match r with | (r0, r1) => k (.tup [(false, [.own 0]), (false, [.int .i64 r0])], [.vec 5 (.int .u8) r1 true])) else none
  | _, _ => none
def spec78 (fuel : Nat) : Ev.Spec := spg78 (F_bits_Pack fuel)
theorem ok78 (fuel : Nat) : FnOK Try.prog 78 (spec78 fuel) := by
  intro args objs kk r h
  unfold spec78 spg78 at h
  split at h
  · obtain ⟨hb, h⟩ := cond_some' h
    simp only [Bool.and_eq_true, Nat.beq_eq, decide_eq_true_eq] at hb
    clear hb
    exact fok78 fuel _ _ kk r ((F78_eq fuel _ kk).trans h)
  · cases h
end Go.Proofs.Ytajidgilfkineaa
