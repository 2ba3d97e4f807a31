/- incunable/incunableref12.Same: its typed text, and that the machine does it. -/
import Derived.Test.YtajidgilfkineaaEvU
set_option linter.unusedVariables false
set_option linter.unusedSimpArgs false
set_option maxRecDepth 100000
namespace Go.Proofs.Ytajidgilfkineaa
open Go Ev
def kp47 (i : Nat) : Option (List Nat) := Ev.look i [(4, [2, 3, 55, 56]), (10, [2, 3, 73, 74]), (100000, [2, 3]), (100002, []), (200006, [2, 3]), (200012, [2, 3]), (400000, [4]), (400002, [4])]
def Gg47 (f : Nat) : Option Ev.Spec := Ev.look f []
def G47 (fuel : Nat) : Nat → Option Ev.Spec := Gg47
def S_ref12_Same_0 (fuel : Nat) (v : Int × Int × Int × Int × Int × (List Int) × (List Bool) × (List Int) × Int × Int × Int × (List Int) × (List Bool) × (List Int)) (c : (Int × Int × Int × Int × Int × (List Int) × (List Bool) × (List Int) × Int × Int × Int × (List Int) × (List Bool) × (List Int)) → Option Ans) (B : (Bool → Option Ans) × (Int × Int × Int × (List Int) × (List Bool) × (List Int) × Int × Int × Int × (List Int) × (List Bool) × (List Int) → Option Ans)) : Option Ans := match v, B with
  | (x0, x1, x2, x3, x4, x5, x6, x7, x8, x9, x10, x11, x12, x13), (ret, b) =>
   bif Decidable.decide (x1 < x0) then
      bif Decidable.decide ((0 : Int) ≤ x1 ∧ x1 < (↑x5.length : Int)) then
      bif Decidable.decide ((0 : Int) ≤ x1 ∧ x1 < (↑x11.length : Int)) then
       bif x5.getD x1.toNat (0 : Int) != x11.getD x1.toNat (0 : Int) then
         ret Bool.false
        else
         c (x0, Go.IntKind.i64.wrap (x1 + (1 : Int)), x2, x3, x4, x5, x6, x7, x8, x9, x10, x11, x12, x13)
       else none
      else none
     else
      b (x2, x3, x4, x5, x6, x7, x8, x9, x10, x11, x12, x13)
def L_ref12_Same_0 (fuel : Nat) (v : Int × Int × Int × Int × Int × (List Int) × (List Bool) × (List Int) × Int × Int × Int × (List Int) × (List Bool) × (List Int)) (ret : (Bool → Option Ans)) (b : (Int × Int × Int × (List Int) × (List Bool) × (List Int) × Int × Int × Int × (List Int) × (List Bool) × (List Int) → Option Ans)) : Option Ans := iter (S_ref12_Same_0 fuel) fuel v (ret, b)
def J47_0 (fuel : Nat) (i : Nat) : Option Ev.Blk := Ev.look i []
def T47_0 (v : Int × Int × Int × Int × Int × (List Int) × (List Bool) × (List Int) × Int × Int × Int × (List Int) × (List Bool) × (List Int)) : Ev.St := match v with | (x0, x1, x2, x3, x4, x5, x6, x7, x8, x9, x10, x11, x12, x13) => ⟨[(2, .c (.ptr 0 0)), (3, .c (.ptr 1 0)), (55, .c (.int .i64 x0)), (56, .c (.int .i64 x1))], [(0, .cells 63 [.int .i64 x2, .int .i64 x3, .int .i64 x4, .sl (.int .i64) x5, .sl .bool x6, .sl (.int .u8) x7]), (1, .cells 63 [.int .i64 x8, .int .i64 x9, .int .i64 x10, .sl (.int .i64) x11, .sl .bool x12, .sl (.int .u8) x13])], 2, 0⟩
def E47_0 (K : Ev.Ex → Ev.St → Option Ans) : (Bool → Option Ans) × (Int × Int × Int × (List Int) × (List Bool) × (List Int) × Int × Int × Int × (List Int) × (List Bool) × (List Int) → Option Ans) := ((fun v => match v with | x0 => K .ret ⟨[(4, .c (.bool x0))], [], 0, 0⟩), (fun v => match v with | (x0, x1, x2, x3, x4, x5, x6, x7, x8, x9, x10, x11) => K .normal ⟨[(2, .c (.ptr 0 0)), (3, .c (.ptr 1 0))], [(0, .cells 63 [.int .i64 x0, .int .i64 x1, .int .i64 x2, .sl (.int .i64) x3, .sl .bool x4, .sl (.int .u8) x5]), (1, .cells 63 [.int .i64 x6, .int .i64 x7, .int .i64 x8, .sl (.int .i64) x9, .sl .bool x10, .sl (.int .u8) x11])], 2, 0⟩))
theorem S47_0_ok (fuel : Nat) (R : Ev.St → Option Ans) (K : Ev.Ex → Ev.St → Option Ans) (x0 : Int) (x1 : Int) (x2 : Int) (x3 : Int) (x4 : Int) (x5 : (List Int)) (x6 : (List Bool)) (x7 : (List Int)) (x8 : Int) (x9 : Int) (x10 : Int) (x11 : (List Int)) (x12 : (List Bool)) (x13 : (List Int)) : evalCode tab (G47 fuel) (J47_0 fuel) kp47 fuel (bodyOf 0 Try.f47) (T47_0 (x0, x1, x2, x3, x4, x5, x6, x7, x8, x9, x10, x11, x12, x13)) (lc kp47 4 0 R K) = S_ref12_Same_0 fuel (x0, x1, x2, x3, x4, x5, x6, x7, x8, x9, x10, x11, x12, x13) (fun v => R (T47_0 v)) (E47_0 K) := by
  kernel_rfl
def B47_0 (fuel : Nat) : Ev.Blk := fun st K => match canonO (kp47 4) st with
  | some s => (match s with
    | ⟨[(q0, .c (.ptr q1 q2)), (q3, .c (.ptr q4 q5)), (q6, .c (.int .i64 x0)), (q7, .c (.int .i64 x1))], [(q8, .cells q9 [.int .i64 x2, .int .i64 x3, .int .i64 x4, .sl (.int .i64) x5, .sl .bool x6, .sl (.int .u8) x7]), (q10, .cells q11 [.int .i64 x8, .int .i64 x9, .int .i64 x10, .sl (.int .i64) x11, .sl .bool x12, .sl (.int .u8) x13])], q12, q13⟩ => bif Nat.beq q0 2 && Nat.beq q1 0 && Nat.beq q2 0 && Nat.beq q3 3 && Nat.beq q4 1 && Nat.beq q5 0 && Nat.beq q6 55 && Nat.beq q7 56 && Nat.beq q8 0 && Nat.beq q9 63 && Nat.beq q10 1 && Nat.beq q11 63 && Nat.beq q12 2 && Nat.beq q13 0 then iter (S_ref12_Same_0 fuel) fuel (x0, x1, x2, x3, x4, x5, x6, x7, x8, x9, x10, x11, x12, x13) (E47_0 K) else none
    | _ => none)
  | none => none
theorem B47_0_ok (fuel : Nat) (st : Ev.St) (K : Ev.Ex → Ev.St → Option Ans) (r : Ans) (h : B47_0 fuel st K = some r) : evalCode tab (G47 fuel) (J47_0 fuel) kp47 fuel (.block 0 (.loop (bodyOf 0 Try.f47))) st K = some r := by
  unfold B47_0 at h
  split at h
  · rename_i s hs
    split at h
    · obtain ⟨hb, h⟩ := cond_some' h
      simp only [Bool.and_eq_true, Nat.beq_eq, decide_eq_true_eq] at hb
      obtain ⟨⟨⟨⟨⟨⟨⟨⟨⟨⟨⟨⟨⟨rfl, rfl⟩, rfl⟩, rfl⟩, rfl⟩, rfl⟩, rfl⟩, rfl⟩, rfl⟩, rfl⟩, rfl⟩, rfl⟩, rfl⟩, rfl⟩ := hb
      exact blk_loop (S := T47_0) (ks := E47_0) (step := S_ref12_Same_0 fuel) (v := (_, _, _, _, _, _, _, _, _, _, _, _, _, _)) (by kernel_rfl) (by kernel_rfl) (fun R K v => by obtain ⟨x0, x1, x2, x3, x4, x5, x6, x7, x8, x9, x10, x11, x12, x13⟩ := v; exact S47_0_ok fuel R K x0 x1 x2 x3 x4 x5 x6 x7 x8 x9 x10 x11 x12 x13) hs h
    · cases h
  · cases h
def S_ref12_Same_2 (fuel : Nat) (v : Int × Int × Int × Int × Int × (List Int) × (List Bool) × (List Int) × Int × Int × Int × (List Int) × (List Bool) × (List Int)) (c : (Int × Int × Int × Int × Int × (List Int) × (List Bool) × (List Int) × Int × Int × Int × (List Int) × (List Bool) × (List Int)) → Option Ans) (B : (Bool → Option Ans) × (Unit → Option Ans)) : Option Ans := match v, B with
  | (x0, x1, x2, x3, x4, x5, x6, x7, x8, x9, x10, x11, x12, x13), (ret, b) =>
   bif Decidable.decide (x1 < x0) then
      bif Decidable.decide ((0 : Int) ≤ x1 ∧ x1 < (↑x6.length : Int)) then
      bif Decidable.decide ((0 : Int) ≤ x1 ∧ x1 < (↑x12.length : Int)) then
       bif !x6.getD x1.toNat Bool.false == x12.getD x1.toNat Bool.false then
         ret Bool.false
        else
         c (x0, Go.IntKind.i64.wrap (x1 + (1 : Int)), x2, x3, x4, x5, x6, x7, x8, x9, x10, x11, x12, x13)
       else none
      else none
     else
      b ()
def L_ref12_Same_2 (fuel : Nat) (v : Int × Int × Int × Int × Int × (List Int) × (List Bool) × (List Int) × Int × Int × Int × (List Int) × (List Bool) × (List Int)) (ret : (Bool → Option Ans)) (b : (Unit → Option Ans)) : Option Ans := iter (S_ref12_Same_2 fuel) fuel v (ret, b)
def J47_2 (fuel : Nat) (i : Nat) : Option Ev.Blk := Ev.look i [(100000, B47_0 fuel)]
def T47_2 (v : Int × Int × Int × Int × Int × (List Int) × (List Bool) × (List Int) × Int × Int × Int × (List Int) × (List Bool) × (List Int)) : Ev.St := match v with | (x0, x1, x2, x3, x4, x5, x6, x7, x8, x9, x10, x11, x12, x13) => ⟨[(2, .c (.ptr 0 0)), (3, .c (.ptr 1 0)), (73, .c (.int .i64 x0)), (74, .c (.int .i64 x1))], [(0, .cells 63 [.int .i64 x2, .int .i64 x3, .int .i64 x4, .sl (.int .i64) x5, .sl .bool x6, .sl (.int .u8) x7]), (1, .cells 63 [.int .i64 x8, .int .i64 x9, .int .i64 x10, .sl (.int .i64) x11, .sl .bool x12, .sl (.int .u8) x13])], 2, 0⟩
def E47_2 (K : Ev.Ex → Ev.St → Option Ans) : (Bool → Option Ans) × (Unit → Option Ans) := ((fun v => match v with | x0 => K .ret ⟨[(4, .c (.bool x0))], [], 0, 0⟩), (fun v => match v with | () => K .normal ⟨[], [], 0, 0⟩))
theorem S47_2_ok (fuel : Nat) (R : Ev.St → Option Ans) (K : Ev.Ex → Ev.St → Option Ans) (x0 : Int) (x1 : Int) (x2 : Int) (x3 : Int) (x4 : Int) (x5 : (List Int)) (x6 : (List Bool)) (x7 : (List Int)) (x8 : Int) (x9 : Int) (x10 : Int) (x11 : (List Int)) (x12 : (List Bool)) (x13 : (List Int)) : evalCode tab (G47 fuel) (J47_2 fuel) kp47 fuel (bodyOf 2 Try.f47) (T47_2 (x0, x1, x2, x3, x4, x5, x6, x7, x8, x9, x10, x11, x12, x13)) (lc kp47 10 2 R K) = S_ref12_Same_2 fuel (x0, x1, x2, x3, x4, x5, x6, x7, x8, x9, x10, x11, x12, x13) (fun v => R (T47_2 v)) (E47_2 K) := by
  kernel_rfl
def B47_2 (fuel : Nat) : Ev.Blk := fun st K => match canonO (kp47 10) st with
  | some s => (match s with
    | ⟨[(q0, .c (.ptr q1 q2)), (q3, .c (.ptr q4 q5)), (q6, .c (.int .i64 x0)), (q7, .c (.int .i64 x1))], [(q8, .cells q9 [.int .i64 x2, .int .i64 x3, .int .i64 x4, .sl (.int .i64) x5, .sl .bool x6, .sl (.int .u8) x7]), (q10, .cells q11 [.int .i64 x8, .int .i64 x9, .int .i64 x10, .sl (.int .i64) x11, .sl .bool x12, .sl (.int .u8) x13])], q12, q13⟩ => bif Nat.beq q0 2 && Nat.beq q1 0 && Nat.beq q2 0 && Nat.beq q3 3 && Nat.beq q4 1 && Nat.beq q5 0 && Nat.beq q6 73 && Nat.beq q7 74 && Nat.beq q8 0 && Nat.beq q9 63 && Nat.beq q10 1 && Nat.beq q11 63 && Nat.beq q12 2 && Nat.beq q13 0 then iter (S_ref12_Same_2 fuel) fuel (x0, x1, x2, x3, x4, x5, x6, x7, x8, x9, x10, x11, x12, x13) (E47_2 K) else none
    | _ => none)
  | none => none
theorem B47_2_ok (fuel : Nat) (st : Ev.St) (K : Ev.Ex → Ev.St → Option Ans) (r : Ans) (h : B47_2 fuel st K = some r) : evalCode tab (G47 fuel) (J47_2 fuel) kp47 fuel (.block 2 (.loop (bodyOf 2 Try.f47))) st K = some r := by
  unfold B47_2 at h
  split at h
  · rename_i s hs
    split at h
    · obtain ⟨hb, h⟩ := cond_some' h
      simp only [Bool.and_eq_true, Nat.beq_eq, decide_eq_true_eq] at hb
      obtain ⟨⟨⟨⟨⟨⟨⟨⟨⟨⟨⟨⟨⟨rfl, rfl⟩, rfl⟩, rfl⟩, rfl⟩, rfl⟩, rfl⟩, rfl⟩, rfl⟩, rfl⟩, rfl⟩, rfl⟩, rfl⟩, rfl⟩ := hb
      exact blk_loop (S := T47_2) (ks := E47_2) (step := S_ref12_Same_2 fuel) (v := (_, _, _, _, _, _, _, _, _, _, _, _, _, _)) (by kernel_rfl) (by kernel_rfl) (fun R K v => by obtain ⟨x0, x1, x2, x3, x4, x5, x6, x7, x8, x9, x10, x11, x12, x13⟩ := v; exact S47_2_ok fuel R K x0 x1 x2 x3 x4 x5 x6 x7 x8 x9 x10 x11 x12 x13) hs h
    · cases h
  · cases h
def J47 (fuel : Nat) (i : Nat) : Option Ev.Blk := Ev.look i [(100000, B47_0 fuel), (100002, B47_2 fuel)]
def F_ref12_Same (fuel : Nat) (x0 : Int) (x1 : Int) (x2 : Int) (x3 : (List Int)) (x4 : (List Bool)) (x5 : (List Int)) (x6 : Int) (x7 : Int) (x8 : Int) (x9 : (List Int)) (x10 : (List Bool)) (x11 : (List Int)) (k0 : (Bool) → Option Ans) : Option Ans :=
  bif x0 != x6 then
   k0 Bool.false
  else
   bif x1 != x7 then
    k0 Bool.false
   else
    bif x2 != x8 then
     k0 Bool.false
    else
     bif (↑x3.length : Int) != (↑x9.length : Int) then
      k0 Bool.false
     else
      bif (↑x4.length : Int) != (↑x10.length : Int) then
       k0 Bool.false
      else
       bif !(Go.strOfNums x5).toList == (Go.strOfNums x11).toList then
        k0 Bool.false
       else
        (L_ref12_Same_0 fuel ((↑x3.length : Int), (0 : Int), x0, x1, x2, x3, x4, x5, x6, x7, x8, x9, x10, x11)
          (fun ret0_0 =>
            k0 ret0_0)
          (fun (b0_0, b0_1, b0_2, b0_3, b0_4, b0_5, b0_6, b0_7, b0_8, b0_9, b0_10, b0_11) =>
            (L_ref12_Same_2 fuel ((↑b0_4.length : Int), (0 : Int), b0_0, b0_1, b0_2, b0_3, b0_4, b0_5, b0_6, b0_7, b0_8, b0_9, b0_10, b0_11)
              (fun ret2_0 =>
                k0 ret2_0)
              (fun () =>
                k0 Bool.true))))
abbrev YF47 : Type := (Int) → (Int) → (Int) → ((List Int)) → ((List Bool)) → ((List Int)) → (Int) → (Int) → (Int) → ((List Int)) → ((List Bool)) → ((List Int)) → ((Bool) → Option Ans) → Option Ans
theorem F47_eq (fuel : Nat) (x0 : Int) (x1 : Int) (x2 : Int) (x3 : (List Int)) (x4 : (List Bool)) (x5 : (List Int)) (x6 : Int) (x7 : Int) (x8 : Int) (x9 : (List Int)) (x10 : (List Bool)) (x11 : (List Int)) (k : Ev.Cont) : evalFn tab (G47 fuel) (J47 fuel) kp47 fuel Try.f47 [.agg [.int .i64 x0, .int .i64 x1, .int .i64 x2, .sl (.int .i64) x3, .sl .bool x4, .sl (.int .u8) x5], .agg [.int .i64 x6, .int .i64 x7, .int .i64 x8, .sl (.int .i64) x9, .sl .bool x10, .sl (.int .u8) x11]] [] k = F_ref12_Same fuel x0 x1 x2 x3 x4 x5 x6 x7 x8 x9 x10 x11 (fun r => match r with | r0 => k (.c (.bool r0), [])) := by
  kernel_rfl
theorem hG47 (fuel : Nat) : GOK Try.prog (G47 fuel) :=
  gok_nil
theorem B47_0_blk (fuel : Nat) : BlkOK Try.prog Try.f47.ntmps (.block 0 (.loop (bodyOf 0 Try.f47))) (B47_0 fuel) :=
  blk_of (blk_of_code tab_ok (hG47 fuel) mixed (J := J47_0 fuel) (kp := kp47) (fuel := fuel) (by kernel_rfl) (fun q hq => by
    rw [(by kernel_rfl : obl (J47_0 fuel) (.block 0 (.loop (bodyOf 0 Try.f47))) = [])] at hq
    cases hq)) (B47_0_ok fuel)
theorem B47_2_blk (fuel : Nat) : BlkOK Try.prog Try.f47.ntmps (.block 2 (.loop (bodyOf 2 Try.f47))) (B47_2 fuel) :=
  blk_of (blk_of_code tab_ok (hG47 fuel) mixed (J := J47_2 fuel) (kp := kp47) (fuel := fuel) (by kernel_rfl) (fun q hq => by
    rw [(by kernel_rfl : obl (J47_2 fuel) (.block 2 (.loop (bodyOf 2 Try.f47))) = [])] at hq
    cases hq)) (B47_2_ok fuel)
theorem fok47 (fuel : Nat) : FnOK Try.prog 47 (evalFn tab (G47 fuel) (J47 fuel) kp47 fuel Try.f47) :=
  fn_ok tab_ok (hG47 fuel) mixed Try.func47 (c := (Try.f47.body).getD .skip) rfl (fun q hq => by
    rw [(by kernel_rfl : obl (J47 fuel) ((Try.f47.body).getD .skip) = [(.block 0 (.loop (bodyOf 0 Try.f47)), B47_0 fuel), (.block 2 (.loop (bodyOf 2 Try.f47)), B47_2 fuel)])] at hq
    simp only [List.mem_cons, List.not_mem_nil, or_false] at hq
    rcases hq with rfl | rfl
    · exact B47_0_blk fuel
    · exact B47_2_blk fuel)
def mt47 : List Ev.SV → List Ev.Ob → Bool := fun args objs => match args, objs with
  | [.agg [.int .i64 _, .int .i64 _, .int .i64 _, .sl (.int .i64) _, .sl .bool _, .sl (.int .u8) _], .agg [.int .i64 _, .int .i64 _, .int .i64 _, .sl (.int .i64) _, .sl .bool _, .sl (.int .u8) _]], [] => true
  | _, _ => false
def spg47 (F : YF47) : Ev.Spec := fun args objs k => match args, objs with
  | [.agg [.int .i64 x0, .int .i64 x1, .int .i64 x2, .sl (.int .i64) x3, .sl .bool x4, .sl (.int .u8) x5], .agg [.int .i64 x6, .int .i64 x7, .int .i64 x8, .sl (.int .i64) x9, .sl .bool x10, .sl (.int .u8) x11]], [] => bif true then F x0 x1 x2 x3 x4 x5 x6 x7 x8 x9 x10 x11 (fun r => match r with | r0 => k (.c (.bool r0), [])) else none
  | _, _ => none
def spec47 (fuel : Nat) : Ev.Spec := spg47 (F_ref12_Same fuel)
theorem ok47 (fuel : Nat) : FnOK Try.prog 47 (spec47 fuel) := by
  intro args objs kk r h
  unfold spec47 spg47 at h
  split at h
  · obtain ⟨hb, h⟩ := cond_some' h
    simp only [Bool.and_eq_true, Nat.beq_eq, decide_eq_true_eq] at hb
    clear hb
    exact fok47 fuel _ _ kk r ((F47_eq fuel _ _ _ _ _ _ _ _ _ _ _ _ kk).trans h)
  · cases h
end Go.Proofs.Ytajidgilfkineaa
