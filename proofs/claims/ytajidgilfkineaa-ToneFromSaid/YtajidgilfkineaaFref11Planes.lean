/- incunable/incunableref11.Planes: its typed text, and that the machine does it. -/
import Derived.Test.YtajidgilfkineaaEvU
set_option linter.unusedVariables false
set_option linter.unusedSimpArgs false
set_option maxRecDepth 100000
namespace Go.Proofs.Ytajidgilfkineaa
open Go Ev
def kp18 (i : Nat) : Option (List Nat) := Ev.look i [(4, [0, 1, 6]), (10, [0, 7, 8]), (14, [0, 7, 8, 9, 10]), (100000, [0, 1]), (100002, [7]), (100004, [0, 7, 8, 9]), (400000, [4, 5]), (400002, [4, 5]), (400004, [4, 5])]
def Gg18 (f : Nat) : Option Ev.Spec := Ev.look f []
def G18 (fuel : Nat) : Nat → Option Ev.Spec := Gg18
def S_ref11_Planes_0 (fuel : Nat) (v : (List Int) × Int × Int) (c : ((List Int) × Int × Int) → Option Ans) (B : (Int × (List (List Int)) → Option Ans) × ((List Int) × Int → Option Ans)) : Option Ans := match v, B with
  | (x0, x1, x2), (ret, b) =>
   bif Decidable.decide (x2 < (↑x0.length : Int)) then
      bif Decidable.decide ((0 : Int) ≤ x2 ∧ x2 < (↑x0.length : Int)) then
      bif Decidable.decide (x0.getD x2.toNat (0 : Int) < (0 : Int)) then
        ret ((2 : Int), [])
       else
        bif Decidable.decide ((0 : Int) ≤ x2 ∧ x2 < (↑x0.length : Int)) then
        bif Decidable.decide (x1 < (0 : Int)) then
          none
         else
          bif Decidable.decide (x0.getD x2.toNat (0 : Int) ≥ Ev.ishl Go.IntKind.i64 (1 : Int) x1) then
           ret ((2 : Int), [])
          else
           c (x0, x1, Go.IntKind.i64.wrap (x2 + (1 : Int)))
        else none
      else none
     else
      b (x0, x1)
def L_ref11_Planes_0 (fuel : Nat) (v : (List Int) × Int × Int) (ret : (Int × (List (List Int)) → Option Ans)) (b : ((List Int) × Int → Option Ans)) : Option Ans := iter (S_ref11_Planes_0 fuel) fuel v (ret, b)
def J18_0 (fuel : Nat) (i : Nat) : Option Ev.Blk := Ev.look i []
def T18_0 (v : (List Int) × Int × Int) : Ev.St := match v with | (x0, x1, x2) => ⟨[(0, .c (.sl (.int .i64) x0)), (1, .c (.int .i64 x1)), (6, .c (.int .i64 x2))], [], 0, 0⟩
def E18_0 (K : Ev.Ex → Ev.St → Option Ans) : (Int × (List (List Int)) → Option Ans) × ((List Int) × Int → Option Ans) := ((fun v => match v with | (x0, x1) => K .ret ⟨[(4, .c (.own 0)), (5, .c (.int .i64 x0))], [(0, .vec 28 (.sl (.int .u8)) x1 true)], 1, 0⟩), (fun v => match v with | (x0, x1) => K .normal ⟨[(0, .c (.sl (.int .i64) x0)), (1, .c (.int .i64 x1))], [], 0, 0⟩))
theorem S18_0_ok (fuel : Nat) (R : Ev.St → Option Ans) (K : Ev.Ex → Ev.St → Option Ans) (x0 : (List Int)) (x1 : Int) (x2 : Int) : evalCode tab (G18 fuel) (J18_0 fuel) kp18 fuel (bodyOf 0 Try.f18) (T18_0 (x0, x1, x2)) (lc kp18 4 0 R K) = S_ref11_Planes_0 fuel (x0, x1, x2) (fun v => R (T18_0 v)) (E18_0 K) := by
  kernel_rfl
def B18_0 (fuel : Nat) : Ev.Blk := fun st K => match canonO (kp18 4) st with
  | some s => (match s with
    | ⟨[(q0, .c (.sl (.int .i64) x0)), (q1, .c (.int .i64 x1)), (q2, .c (.int .i64 x2))], [], q3, q4⟩ => bif Nat.beq q0 0 && Nat.beq q1 1 && Nat.beq q2 6 && Nat.beq q3 0 && Nat.beq q4 0 then iter (S_ref11_Planes_0 fuel) fuel (x0, x1, x2) (E18_0 K) else none
    | _ => none)
  | none => none
theorem B18_0_ok (fuel : Nat) (st : Ev.St) (K : Ev.Ex → Ev.St → Option Ans) (r : Ans) (h : B18_0 fuel st K = some r) : evalCode tab (G18 fuel) (J18_0 fuel) kp18 fuel (.block 0 (.loop (bodyOf 0 Try.f18))) st K = some r := by
  unfold B18_0 at h
  split at h
  · rename_i s hs
    split at h
    · obtain ⟨hb, h⟩ := cond_some' h
      simp only [Bool.and_eq_true, Nat.beq_eq, decide_eq_true_eq] at hb
      obtain ⟨⟨⟨⟨rfl, rfl⟩, rfl⟩, rfl⟩, rfl⟩ := hb
      exact blk_loop (S := T18_0) (ks := E18_0) (step := S_ref11_Planes_0 fuel) (v := (_, _, _)) (by kernel_rfl) (by kernel_rfl) (fun R K v => by obtain ⟨x0, x1, x2⟩ := v; exact S18_0_ok fuel R K x0 x1 x2) hs h
    · cases h
  · cases h
def S_ref11_Planes_4 (fuel : Nat) (v : (List Int) × Int × Int × (List (List Int)) × (List Int)) (c : ((List Int) × Int × Int × (List (List Int)) × (List Int)) → Option Ans) (B : ((List Int) × Int × (List (List Int)) × (List Int) → Option Ans)) : Option Ans := match v, B with
  | (x0, x1, x2, x3, x4), b =>
   bif Decidable.decide (x2 < (↑x0.length : Int)) then
      bif Decidable.decide ((0 : Int) ≤ x2 ∧ x2 < (↑x0.length : Int)) then
      bif Decidable.decide (x1 < (0 : Int)) then
        none
       else
        bif Decidable.decide ((0 : Int) ≤ x2 ∧ x2 < (↑x0.length : Int)) then
        bif Decidable.decide (Go.IntKind.i64.wrap (x1 + (1 : Int)) < (0 : Int)) then
          none
         else
          bif Decidable.decide ((x4.length + [Go.IntKind.u8.wrap ((Go.IntKind.i64.wrap (Ev.ishr Go.IntKind.i64 (x0.getD x2.toNat (0 : Int)) x1 + Ev.ishr Go.IntKind.i64 (x0.getD x2.toNat (0 : Int)) (Go.IntKind.i64.wrap (x1 + (1 : Int))))).tmod (2 : Int))].length) * (1 : Nat) ≤ (140737488355328 : Nat) ∧ x4.length + [Go.IntKind.u8.wrap ((Go.IntKind.i64.wrap (Ev.ishr Go.IntKind.i64 (x0.getD x2.toNat (0 : Int)) x1 + Ev.ishr Go.IntKind.i64 (x0.getD x2.toNat (0 : Int)) (Go.IntKind.i64.wrap (x1 + (1 : Int))))).tmod (2 : Int))].length ≤ (140737488355328 : Nat)) then
          c (x0, x1, Go.IntKind.i64.wrap (x2 + (1 : Int)), x3, x4 ++ [Go.IntKind.u8.wrap ((Go.IntKind.i64.wrap (Ev.ishr Go.IntKind.i64 (x0.getD x2.toNat (0 : Int)) x1 + Ev.ishr Go.IntKind.i64 (x0.getD x2.toNat (0 : Int)) (Go.IntKind.i64.wrap (x1 + (1 : Int))))).tmod (2 : Int))])
          else none
        else none
      else none
     else
      b (x0, x1, x3, x4)
def L_ref11_Planes_4 (fuel : Nat) (v : (List Int) × Int × Int × (List (List Int)) × (List Int)) (b : ((List Int) × Int × (List (List Int)) × (List Int) → Option Ans)) : Option Ans := iter (S_ref11_Planes_4 fuel) fuel v b
def J18_4 (fuel : Nat) (i : Nat) : Option Ev.Blk := Ev.look i [(100000, B18_0 fuel)]
def T18_4 (v : (List Int) × Int × Int × (List (List Int)) × (List Int)) : Ev.St := match v with | (x0, x1, x2, x3, x4) => ⟨[(0, .c (.sl (.int .i64) x0)), (7, .c (.own 0)), (8, .c (.int .i64 x1)), (9, .c (.own 1)), (10, .c (.int .i64 x2))], [(0, .vec 28 (.sl (.int .u8)) x3 true), (1, .vec 5 (.int .u8) x4 true)], 2, 0⟩
def E18_4 (K : Ev.Ex → Ev.St → Option Ans) : ((List Int) × Int × (List (List Int)) × (List Int) → Option Ans) := (fun v => match v with | (x0, x1, x2, x3) => K .normal ⟨[(0, .c (.sl (.int .i64) x0)), (7, .c (.own 0)), (8, .c (.int .i64 x1)), (9, .c (.own 1))], [(0, .vec 28 (.sl (.int .u8)) x2 true), (1, .vec 5 (.int .u8) x3 true)], 2, 0⟩)
theorem S18_4_ok (fuel : Nat) (R : Ev.St → Option Ans) (K : Ev.Ex → Ev.St → Option Ans) (x0 : (List Int)) (x1 : Int) (x2 : Int) (x3 : (List (List Int))) (x4 : (List Int)) : evalCode tab (G18 fuel) (J18_4 fuel) kp18 fuel (bodyOf 4 Try.f18) (T18_4 (x0, x1, x2, x3, x4)) (lc kp18 14 4 R K) = S_ref11_Planes_4 fuel (x0, x1, x2, x3, x4) (fun v => R (T18_4 v)) (E18_4 K) := by
  kernel_rfl
def B18_4 (fuel : Nat) : Ev.Blk := fun st K => match canonO (kp18 14) st with
  | some s => (match s with
    | ⟨[(q0, .c (.sl (.int .i64) x0)), (q1, .c (.own q2)), (q3, .c (.int .i64 x1)), (q4, .c (.own q5)), (q6, .c (.int .i64 x2))], [(q7, .vec q8 (.sl (.int .u8)) x3 true), (q9, .vec q10 (.int .u8) x4 true)], q11, q12⟩ => bif Nat.beq q0 0 && Nat.beq q1 7 && Nat.beq q2 0 && Nat.beq q3 8 && Nat.beq q4 9 && Nat.beq q5 1 && Nat.beq q6 10 && Nat.beq q7 0 && Nat.beq q8 28 && Nat.beq q9 1 && Nat.beq q10 5 && Nat.beq q11 2 && Nat.beq q12 0 then iter (S_ref11_Planes_4 fuel) fuel (x0, x1, x2, x3, x4) (E18_4 K) else none
    | _ => none)
  | none => none
theorem B18_4_ok (fuel : Nat) (st : Ev.St) (K : Ev.Ex → Ev.St → Option Ans) (r : Ans) (h : B18_4 fuel st K = some r) : evalCode tab (G18 fuel) (J18_4 fuel) kp18 fuel (.block 4 (.loop (bodyOf 4 Try.f18))) st K = some r := by
  unfold B18_4 at h
  split at h
  · rename_i s hs
    split at h
    · obtain ⟨hb, h⟩ := cond_some' h
      simp only [Bool.and_eq_true, Nat.beq_eq, decide_eq_true_eq] at hb
      obtain ⟨⟨⟨⟨⟨⟨⟨⟨⟨⟨⟨⟨rfl, rfl⟩, rfl⟩, rfl⟩, rfl⟩, rfl⟩, rfl⟩, rfl⟩, rfl⟩, rfl⟩, rfl⟩, rfl⟩, rfl⟩ := hb
      exact blk_loop (S := T18_4) (ks := E18_4) (step := S_ref11_Planes_4 fuel) (v := (_, _, _, _, _)) (by kernel_rfl) (by kernel_rfl) (fun R K v => by obtain ⟨x0, x1, x2, x3, x4⟩ := v; exact S18_4_ok fuel R K x0 x1 x2 x3 x4) hs h
    · cases h
  · cases h
def S_ref11_Planes_2 (fuel : Nat) (v : (List Int) × Int × (List (List Int))) (c : ((List Int) × Int × (List (List Int))) → Option Ans) (B : ((List (List Int)) → Option Ans)) : Option Ans := match v, B with
  | (x0, x1, x2), b =>
   bif Decidable.decide (x1 ≥ (0 : Int)) then
      (L_ref11_Planes_4 fuel (x0, x1, (0 : Int), x2, [])
        (fun (b4_0, b4_1, b4_2, b4_3) =>
          bif Decidable.decide ((b4_2.length + [b4_3].length) * (24 : Nat) ≤ (140737488355328 : Nat) ∧ b4_2.length + [b4_3].length ≤ (140737488355328 : Nat)) then
          c (b4_0, Go.IntKind.i64.wrap (b4_1 - (1 : Int)), b4_2 ++ [b4_3])
          else none))
     else
      b x2
def L_ref11_Planes_2 (fuel : Nat) (v : (List Int) × Int × (List (List Int))) (b : ((List (List Int)) → Option Ans)) : Option Ans := iter (S_ref11_Planes_2 fuel) fuel v b
def J18_2 (fuel : Nat) (i : Nat) : Option Ev.Blk := Ev.look i [(100000, B18_0 fuel), (100004, B18_4 fuel)]
def T18_2 (v : (List Int) × Int × (List (List Int))) : Ev.St := match v with | (x0, x1, x2) => ⟨[(0, .c (.sl (.int .i64) x0)), (7, .c (.own 0)), (8, .c (.int .i64 x1))], [(0, .vec 28 (.sl (.int .u8)) x2 true)], 1, 0⟩
def E18_2 (K : Ev.Ex → Ev.St → Option Ans) : ((List (List Int)) → Option Ans) := (fun v => match v with | x0 => K .normal ⟨[(7, .c (.own 0))], [(0, .vec 28 (.sl (.int .u8)) x0 true)], 1, 0⟩)
theorem S18_2_ok (fuel : Nat) (R : Ev.St → Option Ans) (K : Ev.Ex → Ev.St → Option Ans) (x0 : (List Int)) (x1 : Int) (x2 : (List (List Int))) : evalCode tab (G18 fuel) (J18_2 fuel) kp18 fuel (bodyOf 2 Try.f18) (T18_2 (x0, x1, x2)) (lc kp18 10 2 R K) = S_ref11_Planes_2 fuel (x0, x1, x2) (fun v => R (T18_2 v)) (E18_2 K) := by
  kernel_rfl
def B18_2 (fuel : Nat) : Ev.Blk := fun st K => match canonO (kp18 10) st with
  | some s => (match s with
    | ⟨[(q0, .c (.sl (.int .i64) x0)), (q1, .c (.own q2)), (q3, .c (.int .i64 x1))], [(q4, .vec q5 (.sl (.int .u8)) x2 true)], q6, q7⟩ => bif Nat.beq q0 0 && Nat.beq q1 7 && Nat.beq q2 0 && Nat.beq q3 8 && Nat.beq q4 0 && Nat.beq q5 28 && Nat.beq q6 1 && Nat.beq q7 0 then iter (S_ref11_Planes_2 fuel) fuel (x0, x1, x2) (E18_2 K) else none
    | _ => none)
  | none => none
theorem B18_2_ok (fuel : Nat) (st : Ev.St) (K : Ev.Ex → Ev.St → Option Ans) (r : Ans) (h : B18_2 fuel st K = some r) : evalCode tab (G18 fuel) (J18_2 fuel) kp18 fuel (.block 2 (.loop (bodyOf 2 Try.f18))) st K = some r := by
  unfold B18_2 at h
  split at h
  · rename_i s hs
    split at h
    · obtain ⟨hb, h⟩ := cond_some' h
      simp only [Bool.and_eq_true, Nat.beq_eq, decide_eq_true_eq] at hb
      obtain ⟨⟨⟨⟨⟨⟨⟨rfl, rfl⟩, rfl⟩, rfl⟩, rfl⟩, rfl⟩, rfl⟩, rfl⟩ := hb
      exact blk_loop (S := T18_2) (ks := E18_2) (step := S_ref11_Planes_2 fuel) (v := (_, _, _)) (by kernel_rfl) (by kernel_rfl) (fun R K v => by obtain ⟨x0, x1, x2⟩ := v; exact S18_2_ok fuel R K x0 x1 x2) hs h
    · cases h
  · cases h
def J18 (fuel : Nat) (i : Nat) : Option Ev.Blk := Ev.look i [(100000, B18_0 fuel), (100004, B18_4 fuel), (100002, B18_2 fuel)]
def F_ref11_Planes (fuel : Nat) (x0 : (List Int)) (x1 : Int) (k0 : (Int × (List (List Int))) → Option Ans) : Option Ans :=
  bif Decidable.decide (x1 < (0 : Int)) then
   k0 ((2 : Int), [])
  else
   bif Decidable.decide (x1 > (8 : Int)) then
    k0 ((2 : Int), [])
   else
    (L_ref11_Planes_0 fuel (x0, x1, (0 : Int))
      (fun (ret0_0, ret0_1) =>
        k0 (ret0_0, ret0_1))
      (fun (b0_0, b0_1) =>
        (L_ref11_Planes_2 fuel (b0_0, Go.IntKind.i64.wrap (b0_1 - (1 : Int)), [])
          (fun b2_0 =>
            k0 ((0 : Int), b2_0)))))
abbrev YF18 : Type := ((List Int)) → (Int) → ((Int × (List (List Int))) → Option Ans) → Option Ans
theorem F18_eq (fuel : Nat) (x0 : (List Int)) (x1 : Int) (k : Ev.Cont) : evalFn tab (G18 fuel) (J18 fuel) kp18 fuel Try.f18 [.c (.sl (.int .i64) x0), .c (.int .i64 x1)] [] k = F_ref11_Planes fuel x0 x1 (fun r => match r with | (r0, r1) => k (.tup [(false, [.own 0]), (false, [.int .i64 r0])], [.vec 28 (.sl (.int .u8)) r1 true])) := by
  kernel_rfl
theorem hG18 (fuel : Nat) : GOK Try.prog (G18 fuel) :=
  gok_nil
theorem B18_0_blk (fuel : Nat) : BlkOK Try.prog Try.f18.ntmps (.block 0 (.loop (bodyOf 0 Try.f18))) (B18_0 fuel) :=
  blk_of (blk_of_code tab_ok (hG18 fuel) mixed (J := J18_0 fuel) (kp := kp18) (fuel := fuel) (by kernel_rfl) (fun q hq => by
    rw [(by kernel_rfl : obl (J18_0 fuel) (.block 0 (.loop (bodyOf 0 Try.f18))) = [])] at hq
    cases hq)) (B18_0_ok fuel)
theorem B18_4_blk (fuel : Nat) : BlkOK Try.prog Try.f18.ntmps (.block 4 (.loop (bodyOf 4 Try.f18))) (B18_4 fuel) :=
  blk_of (blk_of_code tab_ok (hG18 fuel) mixed (J := J18_4 fuel) (kp := kp18) (fuel := fuel) (by kernel_rfl) (fun q hq => by
    rw [(by kernel_rfl : obl (J18_4 fuel) (.block 4 (.loop (bodyOf 4 Try.f18))) = [])] at hq
    cases hq)) (B18_4_ok fuel)
theorem B18_2_blk (fuel : Nat) : BlkOK Try.prog Try.f18.ntmps (.block 2 (.loop (bodyOf 2 Try.f18))) (B18_2 fuel) :=
  blk_of (blk_of_code tab_ok (hG18 fuel) mixed (J := J18_2 fuel) (kp := kp18) (fuel := fuel) (by kernel_rfl) (fun q hq => by
    rw [(by kernel_rfl : obl (J18_2 fuel) (.block 2 (.loop (bodyOf 2 Try.f18))) = [(.block 4 (.loop (bodyOf 4 Try.f18)), B18_4 fuel)])] at hq
    simp only [List.mem_cons, List.not_mem_nil, or_false] at hq
    subst hq
    · exact B18_4_blk fuel)) (B18_2_ok fuel)
theorem fok18 (fuel : Nat) : FnOK Try.prog 18 (evalFn tab (G18 fuel) (J18 fuel) kp18 fuel Try.f18) :=
  fn_ok tab_ok (hG18 fuel) mixed Try.func18 (c := (Try.f18.body).getD .skip) rfl (fun q hq => by
    rw [(by kernel_rfl : obl (J18 fuel) ((Try.f18.body).getD .skip) = [(.block 0 (.loop (bodyOf 0 Try.f18)), B18_0 fuel), (.block 2 (.loop (bodyOf 2 Try.f18)), B18_2 fuel)])] at hq
    simp only [List.mem_cons, List.not_mem_nil, or_false] at hq
    rcases hq with rfl | rfl
    · exact B18_0_blk fuel
    · exact B18_2_blk fuel)
def mt18 : List Ev.SV → List Ev.Ob → Bool := fun args objs => match args, objs with
  | [.c (.sl (.int .i64) _), .c (.int .i64 _)], [] => true
  | _, _ => false
def spg18 (F : YF18) : Ev.Spec := fun args objs k => match args, objs with
  | [.c (.sl (.int .i64) x0), .c (.int .i64 x1)], [] => bif true then F x0 x1 (fun r => match r with | (r0, r1) => k (.tup [(false, [.own 0]), (false, [.int .i64 r0])], [.vec 28 (.sl (.int .u8)) r1 true])) else none
  | _, _ => none
def spec18 (fuel : Nat) : Ev.Spec := spg18 (F_ref11_Planes fuel)
theorem ok18 (fuel : Nat) : FnOK Try.prog 18 (spec18 fuel) := by
  intro args objs kk r h
  unfold spec18 spg18 at h
  split at h
  · obtain ⟨hb, h⟩ := cond_some' h
    simp only [Bool.and_eq_true, Nat.beq_eq, decide_eq_true_eq] at hb
    clear hb
    exact fok18 fuel _ _ kk r ((F18_eq fuel _ _ kk).trans h)
  · cases h
end Go.Proofs.Ytajidgilfkineaa
