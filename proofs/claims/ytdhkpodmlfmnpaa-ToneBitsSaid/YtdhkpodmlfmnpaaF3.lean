/- incunable/incunablelaw11.ToneBits: its typed text, and that the machine does it. -/
import Derived.Test.YtdhkpodmlfmnpaaEvU
import Derived.Test.YtdhkpodmlfmnpaaF15
import Derived.Test.YtdhkpodmlfmnpaaF16
import Derived.Test.YtdhkpodmlfmnpaaF17
set_option linter.unusedVariables false
set_option linter.unusedSimpArgs false
set_option maxRecDepth 100000
namespace Go.Proofs.Ytdhkpodmlfmnpaa
open Go Ev
def kp3 (i : Nat) : Option (List Nat) := Ev.look i [(5, [0, 3, 4, 5]), (12, [0, 3, 6, 8]), (17, [0, 3, 6, 8, 9, 10, 11]), (100000, [0, 3, 4]), (100002, []), (100004, [0, 3, 6, 8, 9, 10]), (400000, [2]), (400002, [2]), (400004, [2])]
def G3 (fuel : Nat) (f : Nat) : Option Ev.Spec := Ev.look f [(15, spec15 fuel), (16, spec16 fuel), (17, spec17 fuel)]
def S3_0 (fuel : Nat) (v : Int × Int × Int × (List Int)) (c : (Int × Int × Int × (List Int)) → Option Ans) (B : (Int × Int × (List Int) → Option Ans)) : Option Ans := match v, B with
  | (x0, x1, x2, x3), b =>
   bif Decidable.decide (x2 ≤ x0) then
      bif Decidable.decide ((x3.length + [x2].length) * (8 : Nat) ≤ (140737488355328 : Nat) ∧ x3.length + [x2].length ≤ (140737488355328 : Nat)) then
      c (x0, x1, Go.IntKind.i64.wrap (x2 + (1 : Int)), x3 ++ [x2])
      else none
     else
      b (x0, x1, x3)
def L3_0 (fuel : Nat) (v : Int × Int × Int × (List Int)) (b : (Int × Int × (List Int) → Option Ans)) : Option Ans := iter (S3_0 fuel) fuel v b
def J3_0 (fuel : Nat) (i : Nat) : Option Ev.Blk := Ev.look i []
def T3_0 (v : Int × Int × Int × (List Int)) : Ev.St := match v with | (x0, x1, x2, x3) => ⟨[(0, .c (.int .i64 x0)), (3, .c (.int .i64 x1)), (4, .c (.own 0)), (5, .c (.int .i64 x2))], [(0, .vec 3 (.int .i64) x3)], 1, 0⟩
def E3_0 (K : Ev.Ex → Ev.St → Option Ans) : (Int × Int × (List Int) → Option Ans) := (fun v => match v with | (x0, x1, x2) => K .normal ⟨[(0, .c (.int .i64 x0)), (3, .c (.int .i64 x1)), (4, .c (.own 0))], [(0, .vec 3 (.int .i64) x2)], 1, 0⟩)
theorem S3_0_ok (fuel : Nat) (R : Ev.St → Option Ans) (K : Ev.Ex → Ev.St → Option Ans) (x0 : Int) (x1 : Int) (x2 : Int) (x3 : (List Int)) : evalCode tab (G3 fuel) (J3_0 fuel) kp3 fuel (bodyOf 0 Try.f3) (T3_0 (x0, x1, x2, x3)) (lc kp3 5 0 R K) = S3_0 fuel (x0, x1, x2, x3) (fun v => R (T3_0 v)) (E3_0 K) := by
  kernel_rfl
def B3_0 (fuel : Nat) : Ev.Blk := fun st K => match canonO (kp3 5) st with
  | some s => (match s with
    | ⟨[(q0, .c (.int .i64 x0)), (q1, .c (.int .i64 x1)), (q2, .c (.own q3)), (q4, .c (.int .i64 x2))], [(q5, .vec q6 (.int .i64) x3)], q7, q8⟩ => bif Nat.beq q0 0 && Nat.beq q1 3 && Nat.beq q2 4 && Nat.beq q3 0 && Nat.beq q4 5 && Nat.beq q5 0 && Nat.beq q6 3 && Nat.beq q7 1 && Nat.beq q8 0 then iter (S3_0 fuel) fuel (x0, x1, x2, x3) (E3_0 K) else none
    | _ => none)
  | none => none
theorem B3_0_ok (fuel : Nat) (st : Ev.St) (K : Ev.Ex → Ev.St → Option Ans) (r : Ans) (h : B3_0 fuel st K = some r) : evalCode tab (G3 fuel) (J3_0 fuel) kp3 fuel (.block 0 (.loop (bodyOf 0 Try.f3))) st K = some r := by
  unfold B3_0 at h
  split at h
  · rename_i s hs
    split at h
    · obtain ⟨hb, h⟩ := cond_some' h
      simp only [Bool.and_eq_true, Nat.beq_eq] at hb
      obtain ⟨⟨⟨⟨⟨⟨⟨⟨rfl, rfl⟩, rfl⟩, rfl⟩, rfl⟩, rfl⟩, rfl⟩, rfl⟩, rfl⟩ := hb
      exact blk_loop (S := T3_0) (ks := E3_0) (step := S3_0 fuel) (v := (_, _, _, _)) (by kernel_rfl) (by kernel_rfl) (fun R K v => by obtain ⟨x0, x1, x2, x3⟩ := v; exact S3_0_ok fuel R K x0 x1 x2 x3) hs h
    · cases h
  · cases h
def S3_4 (fuel : Nat) (v : Int × Int × Int × Int × Bool × Int × (List (List Int))) (c : (Int × Int × Int × Int × Bool × Int × (List (List Int))) → Option Ans) (B : (Bool → Option Ans) × (Int × Int × Int × Int × Bool × (List (List Int)) → Option Ans)) : Option Ans := match v, B with
  | (x0, x1, x2, x3, x4, x5, x6), (ret, b) =>
   bif Decidable.decide (x5 < x1) then
      bif Decidable.decide ((0 : Int) ≤ x5 ∧ x5 < (↑x6.length : Int)) then
      bif (↑(List.length (x6.getD x5.toNat [])) : Int) != Go.IntKind.i64.wrap (x0 + (1 : Int)) then
        ret Bool.false
       else
        bif x4 then
         bif Decidable.decide ((0 : Int) ≤ x5 ∧ x5 < (↑x6.length : Int)) then
         bif Decidable.decide ((0 : Int) ≤ x5 ∧ x5 < (↑x6.length : Int)) then
          both (bif Decidable.decide ((0 : Int) ≤ x2 ∧ x2 < (↑(List.length (x6.getD x5.toNat [])) : Int)) then
             bif Decidable.decide ((0 : Int) ≤ x3 ∧ x3 < (↑(List.length (x6.getD x5.toNat [])) : Int)) then
              c (x0, x1, x2, x3, List.getD (x6.getD x5.toNat []) x2.toNat (0 : Int) == List.getD (x6.getD x5.toNat []) x3.toNat (0 : Int), Go.IntKind.i64.wrap (x5 + (1 : Int)), x6)
              else none
             else none)
            (bif Decidable.decide ((0 : Int) ≤ x3 ∧ x3 < (↑(List.length (x6.getD x5.toNat [])) : Int)) then
             bif Decidable.decide ((0 : Int) ≤ x2 ∧ x2 < (↑(List.length (x6.getD x5.toNat [])) : Int)) then
              c (x0, x1, x2, x3, List.getD (x6.getD x5.toNat []) x2.toNat (0 : Int) == List.getD (x6.getD x5.toNat []) x3.toNat (0 : Int), Go.IntKind.i64.wrap (x5 + (1 : Int)), x6)
              else none
             else none)
          else none
         else none
        else
         c (x0, x1, x2, x3, Bool.false, Go.IntKind.i64.wrap (x5 + (1 : Int)), x6)
      else none
     else
      b (x0, x1, x2, x3, x4, x6)
def L3_4 (fuel : Nat) (v : Int × Int × Int × Int × Bool × Int × (List (List Int))) (ret : (Bool → Option Ans)) (b : (Int × Int × Int × Int × Bool × (List (List Int)) → Option Ans)) : Option Ans := iter (S3_4 fuel) fuel v (ret, b)
def J3_4 (fuel : Nat) (i : Nat) : Option Ev.Blk := Ev.look i [(100000, B3_0 fuel)]
def T3_4 (v : Int × Int × Int × Int × Bool × Int × (List (List Int))) : Ev.St := match v with | (x0, x1, x2, x3, x4, x5, x6) => ⟨[(0, .c (.int .i64 x0)), (3, .c (.int .i64 x1)), (6, .c (.own 0)), (8, .c (.int .i64 x2)), (9, .c (.int .i64 x3)), (10, .c (.bool x4)), (11, .c (.int .i64 x5))], [(0, .vec 28 (.sl (.int .u8)) x6)], 1, 0⟩
def E3_4 (K : Ev.Ex → Ev.St → Option Ans) : (Bool → Option Ans) × (Int × Int × Int × Int × Bool × (List (List Int)) → Option Ans) := ((fun v => match v with | x0 => K .ret ⟨[(2, .c (.bool x0))], [], 0, 0⟩), (fun v => match v with | (x0, x1, x2, x3, x4, x5) => K .normal ⟨[(0, .c (.int .i64 x0)), (3, .c (.int .i64 x1)), (6, .c (.own 0)), (8, .c (.int .i64 x2)), (9, .c (.int .i64 x3)), (10, .c (.bool x4))], [(0, .vec 28 (.sl (.int .u8)) x5)], 1, 0⟩))
theorem S3_4_ok (fuel : Nat) (R : Ev.St → Option Ans) (K : Ev.Ex → Ev.St → Option Ans) (x0 : Int) (x1 : Int) (x2 : Int) (x3 : Int) (x4 : Bool) (x5 : Int) (x6 : (List (List Int))) : evalCode tab (G3 fuel) (J3_4 fuel) kp3 fuel (bodyOf 4 Try.f3) (T3_4 (x0, x1, x2, x3, x4, x5, x6)) (lc kp3 17 4 R K) = S3_4 fuel (x0, x1, x2, x3, x4, x5, x6) (fun v => R (T3_4 v)) (E3_4 K) := by
  kernel_rfl
def B3_4 (fuel : Nat) : Ev.Blk := fun st K => match canonO (kp3 17) st with
  | some s => (match s with
    | ⟨[(q0, .c (.int .i64 x0)), (q1, .c (.int .i64 x1)), (q2, .c (.own q3)), (q4, .c (.int .i64 x2)), (q5, .c (.int .i64 x3)), (q6, .c (.bool x4)), (q7, .c (.int .i64 x5))], [(q8, .vec q9 (.sl (.int .u8)) x6)], q10, q11⟩ => bif Nat.beq q0 0 && Nat.beq q1 3 && Nat.beq q2 6 && Nat.beq q3 0 && Nat.beq q4 8 && Nat.beq q5 9 && Nat.beq q6 10 && Nat.beq q7 11 && Nat.beq q8 0 && Nat.beq q9 28 && Nat.beq q10 1 && Nat.beq q11 0 then iter (S3_4 fuel) fuel (x0, x1, x2, x3, x4, x5, x6) (E3_4 K) else none
    | _ => none)
  | none => none
theorem B3_4_ok (fuel : Nat) (st : Ev.St) (K : Ev.Ex → Ev.St → Option Ans) (r : Ans) (h : B3_4 fuel st K = some r) : evalCode tab (G3 fuel) (J3_4 fuel) kp3 fuel (.block 4 (.loop (bodyOf 4 Try.f3))) st K = some r := by
  unfold B3_4 at h
  split at h
  · rename_i s hs
    split at h
    · obtain ⟨hb, h⟩ := cond_some' h
      simp only [Bool.and_eq_true, Nat.beq_eq] at hb
      obtain ⟨⟨⟨⟨⟨⟨⟨⟨⟨⟨⟨rfl, rfl⟩, rfl⟩, rfl⟩, rfl⟩, rfl⟩, rfl⟩, rfl⟩, rfl⟩, rfl⟩, rfl⟩, rfl⟩ := hb
      exact blk_loop (S := T3_4) (ks := E3_4) (step := S3_4 fuel) (v := (_, _, _, _, _, _, _)) (by kernel_rfl) (by kernel_rfl) (fun R K v => by obtain ⟨x0, x1, x2, x3, x4, x5, x6⟩ := v; exact S3_4_ok fuel R K x0 x1 x2 x3 x4 x5 x6) hs h
    · cases h
  · cases h
def S3_2 (fuel : Nat) (v : Int × Int × Int × (List (List Int))) (c : (Int × Int × Int × (List (List Int))) → Option Ans) (B : (Bool → Option Ans) × (Unit → Option Ans)) : Option Ans := match v, B with
  | (x0, x1, x2, x3), (ret, b) =>
   bif Decidable.decide (x2 ≤ x0) then
      bif Decidable.decide (Go.IntKind.i64.wrap (x0 + (1 : Int)) = (0 : Int)) then
       none
      else
       (L3_4 fuel (x0, x1, x2, (Go.IntKind.i64.wrap (x2 + (1 : Int))).tmod (Go.IntKind.i64.wrap (x0 + (1 : Int))), Bool.true, (0 : Int), x3)
         (fun ret4_0 =>
           ret ret4_0)
         (fun (b4_0, b4_1, b4_2, b4_3, b4_4, b4_5) =>
           bif !b4_4 == (b4_2 == b4_3) then
            ret Bool.false
           else
            c (b4_0, b4_1, Go.IntKind.i64.wrap (b4_2 + (1 : Int)), b4_5)))
     else
      b ()
def L3_2 (fuel : Nat) (v : Int × Int × Int × (List (List Int))) (ret : (Bool → Option Ans)) (b : (Unit → Option Ans)) : Option Ans := iter (S3_2 fuel) fuel v (ret, b)
def J3_2 (fuel : Nat) (i : Nat) : Option Ev.Blk := Ev.look i [(100000, B3_0 fuel), (100004, B3_4 fuel)]
def T3_2 (v : Int × Int × Int × (List (List Int))) : Ev.St := match v with | (x0, x1, x2, x3) => ⟨[(0, .c (.int .i64 x0)), (3, .c (.int .i64 x1)), (6, .c (.own 0)), (8, .c (.int .i64 x2))], [(0, .vec 28 (.sl (.int .u8)) x3)], 1, 0⟩
def E3_2 (K : Ev.Ex → Ev.St → Option Ans) : (Bool → Option Ans) × (Unit → Option Ans) := ((fun v => match v with | x0 => K .ret ⟨[(2, .c (.bool x0))], [], 0, 0⟩), (fun v => match v with | () => K .normal ⟨[], [], 0, 0⟩))
theorem S3_2_ok (fuel : Nat) (R : Ev.St → Option Ans) (K : Ev.Ex → Ev.St → Option Ans) (x0 : Int) (x1 : Int) (x2 : Int) (x3 : (List (List Int))) : evalCode tab (G3 fuel) (J3_2 fuel) kp3 fuel (bodyOf 2 Try.f3) (T3_2 (x0, x1, x2, x3)) (lc kp3 12 2 R K) = S3_2 fuel (x0, x1, x2, x3) (fun v => R (T3_2 v)) (E3_2 K) := by
  kernel_rfl
def B3_2 (fuel : Nat) : Ev.Blk := fun st K => match canonO (kp3 12) st with
  | some s => (match s with
    | ⟨[(q0, .c (.int .i64 x0)), (q1, .c (.int .i64 x1)), (q2, .c (.own q3)), (q4, .c (.int .i64 x2))], [(q5, .vec q6 (.sl (.int .u8)) x3)], q7, q8⟩ => bif Nat.beq q0 0 && Nat.beq q1 3 && Nat.beq q2 6 && Nat.beq q3 0 && Nat.beq q4 8 && Nat.beq q5 0 && Nat.beq q6 28 && Nat.beq q7 1 && Nat.beq q8 0 then iter (S3_2 fuel) fuel (x0, x1, x2, x3) (E3_2 K) else none
    | _ => none)
  | none => none
theorem B3_2_ok (fuel : Nat) (st : Ev.St) (K : Ev.Ex → Ev.St → Option Ans) (r : Ans) (h : B3_2 fuel st K = some r) : evalCode tab (G3 fuel) (J3_2 fuel) kp3 fuel (.block 2 (.loop (bodyOf 2 Try.f3))) st K = some r := by
  unfold B3_2 at h
  split at h
  · rename_i s hs
    split at h
    · obtain ⟨hb, h⟩ := cond_some' h
      simp only [Bool.and_eq_true, Nat.beq_eq] at hb
      obtain ⟨⟨⟨⟨⟨⟨⟨⟨rfl, rfl⟩, rfl⟩, rfl⟩, rfl⟩, rfl⟩, rfl⟩, rfl⟩, rfl⟩ := hb
      exact blk_loop (S := T3_2) (ks := E3_2) (step := S3_2 fuel) (v := (_, _, _, _)) (by kernel_rfl) (by kernel_rfl) (fun R K v => by obtain ⟨x0, x1, x2, x3⟩ := v; exact S3_2_ok fuel R K x0 x1 x2 x3) hs h
    · cases h
  · cases h
def J3 (fuel : Nat) (i : Nat) : Option Ev.Blk := Ev.look i [(100000, B3_0 fuel), (100004, B3_4 fuel), (100002, B3_2 fuel)]
def F3 (fuel : Nat) (x0 : Int) (k0 : (Bool) → Option Ans) : Option Ans :=
  (F15 fuel (Go.IntKind.i64.wrap ((Go.IntKind.i64.wrap (x0.tmod (256 : Int) + (256 : Int))).tmod (256 : Int) + (1 : Int)))
    (fun y2 =>
      (L3_0 fuel ((Go.IntKind.i64.wrap (x0.tmod (256 : Int) + (256 : Int))).tmod (256 : Int), y2, (0 : Int), [])
        (fun (b0_0, b0_1, b0_2) =>
          (F16 fuel (b0_2) (b0_1)
            (fun (y10_0, y10_1) =>
              bif y10_0 != (0 : Int) then
               k0 Bool.false
              else
               bif (↑y10_1.length : Int) != b0_1 then
                k0 Bool.false
               else
                (L3_2 fuel (b0_0, b0_1, (0 : Int), y10_1)
                  (fun ret2_0 =>
                    k0 ret2_0)
                  (fun () =>
                    (F17 fuel
                      (fun y20 =>
                        k0 y20))))))))))
theorem F3_eq (fuel : Nat) (x0 : Int) (k : Ev.Cont) : evalFn tab (G3 fuel) (J3 fuel) kp3 fuel Try.f3 [.c (.int .i64 x0)] [] k = F3 fuel x0 (fun r => match r with | r0 => k (.c (.bool r0), [])) := by
  kernel_rfl
theorem hG3 (fuel : Nat) : GOK Try.prog (G3 fuel) :=
  gok_cons ⟨ok15 fuel, enters_of Try.func15 (by kernel_rfl) rfl⟩ <|
  gok_cons ⟨ok16 fuel, enters_of Try.func16 (by kernel_rfl) rfl⟩ <|
  gok_cons ⟨ok17 fuel, enters_of Try.func17 (by kernel_rfl) rfl⟩ <|
  gok_nil
theorem B3_0_blk (fuel : Nat) : BlkOK Try.prog Try.f3.ntmps (.block 0 (.loop (bodyOf 0 Try.f3))) (B3_0 fuel) :=
  blk_of (blk_of_code tab_ok (hG3 fuel) mixed (J := J3_0 fuel) (kp := kp3) (fuel := fuel) (by kernel_rfl) (fun q hq => by
    rw [(by kernel_rfl : obl (J3_0 fuel) (.block 0 (.loop (bodyOf 0 Try.f3))) = [])] at hq
    cases hq)) (B3_0_ok fuel)
theorem B3_4_blk (fuel : Nat) : BlkOK Try.prog Try.f3.ntmps (.block 4 (.loop (bodyOf 4 Try.f3))) (B3_4 fuel) :=
  blk_of (blk_of_code tab_ok (hG3 fuel) mixed (J := J3_4 fuel) (kp := kp3) (fuel := fuel) (by kernel_rfl) (fun q hq => by
    rw [(by kernel_rfl : obl (J3_4 fuel) (.block 4 (.loop (bodyOf 4 Try.f3))) = [])] at hq
    cases hq)) (B3_4_ok fuel)
theorem B3_2_blk (fuel : Nat) : BlkOK Try.prog Try.f3.ntmps (.block 2 (.loop (bodyOf 2 Try.f3))) (B3_2 fuel) :=
  blk_of (blk_of_code tab_ok (hG3 fuel) mixed (J := J3_2 fuel) (kp := kp3) (fuel := fuel) (by kernel_rfl) (fun q hq => by
    rw [(by kernel_rfl : obl (J3_2 fuel) (.block 2 (.loop (bodyOf 2 Try.f3))) = [(.block 4 (.loop (bodyOf 4 Try.f3)), B3_4 fuel)])] at hq
    simp only [List.mem_cons, List.not_mem_nil, or_false] at hq
    subst hq
    · exact B3_4_blk fuel)) (B3_2_ok fuel)
theorem fok3 (fuel : Nat) : FnOK Try.prog 3 (evalFn tab (G3 fuel) (J3 fuel) kp3 fuel Try.f3) :=
  fn_ok tab_ok (hG3 fuel) mixed Try.func3 (c := (Try.f3.body).getD .skip) rfl (fun q hq => by
    rw [(by kernel_rfl : obl (J3 fuel) ((Try.f3.body).getD .skip) = [(.block 0 (.loop (bodyOf 0 Try.f3)), B3_0 fuel), (.block 2 (.loop (bodyOf 2 Try.f3)), B3_2 fuel)])] at hq
    simp only [List.mem_cons, List.not_mem_nil, or_false] at hq
    rcases hq with rfl | rfl
    · exact B3_0_blk fuel
    · exact B3_2_blk fuel)
def spec3 (fuel : Nat) : Ev.Spec := fun args objs k => match args, objs with
  | [.c (.int .i64 x0)], [] => bif true then F3 fuel x0 (fun r => match r with | r0 => k (.c (.bool r0), [])) else none
  | _, _ => none
theorem ok3 (fuel : Nat) : FnOK Try.prog 3 (spec3 fuel) := by
  intro args objs kk r h
  unfold spec3 at h
  split at h
  · obtain ⟨hb, h⟩ := cond_some' h
    simp only [Bool.and_eq_true, Nat.beq_eq] at hb
    clear hb
    exact fok3 fuel _ _ kk r ((F3_eq fuel _ kk).trans h)
  · cases h
end Go.Proofs.Ytdhkpodmlfmnpaa
