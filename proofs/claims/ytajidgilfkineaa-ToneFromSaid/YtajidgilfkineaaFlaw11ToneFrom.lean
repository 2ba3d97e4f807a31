/- incunable/incunablelaw11.ToneFrom: its typed text, and that the machine does it. -/
import Derived.Test.YtajidgilfkineaaEvU
import Derived.Test.YtajidgilfkineaaFlaw11Sane
import Derived.Test.YtajidgilfkineaaFref01SameBytes
import Derived.Test.YtajidgilfkineaaFref01SameInts
import Derived.Test.YtajidgilfkineaaFref11FromPlanes
import Derived.Test.YtajidgilfkineaaFtoneFromPlanes
import Derived.Test.YtajidgilfkineaaFtonePlanes
set_option linter.unusedVariables false
set_option linter.unusedSimpArgs false
set_option maxRecDepth 100000
namespace Go.Proofs.Ytajidgilfkineaa
open Go Ev
def kp5 (i : Nat) : Option (List Nat) := Ev.look i [(3, [0, 3, 4]), (18, [0, 9, 10]), (100000, [0, 3]), (100002, []), (400000, [2]), (400002, [2])]
def Gg5 (f16 : YF16) (f17 : YF17) (f19 : YF19) (f20 : YF20) (f21 : YF21) (f22 : YF22) (f : Nat) : Option Ev.Spec := Ev.look f [(16, spg16 f16), (17, spg17 f17), (19, spg19 f19), (20, spg20 f20), (21, spg21 f21), (22, spg22 f22)]
def G5 (fuel : Nat) : Nat → Option Ev.Spec := Gg5 (F_tone_Planes fuel) (F_law11_Sane fuel) (F_ref01_SameBytes fuel) (F_tone_FromPlanes fuel) (F_ref01_SameInts fuel) (F_ref11_FromPlanes fuel)
def S_law11_ToneFrom_0 (fuel : Nat) (v : (List (List Int)) × Int × Int) (c : ((List (List Int)) × Int × Int) → Option Ans) (B : ((List (List Int)) × Int → Option Ans)) : Option Ans := match v, B with
  | (x0, x1, x2), b =>
   bif Decidable.decide (x2 < (↑x0.length : Int)) then
      bif Decidable.decide ((0 : Int) ≤ x2 ∧ x2 < (↑x0.length : Int)) then
      c (x0, Go.IntKind.i64.wrap (Go.IntKind.i64.wrap (x1 + (1 : Int)) + (↑(List.length (x0.getD x2.toNat [])) : Int)), Go.IntKind.i64.wrap (x2 + (1 : Int)))
      else none
     else
      b (x0, x1)
def L_law11_ToneFrom_0 (fuel : Nat) (v : (List (List Int)) × Int × Int) (b : ((List (List Int)) × Int → Option Ans)) : Option Ans := iter (S_law11_ToneFrom_0 fuel) fuel v b
def J5_0 (fuel : Nat) (i : Nat) : Option Ev.Blk := Ev.look i []
def T5_0 (v : (List (List Int)) × Int × Int) : Ev.St := match v with | (x0, x1, x2) => ⟨[(0, .c (.sl (.sl (.int .u8)) x0)), (3, .c (.int .i64 x1)), (4, .c (.int .i64 x2))], [], 0, 0⟩
def E5_0 (K : Ev.Ex → Ev.St → Option Ans) : ((List (List Int)) × Int → Option Ans) := (fun v => match v with | (x0, x1) => K .normal ⟨[(0, .c (.sl (.sl (.int .u8)) x0)), (3, .c (.int .i64 x1))], [], 0, 0⟩)
theorem S5_0_okg (fuel : Nat) (f16 : YF16) (f17 : YF17) (f19 : YF19) (f20 : YF20) (f21 : YF21) (f22 : YF22) (R : Ev.St → Option Ans) (K : Ev.Ex → Ev.St → Option Ans) (x0 : (List (List Int))) (x1 : Int) (x2 : Int) : evalCode tab (Gg5 f16 f17 f19 f20 f21 f22) (J5_0 fuel) kp5 fuel (bodyOf 0 Try.f5) (T5_0 (x0, x1, x2)) (lc kp5 3 0 R K) = (fun (c : ((List (List Int)) × Int × Int) → Option Ans) (B : ((List (List Int)) × Int → Option Ans)) => match B with
  | b =>
   bif Decidable.decide (x2 < (↑x0.length : Int)) then
      bif Decidable.decide ((0 : Int) ≤ x2 ∧ x2 < (↑x0.length : Int)) then
      c (x0, Go.IntKind.i64.wrap (Go.IntKind.i64.wrap (x1 + (1 : Int)) + (↑(List.length (x0.getD x2.toNat [])) : Int)), Go.IntKind.i64.wrap (x2 + (1 : Int)))
      else none
     else
      b (x0, x1)) (fun v => R (T5_0 v)) (E5_0 K) := by
  kernel_rfl
theorem S5_0_ok (fuel : Nat) (R : Ev.St → Option Ans) (K : Ev.Ex → Ev.St → Option Ans) (x0 : (List (List Int))) (x1 : Int) (x2 : Int) : evalCode tab (G5 fuel) (J5_0 fuel) kp5 fuel (bodyOf 0 Try.f5) (T5_0 (x0, x1, x2)) (lc kp5 3 0 R K) = S_law11_ToneFrom_0 fuel (x0, x1, x2) (fun v => R (T5_0 v)) (E5_0 K) :=
  S5_0_okg fuel (F_tone_Planes fuel) (F_law11_Sane fuel) (F_ref01_SameBytes fuel) (F_tone_FromPlanes fuel) (F_ref01_SameInts fuel) (F_ref11_FromPlanes fuel) R K x0 x1 x2
def B5_0 (fuel : Nat) : Ev.Blk := fun st K => match canonO (kp5 3) st with
  | some s => (match s with
    | ⟨[(q0, .c (.sl (.sl (.int .u8)) x0)), (q1, .c (.int .i64 x1)), (q2, .c (.int .i64 x2))], [], q3, q4⟩ => bif Nat.beq q0 0 && Nat.beq q1 3 && Nat.beq q2 4 && Nat.beq q3 0 && Nat.beq q4 0 then iter (S_law11_ToneFrom_0 fuel) fuel (x0, x1, x2) (E5_0 K) else none
    | _ => none)
  | none => none
theorem B5_0_ok (fuel : Nat) (st : Ev.St) (K : Ev.Ex → Ev.St → Option Ans) (r : Ans) (h : B5_0 fuel st K = some r) : evalCode tab (G5 fuel) (J5_0 fuel) kp5 fuel (.block 0 (.loop (bodyOf 0 Try.f5))) st K = some r := by
  unfold B5_0 at h
  split at h
  · rename_i s hs
    split at h
    · obtain ⟨hb, h⟩ := cond_some' h
      simp only [Bool.and_eq_true, Nat.beq_eq, decide_eq_true_eq] at hb
      obtain ⟨⟨⟨⟨rfl, rfl⟩, rfl⟩, rfl⟩, rfl⟩ := hb
      exact blk_loop (S := T5_0) (ks := E5_0) (step := S_law11_ToneFrom_0 fuel) (v := (_, _, _)) (by kernel_rfl) (by kernel_rfl) (fun R K v => by obtain ⟨x0, x1, x2⟩ := v; exact S5_0_ok fuel R K x0 x1 x2) hs h
    · cases h
  · cases h
def S_law11_ToneFrom_2 (fuel : Nat) (v : (List (List Int)) × Int × (List (List Int))) (c : ((List (List Int)) × Int × (List (List Int))) → Option Ans) (B : (Bool → Option Ans) × (Unit → Option Ans)) : Option Ans := match v, B with
  | (x0, x1, x2), (ret, b) =>
   bif Decidable.decide (x1 < (↑x0.length : Int)) then
      bif Decidable.decide ((0 : Int) ≤ x1 ∧ x1 < (↑x2.length : Int)) then
      bif Decidable.decide ((0 : Int) ≤ x1 ∧ x1 < (↑x0.length : Int)) then
       (F_ref01_SameBytes fuel (x2.getD x1.toNat []) (x0.getD x1.toNat [])
          (fun y5 =>
            bif !y5 then
             ret Bool.false
            else
             c (x0, Go.IntKind.i64.wrap (x1 + (1 : Int)), x2)))
       else none
      else none
     else
      b ()
def L_law11_ToneFrom_2 (fuel : Nat) (v : (List (List Int)) × Int × (List (List Int))) (ret : (Bool → Option Ans)) (b : (Unit → Option Ans)) : Option Ans := iter (S_law11_ToneFrom_2 fuel) fuel v (ret, b)
def J5_2 (fuel : Nat) (i : Nat) : Option Ev.Blk := Ev.look i [(100000, B5_0 fuel)]
def T5_2 (v : (List (List Int)) × Int × (List (List Int))) : Ev.St := match v with | (x0, x1, x2) => ⟨[(0, .c (.sl (.sl (.int .u8)) x0)), (9, .c (.own 0)), (10, .c (.int .i64 x1))], [(0, .vec 28 (.sl (.int .u8)) x2 true)], 1, 0⟩
def E5_2 (K : Ev.Ex → Ev.St → Option Ans) : (Bool → Option Ans) × (Unit → Option Ans) := ((fun v => match v with | x0 => K .ret ⟨[(2, .c (.bool x0))], [], 0, 0⟩), (fun v => match v with | () => K .normal ⟨[], [], 0, 0⟩))
theorem S5_2_okg (fuel : Nat) (f16 : YF16) (f17 : YF17) (f19 : YF19) (f20 : YF20) (f21 : YF21) (f22 : YF22) (R : Ev.St → Option Ans) (K : Ev.Ex → Ev.St → Option Ans) (x0 : (List (List Int))) (x1 : Int) (x2 : (List (List Int))) : evalCode tab (Gg5 f16 f17 f19 f20 f21 f22) (J5_2 fuel) kp5 fuel (bodyOf 2 Try.f5) (T5_2 (x0, x1, x2)) (lc kp5 18 2 R K) = (fun (c : ((List (List Int)) × Int × (List (List Int))) → Option Ans) (B : (Bool → Option Ans) × (Unit → Option Ans)) => match B with
  | (ret, b) =>
   bif Decidable.decide (x1 < (↑x0.length : Int)) then
      bif Decidable.decide ((0 : Int) ≤ x1 ∧ x1 < (↑x2.length : Int)) then
      bif Decidable.decide ((0 : Int) ≤ x1 ∧ x1 < (↑x0.length : Int)) then
       (f19 (x2.getD x1.toNat []) (x0.getD x1.toNat [])
          (fun y5 =>
            bif !y5 then
             ret Bool.false
            else
             c (x0, Go.IntKind.i64.wrap (x1 + (1 : Int)), x2)))
       else none
      else none
     else
      b ()) (fun v => R (T5_2 v)) (E5_2 K) := by
  kernel_rfl
theorem S5_2_ok (fuel : Nat) (R : Ev.St → Option Ans) (K : Ev.Ex → Ev.St → Option Ans) (x0 : (List (List Int))) (x1 : Int) (x2 : (List (List Int))) : evalCode tab (G5 fuel) (J5_2 fuel) kp5 fuel (bodyOf 2 Try.f5) (T5_2 (x0, x1, x2)) (lc kp5 18 2 R K) = S_law11_ToneFrom_2 fuel (x0, x1, x2) (fun v => R (T5_2 v)) (E5_2 K) :=
  S5_2_okg fuel (F_tone_Planes fuel) (F_law11_Sane fuel) (F_ref01_SameBytes fuel) (F_tone_FromPlanes fuel) (F_ref01_SameInts fuel) (F_ref11_FromPlanes fuel) R K x0 x1 x2
def B5_2 (fuel : Nat) : Ev.Blk := fun st K => match canonO (kp5 18) st with
  | some s => (match s with
    | ⟨[(q0, .c (.sl (.sl (.int .u8)) x0)), (q1, .c (.own q2)), (q3, .c (.int .i64 x1))], [(q4, .vec q5 (.sl (.int .u8)) x2 true)], q6, q7⟩ => bif Nat.beq q0 0 && Nat.beq q1 9 && Nat.beq q2 0 && Nat.beq q3 10 && Nat.beq q4 0 && Nat.beq q5 28 && Nat.beq q6 1 && Nat.beq q7 0 then iter (S_law11_ToneFrom_2 fuel) fuel (x0, x1, x2) (E5_2 K) else none
    | _ => none)
  | none => none
theorem B5_2_ok (fuel : Nat) (st : Ev.St) (K : Ev.Ex → Ev.St → Option Ans) (r : Ans) (h : B5_2 fuel st K = some r) : evalCode tab (G5 fuel) (J5_2 fuel) kp5 fuel (.block 2 (.loop (bodyOf 2 Try.f5))) st K = some r := by
  unfold B5_2 at h
  split at h
  · rename_i s hs
    split at h
    · obtain ⟨hb, h⟩ := cond_some' h
      simp only [Bool.and_eq_true, Nat.beq_eq, decide_eq_true_eq] at hb
      obtain ⟨⟨⟨⟨⟨⟨⟨rfl, rfl⟩, rfl⟩, rfl⟩, rfl⟩, rfl⟩, rfl⟩, rfl⟩ := hb
      exact blk_loop (S := T5_2) (ks := E5_2) (step := S_law11_ToneFrom_2 fuel) (v := (_, _, _)) (by kernel_rfl) (by kernel_rfl) (fun R K v => by obtain ⟨x0, x1, x2⟩ := v; exact S5_2_ok fuel R K x0 x1 x2) hs h
    · cases h
  · cases h
def J5 (fuel : Nat) (i : Nat) : Option Ev.Blk := Ev.look i [(100000, B5_0 fuel), (100002, B5_2 fuel)]
def F_law11_ToneFrom (fuel : Nat) (x0 : (List (List Int))) (k0 : (Bool) → Option Ans) : Option Ans :=
  (L_law11_ToneFrom_0 fuel (x0, (0 : Int), (0 : Int))
    (fun (b0_0, b0_1) =>
      bif Decidable.decide (b0_1 > (4000 : Int)) then
       (F_law11_Sane fuel
         (fun y7 =>
           k0 y7))
      else
       (F_tone_FromPlanes fuel (b0_0)
         (fun (y7_0, y7_1) =>
           (F_ref11_FromPlanes fuel (b0_0)
             (fun (y11_0, y11_1) =>
               bif y7_0 != y11_0 then
                k0 Bool.false
               else
                (F_ref01_SameInts fuel (y7_1) (y11_1)
                  (fun y16 =>
                    bif !y16 then
                     k0 Bool.false
                    else
                     bif y7_0 != (0 : Int) then
                      (F_law11_Sane fuel
                        (fun y22 =>
                          k0 y22))
                     else
                      bif (↑b0_0.length : Int) == (0 : Int) then
                       (F_law11_Sane fuel
                         (fun y23 =>
                           k0 y23))
                      else
                       (F_tone_Planes fuel (y7_1) ((↑b0_0.length : Int))
                         (fun (y23_0, y23_1) =>
                           bif y23_0 != (0 : Int) then
                            k0 Bool.false
                           else
                            bif (↑y23_1.length : Int) != (↑b0_0.length : Int) then
                             k0 Bool.false
                            else
                             (L_law11_ToneFrom_2 fuel (b0_0, (0 : Int), y23_1)
                               (fun ret2_0 =>
                                 k0 ret2_0)
                               (fun () =>
                                 (F_law11_Sane fuel
                                   (fun y33 =>
                                     k0 y33))))))))))))))
abbrev YF5 : Type := ((List (List Int))) → ((Bool) → Option Ans) → Option Ans
theorem F5_eqg (fuel : Nat) (f16 : YF16) (f17 : YF17) (f19 : YF19) (f20 : YF20) (f21 : YF21) (f22 : YF22) (x0 : (List (List Int))) (k : Ev.Cont) : evalFn tab (Gg5 f16 f17 f19 f20 f21 f22) (J5 fuel) kp5 fuel Try.f5 [.c (.sl (.sl (.int .u8)) x0)] [] k = (fun  (k0 : (Bool) → Option Ans) =>
  (L_law11_ToneFrom_0 fuel (x0, (0 : Int), (0 : Int))
    (fun (b0_0, b0_1) =>
      bif Decidable.decide (b0_1 > (4000 : Int)) then
       (f17
         (fun y7 =>
           k0 y7))
      else
       (f20 (b0_0)
         (fun (y7_0, y7_1) =>
           (f22 (b0_0)
             (fun (y11_0, y11_1) =>
               bif y7_0 != y11_0 then
                k0 Bool.false
               else
                (f21 (y7_1) (y11_1)
                  (fun y16 =>
                    bif !y16 then
                     k0 Bool.false
                    else
                     bif y7_0 != (0 : Int) then
                      (f17
                        (fun y22 =>
                          k0 y22))
                     else
                      bif (↑b0_0.length : Int) == (0 : Int) then
                       (f17
                         (fun y23 =>
                           k0 y23))
                      else
                       (f16 (y7_1) ((↑b0_0.length : Int))
                         (fun (y23_0, y23_1) =>
                           bif y23_0 != (0 : Int) then
                            k0 Bool.false
                           else
                            bif (↑y23_1.length : Int) != (↑b0_0.length : Int) then
                             k0 Bool.false
                            else
                             (L_law11_ToneFrom_2 fuel (b0_0, (0 : Int), y23_1)
                               (fun ret2_0 =>
                                 k0 ret2_0)
                               (fun () =>
                                 (f17
                                   (fun y33 =>
                                     k0 y33))))))))))))))) (fun r => match r with | r0 => k (.c (.bool r0), [])) := by
  kernel_rfl
theorem F5_eq (fuel : Nat) (x0 : (List (List Int))) (k : Ev.Cont) : evalFn tab (G5 fuel) (J5 fuel) kp5 fuel Try.f5 [.c (.sl (.sl (.int .u8)) x0)] [] k = F_law11_ToneFrom fuel x0 (fun r => match r with | r0 => k (.c (.bool r0), [])) :=
  F5_eqg fuel (F_tone_Planes fuel) (F_law11_Sane fuel) (F_ref01_SameBytes fuel) (F_tone_FromPlanes fuel) (F_ref01_SameInts fuel) (F_ref11_FromPlanes fuel) x0 k
theorem hG5 (fuel : Nat) : GOK Try.prog (G5 fuel) :=
  gok_cons ⟨ok16 fuel, enters_of Try.func16 (by kernel_rfl) rfl⟩ <|
  gok_cons ⟨ok17 fuel, enters_of Try.func17 (by kernel_rfl) rfl⟩ <|
  gok_cons ⟨ok19 fuel, enters_of Try.func19 (by kernel_rfl) rfl⟩ <|
  gok_cons ⟨ok20 fuel, enters_of Try.func20 (by kernel_rfl) rfl⟩ <|
  gok_cons ⟨ok21 fuel, enters_of Try.func21 (by kernel_rfl) rfl⟩ <|
  gok_cons ⟨ok22 fuel, enters_of Try.func22 (by kernel_rfl) rfl⟩ <|
  gok_nil
theorem B5_0_blk (fuel : Nat) : BlkOK Try.prog Try.f5.ntmps (.block 0 (.loop (bodyOf 0 Try.f5))) (B5_0 fuel) :=
  blk_of (blk_of_code tab_ok (hG5 fuel) mixed (J := J5_0 fuel) (kp := kp5) (fuel := fuel) (by kernel_rfl) (fun q hq => by
    rw [(by kernel_rfl : obl (J5_0 fuel) (.block 0 (.loop (bodyOf 0 Try.f5))) = [])] at hq
    cases hq)) (B5_0_ok fuel)
theorem B5_2_blk (fuel : Nat) : BlkOK Try.prog Try.f5.ntmps (.block 2 (.loop (bodyOf 2 Try.f5))) (B5_2 fuel) :=
  blk_of (blk_of_code tab_ok (hG5 fuel) mixed (J := J5_2 fuel) (kp := kp5) (fuel := fuel) (by kernel_rfl) (fun q hq => by
    rw [(by kernel_rfl : obl (J5_2 fuel) (.block 2 (.loop (bodyOf 2 Try.f5))) = [])] at hq
    cases hq)) (B5_2_ok fuel)
theorem fok5 (fuel : Nat) : FnOK Try.prog 5 (evalFn tab (G5 fuel) (J5 fuel) kp5 fuel Try.f5) :=
  fn_ok tab_ok (hG5 fuel) mixed Try.func5 (c := (Try.f5.body).getD .skip) rfl (fun q hq => by
    rw [(by kernel_rfl : obl (J5 fuel) ((Try.f5.body).getD .skip) = [(.block 0 (.loop (bodyOf 0 Try.f5)), B5_0 fuel), (.block 2 (.loop (bodyOf 2 Try.f5)), B5_2 fuel)])] at hq
    simp only [List.mem_cons, List.not_mem_nil, or_false] at hq
    rcases hq with rfl | rfl
    · exact B5_0_blk fuel
    · exact B5_2_blk fuel)
def mt5 : List Ev.SV → List Ev.Ob → Bool := fun args objs => match args, objs with
  | [.c (.sl (.sl (.int .u8)) _)], [] => true
  | _, _ => false
def spg5 (F : YF5) : Ev.Spec := fun args objs k => match args, objs with
  | [.c (.sl (.sl (.int .u8)) x0)], [] => bif true then F x0 (fun r => match r with | r0 => k (.c (.bool r0), [])) else none
  | _, _ => none
def spec5 (fuel : Nat) : Ev.Spec := spg5 (F_law11_ToneFrom fuel)
theorem ok5 (fuel : Nat) : FnOK Try.prog 5 (spec5 fuel) := by
  intro args objs kk r h
  unfold spec5 spg5 at h
  split at h
  · obtain ⟨hb, h⟩ := cond_some' h
    simp only [Bool.and_eq_true, Nat.beq_eq, decide_eq_true_eq] at hb
    clear hb
    exact fok5 fuel _ _ kk r ((F5_eq fuel _ kk).trans h)
  · cases h
end Go.Proofs.Ytajidgilfkineaa
